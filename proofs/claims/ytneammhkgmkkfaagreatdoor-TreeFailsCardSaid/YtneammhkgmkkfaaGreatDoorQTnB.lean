/- A part of the proof. -/
import Derived.Test.YtneammhkgmkkfaaGreatDoorQTnA
namespace Go.Proofs.YtneammhkgmkkfaaGreatDoor.tr
open Go.RowKit Go.Proofs.YtneammhkgmkkfaaGreatDoor.er
set_option linter.unusedVariables false
set_option linter.unusedSimpArgs false
def wrOp : ByteArray := ⟨#[119,114,105,116,101]⟩
set_option maxHeartbeats 4000000 in
theorem wrapI_any (pg : Int) (t : TypeId) (x : Value) (w : World) : Calls Tryz.prog 22 #[.string wrOp,.int .i64 pg,.iface t x] w fun y w' => y = .returned (.iface 88 (.pointer (some ⟨w.heap.size,0,none⟩))) ∧ w' = w.alloc (.cells #[.string wrOp,.int .i64 pg,.iface t x] 91) := by
  unfold wrOp
  go_enter Tryz.func22,Tryz.ntmps22
  go_wp2_with fail
  go_ret
  exact ⟨rfl,rfl⟩
section
variable {σ : Type} {g : Nat} {la lb : Array Value} {step : σ → Pg → Int → σ → Prop} {bad : σ → σ → Value → World → Prop} {at_ : σ → (Nat → Prop) → World → Prop}
def WriteG (step : σ → Pg → Int → σ → Prop) (bad : σ → σ → Value → World → Prop) (at_ : σ → (Nat → Prop) → World → Prop) (w : World) (F : List Nat) (p : Nat) {h : Nat} (n : Nd h) (G : Nat → Prop) (s0 : σ) (x : Ending) (w' : World) : Prop :=
  (∃ (n' : Nd h) (s : σ) (G' : Nat → Prop),x = .returned (.tuple #[.int .i64 n'.at_,.nilIface]) ∧ WrS step n s0 (ats n).length n' s ∧ TrAt w' F p (.top h n') ∧ at_ s G' w' ∧ (∀ k,G' k → G k ∨ w.heap.size ≤ k) ∧ Keep (fun k => k ∈ F ∨ G k) w w') ∨
  (∃ (n' : Nd h) (j : Nat) (s s' : σ) (G' : Nat → Prop) (b : Nat) (fk : Int) (et : TypeId) (ex : Value) (w9 : World),x = .returned (.tuple #[.int .i64 (-1),.iface 88 (.pointer (some ⟨b,0,none⟩))]) ∧ Whole w' b 91 #[.string wrOp,.int .i64 fk,.iface et ex] ∧ bad s s' (.iface et ex) w9 ∧ Below w9.heap.size w9 w' ∧ WrS step n s0 j n' s ∧ (ats n)[j]? = some (-1) ∧ TrAt w' F p (.top h n') ∧ at_ s' G' w' ∧ (∀ k,G' k → G k ∨ w.heap.size ≤ k) ∧ Keep (fun k => k ∈ F ∨ G k) w w')
set_option maxHeartbeats 8000000 in
set_option maxRecDepth 100000 in
theorem write_gen (w : World) (F : List Nat) (p h : Nat) (n : Nd h) (G : Nat → Prop) (s0 : σ) (hk : Snk g la lb step bad at_ (nfs n) (frN n) s0) (ht : TrAt w F p (.top h n)) (hok : (Tree.top h n).Ok) (hc : Chk (flat n)) (hb : at_ s0 G w) (hd : ∀ k ∈ F,¬ G k) (hnd : (nfs n).Nodup) (hr : ∀ a ∈ nfs n,0 ≤ a ∧ a < 2048) (hN : cntN n ≤ 16777216) :
    Calls Tryz.prog 16 #[.pointer (some ⟨p,0,none⟩),.func (.func g) la lb] w (WriteG step bad at_ w F p n G s0) := by
  have HSK := Lib.hid hk
  have eg := hk.eg
  have HWI := Lib.hid (fun pg t x wq => wrapI_any pg t x wq)
  unfold wrOp at HWI
  have hlt := ht.lt
  have hG := fun k (h : G k) => hk.lt hb k h
  obtain ⟨p1,p2,p3,p4⟩ := hok.parts
  have HNN : Hid (Calls Tryz.prog 27 #[.pointer (some ⟨p,0,none⟩)] w fun x w1 => ∃ g c F' v Lst,x = .returned (.slice (some ⟨g,0,none⟩) Lst.length c) ∧ Lst.length = cntN n ∧ F = p :: F' ∧ p ∉ F' ∧ Whole w1 p 69 #[v] ∧ v = ptrV h (Lst.getLast?.getD (0,0)).2 ∧ (∀ i x,Lst[i]? = some x → w1.cell? ⟨g,i,none⟩ = some (ptrV x.1 x.2)) ∧ w.heap.size ≤ g ∧ Below w.heap.size w w1 ∧ WrK w1 F' n G ∧ WrV step at_ w1 F' v n Lst G s0 0 w1) := by
    refine (nodesO_any w F p (.top h n) ht hok hN).mono ?_
    rintro x w1 ⟨v',Lst,rfl,h1,⟨F',v,rfl,h2,h3,h4,h5⟩,h6⟩
    obtain ⟨A,c,rfl⟩ := own_slice h1
    have hll := h3.len
    have hpos : 0 < Lst.length := by
      rw [hll]
      have := ats_len n
      obtain ⟨A,e⟩ := at_last n
      rw [e] at this
      simp at this
      omega
    obtain ⟨g,rfl,g1,g2,_,hcell,_⟩ := own_cell h1 hpos
    have hkF : Keep (fun _ => False) w w1 := Keep.below h6
    have o1 := h3.keep hkF (fun _ _ h => h)
    have hlast : v = ptrV h (Lst.getLast?.getD (0,0)).2 := by
      cases h with
      | zero => obtain ⟨b,g,c,_,e1,_,e2⟩ := h3; rw [e1,e2]; rfl
      | succ h => obtain ⟨b,g,c,es,_,e1,_,_,_,_,e2⟩ := h3; rw [e1,e2]; simp
    refine ⟨g,c,F',v,Lst,rfl,hll,rfl,h5,h2.keep hkF (fun h => h),hlast,fun i x hx => hcell i _ (by rw [List.getElem?_map,hx]; rfl),g1,h6,?_,?_⟩
    · exact ⟨h4,fun k hk => Nat.lt_of_lt_of_le (hlt k (by simp [hk])) h6.size,fun k hk => hd k (by simp [hk]),p1,p2,p3,p4,hc,hr⟩
    · exact ⟨n,s0,G,WrS.start hnd,o1,hk.keep hb hkF (fun _ _ h => h),fun k hk => .inl hk,Keep.refl _ _⟩
  have HAL := Lib.hid (ats_len n)
  have HLT := Lib.hid hlt
  have HG := Lib.hid hG
  have HD := Lib.hid hd
  clear ht hok hc hb hnd hr hlt p1 p2 p3 p4 hG hd hk
  go_enter Tryz.func16,Tryz.ntmps16
  go_wp2_with fail
  with_reducible refine HNN.out.mono ?_
  rintro e w1 ⟨g,c,F',v,Lst,rfl,hll,rfl,hpF,hpw,hv,hcell,hg,hb1,hwc,hww⟩
  have HPF := Lib.hid hpF
  have HPW := Lib.hid hpw
  have HV := Lib.hid hv
  have HCE := Lib.hid hcell
  have HGG := Lib.hid hg
  have HB1 := Lib.hid hb1
  have HWC := Lib.hid hwc
  have HW0 := Lib.hid hww
  obtain ⟨m,hm⟩ : ∃ m,Lst.length = m := ⟨_,rfl⟩
  have HM := Lib.hid hm
  have HMC : Hid (m = cntN n) := by show _ = _; rw [← hm]; exact hll
  have hmi : (m : Int) ≤ 16777216 := by omega
  rw [hm]
  clear hpF hpw hv hcell hg hb1 hwc hww hm hll hN HNN
  -- the row of nodes,behind what has turned
  have HRC : Hid (∀ j wr x,WrV step at_ w1 F' v n Lst G s0 j wr → Lst[j]? = some x → wr.cell? ⟨g,j,none⟩ = some (.iface (ndT x.1) (.pointer (some ⟨x.2,0,none⟩)))) := by
    intro j wr x hw hx
    obtain ⟨_,_,_,_,_,_,_,h5⟩ := hw
    refine h5.cell (HCE.out j x hx) (fun hk => ?_)
    have hgg := HGG.out
    rcases hk with hk | hk
    · have := HLT.out g (List.mem_cons_of_mem _ hk); omega
    · have := HG.out g hk; omega
  have HTW : Hid (∀ wr,WrV step at_ w1 F' v n Lst G s0 m wr → ∃ tb a,wr.cell? ⟨p,0,none⟩ = some (.iface (ndT h) (.pointer (some ⟨tb,0,none⟩))) ∧ wr.cell? ⟨tb,0,none⟩ = some (.int .i64 a) ∧ WriteG step bad at_ w (p :: F') p n G s0 (.returned (.tuple #[.int .i64 a,.nilIface])) wr) := by
    intro wr hw
    obtain ⟨n',s,G',h1,h2,h3,h4,h5⟩ := hw
    have hpw := HPW.out.keep h5 (fun hk => by
      rcases hk with hk | hk
      · exact HPF.out hk
      · exact HD.out p (by simp) hk)
    have hve := HV.out
    have hn2 : NdAt wr F' (ptrV h (Lst.getLast?.getD (0,0)).2) n' := by rw [← hve]; exact h2.at_
    refine ⟨_,n'.at_,?_,(at_cell hn2).1,.inl ⟨n',s,G',rfl,?_,⟨F',v,rfl,hpw,⟨h2.at_,HWC.out.nd⟩,HPF.out⟩,h3,fun k hk => ?_,?_⟩⟩
    · have := hpw.cell 0
      rw [hve] at this
      exact this
    · rw [HAL.out,← HMC.out]; exact h1
    · rcases h4 k hk with hk | hk
      · exact .inl hk
      · exact .inr (Nat.le_trans HB1.out.size hk)
    · refine (Keep.below (F := fun k => k ∈ p :: F' ∨ G k) HB1.out).trans h5 (fun k hk => .inl ?_)
      rcases hk with hk | hk
      · exact .inl (List.mem_cons_of_mem _ hk)
      · exact .inr hk
  have HFA : Hid (∀ j w9 et ex fk,WrFail step bad at_ w1 F' v n Lst G s0 j (.iface et ex) w9 → WriteG step bad at_ w (p :: F') p n G s0 (.returned (.tuple #[.int .i64 (-1),.iface 88 (.pointer (some ⟨w9.heap.size,0,none⟩))])) (w9.alloc (.cells #[.string wrOp,.int .i64 fk,.iface et ex] 91))) := by
    rintro j w9 et ex fk ⟨n',s,s',G',h1,h1b,hbad,h2,h3,h4,h5⟩
    have hal : Below w9.heap.size w9 (w9.alloc (.cells #[.string wrOp,.int .i64 fk,.iface et ex] 91)) := (Below.refl _ _).alloc (Nat.le_refl _) _
    have hpw := HPW.out.keep h5 (fun hk => by
      rcases hk with hk | hk
      · exact HPF.out hk
      · exact HD.out p (by simp) hk)
    have h2' := h2.keep (Keep.below (F := fun _ => False) hal) (fun _ _ h => h)
    refine .inr ⟨n',j,s,s',G',w9.heap.size,fk,et,ex,w9,rfl,Whole.new _ _ _,hbad,hal,h1,h1b,⟨F',v,rfl,hpw.keep (Keep.below (F := fun _ => False) hal) (fun h => h),⟨h2'.at_,HWC.out.nd⟩,HPF.out⟩,HSK.out.keep h3 (Keep.below (F := fun _ => False) hal) (fun _ _ h => h),fun k hk => ?_,?_⟩
    · rcases h4 k hk with hk | hk
      · exact .inl hk
      · exact .inr (Nat.le_trans HB1.out.size hk)
    · refine ((Keep.below (F := fun k => k ∈ p :: F' ∨ G k) HB1.out).trans h5 (fun k hk => .inl ?_)).transBelow hal
      rcases hk with hk | hk
      · exact .inl (List.mem_cons_of_mem _ hk)
      · exact .inr hk
  have hmw := fun b h w => meWh (.pointer (some ⟨b,0,none⟩)) w h
  have hew := fun b h w => enWh #[.pointer (some ⟨b,0,none⟩)] w h
  have hmf := fun b h w => meFi (.pointer (some ⟨b,0,none⟩)) w h
  have hef := fun b h w => enFi #[.pointer (some ⟨b,0,none⟩)] w h
  have HWH := Lib.hid (fun wq b h => where_any wq b h)
  go_wp2_with fail
  go_loopw [7,8,9,10,11,15] (fun s7 s8 s9 s10 s11 s15 wr => ∃ j : Nat,j ≤ m ∧ s15 = .int .i64 j ∧ Hid (WrV step at_ w1 F' v n Lst G s0 j wr)) (fun _ _ _ _ _ s15 _ => m - (intOf s15).toNat)
  case atStart => exact ⟨0,Nat.zero_le _,rfl,HW0⟩
  case round =>
    obtain ⟨j,hj,rfl,HW⟩ := hrel
    by_cases hlt : j < m
    · have hji : (j : Int) < (m : Int) := by omega
      obtain ⟨x,hx⟩ : ∃ x,Lst[j]? = some x := ⟨_,List.getElem?_eq_getElem (by rw [HM.out]; exact hlt)⟩
      have d0 := HRC.out j wr x HW.out hx
      obtain ⟨a,⟨d1,d2⟩,hold,hnew⟩ := wrs_round HSK.out HWC.out HW.out hx
      obtain ⟨xh,xb⟩ := x
      simp only at d0 d1 d2
      by_cases ha : a = -1
      · obtain ⟨pk,fk,ps,hbody,hfirst,hput⟩ := hnew ha
        subst ha
        have HBO : Hid (Calls Tryz.prog 36 #[.iface (ndT xh) (.pointer (some ⟨xb,0,none⟩))] wr fun x w' => x = .returned (.tuple #[.int .i64 pk,.string ps]) ∧ Below wr.heap.size wr w') := hbody wr (Below.refl _ _)
        have HFI := Lib.hid hfirst
        have HPU := Lib.hid hput
        clear hnew hold hbody hfirst hput hx
        go_wp2_with fail
        refine (HWH.out _ xb xh).mono ?_
        rintro e w5 ⟨rfl,rfl⟩
        go_wp2_with fail
        with_reducible refine HBO.out.mono ?_
        rintro e w5 ⟨rfl,hb5⟩
        have HB5 := Lib.hid hb5
        clear hb5
        go_wp2_with fail
        refine (HFI.out _ HB5.out).mono ?_
        rintro e w6 ⟨rfl,rfl⟩
        go_wp2_with fail
        refine (HPU.out _ HB5.out).mono ?_
        rintro e w9 (⟨a,rfl,⟨z1,z2⟩,hw9⟩ | ⟨y,et,ex,rfl,hfl,hfi⟩)
        · have HW9 := Lib.hid hw9
          clear hw9
          go_wp2_with fail
          refine (HWH.out _ xb xh).mono ?_
          rintro e w5 ⟨rfl,rfl⟩
          go_wp2_with fail
          go_roundw
          case rel => exact ⟨j + 1,by omega,by go_num,HW9⟩
          case measure => simp [intOf]; omega
        · have HF9 := Lib.hid (HFA.out j w9 et ex fk hfl)
          have HFI9 := Lib.hid hfi
          clear hfl hfi
          go_wp2_with fail
          refine HFI9.out.mono ?_
          rintro e w6 ⟨rfl,rfl⟩
          go_wp2_with fail
          with_reducible refine (HWI.out _ _ _ _).mono ?_
          rintro e w10 ⟨rfl,rfl⟩
          go_wp2_with fail
          refine bodyPost_ret (v := .tuple #[.int .i64 (-1),.iface 88 (.pointer (some ⟨w9.heap.size,0,none⟩))]) (by simp [results,Tryz.results16,go_sem]) rfl HF9.out
      · have HW2 := Lib.hid (hold ha)
        have han : (a == -1) = false := by simpa using ha
        clear hold hnew hx
        go_wp2_with fail
        refine (HWH.out _ xb xh).mono ?_
        rintro e w5 ⟨rfl,rfl⟩
        go_wp2_with fail
        go_roundw
        case rel => exact ⟨j + 1,by omega,by go_num,HW2⟩
        case measure => simp [intOf]; omega
    · obtain rfl : j = m := by omega
      obtain ⟨tb,a,d0,d1,hfin⟩ := HTW.out wr HW.out
      have HFIN := Lib.hid hfin
      clear hfin
      go_wp2_with fail
      refine (HWH.out _ tb h).mono ?_
      rintro e w5 ⟨rfl,rfl⟩
      go_wp2_with fail
      refine bodyPost_ret (v := .tuple #[.int .i64 a,.nilIface]) (by simp [results,Tryz.results16,go_sem]) rfl HFIN.out
end
end Go.Proofs.YtneammhkgmkkfaaGreatDoor.tr
