/- A part of the proof. -/
import Derived.Test.YtneammhkgmkkfaaGreatDoorQTzA
import Derived.Test.YtneammhkgmkkfaaGreatDoorQTzF
namespace Go.Proofs.YtneammhkgmkkfaaGreatDoor.tr
open Go.RowKit Go.Proofs.YtneammhkgmkkfaaGreatDoor.er
set_option linter.unusedVariables false
set_option linter.unusedSimpArgs false
structure ListBy (w : World) (F : List Nat) (v : Value) (l : List Ext) : Prop where
  own : ∃ B,w.ownsRow B 59 4 v l.length (extCells l)
  out : ∀ g,v.ownBlock = some g → g ∉ F ∧ g < w.heap.size
theorem ListBy.exts {w : World} {F : List Nat} {v : Value} {l : List Ext} (h : ListBy w F v l) : ExtsAt w v l := by
  obtain ⟨B,h1⟩ := h.own
  exact (ExtsAt.own h1).1
theorem ListBy.keep {w w' : World} {F : List Nat} {v : Value} {l : List Ext} (h : ListBy w F v l) (hk : Keep (fun k => k ∈ F) w w') : ExtsAt w' v l := by
  obtain ⟨B,h1⟩ := h.own
  exact (ExtsAt.own (own_keep h1 hk (fun g hg => (h.out g hg).1))).1
def ChgSt (w : World) (F : List Nat) (p : Nat) (T : Tree) (wr : World) : Prop := ∃ F',TrAt wr F' p T ∧ Mv (fun k => k ∈ F) w (fun k => k ∈ F') wr
theorem ChgSt.below {w : World} {F : List Nat} {p : Nat} {T : Tree} {wr w' : World} (h : ChgSt w F p T wr) (hb : Below wr.heap.size wr w') : ChgSt w F p T w' := by
  obtain ⟨F',h1,h2⟩ := h
  exact ⟨F',h1.keep (Keep.below (F := fun _ => False) hb) (fun _ _ h => h),h2.keep.transBelow hb,h2.sub⟩
theorem ChgSt.step {w : World} {F : List Nat} {p : Nat} {T' : Tree} {wr w' : World} {F' : List Nat} (h2 : Mv (fun k => k ∈ F) w (fun k => k ∈ F') wr) (hp : TrPost wr F' p T' w') : ChgSt w F p T' w' := by
  obtain ⟨G,g1,g2⟩ := hp
  exact ⟨G,g1,h2.trans g2⟩
set_option maxHeartbeats 8000000 in
set_option maxRecDepth 100000 in
theorem change_any (w : World) (F : List Nat) (p : Nat) (T : Tree) (vw vi : Value) (L W R V : List Ext) (ht : TrAt w F p T) (hok : T.Ok) (hf : T.flat = L ++ W ++ R) (h1 : Inc (L ++ W ++ R)) (h2 : Inc (L ++ V ++ R)) (ho : ∀ x ∈ T.flat,oneB x = true) (hv : ∀ x ∈ V,oneB x = true)
    (hw : ListBy w F vw W) (hi : ListBy w F vi V) (hlw : W.length ≤ 100000000) (hlv : V.length ≤ 100000000) :
    Calls Tryz.prog 41 #[.pointer (some ⟨p,0,none⟩),vw,vi] w fun x w' => x = .returned (.tuple #[]) ∧ ChgSt w F p (T.change W V) w' := by
  have HTK := Lib.hid (fun j => chg_takes (V := V) hok hf h1 j)
  have HPT := Lib.hid (fun j => chg_puts hok hf h1 h2 ho hv j)
  have HVO := Lib.hid hv
  have HWK : Hid (∀ wr,Keep (fun k => k ∈ F) w wr → ExtsAt wr vw W) := fun wr hk => hw.keep hk
  have HVK : Hid (∀ wr,Keep (fun k => k ∈ F) w wr → ExtsAt wr vi V) := fun wr hk => hi.keep hk
  have HCW : Hid (∀ (y : Ext) (wr : World),Keep (fun k => k ∈ F) w wr → Calls Tryz.prog 70 #[vw,y.val] wr fun x w' => x = .returned (.bool (decide (y ∈ W))) ∧ Below wr.heap.size wr w') := fun y wr hk => conE_any y W vw wr (hw.keep hk) hlw
  have HCV : Hid (∀ (y : Ext) (wr : World),Keep (fun k => k ∈ F) w wr → Calls Tryz.prog 70 #[vi,y.val] wr fun x w' => x = .returned (.bool (decide (y ∈ V))) ∧ Below wr.heap.size wr w') := fun y wr hk => conE_any y V vi wr (hi.keep hk) hlv
  obtain ⟨Aw,cw,ew,hcw⟩ := hw.exts
  obtain ⟨Ai,ci,ei,hci⟩ := hi.exts
  obtain ⟨n,hn⟩ : ∃ n,W.length = n := ⟨_,rfl⟩
  obtain ⟨m,hm⟩ : ∃ m,V.length = m := ⟨_,rfl⟩
  rw [hn] at ew hlw
  rw [hm] at ei hlv
  subst ew ei
  have HN := Lib.hid hn
  have HM := Lib.hid hm
  have HS0 : Hid (ChgSt w F p T w) := ⟨F,ht,Mv.refl _ _⟩
  have HCH : Hid (T.change W V = (T.takes (W.filter fun e => decide (e ∉ V))).puts (V.filter fun e => decide (e ∉ W))) := rfl
  have HDW : Hid (∀ wr,Keep (fun k => k ∈ F) w wr → 0 < n → ∃ g o,Aw = some ⟨g,o,none⟩ ∧ ∀ (j : Nat) (e : Ext),W[j]? = some e → ExtAt wr g (o + j * 4) e) := by
    intro wr hk h0
    obtain ⟨A,c,e1,e2⟩ := hw.keep hk
    obtain ⟨g,o,e3,e4⟩ := e2 (by omega)
    injection e1 with e5
    exact ⟨g,o,e5.trans e3,e4⟩
  have HDV : Hid (∀ wr,Keep (fun k => k ∈ F) w wr → 0 < m → ∃ g o,Ai = some ⟨g,o,none⟩ ∧ ∀ (j : Nat) (e : Ext),V[j]? = some e → ExtAt wr g (o + j * 4) e) := by
    intro wr hk h0
    obtain ⟨A,c,e1,e2⟩ := hi.keep hk
    obtain ⟨g,o,e3,e4⟩ := e2 (by omega)
    injection e1 with e5
    exact ⟨g,o,e5.trans e3,e4⟩
  clear hcw hci hn hm hw hi ht hok hf h1 h2 ho hv
  go_enter Tryz.func41,Tryz.ntmps41
  go_wp2_with fail
  go_loopw [7,12] (fun s7 i wr => ∃ (j : Nat),j ≤ n ∧ i = .int .i64 j ∧ Hid (ChgSt w F p (T.takes ((W.take j).filter fun e => decide (e ∉ V))) wr)) (fun _ i _ => n - (intOf i).toNat)
  case atStart => exact ⟨0,Nat.zero_le _,rfl,by show ChgSt _ _ _ _ _; simpa [Tree.takes] using HS0.out⟩
  case round =>
    obtain ⟨j,hj,rfl,HS⟩ := hrel
    by_cases hlt : j < n
    · have hji : (j : Int) < (n : Int) := by omega
      have hkw : Keep (fun k => k ∈ F) w wr := by obtain ⟨F',_,hmv⟩ := HS.out; exact hmv.keep
      obtain ⟨g,o,rfl,hcc⟩ := HDW.out wr hkw (by omega)
      obtain ⟨e,hx⟩ : ∃ e,W[j]? = some e := ⟨W[j]'(by have := HN.out; omega),List.getElem?_eq_getElem (by have := HN.out; omega)⟩
      obtain ⟨c0,c1,c2,c3⟩ := hcc j e hx
      have HFT := Lib.hid (filt_take (p := fun e => decide (e ∉ V)) hx)
      have HTJ := Lib.hid (HTK.out j)
      have HX := Lib.hid hx
      have HA0 := Lib.hid (HS.out.below ((Below.refl _ _).alloc (Nat.le_refl _) (.cells #[.int .i64 e.fr,.int .i64 e.n,.int .i64 e.kind,.int .i64 e.at_] 59)))
      have hkA : Keep (fun k => k ∈ F) w (wr.alloc (.cells #[.int .i64 e.fr,.int .i64 e.n,.int .i64 e.kind,.int .i64 e.at_] 59)) := hkw.alloc _
      have HCL := Lib.hid (HCV.out e _ hkA)
      have HWE := Lib.hid (Whole.new wr 59 #[.int .i64 e.fr,.int .i64 e.n,.int .i64 e.kind,.int .i64 e.at_])
      clear hcc hx hkw hkA
      by_cases hev : e ∈ V
      · have HNX : Hid (∀ w',ChgSt w F p (T.takes ((W.take j).filter fun e => decide (e ∉ V))) w' → ChgSt w F p (T.takes ((W.take (j + 1)).filter fun e => decide (e ∉ V))) w') := fun w' h => by rw [HFT.out,if_neg (by simp [hev]),List.append_nil]; exact h
        have hdd : decide (e ∈ V) = true := by simpa using hev
        rw [hdd] at HCL
        obtain ⟨f,en,k,t⟩ := e
        simp only at c0 c1 c2 c3
        simp only [Ext.val] at HCL
        clear hev hdd
        go_wp2_with fail
        with_reducible refine HCL.out.mono ?_
        rintro e w5 ⟨rfl,hb5⟩
        have HS5 := Lib.hid (HNX.out _ (HA0.out.below hb5))
        clear hb5
        go_wp2_with fail
        go_roundw
        case rel => exact ⟨j + 1,by omega,by go_num,HS5⟩
        case measure => simp [intOf]; omega
      · have HNX : Hid (T.takes ((W.take (j + 1)).filter fun e => decide (e ∉ V)) = (T.takes ((W.take j).filter fun e => decide (e ∉ V))).take e.fr) := by show _ = _; rw [HFT.out,if_pos (by simpa using hev),takes_snoc]
        have hdd : decide (e ∈ V) = false := by simpa using hev
        have HTKC : Hid (∀ wq,ChgSt w F p (T.takes ((W.take j).filter fun e => decide (e ∉ V))) wq → Calls Tryz.prog 71 #[.pointer (some ⟨p,0,none⟩),.int .i64 e.fr] wq fun x w' => x = .returned (.tuple #[]) ∧ ChgSt w F p (T.takes ((W.take (j + 1)).filter fun e => decide (e ∉ V))) w') := by
          rintro wq ⟨G,g1,g2⟩
          refine (take_any wq G p _ e.fr g1 HTJ.out.1 (HTJ.out.2.2 e HX.out hev) HTJ.out.2.1).mono ?_
          rintro x w' ⟨rfl,hp⟩
          rw [HNX.out]
          exact ⟨rfl,ChgSt.step g2 hp⟩
        rw [hdd] at HCL
        obtain ⟨f,en,k,t⟩ := e
        simp only at c0 c1 c2 c3 HTKC
        simp only [Ext.val] at HCL
        clear hev hdd
        go_wp2_with fail
        with_reducible refine HCL.out.mono ?_
        rintro e w5 ⟨rfl,hb5⟩
        have HS5 := Lib.hid (HA0.out.below hb5)
        obtain ⟨⟨q0,q1,q2,q3⟩,_⟩ := tmp4 (HWE.out.below hb5 (by simp))
        clear hb5
        go_wp2_with fail
        with_reducible refine (HTKC.out _ HS5.out).mono ?_
        rintro e w6 ⟨rfl,hs6⟩
        have HS6 := Lib.hid hs6
        clear hs6
        go_wp2_with fail
        go_roundw
        case rel => exact ⟨j + 1,by omega,by go_num,HS6⟩
        case measure => simp [intOf]; omega
    · obtain rfl : j = n := by omega
      have hfull : W.take j = W := by rw [← HN.out]; exact List.take_length
      rw [hfull] at HS
      clear hfull
      obtain ⟨wo,hwo⟩ : ∃ wo,wo = wr := ⟨_,rfl⟩
      subst hwo
      go_wp2_with fail
      go_loopw [9,27] (fun s9 i wr => ∃ (j : Nat),j ≤ m ∧ i = .int .i64 j ∧ Hid (ChgSt w F p ((T.takes (W.filter fun e => decide (e ∉ V))).puts ((V.take j).filter fun e => decide (e ∉ W))) wr)) (fun _ i _ => m - (intOf i).toNat)
      case atStart => exact ⟨0,Nat.zero_le _,rfl,by show ChgSt _ _ _ _ _; simpa [Tree.puts] using HS.out⟩
      case round =>
        obtain ⟨i,hi,rfl,HS2⟩ := hrel
        by_cases hlt2 : i < m
        · have hji : (i : Int) < (m : Int) := by omega
          have hkw : Keep (fun k => k ∈ F) w wr := by obtain ⟨F',_,hmv⟩ := HS2.out; exact hmv.keep
          obtain ⟨g,o,rfl,hcc⟩ := HDV.out wr hkw (by omega)
          obtain ⟨e,hx⟩ : ∃ e,V[i]? = some e := ⟨V[i]'(by have := HM.out; omega),List.getElem?_eq_getElem (by have := HM.out; omega)⟩
          obtain ⟨c0,c1,c2,c3⟩ := hcc i e hx
          have HFT := Lib.hid (filt_take (p := fun e => decide (e ∉ W)) hx)
          have HTJ := Lib.hid (HPT.out i)
          have HOE := Lib.hid (HVO.out e (List.mem_of_getElem? hx))
          have HA0 := Lib.hid (HS2.out.below ((Below.refl _ _).alloc (Nat.le_refl _) (.cells #[.int .i64 e.fr,.int .i64 e.n,.int .i64 e.kind,.int .i64 e.at_] 59)))
          have hkA : Keep (fun k => k ∈ F) w (wr.alloc (.cells #[.int .i64 e.fr,.int .i64 e.n,.int .i64 e.kind,.int .i64 e.at_] 59)) := hkw.alloc _
          have HCL := Lib.hid (HCW.out e _ hkA)
          have HWE := Lib.hid (Whole.new wr 59 #[.int .i64 e.fr,.int .i64 e.n,.int .i64 e.kind,.int .i64 e.at_])
          clear hcc hx hkw hkA
          by_cases hev : e ∈ W
          · have HNX : Hid (∀ w',ChgSt w F p ((T.takes (W.filter fun e => decide (e ∉ V))).puts ((V.take i).filter fun e => decide (e ∉ W))) w' → ChgSt w F p ((T.takes (W.filter fun e => decide (e ∉ V))).puts ((V.take (i + 1)).filter fun e => decide (e ∉ W))) w') := fun w' h => by rw [HFT.out,if_neg (by simp [hev]),List.append_nil]; exact h
            have hdd : decide (e ∈ W) = true := by simpa using hev
            rw [hdd] at HCL
            obtain ⟨f,en,k,t⟩ := e
            simp only at c0 c1 c2 c3
            simp only [Ext.val] at HCL
            clear hev hdd
            go_wp2_with fail
            with_reducible refine HCL.out.mono ?_
            rintro e w5 ⟨rfl,hb5⟩
            have HS5 := Lib.hid (HNX.out _ (HA0.out.below hb5))
            clear hb5
            go_wp2_with fail
            go_roundw
            case rel => exact ⟨i + 1,by omega,by go_num,HS5⟩
            case measure => simp [intOf]; omega
          · have HNX : Hid ((T.takes (W.filter fun e => decide (e ∉ V))).puts ((V.take (i + 1)).filter fun e => decide (e ∉ W)) = ((T.takes (W.filter fun e => decide (e ∉ V))).puts ((V.take i).filter fun e => decide (e ∉ W))).put e) := by show _ = _; rw [HFT.out,if_pos (by simpa using hev),puts_snoc]
            have hdd : decide (e ∈ W) = false := by simpa using hev
            have HPTC : Hid (∀ wq,ChgSt w F p ((T.takes (W.filter fun e => decide (e ∉ V))).puts ((V.take i).filter fun e => decide (e ∉ W))) wq → Calls Tryz.prog 72 #[.pointer (some ⟨p,0,none⟩),e.val] wq fun x w' => x = .returned (.tuple #[]) ∧ ChgSt w F p ((T.takes (W.filter fun e => decide (e ∉ V))).puts ((V.take (i + 1)).filter fun e => decide (e ∉ W))) w') := by
              rintro wq ⟨G,g1,g2⟩
              refine (put_any wq G p _ e g1 HTJ.out.1 HTJ.out.2.2 HTJ.out.2.1 HOE.out).mono ?_
              rintro x w' ⟨rfl,hp⟩
              rw [HNX.out]
              exact ⟨rfl,ChgSt.step g2 hp⟩
            rw [hdd] at HCL
            obtain ⟨f,en,k,t⟩ := e
            simp only at c0 c1 c2 c3
            simp only [Ext.val] at HCL HPTC
            clear hev hdd
            go_wp2_with fail
            with_reducible refine HCL.out.mono ?_
            rintro e w5 ⟨rfl,hb5⟩
            have HS5 := Lib.hid (HA0.out.below hb5)
            obtain ⟨⟨q0,q1,q2,q3⟩,_⟩ := tmp4 (HWE.out.below hb5 (by simp))
            clear hb5
            go_wp2_with fail
            with_reducible refine (HPTC.out _ HS5.out).mono ?_
            rintro e w6 ⟨rfl,hs6⟩
            have HS6 := Lib.hid hs6
            clear hs6
            go_wp2_with fail
            go_roundw
            case rel => exact ⟨i + 1,by omega,by go_num,HS6⟩
            case measure => simp [intOf]; omega
        · obtain rfl : i = m := by omega
          have hfull : V.take i = V := by rw [← HM.out]; exact List.take_length
          rw [hfull] at HS2
          go_wp2_with fail
          go_end0
          exact ⟨rfl,HS2.out⟩
end Go.Proofs.YtneammhkgmkkfaaGreatDoor.tr
