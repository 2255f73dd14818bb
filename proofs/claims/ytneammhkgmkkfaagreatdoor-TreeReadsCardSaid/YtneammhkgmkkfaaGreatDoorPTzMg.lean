/- A part of the proof. -/
import Derived.Test.YtneammhkgmkkfaaGreatDoorPTzMc
import Derived.Test.YtneammhkgmkkfaaGreatDoorPTzMd
namespace Go.Proofs.YtneammhkgmkkfaaGreatDoor.tr
open Go.RowKit Go.Proofs.YtneammhkgmkkfaaGreatDoor.er
set_option linter.unusedVariables false
set_option linter.unusedSimpArgs false
def Rung (w : World) (h b : Nat) : Prop := ∃ (F : List Nat) (n : Nd h),NdAt w F (ptrV h b) n ∧ Kw n ∧ 1 ≤ n.size ∧ n.size ≤ 100
theorem rung_step {w : World} {h b : Nat} (hr : Rung w (h + 1) b) : ∃ q c m b2,w.cell? ⟨b,1,none⟩ = some (.slice (some ⟨q,0,none⟩) m c) ∧ 0 < m ∧ m ≤ 100 ∧ w.cell? ⟨q,0,none⟩ = some (ptrV h b2) ∧ Rung w h b2 := by
  obtain ⟨F,n,hn,hk,h1,h2⟩ := hr
  obtain ⟨b',q,c,ds,rfl,hv,hin,ek⟩ := inner_open hn
  obtain rfl : b = b' := by unfold ptrV at hv; simpa using hv
  have hlen : n.ks.length = ds.length := by rw [ek,List.length_map]
  have hsz : n.size = n.ks.length := rfl
  have h0 : 0 < ds.length := by omega
  have hd := List.getElem?_eq_getElem h0
  have hmem := List.getElem_mem h0
  obtain ⟨kb,kF,f1,f2⟩ := (hin.2.2 _ hmem).form
  have hkw : Wf (ds[0]'h0).2.2 := hk.mem (by rw [ek]; exact List.mem_map.2 ⟨_,hmem,rfl⟩)
  refine ⟨q,c,ds.length,kb,by have := hin.1.cell 1; simpa using this,h0,by omega,?_,(ds[0]'h0).1,(ds[0]'h0).2.2,?_,hkw.2,by have := hkw.1; omega,by have := hkw.1; omega⟩
  · have := hin.2.1.cell (j := 0) (v := (ds[0]'h0).2.1) (by rw [List.getElem?_map,hd]; rfl)
    rw [f2] at this
    exact this
  · have := hin.2.2 _ hmem
    rw [f2] at this
    exact this
theorem high_le {T : Tree} (hok : T.Ok) (hc : Chk T.flat) : T.high ≤ 20 := by
  have h1 := tree_high hok
  have h2 := chk_len hc
  by_cases he : T.flat = []
  · have := (h1.1 he).1; omega
  · obtain ⟨_,_,h3,_⟩ := h1.2 he
    rcases h3 with h3 | h3
    · omega
    · refine Decidable.byContradiction fun hn => ?_
      have : 4 ^ 19 ≤ 4 ^ (T.high - 1) := Nat.pow_le_pow_right (by omega) (by omega)
      omega
set_option maxHeartbeats 4000000 in
set_option maxRecDepth 100000 in
theorem height_any (w : World) (F : List Nat) (p : Nat) (T : Tree) (ht : TrAt w F p T) (hok : T.Ok) (hc : Chk T.flat) :
    Calls Tryz.prog 14 #[.pointer (some ⟨p,0,none⟩)] w fun x w' => x = .returned (.int .i64 T.high) ∧ w' = w := by
  have hH := high_le hok hc
  cases T with
  | no =>
    have c0 := ht.2.cell 0
    simp at c0
    clear ht hok hc hH
    go_enter Tryz.func14,Tryz.ntmps14
    go_wp2_with fail
    go_ret
    exact ⟨rfl,rfl⟩
  | top h n =>
    obtain ⟨F',v,rfl,hp,hn,hpn⟩ := ht
    obtain ⟨q1,q2,q3,q4⟩ := hok.parts
    obtain ⟨kb,kF,f1,f2⟩ := hn.at_.form
    have c0 := hp.cell 0
    rw [f2] at c0
    simp at c0
    have hn2 := hn.at_
    rw [f2] at hn2
    have HR := Lib.hid (show Rung w h kb from ⟨_,n,hn2,q1,q3,by omega⟩)
    have hH' : h + 1 ≤ 20 := hH
    have HT : Hid (Tree.high (.top h n) = h + 1) := rfl
    rw [HT.out]
    have HST : Hid (∀ h b,Rung w (h + 1) b → ∃ q c m b2,w.cell? ⟨b,1,none⟩ = some (.slice (some ⟨q,0,none⟩) m c) ∧ 0 < m ∧ m ≤ 100 ∧ w.cell? ⟨q,0,none⟩ = some (ptrV h b2) ∧ Rung w h b2) := fun _ _ h => rung_step h
    have ta1 := ta_li
    have ta2 := ta_ii
    clear hn2 f1 f2 q1 q2 q3 q4 hn hp hpn hok hc hH HT
    obtain ⟨isI,hisI⟩ : ∃ isI : Nat → Bool,isI = fun x => decide (0 < x) := ⟨_,rfl⟩
    obtain ⟨pI,hpI⟩ : ∃ pI : Nat → Nat → Value,pI = fun x b => if 0 < x then .pointer (some ⟨b,0,none⟩) else .pointer none := ⟨_,rfl⟩
    have TA : Hid (∀ x b wq,(Instr.typeAssert (.iface (ndT x) (.pointer (some ⟨b,0,none⟩))) 62 94 true).run Tryz.prog wq = .ok (.tuple #[pI x b,.bool (isI x)]) wq) := by
      intro x b wq
      cases x with
      | zero => subst hisI hpI; exact ta1 _ _
      | succ x => subst hisI hpI; exact ta2 _ _
    have ta := TA.out
    clear ta1 ta2
    have HISI := Lib.hid hisI
    have HPI := Lib.hid hpI
    clear hisI hpI
    go_enter Tryz.func14,Tryz.ntmps14
    go_wp2_with fail
    go_loopw [3,4,5] (fun s3 s4 s5 wr => wr = w ∧ ∃ (x b : Nat),x ≤ h ∧ s3 = .int .i64 ((h - x : Nat) + 1 : Int) ∧ s4 = pI x b ∧ s5 = .bool (isI x) ∧ Hid (Rung w x b)) (fun s3 _ _ _ => h + 1 - (intOf s3).toNat)
    case atStart => exact ⟨rfl,h,kb,Nat.le_refl _,by simp,rfl,rfl,HR⟩
    case round =>
      obtain ⟨rfl,x,b,hx,rfl,rfl,rfl,HRx⟩ := hrel
      cases x with
      | zero =>
        have e1 : isI 0 = false := by rw [HISI.out]; rfl
        rw [e1]
        go_wp2_with fail
        go_ret
        exact ⟨by simp,rfl⟩
      | succ x =>
        have e1 : isI (x + 1) = true := by rw [HISI.out]; simp
        have e2 : pI (x + 1) b = .pointer (some ⟨b,0,none⟩) := by rw [HPI.out]; simp
        rw [e1,e2]
        obtain ⟨q,c,m,b2,z1,z2,z3,z4,z5⟩ := HST.out _ _ HRx.out
        have HR2 := Lib.hid z5
        have hm0 : (0 : Int) < (m : Int) := by omega
        have z4' : wr.cell? ⟨q,0,none⟩ = some (.iface (ndT x) (.pointer (some ⟨b2,0,none⟩))) := z4
        clear z4 z5
        go_wp2_with fail
        go_roundw
        case rel => exact ⟨trivial,x,b2,by omega,by congr 1; omega,rfl,rfl,HR2⟩
        case measure => simp [intOf]; omega
end Go.Proofs.YtneammhkgmkkfaaGreatDoor.tr
namespace Go.Proofs.YtneammhkgmkkfaaGreatDoor.tr
open Go.RowKit Go.Proofs.YtneammhkgmkkfaaGreatDoor.er
set_option linter.unusedVariables false
set_option linter.unusedSimpArgs false
def St (w0 w : World) (p : Nat) (T : Tree) (rv : Value) (l : List Ext) : Prop :=
  Keep (fun _ => False) w0 w ∧ T.Ok ∧ Chk T.flat ∧ Chk l ∧ ∃ F,TrAt w F p T ∧ (∀ k ∈ F,w0.heap.size ≤ k) ∧ (∃ B,RL w B rv l) ∧ ∀ g,rv.ownBlock = some g → g ∉ F
theorem St.below {w0 w wq : World} {p : Nat} {T : Tree} {rv : Value} {l : List Ext} (h : St w0 w p T rv l) (hb : Below w.heap.size w wq) : St w0 wq p T rv l := by
  obtain ⟨h1,h2,h3,h4,F,h5,h6,⟨B,h7⟩,h8⟩ := h
  exact ⟨h1.transBelow hb,h2,h3,h4,F,h5.keep (Keep.below (F := fun _ => False) hb) (fun _ _ h => h),h6,⟨B,h7.below hb⟩,h8⟩
theorem St.exts {w0 w : World} {p : Nat} {T : Tree} {rv : Value} {l : List Ext} (h : St w0 w p T rv l) : ExtsAt w rv l := by
  obtain ⟨h1,h2,h3,h4,F,h5,h6,⟨B,h7⟩,h8⟩ := h
  exact (ExtsAt.ownT h7.own).1
theorem st_over {w0 w wq : World} {p : Nat} {T : Tree} {rv : Value} {l : List Ext} {y : Ext} (h : St w0 w p T rv l) (hb : Below w.heap.size w wq) (hy : oneB y = true) :
    Calls Tryz.prog 20 #[.pointer (some ⟨p,0,none⟩),y.val] wq fun x w' => x = .returned (.int .i64 0) ∧ St w0 w' p (T.over y) rv l ∧ Keep (fun k => k < w.heap.size) wq w' := by
  obtain ⟨t1,t2,t3⟩ := tree_over h.2.1 h.2.2.1 hy
  have hs := h
  obtain ⟨h1,h2,h3,h4,F,h5,h6,⟨B,h7⟩,h8⟩ := hs
  have h5q : TrAt wq F p T := h5.keep (Keep.below (F := fun _ => False) hb) (fun _ _ h => h)
  refine (tover_any wq F p T y h5q h2 h3 hy).mono ?_
  rintro x w' ⟨rfl,hch⟩
  obtain ⟨F',f1,f2⟩ := hch
  have hlt := h5.lt
  have hsz := hb.size
  refine ⟨rfl,⟨(h1.transBelow hb).trans f2.keep (fun k hk => .inr (h6 k hk)),t2,t3,h4,F',f1,fun k hk => ?_,⟨B,?_⟩,fun g hg hgF => ?_⟩,f2.keep.mono (fun k _ hk => hlt k hk)⟩
  · rcases f2.sub k hk with hk | hk
    · exact h6 k hk
    · have := h1.size; omega
  · exact ⟨own_keep (h7.below hb).own f2.keep h8,h7.one⟩
  · rcases f2.sub g hgF with hk | hk
    · exact h8 g hg hk
    · have := ((h7.below hb).own.lt g hg).2; omega
end Go.Proofs.YtneammhkgmkkfaaGreatDoor.tr
namespace Go.Proofs.YtneammhkgmkkfaaGreatDoor.tr
open Go.RowKit Go.Proofs.YtneammhkgmkkfaaGreatDoor.er
set_option linter.unusedVariables false
set_option linter.unusedSimpArgs false
structure Act where
  kind : Int
  e : Ext
  fr : Int
  n : Int
end Go.Proofs.YtneammhkgmkkfaaGreatDoor.tr
namespace Go.Proofs.YtneammhkgmkkfaaGreatDoor.tr
open Go.RowKit Go.Proofs.YtneammhkgmkkfaaGreatDoor.er
set_option linter.unusedVariables false
set_option linter.unusedSimpArgs false
theorem st_new (w : World) : St w (w.alloc (.cells #[.nilIface] 69)) w.heap.size .no (.slice none 0 0) [] :=
  ⟨(Keep.refl _ _).alloc _,trivial,chk_nil,chk_nil,[w.heap.size],⟨rfl,Whole.new _ _ _⟩,by simp,⟨0,RL.nil _ _⟩,by simp [Value.ownBlock]⟩
set_option maxHeartbeats 4000000 in
set_option maxRecDepth 100000 in
theorem new_any (w : World) : Calls Tryz.prog 19 #[] w fun x w' => x = .returned (.pointer (some ⟨w.heap.size,0,none⟩)) ∧ w' = w.alloc (.cells #[.nilIface] 69) := by
  go_enter Tryz.func19,Tryz.ntmps19
  go_wp2_with fail
  go_ret
  exact ⟨rfl,rfl⟩
end Go.Proofs.YtneammhkgmkkfaaGreatDoor.tr
namespace Go.Proofs.YtneammhkgmkkfaaGreatDoor.tr
open Go.RowKit Go.Proofs.YtneammhkgmkkfaaGreatDoor.er
set_option linter.unusedVariables false
set_option linter.unusedSimpArgs false
set_option maxHeartbeats 4000000 in
set_option maxRecDepth 100000 in
theorem len64_0 (w : World) : Calls Tryz.prog 122 #[.int .u64 0] w fun x w' => x = .returned (.int .i64 0) ∧ w' = w := by
  go_enter Tryz.func122,Tryz.ntmps122
  go_wp2_with fail
  go_ret
  exact ⟨by first | kernel_rfl | decide,rfl⟩
set_option maxHeartbeats 4000000 in
set_option maxRecDepth 100000 in
theorem len_0 (w : World) : Calls Tryz.prog 97 #[.int .u64 0] w fun x w' => x = .returned (.int .i64 0) ∧ w' = w := by
  have H := Lib.hid (len64_0 w)
  go_enter Tryz.func97,Tryz.ntmps97
  go_wp2_with fail
  with_reducible refine H.out.mono ?_
  rintro e w5 ⟨rfl,rfl⟩
  go_wp2_with fail
  go_ret
  exact ⟨rfl,rfl⟩
set_option maxHeartbeats 4000000 in
set_option maxRecDepth 100000 in
theorem ins_0 (w : World) : Calls Tryz.prog 112 #[.slice none 0 0,.int .i64 0,.int .i64 0] w fun x w' => x = .returned (.tuple #[]) ∧ w' = w := by
  go_enter Tryz.func112,Tryz.ntmps112
  go_wp2_with fail
  go_loopw [6,7] (fun s6 s7 wr => wr = w ∧ s6 = .int .i64 1) (fun _ _ _ => 0)
  case atStart => exact ⟨rfl,rfl⟩
  case round =>
    obtain ⟨rfl,rfl⟩ := hrel
    go_wp2_with fail
    go_end0
    exact ⟨rfl,rfl⟩
set_option maxHeartbeats 4000000 in
set_option maxRecDepth 100000 in
theorem pdq_0 (w : World) : Calls Tryz.prog 96 #[.slice none 0 0,.int .i64 0,.int .i64 0,.int .i64 0] w fun x w' => x = .returned (.tuple #[]) ∧ w' = w := by
  have H := Lib.hid (ins_0 w)
  go_enter Tryz.func96,Tryz.ntmps96
  go_wp2_with fail
  go_loopw [1,2,3,8,9,10] (fun s1 s2 s3 s8 s9 s10 wr => wr = w ∧ s1 = .int .i64 0 ∧ s2 = .int .i64 0 ∧ s3 = .int .i64 0) (fun _ _ _ _ _ _ _ => 0)
  case atStart => exact ⟨rfl,rfl,rfl,rfl⟩
  case round =>
    obtain ⟨rfl,rfl,rfl,rfl⟩ := hrel
    go_wp2_with fail
    with_reducible refine H.out.mono ?_
    rintro e w5 ⟨rfl,rfl⟩
    go_wp2_with fail
    refine bodyPost_ret (v := .tuple #[]) (by simp [results,Tryz.results96,go_sem]) rfl ⟨rfl,rfl⟩
set_option maxHeartbeats 4000000 in
set_option maxRecDepth 100000 in
theorem sort_0 (w : World) : Calls Tryz.prog 64 #[.slice none 0 0] w fun x w' => x = .returned (.tuple #[]) ∧ w' = w := by
  have H1 := Lib.hid (len_0 w)
  have H2 := Lib.hid (pdq_0 w)
  go_enter Tryz.func64,Tryz.ntmps64
  go_wp2_with fail
  with_reducible refine H1.out.mono ?_
  rintro e w5 ⟨rfl,rfl⟩
  go_wp2_with fail
  with_reducible refine H2.out.mono ?_
  rintro e w5 ⟨rfl,rfl⟩
  go_wp2_with fail
  go_end0
  exact ⟨rfl,rfl⟩
end Go.Proofs.YtneammhkgmkkfaaGreatDoor.tr
namespace Go.Proofs.YtneammhkgmkkfaaGreatDoor.tr
open Go.RowKit Go.Proofs.YtneammhkgmkkfaaGreatDoor.er
set_option linter.unusedVariables false
set_option linter.unusedSimpArgs false
set_option maxHeartbeats 4000000 in
set_option maxRecDepth 100000 in
theorem pages_fresh (w : World) (F : List Nat) (p : Nat) (T : Tree) (ht : TrAt w F p T) (hok : T.Ok) (hN : T.cnt ≤ 16777216) (hf : ∀ a ∈ T.ats,a = -1) :
    Calls Tryz.prog 37 #[.pointer (some ⟨p,0,none⟩)] w fun x w' => x = .returned (.slice none 0 0) ∧ Below w.heap.size w w' := by
  have HNN : Hid (Calls Tryz.prog 27 #[.pointer (some ⟨p,0,none⟩)] w fun x w' => ∃ A m c,x = .returned (.slice A m c) ∧ m ≤ 16777216 ∧ Below w.heap.size w w' ∧ (0 < m → ∃ g,A = some ⟨g,0,none⟩ ∧ ∀ i,i < m → ∃ h b,w'.cell? ⟨g,i,none⟩ = some (.iface (ndT h) (.pointer (some ⟨b,0,none⟩))) ∧ w'.cell? ⟨b,0,none⟩ = some (.int .i64 (-1)))) := by
    refine (nodes_any w F p T ht hok hN).mono ?_
    rintro x w' ⟨v',L,rfl,h1,h2,h3⟩
    obtain ⟨A,c,rfl⟩ := own_slice h1
    refine ⟨A,_,c,rfl,by rw [h2.len,tats_len]; exact hN,h3,fun h0 => ?_⟩
    obtain ⟨g,rfl,_,_,_,hc,_⟩ := own_cell h1 h0
    refine ⟨g,rfl,fun i hi => ?_⟩
    have hx := List.getElem?_eq_getElem hi
    have hi2 : i < T.ats.length := by rw [← h2.len]; exact hi
    have ha := List.getElem?_eq_getElem hi2
    obtain ⟨q1,q2,q3⟩ := h2.at_ i _ _ hx ha
    rw [hf _ (List.getElem_mem hi2)] at q1
    refine ⟨(L[i]'hi).1,(L[i]'hi).2,?_,below_c h3 q1⟩
    exact hc i _ (by rw [List.getElem?_map,hx]; rfl)
  have HSO := Lib.hid (fun wq => sort_0 wq)
  have hme := fun h b w => meWh (.pointer (some ⟨b,0,none⟩)) w h
  have hen := fun h b w => enWh #[.pointer (some ⟨b,0,none⟩)] w h
  have HWH := Lib.hid (fun wq b h => where_any wq b h)
  clear ht hok hN hf
  go_enter Tryz.func37,Tryz.ntmps37
  go_wp2_with fail
  with_reducible refine HNN.out.mono ?_
  rintro e w1 ⟨A,m,c,rfl,hm,hb1,hcc⟩
  have HB1 := Lib.hid hb1
  have HCC := Lib.hid hcc
  have hmi : (m : Int) ≤ 16777216 := by omega
  clear hb1 hcc
  go_wp2_with fail
  go_loopw [3,5,9] (fun s3 s5 s9 wr => wr = w1 ∧ s3 = .slice none 0 0 ∧ ∃ j : Nat,j ≤ m ∧ s9 = .int .i64 j) (fun _ _ s9 _ => m - (intOf s9).toNat)
  case atStart => exact ⟨rfl,rfl,0,Nat.zero_le _,rfl⟩
  case round =>
    obtain ⟨rfl,rfl,j,hj,rfl⟩ := hrel
    by_cases hlt : j < m
    · have hji : (j : Int) < (m : Int) := by omega
      obtain ⟨g,rfl,hc⟩ := HCC.out (by omega)
      obtain ⟨h,b,c1,c2⟩ := hc j hlt
      clear hc
      go_wp2_with fail
      refine (HWH.out _ b h).mono ?_
      rintro e w5 ⟨rfl,rfl⟩
      go_wp2_with fail
      go_roundw
      case rel => exact ⟨trivial,rfl,j + 1,by omega,by go_num⟩
      case measure => simp [intOf]; omega
    · obtain rfl : j = m := by omega
      go_wp2_with fail
      with_reducible refine (HSO.out _).mono ?_
      rintro e w5 ⟨rfl,rfl⟩
      go_wp2_with fail
      go_ret
      exact ⟨rfl,HB1.out⟩
set_option maxHeartbeats 4000000 in
set_option maxRecDepth 100000 in
theorem fresh_fresh (w : World) (F : List Nat) (p : Nat) (T : Tree) (ht : TrAt w F p T) (hok : T.Ok) (hN : T.cnt ≤ 16777216) (hf : ∀ a ∈ T.ats,a = -1) :
    Calls Tryz.prog 18 #[.pointer (some ⟨p,0,none⟩)] w fun x w' => x = .returned (.int .i64 T.cnt) ∧ Below w.heap.size w w' := by
  have HN := Lib.hid (Nodes_any w F p T ht hok hN)
  have HP : Hid (∀ wq,Below w.heap.size w wq → Calls Tryz.prog 37 #[.pointer (some ⟨p,0,none⟩)] wq fun x w' => x = .returned (.slice none 0 0) ∧ Below wq.heap.size wq w') := fun wq hb => pages_fresh wq F p T (ht.keep (Keep.below (F := fun _ => False) hb) (fun _ _ h => h)) hok hN hf
  obtain ⟨C,hC⟩ : ∃ C,T.cnt = C := ⟨_,rfl⟩
  rw [hC] at HN hN ⊢
  clear ht hok hf hC
  go_enter Tryz.func18,Tryz.ntmps18
  go_wp2_with fail
  with_reducible refine HN.out.mono ?_
  rintro e w5 ⟨rfl,hb5⟩
  have HB5 := Lib.hid hb5
  clear hb5
  go_wp2_with fail
  with_reducible refine (HP.out _ HB5.out).mono ?_
  rintro e w6 ⟨rfl,hb6⟩
  have HB6 := Lib.hid (bel_tr HB5.out hb6)
  clear hb6
  go_wp2_with fail
  go_ret
  exact ⟨by go_num,HB6.out⟩
end Go.Proofs.YtneammhkgmkkfaaGreatDoor.tr
namespace Go.Proofs.YtneammhkgmkkfaaGreatDoor.tr
open Go.RowKit Go.Proofs.YtneammhkgmkkfaaGreatDoor.er
set_option linter.unusedVariables false
set_option linter.unusedSimpArgs false
def runT (i : Nat) : Tree := (List.range i).foldl (fun (T : Tree) (j : Nat) => T.over ⟨2 * j,1,1,0⟩) .no
theorem runT_succ (i : Nat) : runT (i + 1) = (runT i).over ⟨2 * i,1,1,0⟩ := by unfold runT; rw [List.range_succ,List.foldl_append]; rfl
theorem run9 : (runT 9).high = 2 ∧ (runT 9).ats = [-1,-1,-1] ∧ sumN (runT 9).flat = 9 := ⟨by kernel_rfl,by kernel_rfl,by kernel_rfl⟩
theorem one9 : ∀ {i : Nat},i < 9 → oneB ⟨2 * (i : Int),1,1,0⟩ = true := by decide
set_option maxHeartbeats 4000000 in
set_option maxRecDepth 100000 in
theorem awake_any (w : World) : Calls Tryz.prog 5 #[] w fun x w' => x = .returned (.bool true) ∧ Below w.heap.size w w' := by
  have HNEW := Lib.hid (new_any w)
  have HST0 := Lib.hid (st_new w)
  have HOV : Hid (∀ wr p (j : Nat),j < 9 → St w wr p (runT j) (.slice none 0 0) [] → Calls Tryz.prog 20 #[.pointer (some ⟨p,0,none⟩),.agg #[.int .i64 (2 * j),.int .i64 1,.int .i64 1,.int .i64 0]] wr fun x w' => x = .returned (.int .i64 0) ∧ St w w' p (runT (j + 1)) (.slice none 0 0) []) := by
    intro wr p j hj hs
    refine (st_over (y := ⟨2 * j,1,1,0⟩) hs (Below.refl _ _) (one9 hj)).mono ?_
    rintro x w' ⟨rfl,q1,_⟩
    exact ⟨rfl,by rw [runT_succ]; exact q1⟩
  have HEND : Hid (∀ wr p,St w wr p (runT 9) (.slice none 0 0) [] → ∀ wq,Below wr.heap.size wr wq → (Calls Tryz.prog 14 #[.pointer (some ⟨p,0,none⟩)] wq fun x w' => x = .returned (.int .i64 2) ∧ w' = wq) ∧ (Calls Tryz.prog 9 #[.pointer (some ⟨p,0,none⟩)] wq fun x w' => x = .returned (.int .i64 3) ∧ Below wq.heap.size wq w') ∧ (Calls Tryz.prog 21 #[.pointer (some ⟨p,0,none⟩)] wq fun x w' => x = .returned (.int .i64 9) ∧ Below wq.heap.size wq w') ∧ (Calls Tryz.prog 18 #[.pointer (some ⟨p,0,none⟩)] wq fun x w' => x = .returned (.int .i64 3) ∧ Below wq.heap.size wq w')) := by
    intro wr p hs wq hb
    obtain ⟨h1,h2,h3,h4,F,h5,h6,⟨B,h7⟩,h8⟩ := hs.below hb
    obtain ⟨r1,r2,r3⟩ := run9
    have rc : (runT 9).cnt = 3 := by rw [← tats_len,r2]; rfl
    refine ⟨?_,?_,?_,?_⟩
    · have := height_any wq F p _ h5 h2 h3; rw [r1] at this; exact this
    · have := Nodes_any wq F p _ h5 h2 (by rw [rc]; omega); rw [rc] at this; exact this
    · have := tcount_any wq F p _ h5 h2 h3; rw [r3] at this; exact this
    · have := fresh_fresh wq F p _ h5 h2 (by rw [rc]; omega) (by rw [r2]; simp); rw [rc] at this; exact this
  have HFIN : Hid (∀ wr p,St w wr p (runT 9) (.slice none 0 0) [] → ∀ wq,Below wr.heap.size wr wq → Below w.heap.size w wq) := fun wr p hs wq hb => (hs.below hb).1.toBelow (Nat.le_refl _) (fun _ h => h.elim)
  go_enter Tryz.func5,Tryz.ntmps5
  go_wp2_with fail
  with_reducible refine HNEW.out.mono ?_
  rintro e w1 ⟨rfl,rfl⟩
  go_wp2_with fail
  obtain ⟨w1,hw1⟩ : ∃ w1,w.alloc (.cells #[.nilIface] 69) = w1 := ⟨_,rfl⟩
  have HS1 : Hid (St w w1 w.heap.size (runT 0) (.slice none 0 0) []) := by show St _ _ _ _ _ _; rw [← hw1]; exact HST0.out
  rw [hw1]
  clear hw1 HST0 HNEW
  obtain ⟨p,hp⟩ : ∃ p,w.heap.size = p := ⟨_,rfl⟩
  rw [hp] at HS1 ⊢
  clear hp
  go_loopw [2] (fun s2 wr => ∃ (j : Nat),j ≤ 9 ∧ s2 = .int .i64 j ∧ Hid (St w wr p (runT j) (.slice none 0 0) [])) (fun s2 _ => 9 - (intOf s2).toNat)
  case atStart => exact ⟨0,by omega,rfl,HS1⟩
  case round =>
    obtain ⟨j,hj,rfl,HS⟩ := hrel
    by_cases hlt : j < 9
    · have hji : (j : Int) < 9 := by omega
      have HC := Lib.hid (HOV.out _ _ j hlt HS.out)
      go_wp2_with fail
      with_reducible refine HC.out.mono ?_
      rintro e w5 ⟨rfl,hs5⟩
      have HS5 := Lib.hid hs5
      clear hs5
      go_wp2_with fail
      go_roundw
      case rel => exact ⟨j + 1,by omega,by go_num,HS5⟩
      case measure => simp [intOf]; omega
    · obtain rfl : j = 9 := by omega
      have HE := Lib.hid (HEND.out _ _ HS.out)
      have HF := Lib.hid (HFIN.out _ _ HS.out)
      clear HEND HFIN
      go_wp2_with fail
      with_reducible refine (HE.out _ (Below.refl _ _)).1.mono ?_
      rintro e w5 ⟨rfl,rfl⟩
      go_wp2_with fail
      with_reducible refine (HE.out _ (Below.refl _ _)).2.1.mono ?_
      rintro e w6 ⟨rfl,hb6⟩
      have HB6 := Lib.hid hb6
      clear hb6
      go_wp2_with fail
      with_reducible refine (HE.out _ HB6.out).2.2.1.mono ?_
      rintro e w7 ⟨rfl,hb7⟩
      have HB7 := Lib.hid (bel_tr HB6.out hb7)
      clear hb7
      go_wp2_with fail
      with_reducible refine (HE.out _ HB7.out).2.2.2.mono ?_
      rintro e w8 ⟨rfl,hb8⟩
      have HB8 := Lib.hid (bel_tr HB7.out hb8)
      clear hb8
      go_wp2_with fail
      go_ret
      exact ⟨rfl,HF.out _ HB8.out⟩
end Go.Proofs.YtneammhkgmkkfaaGreatDoor.tr
namespace Go.Proofs.YtneammhkgmkkfaaGreatDoor.tr
open Go.RowKit Go.Proofs.YtneammhkgmkkfaaGreatDoor.er
set_option linter.unusedVariables false
set_option linter.unusedSimpArgs false
theorem st_cnt {w0 w : World} {p : Nat} {T : Tree} {v : Value} {l : List Ext} (h : St w0 w p T v l) : T.cnt ≤ 16777216 ∧ T.flat.length ≤ 16777216 ∧ T.high ≤ 20 := by
  have h1 := chk_len h.2.2.1
  have h2 := high_le h.2.1 h.2.2.1
  have h3 := tree_high h.2.1
  refine ⟨?_,h1,h2⟩
  by_cases he : T.flat = []
  · have := (h3.1 he).2; omega
  · have := (h3.2 he).2.2.2; omega
def Pl (j : Nat) : Int := 2 * 4 ^ (j - 1)
end Go.Proofs.YtneammhkgmkkfaaGreatDoor.tr
namespace Go.Proofs.YtneammhkgmkkfaaGreatDoor.tr
open Go.RowKit Go.Proofs.YtneammhkgmkkfaaGreatDoor.er
set_option linter.unusedVariables false
set_option linter.unusedSimpArgs false
structure Kid where
  key : Int
  at_ : Int
  deriving DecidableEq
end Go.Proofs.YtneammhkgmkkfaaGreatDoor.tr
namespace Go.Proofs.YtneammhkgmkkfaaGreatDoor.tr
open Go.RowKit Go.Proofs.YtneammhkgmkkfaaGreatDoor.er
set_option linter.unusedVariables false
set_option linter.unusedSimpArgs false
end Go.Proofs.YtneammhkgmkkfaaGreatDoor.tr
namespace Go.Proofs.YtneammhkgmkkfaaGreatDoor.tr
open Go.RowKit Go.Proofs.YtneammhkgmkkfaaGreatDoor.er
set_option linter.unusedVariables false
set_option linter.unusedSimpArgs false
end Go.Proofs.YtneammhkgmkkfaaGreatDoor.tr
namespace Go.Proofs.YtneammhkgmkkfaaGreatDoor.tr
open Go.RowKit Go.Proofs.YtneammhkgmkkfaaGreatDoor.er
set_option linter.unusedVariables false
set_option linter.unusedSimpArgs false
end Go.Proofs.YtneammhkgmkkfaaGreatDoor.tr
namespace Go.Proofs.YtneammhkgmkkfaaGreatDoor.tr
open Go.RowKit Go.Proofs.YtneammhkgmkkfaaGreatDoor.er
set_option linter.unusedVariables false
set_option linter.unusedSimpArgs false
end Go.Proofs.YtneammhkgmkkfaaGreatDoor.tr
