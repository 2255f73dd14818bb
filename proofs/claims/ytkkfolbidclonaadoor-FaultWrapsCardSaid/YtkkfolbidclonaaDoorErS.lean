/- FaultWraps of layer 3. -/
import Derived.Test.YtkkfolbidclonaaDoorErR
import Derived.Deep.RegionHeld3
namespace Go.Proofs.YtkkfolbidclonaaDoor.er
open Go.RowKit
set_option linter.unusedVariables false

set_option maxHeartbeats 2000000 in
set_option maxRecDepth 100000 in
theorem wraps_none (A : Option Addr) (cap : Nat) (op : ByteArray) (att q : Int) (w : World) (hg : LaidT w) :
    Calls Tryd.prog 8 #[.slice A 0 cap, .agg #[.string op, .int .i64 att], .int .i64 q] w fun r w' => r = .returned (.bool true) ∧ Below w.heap.size w w' := by
  have HB0 : Hid (Below w.heap.size w (w.alloc (.cells #[.string op, .int .i64 att] 39))) := (Below.refl _ _).alloc (Nat.le_refl _) _
  have HG := Lib.hid (hg.below HB0.out hg.lt)
  have hbx0 : (w.alloc (.cells #[.string op, .int .i64 att] 39)).cell? ⟨w.heap.size, 0, none⟩ = some (.string op) := (Whole.new w 39 #[.string op, .int .i64 att]).cell 0
  have hbx1 : (w.alloc (.cells #[.string op, .int .i64 att] 39)).cell? ⟨w.heap.size, 1, none⟩ = some (.int .i64 att) := (Whole.new w 39 #[.string op, .int .i64 att]).cell 1
  have HX0 := Lib.hid hbx0
  have HX1 := Lib.hid hbx1
  clear hg hbx0 hbx1
  go_enter Tryd.func8, Tryd.ntmps8
  go_wp2_with fail
  refine (few_nil A cap _).mono ?_
  rintro e w' ⟨rfl, rfl⟩
  go_wp2_with fail
  refine (made_none A cap _).mono ?_
  intro e w1 hmd
  obtain ⟨rfl, hb⟩ := hmd.none
  have HB := Lib.hid hb
  have HG1 := Lib.hid (HG.out.below hb HG.out.lt)
  have hs := hb.size
  have c0 := below_c hb HX0.out
  have c1 := below_c hb HX1.out
  simp only [World.size_alloc] at hs
  clear hb
  go_wp2_with fail
  refine (wrap_nil _ _ _).mono ?_
  rintro e w' ⟨rfl, rfl⟩
  go_wp2_with fail
  refine (awake_yes _ HG1.out).mono ?_
  rintro e w2 ⟨rfl, hb2⟩
  have HB2 := Lib.hid hb2
  clear hb2
  go_wp2_with fail
  go_ret
  exact ⟨rfl, HB0.out.trans ((HB.out.mono (by simp)).trans (HB2.out.mono (by omega)))⟩

set_option maxHeartbeats 4000000 in
set_option maxRecDepth 100000 in
theorem wraps_some (b off n cap : Nat) (ps : List Pt) (op : ByteArray) (att q : Int) (w : World) (hg : LaidT w) (hl : ps.length = n) (h1 : 0 < n) (hm : n ≤ maxLen) (hp : Parts w b off ps) :
    Calls Tryd.prog 8 #[.slice (some ⟨b, off, none⟩) n cap, .agg #[.string op, .int .i64 att], .int .i64 q] w fun r w' => r = .returned (.bool true) ∧ Below w.heap.size w w' := by
  have HB0 : Hid (Below w.heap.size w (w.alloc (.cells #[.string op, .int .i64 att] 39))) := (Below.refl _ _).alloc (Nat.le_refl _) _
  have HG := Lib.hid (hg.below HB0.out hg.lt)
  have HP := Lib.hid (hp.below HB0.out)
  have HX : Hid (Whole (w.alloc (.cells #[.string op, .int .i64 att] 39)) w.heap.size 39 #[.string op, .int .i64 att]) := Whole.new w 39 #[.string op, .int .i64 att]
  have HL := Lib.hid hl
  have HM := Lib.hid hm
  clear hg hp hl hm
  go_enter Tryd.func8, Tryd.ntmps8
  go_wp2_with fail
  refine (few_some b off n cap ps _ HL.out HM.out HP.out).mono ?_
  rintro e w' ⟨q', rfl, rfl⟩
  cases q'
  · go_wp2_with fail
    refine (awake_yes _ HG.out).mono ?_
    rintro e w2 ⟨rfl, hb2⟩
    have HB2 := Lib.hid hb2
    clear hb2
    go_wp2_with fail
    go_ret
    exact ⟨rfl, HB0.out.trans (HB2.out.mono (by simp))⟩
  · go_wp2_with fail
    refine (made_some b off n cap ps _ HL.out h1 HM.out HP.out).mono ?_
    intro e w1 hmd
    obtain ⟨j, l, vs, t, y, g, c1, rfl, M0⟩ := hmd.some (by omega) (by omega)
    have M := Lib.hid M0
    have hs1 := M0.bel.size
    simp only [World.size_alloc] at hs1
    have hj := M0.lt
    have HG1 := Lib.hid (HG.out.below M0.bel HG.out.lt)
    have HX1 := Lib.hid (HX.out.below M0.bel HX.out.lt)
    have cx0 := HX1.out.cell 0
    have cx1 := HX1.out.cell 1
    have hbw1 : Hid (Below w.heap.size w w1) := HB0.out.trans (M0.bel.mono (by simp))
    simp only [List.getElem?_toArray, List.getElem?_cons_zero, List.getElem?_cons_succ] at cx0 cx1
    clear hmd M0
    go_wp2_with fail
    refine (wrap_err _ _ _ _ _).mono ?_
    rintro e w' ⟨rfl, rfl⟩
    have hbf : Hid (Below w1.heap.size w1 (w1.alloc (.cells #[.string op, .int .i64 att, .iface t y] 59))) := (Below.refl _ _).alloc (Nat.le_refl _) _
    have REP : Hid (Rep (w1.alloc (.cells #[.string op, .int .i64 att, .iface t y] 59)) (w1.heap.size + 1) (l ++ [ndStep op att j]) (vs ++ [.iface 56 (.pointer (some ⟨w1.heap.size, 0, none⟩))])) := M.out.rep.wrap (Nat.le_refl _) op att M.out.val
    have HLL := M.out.len
    have HVL : vs.length = j + 1 := by rw [M.out.rep.len]; exact HLL
    have HV1 : Hid ((vs ++ [.iface 56 (.pointer (some ⟨w1.heap.size, 0, none⟩))])[j]? = some (.iface t y)) := by
      show _ = _
      rw [List.getElem?_append_left (by omega)]
      exact M.out.val
    have HV2 : Hid ((vs ++ [.iface 56 (.pointer (some ⟨w1.heap.size, 0, none⟩))])[j + 1]? = some (.iface 56 (.pointer (some ⟨w1.heap.size, 0, none⟩)))) := by
      show _ = _
      rw [← HVL]; simp
    have hl1 : (l ++ [ndStep op att j])[j + 1]? = some (ndStep op att j) := by rw [← HLL]; simp
    have HGF := Lib.hid (HG1.out.below hbf.out HG1.out.lt)
    have HXF := Lib.hid (HX1.out.below hbf.out HX1.out.lt)
    generalize hl' : l ++ [ndStep op att j] = l' at *
    generalize hv' : vs ++ [.iface 56 (.pointer (some ⟨w1.heap.size, 0, none⟩))] = vs' at *
    have hdn := REP.out.down
    have hst := REP.out.step1
    have HCO : Hid (codeO l' (j + 1) = codeO l' j) := by
      show _ = _
      rw [codeO_eq hdn hl1, if_neg (by show ¬((1 : Int) = 0); decide)]
      simp
    have HHO : Hid (hasO l' q (j + 1) = hasO l' q j) := by
      show _ = _
      rw [hasO_eq hdn q hl1, if_neg (by show ¬((1 : Int) = 0); decide)]
      simp
    have HTO : Hid (trailO l' (j + 1) = (j + 1) :: trailO l' j) := trailO_some hdn (by rw [firstO_eq hdn hl1, if_pos rfl]) hl1 rfl
    obtain ⟨hlen, hmem⟩ := trailO_mem hdn hst j
    have HMEM := Lib.hid hmem
    have HN1 := Lib.hid hl1
    clear hl1 hdn hst hmem cx0 cx1 HLL HVL hl' hv'
    go_wp2_with fail
    refine (trail_err l' vs' j _ _ (w1.heap.size + 1) HV1.out REP.out (by simp) HGF.out (by omega)).mono ?_
    rintro e w2 ⟨s, rfl, hown, hb2⟩
    obtain ⟨A, c, rfl⟩ := own_slice hown
    have HO := Lib.hid hown
    have HB2 := Lib.hid hb2
    have hs2 := hb2.size
    have HG2 := Lib.hid (HGF.out.below hb2 HGF.out.lt)
    have HX2 := Lib.hid (HXF.out.below hb2 HXF.out.lt)
    have REP2 := Lib.hid (REP.out.below (hb2.mono (by simp)))
    simp only [World.size_alloc] at hs2
    clear hown hb2
    go_wp2_with fail
    refine (trail_err l' vs' (j + 1) _ _ (w1.heap.size + 1) HV2.out REP2.out hs2 HG2.out (by omega)).mono ?_
    rw [HTO.out]
    rintro e w3 ⟨s', rfl, hown', hb3⟩
    obtain ⟨A', c', rfl⟩ := own_slice hown'
    obtain ⟨gb, cb, hA, _, hcb⟩ := own_one hown' (by simp)
    injection hA with hA hA2 hA3
    subst hA hA3
    clear hA2
    obtain ⟨e0, e1⟩ := cells_at l' ((j + 1) :: trailO l' j) 0 (j + 1) _ rfl HN1.out
    have p0 : w3.cell? ⟨gb, 0, none⟩ = some (.string op) := hcb 0 _ (by simpa using e0)
    have p1 : w3.cell? ⟨gb, 1, none⟩ = some (.int .i64 att) := hcb 1 _ (by simpa using e1)
    have HO3 := Lib.hid (own_below HO.out hb3)
    have hs3 := hb3.size
    have HG3 := Lib.hid (HG2.out.below hb3 HG2.out.lt)
    have HX3 := Lib.hid (HX2.out.below hb3 HX2.out.lt)
    have REP3 := Lib.hid (REP2.out.below (hb3.mono hs2))
    have p2 : w3.cell? ⟨w.heap.size, 0, none⟩ = some (.string op) := HX3.out.cell 0
    have p3 : w3.cell? ⟨w.heap.size, 1, none⟩ = some (.int .i64 att) := HX3.out.cell 1
    have hbw3 : Hid (Below w.heap.size w w3) := hbw1.out.trans ((hbf.out.mono (by omega)).trans ((HB2.out.mono (by simp; omega)).trans (hb3.mono (by omega))))
    have HCB := Lib.hid hcb
    have hs13 : w1.heap.size + 1 ≤ w3.heap.size := by omega
    generalize hcc : (codeO l' j).getD 8 = cc
    have HCC1 : Hid ((codeO l' j).getD 8 = cc) := hcc
    have HCC2 : Hid ((codeO l' (j + 1)).getD 8 = cc) := by show _ = _; rw [HCO.out]; exact hcc
    generalize hhh : hasO l' q j = bb
    have HHH1 : Hid (hasO l' q j = bb) := hhh
    have HHH2 : Hid (hasO l' q (j + 1) = bb) := by show _ = _; rw [HHO.out]; exact hhh
    have HTR : Hid (∀ k x, (trailO l' j)[k]? = some x → ∃ nd, l'[x]? = some nd) := fun k x hx => (HMEM.out x (List.mem_of_getElem? hx)).2
    clear hown' hb3 hcb hcc hhh e0 e1 HO HMEM
    generalize trailO l' j = tr at *
    have HKW : IntKind.i64.wrap ((tr.length : Int) + 1) = (tr.length : Int) + 1 := by rw [IntKind.wrap_i64]; omega
    have hq1 : (0 : Int) < (tr.length : Int) + 1 := by omega
    have HRS : Hid (∀ w', Hid (Below w3.heap.size w3 w') → Rep w' (w1.heap.size + 1) l' vs' ∧ w1.heap.size + 1 ≤ w'.heap.size ∧ LaidT w') := fun w' h => ⟨REP3.out.below (h.out.mono (by omega)), by have := h.out.size; omega, HG3.out.below h.out HG3.out.lt⟩
    have HST : Hid (∀ wa wb, Below wa.heap.size wa wb → (Hid (Below w3.heap.size w3 wa) ∧ wa.cell? ⟨gb, 0, none⟩ = some (.string op) ∧ wa.cell? ⟨gb, 1, none⟩ = some (.int .i64 att) ∧ wa.cell? ⟨w.heap.size, 0, none⟩ = some (.string op) ∧ wa.cell? ⟨w.heap.size, 1, none⟩ = some (.int .i64 att)) →
        (Hid (Below w3.heap.size w3 wb) ∧ wb.cell? ⟨gb, 0, none⟩ = some (.string op) ∧ wb.cell? ⟨gb, 1, none⟩ = some (.int .i64 att) ∧ wb.cell? ⟨w.heap.size, 0, none⟩ = some (.string op) ∧ wb.cell? ⟨w.heap.size, 1, none⟩ = some (.int .i64 att))) :=
      fun wa wb hb ⟨h0, h1, h2, h3, h4⟩ => ⟨h0.out.trans (hb.mono h0.out.size), below_c hb h1, below_c hb h2, below_c hb h3, below_c hb h4⟩
    have HS0 : Hid (Hid (Below w3.heap.size w3 w3.drew) ∧ w3.drew.cell? ⟨gb, 0, none⟩ = some (.string op) ∧ w3.drew.cell? ⟨gb, 1, none⟩ = some (.int .i64 att) ∧ w3.drew.cell? ⟨w.heap.size, 0, none⟩ = some (.string op) ∧ w3.drew.cell? ⟨w.heap.size, 1, none⟩ = some (.int .i64 att)) := ⟨(Below.refl _ _).drew, p0, p1, p2, p3⟩
    go_wp2_with fail
    go_region_held3 (fun w' => Hid (Below w3.heap.size w3 w') ∧ w'.cell? ⟨gb, 0, none⟩ = some (.string op) ∧ w'.cell? ⟨gb, 1, none⟩ = some (.int .i64 att) ∧ w'.cell? ⟨w.heap.size, 0, none⟩ = some (.string op) ∧ w'.cell? ⟨w.heap.size, 1, none⟩ = some (.int .i64 att)) (first | exact HS0.out | exact H5.out | exact H4.out)
      (first | (go_at_call 17; have h6 := H6; refine (has_err l' vs' q j _ _ (w1.heap.size + 1) HV1.out (HRS.out _ H5.out.1).1).mono ?_; rw [HHH1.out]; rintro e w6 ⟨rfl, rfl⟩) | (go_at_call 17; have h5 := H5; refine (has_err l' vs' q (j + 1) _ _ (w1.heap.size + 1) HV2.out (HRS.out _ H5.out.1).1).mono ?_; rw [HHH2.out]; rintro e w6 ⟨rfl, rfl⟩; have H6 : True := trivial) | (go_at_call 12; have h4 := H4; refine (code_err l' vs' j _ _ (w1.heap.size + 1) HV1.out (HRS.out _ H4.out.1).1 (HRS.out _ H4.out.1).2.1 (HRS.out _ H4.out.1).2.2).mono ?_; rw [HCC1.out]; rintro e w5 ⟨rfl, hb5⟩; have H5 := Lib.hid (HST.out _ _ hb5 H4.out); clear hb5) | (go_at_call 12; refine (code_err l' vs' (j + 1) _ _ (w1.heap.size + 1) HV2.out (HRS.out _ HS0.out.1).1 (HRS.out _ HS0.out.1).2.1 (HRS.out _ HS0.out.1).2.2).mono ?_; rw [HCC2.out]; rintro e w4 ⟨rfl, hb4⟩; have H4 := Lib.hid (HST.out _ _ hb4 HS0.out); clear hb4))
    have HL5 := Lib.hid (HRS.out _ H5.out.1).2.2
    have HS5 := Lib.hid (hbw3.out.trans (H5.out.1.out.mono (by omega)))
    clear HST HS0 p0 p1 p2 p3
    go_wp2_with fail
    go_loopw [12] (fun i wr => ∃ k : Nat, k ≤ tr.length ∧ i = .int .i64 k ∧ ∃ d, wr = w5.drewN d) (fun i _ => tr.length - (intOf i).toNat)
    case atStart => exact ⟨0, Nat.zero_le _, rfl, 0, rfl⟩
    case round =>
      obtain ⟨k, hk, rfl, d, rfl⟩ := hrel
      by_cases hlt : k < tr.length
      · obtain ⟨x, hx⟩ : ∃ x, tr[k]? = some x := ⟨tr[k], List.getElem?_eq_getElem hlt⟩
        obtain ⟨nd, hnd⟩ := HTR.out k x hx
        obtain ⟨g1, c1', hA, _, hc⟩ := own_one HO3.out (by omega)
        injection hA with hA hA2 hA3
        subst hA hA3
        clear hA2
        obtain ⟨e0, e1⟩ := cells_at l' tr k x nd hx hnd
        obtain ⟨f0, f1⟩ := cells_at l' ((j + 1) :: tr) (k + 1) x nd (by simpa using hx) hnd
        have p0 := below_c H5.out.1.out (hc _ _ e0)
        have p1 := below_c H5.out.1.out (hc _ _ e1)
        have q0 := below_c H5.out.1.out (HCB.out _ _ f0)
        have q1 := below_c H5.out.1.out (HCB.out _ _ f1)
        clear e0 e1 f0 f1 hc hnd hx
        generalize nd.op = op' at *
        generalize nd.at_ = att' at *
        have hk0 : (0 : Int) ≤ (k : Int) := by omega
        have hk1 : (k : Int) < (tr.length : Int) := by omega
        have hk2 : (0 : Int) ≤ (k : Int) + 1 := by omega
        have hk3 : (k : Int) + 1 < (tr.length : Int) + 1 := by omega
        have hk4 : IntKind.i64.wrap ((k : Int) + 1) = (k : Int) + 1 := by rw [IntKind.wrap_i64]; omega
        have hk5 : ((k : Int) + 1).toNat = k + 1 := by omega
        go_wp2_with fail
        go_quiet (fail)
        go_wp2
        go_roundw
        case rel => exact ⟨k + 1, by omega, by go_num, _, rfl⟩
        case measure => simp [intOf]; omega
      · obtain rfl : tr.length = k := by omega
        have HG4 : Hid (LaidT (w5.drewN d)) := HL5.out
        go_wp2_with (go_at_call 10; refine (awake_yes _ HG4.out).mono ?_; rintro r w6 ⟨rfl, hb6⟩)
        go_ret
        exact ⟨rfl, (below_drewN HS5.out d).trans (hb6.mono (by have := HS5.out.size; simpa using this))⟩
end Go.Proofs.YtkkfolbidclonaaDoor.er
