/- tree: shift at leaves. -/
import Derived.Test.YtneammhkgmkkfaaGreatTyM
namespace Go.Proofs.YtneammhkgmkkfaaGreat.tr
open Go.RowKit Go.Proofs.YtneammhkgmkkfaaGreat.er
set_option linter.unusedVariables false
set_option linter.unusedSimpArgs false

set_option maxHeartbeats 4000000 in
set_option maxRecDepth 100000 in
theorem shift_leaf (w : World) (b1 g1 c1 b2 g2 c2 K : Nat) (a1 a2 : Int) (l1 l2 : List Ext) (h1 : LfAt w b1 g1 c1 a1 l1) (h2 : LfAt w b2 g2 c2 a2 l2) (hb : b1 ≠ b2) (hg1 : g1 ≠ b1 ∧ g1 ≠ b2) (hg2 : g2 ≠ b1 ∧ g2 ≠ b2) (hK0 : 0 < K) (hK : K ≤ l1.length + l2.length) (hm : l1.length + l2.length ≤ 1000) :
    Calls Tryz.prog 149 #[ptrV 0 b1, ptrV 0 b2, .int .i64 K] w fun e w' => e = .returned (.tuple #[]) ∧ ShiftPost w (fun k => k ∈ [b1, g1] ∨ k ∈ [b2, g2]) (ptrV 0 b1) (ptrV 0 b2) (mkL (-1) ((l1 ++ l2).take K)) (mkL (-1) ((l1 ++ l2).drop K)) (K < l1.length + l2.length) w' := by
  have x10 := h1.1.cell 0
  have x11 := h1.1.cell 1
  have x20 := h2.1.cell 0
  have x21 := h2.1.cell 1
  simp at x10 x11 x20 x21
  have z10 := h1.1.fz 0
  have z20 := h2.1.fz 0
  have hb' : b2 ≠ b1 := hb.symm
  have hme1 := meWh (.pointer (some ⟨b1, 0, none⟩)) w 0
  have hme2 := meWh (.pointer (some ⟨b2, 0, none⟩)) w 0
  have hen1 := enWh #[.pointer (some ⟨b1, 0, none⟩)] w 0
  have hen2 := enWh #[.pointer (some ⟨b2, 0, none⟩)] w 0
  simp only [ndT, whF] at hme1 hme2 hen1 hen2
  have hta := ta_ll
  have htb := ta_li
  have HWH := Lib.hid (fun b => where_any w b 0)
  obtain ⟨w2, hw2⟩ : ∃ w2, (w.setCell ⟨b1, 0, none⟩ (.int .i64 (-1))).setCell ⟨b2, 0, none⟩ (.int .i64 (-1)) = w2 := ⟨_, rfl⟩
  have HX1 : Hid (Whole w2 b1 138 #[.int .i64 (-1), .slice (some ⟨g1, 0, none⟩) l1.length c1]) := by
    show Whole _ _ _ _
    rw [← hw2]
    have := (h1.1.set 0 (.int .i64 (-1))).far (p := ⟨b2, 0, none⟩) hb (.int .i64 (-1))
    simpa using this
  have HX2 : Hid (Whole w2 b2 138 #[.int .i64 (-1), .slice (some ⟨g2, 0, none⟩) l2.length c2]) := by
    show Whole _ _ _ _
    rw [← hw2]
    have := (h2.1.far (p := ⟨b1, 0, none⟩) hb' (.int .i64 (-1))).set 0 (.int .i64 (-1))
    simpa using this
  have HK2 : Hid (Keep (fun k => k = b1 ∨ k = b2) w w2) := by
    rw [← hw2]
    exact ((Keep.refl _ _).setCell (p := ⟨b1, 0, none⟩) (.inl (.inl rfl)) _).setCell (p := ⟨b2, 0, none⟩) (.inl (.inr rfl)) _
  have hr1 := h1.2.keep HK2.out (by omega)
  have hr2 := h2.2.keep HK2.out (by omega)
  have HCUT : Hid (∀ wq, Below w2.heap.size w2 wq → Calls Tryz.prog 167 #[.slice (some ⟨g1, 0, none⟩) l1.length c1, .slice (some ⟨g2, 0, none⟩) l2.length c2, .int .i64 K] wq fun e w' => ∃ v1 v2, e = .returned (.tuple #[v1, v2]) ∧ w'.ownsRow w2.heap.size 39 4 v1 K ((extCells l1 ++ extCells l2).take (K * 4)) ∧ w'.ownsRow w2.heap.size 39 4 v2 (l1.length + l2.length - K) ((extCells l1 ++ extCells l2).drop (K * 4)) ∧ (∀ g, v1.ownBlock = some g → v2.ownBlock ≠ some g) ∧ Below w2.heap.size w2 w') := fun wq hbq =>
    (cutE l1.length l2.length K _ _ _ _ wq (SlAt.row (hr1.below hbq) (extCells_len l1)) (SlAt.row (hr2.below hbq) (extCells_len l2)) hK (by omega) hm (fun u hu => by rcases List.mem_append.1 hu with h | h <;> exact extCells_one _ u h)).mono fun e w' ⟨v1, v2, q1, q2, q3, q4, q5⟩ => ⟨v1, v2, q1, own_base q2 hbq.size, own_base q3 hbq.size, q4, bel_tr hbq q5⟩
  obtain ⟨m1, hm1⟩ : ∃ m, l1.length = m := ⟨_, rfl⟩
  obtain ⟨m2, hm2⟩ : ∃ m, l2.length = m := ⟨_, rfl⟩
  have HEND : Hid (∀ w5 w6 v1 v2, Below w2.heap.size w2 w5 → w5.ownsRow w2.heap.size 39 4 v1 K ((extCells l1 ++ extCells l2).take (K * 4)) → w5.ownsRow w2.heap.size 39 4 v2 (m1 + m2 - K) ((extCells l1 ++ extCells l2).drop (K * 4)) → (∀ g, v1.ownBlock = some g → v2.ownBlock ≠ some g) → (w6 = (w5.setCell ⟨b1, 1, none⟩ v1).setCell ⟨b2, 1, none⟩ v2 ∨ w6 = (w5.setCell ⟨b2, 1, none⟩ v2).setCell ⟨b1, 1, none⟩ v1) →
      ShiftPost w (fun k => k ∈ [b1, g1] ∨ k ∈ [b2, g2]) (ptrV 0 b1) (ptrV 0 b2) (mkL (-1) ((l1 ++ l2).take K)) (mkL (-1) ((l1 ++ l2).drop K)) (K < m1 + m2) w6) := by
    intro w5 w6 v1 v2 q1 q2 q3 q4 q5
    rw [← hm1, ← hm2] at q3 ⊢
    exact shift_leaf_end (c1 := c1) (c2 := c2) HX1.out HX2.out HK2.out hb q1 q2 q3 q4 hK0 hK q5
  rw [hm1, hm2] at HCUT ⊢
  rw [hm1] at x11 HX1
  rw [hm2] at x21 HX2
  obtain ⟨C1, hC1⟩ : ∃ C, (extCells l1 ++ extCells l2).take (K * 4) = C := ⟨_, rfl⟩
  obtain ⟨C2, hC2⟩ : ∃ C, (extCells l1 ++ extCells l2).drop (K * 4) = C := ⟨_, rfl⟩
  rw [hC1, hC2] at HCUT HEND
  obtain ⟨L1, hL1⟩ : ∃ L, (l1 ++ l2).take K = L := ⟨_, rfl⟩
  obtain ⟨L2, hL2⟩ : ∃ L, (l1 ++ l2).drop K = L := ⟨_, rfl⟩
  rw [hL1, hL2] at HEND ⊢
  obtain ⟨⟨y10, y11⟩, f1⟩ : (w2.cell? ⟨b1, 0, none⟩ = some (.int .i64 (-1)) ∧ w2.cell? ⟨b1, 1, none⟩ = some (.slice (some ⟨g1, 0, none⟩) m1 c1)) ∧ w2.frozen? ⟨b1, 1, none⟩ = false := ⟨⟨HX1.out.cell 0, HX1.out.cell 1⟩, HX1.out.fz 1⟩
  obtain ⟨⟨y20, y21⟩, f2⟩ : (w2.cell? ⟨b2, 0, none⟩ = some (.int .i64 (-1)) ∧ w2.cell? ⟨b2, 1, none⟩ = some (.slice (some ⟨g2, 0, none⟩) m2 c2)) ∧ w2.frozen? ⟨b2, 1, none⟩ = false := ⟨⟨HX2.out.cell 0, HX2.out.cell 1⟩, HX2.out.fz 1⟩
  have HF5 : Hid (∀ w5, Below w2.heap.size w2 w5 → (w5.cell? ⟨b1, 1, none⟩ = some (.slice (some ⟨g1, 0, none⟩) m1 c1) ∧ w5.frozen? ⟨b1, 1, none⟩ = false) ∧ w5.cell? ⟨b2, 1, none⟩ = some (.slice (some ⟨g2, 0, none⟩) m2 c2) ∧ w5.frozen? ⟨b2, 1, none⟩ = false) := fun w5 hbb =>
    ⟨⟨below_c hbb (HX1.out.cell 1), below_f hbb (HX1.out.cell 1) (HX1.out.fz 1)⟩, below_c hbb (HX2.out.cell 1), below_f hbb (HX2.out.cell 1) (HX2.out.fz 1)⟩
  clear hC1 hC2 hL1 hL2 hm1 hm2 hr1 hr2 h1 h2 hK hm hg1 hg2
  show Calls Tryz.prog 149 #[.iface 134 (.pointer (some ⟨b1, 0, none⟩)), .iface 134 (.pointer (some ⟨b2, 0, none⟩)), .int .i64 K] w _
  go_enter Tryz.func149, Tryz.ntmps149
  go_wp2_with fail
  refine (HWH.out b1).mono ?_
  rintro e w' ⟨rfl, rfl⟩
  go_wp2_with fail
  refine (HWH.out b2).mono ?_
  rintro e w' ⟨rfl, rfl⟩
  go_wp2_with fail
  go_region_law (go_simp; go_at_call 167; refine (HCUT.out _ (Below.drew (Below.refl _ _))).mono ?_; rintro e w5 ⟨v1, v2, rfl, ho1, ho2, hne, hb5⟩; obtain ⟨⟨r1, s1⟩, r2, s2⟩ := HF5.out _ hb5; obtain ⟨A1, d1, e1⟩ := own_slice ho1; subst e1; obtain ⟨A2, d2, e2⟩ := own_slice ho2; subst e2; have HO1 := Lib.hid ho1; have HO2 := Lib.hid ho2; have HNE := Lib.hid hne; have HB5 := Lib.hid hb5; clear ho1 ho2 hne hb5)
  all_goals go_wp2_with fail
  all_goals go_end0
  all_goals refine ⟨rfl, HEND.out w5 _ _ _ HB5.out HO1.out HO2.out HNE.out ?_⟩
  all_goals first | exact .inl rfl | exact .inr rfl
end Go.Proofs.YtneammhkgmkkfaaGreat.tr
