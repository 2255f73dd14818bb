/- The document's together, Joined (scoriaref07), together (scoriaref10). -/
import Derived.Test.YtneammhkgmkkfaaGreatTxE
import Derived.Test.YtneammhkgmkkfaaGreatTxC
import Derived.Test.YtneammhkgmkkfaaGreatTrMg
import Derived.Test.YtneammhkgmkkfaaGreatTyF
namespace Go.Proofs.YtneammhkgmkkfaaGreat.tr
open Go.RowKit Go.Proofs.YtneammhkgmkkfaaGreat.er
set_option linter.unusedVariables false
set_option linter.unusedSimpArgs false

set_option maxHeartbeats 4000000 in
set_option maxRecDepth 100000 in
theorem rtog_any (a b : Ext) (w : World) (ha : oneB a = true) (hb : oneB b = true) : Calls Tryz.prog 140 #[a.val, b.val] w fun x w' => x = .returned (.bool (rTog a b)) ∧ Below w.heap.size w w' := by
  obtain ⟨a1, a2, a3, a4⟩ := one_spec ha
  obtain ⟨b1, b2, b3, b4⟩ := one_spec hb
  obtain ⟨f, n, k, t⟩ := a
  obtain ⟨f', n', k', t'⟩ := b
  simp only at a1 a2 a3 a4 b1 b2 b3 b4
  have HB1 := Lib.hid (((Below.refl w.heap.size w).alloc (Nat.le_refl _) (.cells #[.int .i64 f, .int .i64 n, .int .i64 k, .int .i64 t] 49)).alloc (by simp) (.cells #[.int .i64 f', .int .i64 n', .int .i64 k', .int .i64 t'] 49))
  have hw1 : wrap64 (f + n) = f + n := by unfold wrap64; omega
  have hw2 : wrap64 (t + n) = t + n := by unfold wrap64; omega
  have HR : Hid (rTog ⟨f, n, k, t⟩ ⟨f', n', k', t'⟩ = (decide (f' = f + n) && decide (k = k') && (decide (k = 1) || decide (t' = t + n)))) := rfl
  show Calls Tryz.prog 140 #[.agg #[.int .i64 f, .int .i64 n, .int .i64 k, .int .i64 t], .agg #[.int .i64 f', .int .i64 n', .int .i64 k', .int .i64 t']] w _
  clear ha hb a4 b4
  by_cases h1 : f' = f + n
  · have h1' : (f' == f + n) = true := by simpa using h1
    have h1n : (f' != f + n) = false := by simpa using h1
    by_cases h2 : k = k'
    · have h2' : (k == k') = true := by simpa using h2
      have h2n : (k != k') = false := by simpa using h2
      by_cases h3 : k = 1
      · have h3' : (k == 1) = true := by simpa using h3
        have HRR : Hid (rTog ⟨f, n, k, t⟩ ⟨f', n', k', t'⟩ = true) := by show _ = _; rw [HR.out]; simp [h1, h2, h3]; omega
        clear h1 h2 h3
        go_enter Tryz.func140, Tryz.ntmps140
        go_wp2_with fail
        go_ret
        exact ⟨by rw [HRR.out]; rfl, HB1.out⟩
      · have h3' : (k == 1) = false := by simpa using h3
        have HRR : Hid (rTog ⟨f, n, k, t⟩ ⟨f', n', k', t'⟩ = (t' == t + n)) := by
          show _ = _
          have h4 : ¬ k' = 1 := by omega
          rw [HR.out, h2, h1]
          simp [h4]
          rfl
        clear h1 h2 h3
        go_enter Tryz.func140, Tryz.ntmps140
        go_wp2_with fail
        go_ret
        exact ⟨by rw [HRR.out]; rfl, HB1.out⟩
    · have h2' : (k == k') = false := by simpa using h2
      have h2n : (k != k') = true := by simpa using h2
      have HRR : Hid (rTog ⟨f, n, k, t⟩ ⟨f', n', k', t'⟩ = false) := by show _ = _; rw [HR.out]; simp [h2]
      clear h1 h2
      go_enter Tryz.func140, Tryz.ntmps140
      go_wp2_with fail
      go_ret
      exact ⟨by rw [HRR.out]; rfl, HB1.out⟩
  · have h1' : (f' == f + n) = false := by simpa using h1
    have h1n : (f' != f + n) = true := by simpa using h1
    have HRR : Hid (rTog ⟨f, n, k, t⟩ ⟨f', n', k', t'⟩ = false) := by show _ = _; rw [HR.out]; simp [h1]
    clear h1
    go_enter Tryz.func140, Tryz.ntmps140
    go_wp2_with fail
    go_ret
    exact ⟨by rw [HRR.out]; rfl, HB1.out⟩
set_option maxHeartbeats 4000000 in
set_option maxRecDepth 100000 in
theorem joined_any (a b : Ext) (w : World) (ha : oneB a = true) (hb : oneB b = true) : Calls Tryz.prog 107 #[a.val, b.val] w fun x w' => (∃ c0 c1 c2 c3 : Int, x = .returned (.tuple #[.agg #[.int .i64 c0, .int .i64 c1, .int .i64 c2, .int .i64 c3], .bool (rTog a b)])) ∧ Below w.heap.size w w' := by
  have HO1 : Hid (∀ wq, Calls Tryz.prog 33 #[a.val] wq fun x w' => x = .returned (.bool true) ∧ Below wq.heap.size wq w') := fun wq => by have := rone_any a wq; rw [ha] at this; exact this
  have HO2 : Hid (∀ wq, Calls Tryz.prog 33 #[b.val] wq fun x w' => x = .returned (.bool true) ∧ Below wq.heap.size wq w') := fun wq => by have := rone_any b wq; rw [hb] at this; exact this
  have HTG := Lib.hid (fun wq => rtog_any a b wq ha hb)
  obtain ⟨a1, a2, a3, a4⟩ := one_spec ha
  obtain ⟨b1, b2, b3, b4⟩ := one_spec hb
  obtain ⟨f, n, k, t⟩ := a
  obtain ⟨f', n', k', t'⟩ := b
  simp only at a1 a2 a3 a4 b1 b2 b3 b4
  simp only [Ext.val] at HO1 HO2 HTG
  have hw1 : wrap64 (n + n') = n + n' := by unfold wrap64; omega
  obtain ⟨w3, hw3⟩ : ∃ w3, ((w.alloc (.cells #[.int .i64 f, .int .i64 n, .int .i64 k, .int .i64 t] 49)).alloc (.cells #[.int .i64 f', .int .i64 n', .int .i64 k', .int .i64 t'] 49)).alloc (.cells #[.int .i64 0, .int .i64 0, .int .i64 0, .int .i64 0] 49) = w3 := ⟨_, rfl⟩
  have HB3 : Hid (Below w.heap.size w w3) := by show Below _ _ _; rw [← hw3]; exact ((((Below.refl w.heap.size w).alloc (Nat.le_refl _) _).alloc (by simp) _).alloc (by simp <;> omega) _)
  have hx : Whole w3 w.heap.size 49 #[.int .i64 f, .int .i64 n, .int .i64 k, .int .i64 t] := by rw [← hw3]; exact ((Whole.new w _ _).alloc _).alloc _
  have hy : Whole w3 (w.heap.size + 1) 49 #[.int .i64 f', .int .i64 n', .int .i64 k', .int .i64 t'] := by rw [← hw3]; exact (Whole.new' _ _ _ _ (by simp)).alloc _
  have hz : Whole w3 (w.heap.size + 2) 49 #[.int .i64 0, .int .i64 0, .int .i64 0, .int .i64 0] := by rw [← hw3]; exact Whole.new' _ _ _ _ (by simp)
  have HXX : Hid (∀ wq, Below w3.heap.size w3 wq → (wq.cell? ⟨w.heap.size, 0, none⟩ = some (.int .i64 f) ∧ wq.cell? ⟨w.heap.size, 1, none⟩ = some (.int .i64 n) ∧ wq.cell? ⟨w.heap.size, 2, none⟩ = some (.int .i64 k) ∧ wq.cell? ⟨w.heap.size, 3, none⟩ = some (.int .i64 t)) ∧ (wq.cell? ⟨w.heap.size + 1, 0, none⟩ = some (.int .i64 f') ∧ wq.cell? ⟨w.heap.size + 1, 1, none⟩ = some (.int .i64 n') ∧ wq.cell? ⟨w.heap.size + 1, 2, none⟩ = some (.int .i64 k') ∧ wq.cell? ⟨w.heap.size + 1, 3, none⟩ = some (.int .i64 t')) ∧ Whole wq (w.heap.size + 2) 49 #[.int .i64 0, .int .i64 0, .int .i64 0, .int .i64 0] ∧ Below w.heap.size w wq) := fun wq hbq => ⟨(tmp4 (hx.below hbq hx.lt)).1, (tmp4 (hy.below hbq hy.lt)).1, hz.below hbq hz.lt, bel_tr HB3.out hbq⟩
  obtain ⟨RT, hRT⟩ : ∃ RT, rTog ⟨f, n, k, t⟩ ⟨f', n', k', t'⟩ = RT := ⟨_, rfl⟩
  rw [hRT] at HTG ⊢
  have hs3 : w3.heap.size = w.heap.size + 3 := by rw [← hw3]; simp
  obtain ⟨⟨x0, x1, x2, x3⟩, ⟨y0, y1, y2, y3⟩, _⟩ := HXX.out w3 (Below.refl _ _)
  have HS3 := Lib.hid hs3
  clear hs3 hRT a4 b4 ha hb hx hy hz
  show Calls Tryz.prog 107 #[.agg #[.int .i64 f, .int .i64 n, .int .i64 k, .int .i64 t], .agg #[.int .i64 f', .int .i64 n', .int .i64 k', .int .i64 t']] w _
  go_enter Tryz.func107, Tryz.ntmps107
  go_wp2_with fail
  with_reducible refine (HO1.out _).mono ?_
  rintro e w4 ⟨rfl, hb4⟩
  have HB4 := Lib.hid hb4
  clear x0 x1 x2 x3 y0 y1 y2 y3
  obtain ⟨⟨x0, x1, x2, x3⟩, ⟨y0, y1, y2, y3⟩, _⟩ := HXX.out _ hb4
  clear hb4
  go_wp2_with fail
  with_reducible refine (HO2.out _).mono ?_
  rintro e w5 ⟨rfl, hb5⟩
  have HB5 := Lib.hid (bel_tr HB4.out hb5)
  clear x0 x1 x2 x3 y0 y1 y2 y3 hb5
  obtain ⟨⟨x0, x1, x2, x3⟩, ⟨y0, y1, y2, y3⟩, _⟩ := HXX.out _ HB5.out
  go_wp2_with fail
  with_reducible refine (HTG.out _).mono ?_
  rintro e w6 ⟨rfl, hb6⟩
  have HB6 := Lib.hid (bel_tr HB5.out hb6)
  clear x0 x1 x2 x3 y0 y1 y2 y3 hb6
  obtain ⟨⟨x0, x1, x2, x3⟩, ⟨y0, y1, y2, y3⟩, hz6, hbw⟩ := HXX.out _ HB6.out
  have HZ6 := Lib.hid hz6
  have HBW := Lib.hid hbw
  have hs6 : w.heap.size + 3 ≤ w6.heap.size := by have := HB6.out.size; rw [HS3.out] at this; exact this
  obtain ⟨⟨z0, z1, z2, z3⟩, z4, z5, z6, z7⟩ := tmp4 hz6
  clear hz6 hbw
  cases RT
  · go_wp2_with fail
    obtain ⟨⟨r0, r1, r2, r3⟩, _⟩ := tmp4 (Whole.set4 HZ6.out (.int .i64 0) (.int .i64 0) (.int .i64 0) (.int .i64 0))
    refine bodyPost_ret (v := .tuple #[.agg #[.int .i64 0, .int .i64 0, .int .i64 0, .int .i64 0], .bool false]) (by simp [results, Tryz.results107, go_sem, r0, r1, r2, r3]) rfl ⟨⟨_, _, _, _, rfl⟩, ?_⟩
    repeat (first | with_reducible exact HBW.out | refine Below.setCell ?_ (by first | omega | (simp <;> omega)) _)
  · go_wp2_with fail
    obtain ⟨⟨r0, r1, r2, r3⟩, _⟩ := tmp4 (Whole.set4 HZ6.out (.int .i64 f) (.int .i64 (n + n')) (.int .i64 k) (.int .i64 t))
    refine bodyPost_ret (v := .tuple #[.agg #[.int .i64 f, .int .i64 (n + n'), .int .i64 k, .int .i64 t], .bool true]) (by simp [results, Tryz.results107, go_sem, r0, r1, r2, r3]) rfl ⟨⟨_, _, _, _, rfl⟩, ?_⟩
    repeat (first | with_reducible exact HBW.out | refine Below.setCell ?_ (by first | omega | (simp <;> omega)) _)
set_option maxHeartbeats 4000000 in
set_option maxRecDepth 100000 in
theorem rtog2_any (a b : Ext) (w : World) (ha : oneB a = true) (hb : oneB b = true) : Calls Tryz.prog 77 #[a.val, b.val] w fun x w' => x = .returned (.bool (tog a b)) ∧ Below w.heap.size w w' := by
  have HJ := Lib.hid (fun wq => joined_any a b wq ha hb)
  have hrt := rTog_eq ha hb
  obtain ⟨f, n, k, t⟩ := a
  obtain ⟨f', n', k', t'⟩ := b
  simp only [Ext.val] at HJ
  rw [hrt] at HJ
  obtain ⟨RT, hRT⟩ : ∃ RT, tog ⟨f, n, k, t⟩ ⟨f', n', k', t'⟩ = RT := ⟨_, rfl⟩
  rw [hRT] at HJ ⊢
  have HB2 := Lib.hid (((Below.refl w.heap.size w).alloc (Nat.le_refl _) (.cells #[.int .i64 f, .int .i64 n, .int .i64 k, .int .i64 t] 49)).alloc (by simp) (.cells #[.int .i64 f', .int .i64 n', .int .i64 k', .int .i64 t'] 49))
  clear hRT hrt ha hb
  show Calls Tryz.prog 77 #[.agg #[.int .i64 f, .int .i64 n, .int .i64 k, .int .i64 t], .agg #[.int .i64 f', .int .i64 n', .int .i64 k', .int .i64 t']] w _
  go_enter Tryz.func77, Tryz.ntmps77
  go_wp2_with fail
  with_reducible refine (HJ.out _).mono ?_
  rintro e w4 ⟨⟨c0, c1, c2, c3, rfl⟩, hb4⟩
  have HB4 := Lib.hid (bel_tr HB2.out hb4)
  clear hb4
  go_wp2_with fail
  go_ret
  exact ⟨rfl, HB4.out.alloc HB4.out.size _⟩
end Go.Proofs.YtneammhkgmkkfaaGreat.tr
