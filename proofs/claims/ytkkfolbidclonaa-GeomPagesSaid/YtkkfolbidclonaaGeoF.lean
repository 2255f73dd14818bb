/- the walks of GeomPages and GeomEach -/
import Derived.Test.YtkkfolbidclonaaGeoE
namespace Go.Proofs.Ytkkfolbidclonaa.geo
open Go.RowKit
set_option linter.unusedVariables false

theorem keep2 {w' w'' : World} {a0 a1 : Addr} {v0 v1 : Value} (hb : Below w'.heap.size w' w'') (h : w'.cell? a0 = some v0 ∧ w'.cell? a1 = some v1) :
    w''.cell? a0 = some v0 ∧ w''.cell? a1 = some v1 := ⟨below_keep hb h.1, below_keep hb h.2⟩

theorem in_block (B P g : Int) (h1 : 16 ≤ B) (h3 : 8 ≤ P) (h5 : 0 ≤ g) (h6 : g < B * P) : 0 ≤ g / P ∧ g / P < B ∧ g / P * P ≤ g ∧ g < g / P * P + P :=
  ⟨Int.ediv_nonneg h5 (by omega), Int.ediv_lt_of_lt_mul (by omega) h6, Int.ediv_mul_le g (by omega), by
    have := Int.lt_ediv_add_one_mul_self g (b := P) (by omega)
    rw [Int.add_mul] at this; omega⟩
theorem back_block (P k : Int) (h3 : 8 ≤ P) : k * P / P = k := Int.mul_ediv_cancel k (by omega)
theorem first_in_range (B P k : Int) (h3 : 8 ≤ P) (h5 : 0 ≤ k) (h6 : k < B) : 0 ≤ k * P ∧ k * P < B * P :=
  ⟨Int.mul_nonneg h5 (by omega), Int.mul_lt_mul_of_pos_right h6 (by omega)⟩


set_option maxHeartbeats 2000000 in
theorem pages_no (B P g k : Int) (w : World) (h : B < 16 ∨ 64 < B ∨ P < 8 ∨ 32 < P) :
    Calls Try.prog 7 #[.agg #[.int .i64 B, .int .i64 P], .int .i64 g, .int .i64 k] w fun e w' => e = .returned (.bool true) ∧ Below w.heap.size w w' := by
  have H := Lib.hid h
  clear h
  go_enter Try.func7, Try.ntmps7
  go_wp2
  go_region_held3 (fun w' => w'.cell? ⟨w.heap.size, 0, none⟩ = some (.int .i64 B) ∧ w'.cell? ⟨w.heap.size, 1, none⟩ = some (.int .i64 P)) (first | (exact keep2 (by assumption) (by assumption)) | (simp))
    (first | (go_at_call 17; refine (block_none _ _ _ _ H.out).mono ?_; rintro e w1 ⟨rfl, hb1⟩) | (go_at_call 18; refine (first_none _ _ _ _ H.out).mono ?_; rintro e w2 ⟨rfl, hb2⟩))
  obtain ⟨q0, q1⟩ : w2.cell? ⟨w.heap.size, 0, none⟩ = some (.int .i64 B) ∧ w2.cell? ⟨w.heap.size, 1, none⟩ = some (.int .i64 P) := by assumption
  have hz1 := hb1.size
  have hz2 := hb2.size
  simp at hz1 hz2
  go_wp2_with (first | (go_at_call 10; refine (may_no _ _ _ H.out).mono ?_; rintro e w' ⟨rfl, rfl⟩) | (go_at_call 11; refine (awake_yes _).mono ?_; rintro e w3 ⟨rfl, hb3⟩))
  all_goals go_ret
  all_goals refine ⟨rfl, ?_⟩
  all_goals repeat (first | exact Below.refl _ _ | refine Below.trans ?_ (hb3.mono (by omega)) | refine Below.trans ?_ (hb2.mono (by omega)) | refine Below.trans ?_ (hb1.mono (by simp)) | refine Below.drew ?_ | refine Below.alloc ?_ (by first | (simp; done) | (simp; omega)) _)

set_option maxHeartbeats 2000000 in
theorem pages_out_out (B P g k : Int) (w : World) (h1 : 16 ≤ B) (h2 : B ≤ 64) (h3 : 8 ≤ P) (h4 : P ≤ 32) (hg : g < 0 ∨ B * P ≤ g) (hk : k < 0 ∨ B ≤ k) :
    Calls Try.prog 7 #[.agg #[.int .i64 B, .int .i64 P], .int .i64 g, .int .i64 k] w fun e w' => e = .returned (.bool true) ∧ Below w.heap.size w w' := by
  obtain ⟨a1, a2⟩ := prod_bd B P h1 h2 h3 h4
  go_enter Try.func7, Try.ntmps7
  go_wp2
  go_region_held3 (fun w' => w'.cell? ⟨w.heap.size, 0, none⟩ = some (.int .i64 B) ∧ w'.cell? ⟨w.heap.size, 1, none⟩ = some (.int .i64 P)) (first | (exact keep2 (by assumption) (by assumption)) | (simp))
    (first | (go_at_call 17; refine (block_out _ _ _ _ h1 h2 h3 h4 hg).mono ?_; rintro e w1 ⟨rfl, hb1⟩) | (go_at_call 18; refine (first_out _ _ _ _ h1 h2 h3 h4 hk).mono ?_; rintro e w2 ⟨rfl, hb2⟩))
  obtain ⟨q0, q1⟩ : w2.cell? ⟨w.heap.size, 0, none⟩ = some (.int .i64 B) ∧ w2.cell? ⟨w.heap.size, 1, none⟩ = some (.int .i64 P) := by assumption
  have hz1 := hb1.size
  have hz2 := hb2.size
  simp at hz1 hz2
  go_wp2_with (first | (go_at_call 10; refine (may_yes _ _ _ h1 h2 h3 h4).mono ?_; rintro e w' ⟨rfl, rfl⟩) | (go_at_call 11; refine (awake_yes _).mono ?_; rintro e w3 ⟨rfl, hb3⟩; have hz3 := hb3.size; have p0 := below_keep hb3 q0; have p1 := below_keep hb3 q1))
  all_goals go_ret
  all_goals refine ⟨rfl, ?_⟩
  all_goals repeat (first | exact Below.refl _ _ | refine Below.trans ?_ (hb3.mono (by omega)) | refine Below.trans ?_ (hb2.mono (by omega)) | refine Below.trans ?_ (hb1.mono (by simp)) | refine Below.drew ?_ | refine Below.alloc ?_ (by first | (simp; done) | (simp; omega)) _)

set_option maxHeartbeats 2000000 in
theorem pages_out_in (B P g k : Int) (w : World) (h1 : 16 ≤ B) (h2 : B ≤ 64) (h3 : 8 ≤ P) (h4 : P ≤ 32) (hg : g < 0 ∨ B * P ≤ g) (k1 : 0 ≤ k) (k2 : k < B) :
    Calls Try.prog 7 #[.agg #[.int .i64 B, .int .i64 P], .int .i64 g, .int .i64 k] w fun e w' => e = .returned (.bool true) ∧ Below w.heap.size w w' := by
  obtain ⟨a1, a2⟩ := prod_bd B P h1 h2 h3 h4
  obtain ⟨f1, f2⟩ := first_in_range B P k h3 k1 k2
  have bb := Lib.hid (back_block P k h3)
  go_enter Try.func7, Try.ntmps7
  go_wp2
  go_region_held3 (fun w' => w'.cell? ⟨w.heap.size, 0, none⟩ = some (.int .i64 B) ∧ w'.cell? ⟨w.heap.size, 1, none⟩ = some (.int .i64 P)) (first | (exact keep2 (by assumption) (by assumption)) | (simp))
    (first | (go_at_call 17; refine (block_out _ _ _ _ h1 h2 h3 h4 hg).mono ?_; rintro e w1 ⟨rfl, hb1⟩) | (go_at_call 18; refine (first_in _ _ _ _ h1 h2 h3 h4 k1 k2).mono ?_; rintro e w2 ⟨rfl, hb2⟩))
  obtain ⟨q0, q1⟩ : w2.cell? ⟨w.heap.size, 0, none⟩ = some (.int .i64 B) ∧ w2.cell? ⟨w.heap.size, 1, none⟩ = some (.int .i64 P) := by assumption
  have hz1 := hb1.size
  have hz2 := hb2.size
  simp at hz1 hz2
  go_wp2_with (first | (go_at_call 10; refine (may_yes _ _ _ h1 h2 h3 h4).mono ?_; rintro e w' ⟨rfl, rfl⟩) | (go_at_call 11; refine (awake_yes _).mono ?_; rintro e w3 ⟨rfl, hb3⟩; have hz3 := hb3.size; have p0 := below_keep hb3 q0; have p1 := below_keep hb3 q1) | (go_at_call 17; refine (block_in _ _ _ _ h1 h2 h3 h4 f1 f2).mono ?_; rw [bb.out]; rintro e w4 ⟨rfl, hb4⟩))
  all_goals go_ret
  all_goals refine ⟨rfl, ?_⟩
  all_goals repeat (first | exact Below.refl _ _ | refine Below.trans ?_ (hb4.mono (by omega)) | refine Below.trans ?_ (hb3.mono (by omega)) | refine Below.trans ?_ (hb2.mono (by omega)) | refine Below.trans ?_ (hb1.mono (by simp)) | refine Below.drew ?_ | refine Below.alloc ?_ (by first | (simp; done) | (simp; omega)) _)

set_option maxHeartbeats 2000000 in
theorem pages_in_out (B P g k : Int) (w : World) (h1 : 16 ≤ B) (h2 : B ≤ 64) (h3 : 8 ≤ P) (h4 : P ≤ 32) (g1 : 0 ≤ g) (g2 : g < B * P) (hk : k < 0 ∨ B ≤ k) :
    Calls Try.prog 7 #[.agg #[.int .i64 B, .int .i64 P], .int .i64 g, .int .i64 k] w fun e w' => e = .returned (.bool true) ∧ Below w.heap.size w w' := by
  obtain ⟨a1, a2⟩ := prod_bd B P h1 h2 h3 h4
  obtain ⟨i1, i2, i3, i4⟩ := in_block B P g h1 h3 g1 g2
  go_enter Try.func7, Try.ntmps7
  go_wp2
  go_region_held3 (fun w' => w'.cell? ⟨w.heap.size, 0, none⟩ = some (.int .i64 B) ∧ w'.cell? ⟨w.heap.size, 1, none⟩ = some (.int .i64 P)) (first | (exact keep2 (by assumption) (by assumption)) | (simp))
    (first | (go_at_call 17; refine (block_in _ _ _ _ h1 h2 h3 h4 g1 g2).mono ?_; rintro e w1 ⟨rfl, hb1⟩) | (go_at_call 18; refine (first_out _ _ _ _ h1 h2 h3 h4 hk).mono ?_; rintro e w2 ⟨rfl, hb2⟩))
  obtain ⟨q0, q1⟩ : w2.cell? ⟨w.heap.size, 0, none⟩ = some (.int .i64 B) ∧ w2.cell? ⟨w.heap.size, 1, none⟩ = some (.int .i64 P) := by assumption
  have hz1 := hb1.size
  have hz2 := hb2.size
  simp at hz1 hz2
  go_wp2_with (first | (go_at_call 10; refine (may_yes _ _ _ h1 h2 h3 h4).mono ?_; rintro e w' ⟨rfl, rfl⟩) | (go_at_call 11; refine (awake_yes _).mono ?_; rintro e w3 ⟨rfl, hb3⟩; have hz3 := hb3.size; have p0 := below_keep hb3 q0; have p1 := below_keep hb3 q1))
  all_goals go_ret
  all_goals refine ⟨rfl, ?_⟩
  all_goals repeat (first | exact Below.refl _ _ | refine Below.trans ?_ (hb3.mono (by omega)) | refine Below.trans ?_ (hb2.mono (by omega)) | refine Below.trans ?_ (hb1.mono (by simp)) | refine Below.drew ?_ | refine Below.alloc ?_ (by first | (simp; done) | (simp; omega)) _)

set_option maxHeartbeats 2000000 in
theorem pages_in_in (B P g k : Int) (w : World) (h1 : 16 ≤ B) (h2 : B ≤ 64) (h3 : 8 ≤ P) (h4 : P ≤ 32) (g1 : 0 ≤ g) (g2 : g < B * P) (k1 : 0 ≤ k) (k2 : k < B) :
    Calls Try.prog 7 #[.agg #[.int .i64 B, .int .i64 P], .int .i64 g, .int .i64 k] w fun e w' => e = .returned (.bool true) ∧ Below w.heap.size w w' := by
  obtain ⟨a1, a2⟩ := prod_bd B P h1 h2 h3 h4
  obtain ⟨i1, i2, i3, i4⟩ := in_block B P g h1 h3 g1 g2
  obtain ⟨f1, f2⟩ := first_in_range B P k h3 k1 k2
  have bb := Lib.hid (back_block P k h3)
  go_enter Try.func7, Try.ntmps7
  go_wp2
  go_region_held3 (fun w' => w'.cell? ⟨w.heap.size, 0, none⟩ = some (.int .i64 B) ∧ w'.cell? ⟨w.heap.size, 1, none⟩ = some (.int .i64 P)) (first | (exact keep2 (by assumption) (by assumption)) | (simp))
    (first | (go_at_call 17; refine (block_in _ _ _ _ h1 h2 h3 h4 g1 g2).mono ?_; rintro e w1 ⟨rfl, hb1⟩) | (go_at_call 18; refine (first_in _ _ _ _ h1 h2 h3 h4 k1 k2).mono ?_; rintro e w2 ⟨rfl, hb2⟩))
  obtain ⟨q0, q1⟩ : w2.cell? ⟨w.heap.size, 0, none⟩ = some (.int .i64 B) ∧ w2.cell? ⟨w.heap.size, 1, none⟩ = some (.int .i64 P) := by assumption
  have hz1 := hb1.size
  have hz2 := hb2.size
  simp at hz1 hz2
  go_wp2_with (first | (go_at_call 10; refine (may_yes _ _ _ h1 h2 h3 h4).mono ?_; rintro e w' ⟨rfl, rfl⟩) | (go_at_call 11; refine (awake_yes _).mono ?_; rintro e w3 ⟨rfl, hb3⟩; have hz3 := hb3.size; have p0 := below_keep hb3 q0; have p1 := below_keep hb3 q1) | (go_at_call 17; refine (block_in _ _ _ _ h1 h2 h3 h4 f1 f2).mono ?_; rw [bb.out]; rintro e w4 ⟨rfl, hb4⟩))
  all_goals go_ret
  all_goals refine ⟨rfl, ?_⟩
  all_goals repeat (first | exact Below.refl _ _ | refine Below.trans ?_ (hb4.mono (by omega)) | refine Below.trans ?_ (hb3.mono (by omega)) | refine Below.trans ?_ (hb2.mono (by omega)) | refine Below.trans ?_ (hb1.mono (by simp)) | refine Below.drew ?_ | refine Below.alloc ?_ (by first | (simp; done) | (simp; omega)) _)

theorem pages_walk (B P g k : Int) (w : World) : Calls Try.prog 7 #[.agg #[.int .i64 B, .int .i64 P], .int .i64 g, .int .i64 k] w fun e w' => e = .returned (.bool true) ∧ Below w.heap.size w w' := by
  by_cases h : B < 16 ∨ 64 < B ∨ P < 8 ∨ 32 < P
  · exact pages_no B P g k w h
  by_cases hg : g < 0 ∨ B * P ≤ g <;> by_cases hk : k < 0 ∨ B ≤ k
  · exact pages_out_out B P g k w (by omega) (by omega) (by omega) (by omega) hg hk
  · exact pages_out_in B P g k w (by omega) (by omega) (by omega) (by omega) hg (by omega) (by omega)
  · exact pages_in_out B P g k w (by omega) (by omega) (by omega) (by omega) (by omega) (by omega) hk
  · exact pages_in_in B P g k w (by omega) (by omega) (by omega) (by omega) (by omega) (by omega) (by omega) (by omega)
end Go.Proofs.Ytkkfolbidclonaa.geo
