/- the walks of the other laws of layer 6 -/
import Derived.Test.YtkkfolbidclonaaGeoD
namespace Go.Proofs.Ytkkfolbidclonaa.geo
open Go.RowKit
set_option linter.unusedVariables false

theorem cap_rises (A P B Q : Int) (a1 : 16 ≤ A) (a3 : 8 ≤ P) (h1 : A ≤ B) (h2 : P ≤ Q) (h4 : Q ≤ 32) (b2 : B ≤ 64) : capZ A P ≤ capZ B Q := by
  unfold capZ
  have e1 : 0 ≤ A - A / 8 - 4 := by omega
  have e2 : A - A / 8 - 4 ≤ B - B / 8 - 4 := by omega
  have : P * (A - A / 8 - 4) ≤ Q * (B - B / 8 - 4) := by
    calc P * (A - A / 8 - 4) ≤ Q * (A - A / 8 - 4) := Int.mul_le_mul_of_nonneg_right h2 e1
      _ ≤ Q * (B - B / 8 - 4) := Int.mul_le_mul_of_nonneg_left e2 (by omega)
  omega
theorem prod_rises (A P B Q : Int) (a1 : 16 ≤ A) (a3 : 8 ≤ P) (h1 : A ≤ B) (h2 : P ≤ Q) : A * P ≤ B * Q := by
  calc A * P ≤ B * P := Int.mul_le_mul_of_nonneg_right h1 (by omega)
    _ ≤ B * Q := Int.mul_le_mul_of_nonneg_left h2 (by omega)

theorem check_bel (B P : Int) (w : World) (h1 : 16 ≤ B) (h2 : B ≤ 64) (h3 : 8 ≤ P) (h4 : P ≤ 32) :
    Calls Try.prog 12 #[.agg #[.int .i64 B, .int .i64 P]] w fun e w' => e = .returned (.int .i64 0) ∧ Below w.heap.size w w' :=
  (check_yes B P w h1 h2 h3 h4).mono fun e w' ⟨he, hw⟩ => ⟨he, hw ▸ (Below.refl _ _).alloc (Nat.le_refl _) _⟩

set_option maxHeartbeats 1000000 in
theorem plans_no (B P : Int) (w : World) (h : B < 16 ∨ 64 < B ∨ P < 8 ∨ 32 < P) : Calls Try.prog 3 #[.agg #[.int .i64 B, .int .i64 P]] w fun e w' => e = .returned (.bool true) ∧ Below w.heap.size w w' := by
  have H := Lib.hid h
  clear h
  go_enter Try.func3, Try.ntmps3
  go_wp2_with (first | (go_at_call 9; refine (plan_no _ _ _ H.out).mono ?_; rintro e w1 ⟨rfl, hb1⟩; obtain ⟨hc1, hf1⟩ := bcell hb1; have hz1 := hb1.size; simp at hz1; have hy1 : w.heap.size < w1.heap.size := (by omega)) | (go_at_call 12; refine (check_no _ _ _ H.out).mono ?_; rintro e w' ⟨rfl, rfl⟩) | (go_at_call 11; refine (awake_yes _).mono ?_; rintro e w2 ⟨rfl, hb2⟩; obtain ⟨hc2, hf2⟩ := bcell hb2; have hz2 := hb2.size; simp at hz2; have hy2 : w.heap.size < w2.heap.size := (by omega); have hx2 : w1.heap.size < w2.heap.size := (by omega)) | (go_at_call 10; refine (may_no _ _ _ H.out).mono ?_; rintro e w' ⟨rfl, rfl⟩) | (go_at_call 13; refine (nodes_no _ _ _ H.out).mono ?_; rintro e w3 ⟨rfl, hb3⟩))
  go_ret
  refine ⟨rfl, ?_⟩
  have hz2 := hb2.size
  have hz3 := hb3.size
  simp at hz2 hz3
  repeat (first | exact Below.refl _ _ | refine Below.trans ?_ (hb3.mono (by simp; omega)) | refine Below.alloc ?_ (by omega) _ | refine Below.trans ?_ (hb2.mono (by simp; omega)) | refine Below.trans ?_ (hb1.mono (by simp)) | refine Below.alloc ?_ (by simp) _)

set_option maxHeartbeats 2000000 in
theorem plans_yes (B P : Int) (w : World) (h1 : 16 ≤ B) (h2 : B ≤ 64) (h3 : 8 ≤ P) (h4 : P ≤ 32) : Calls Try.prog 3 #[.agg #[.int .i64 B, .int .i64 P]] w fun e w' => e = .returned (.bool true) ∧ Below w.heap.size w w' := by
  go_enter Try.func3, Try.ntmps3
  go_wp2_with (first | (go_at_call 9; refine (plan_yes _ _ _ h1 h2 h3 h4).mono ?_; rintro e w1 ⟨rfl, hb1⟩; obtain ⟨hc1, hf1⟩ := bcell hb1; have hz1 := hb1.size; simp at hz1; have hy1 : w.heap.size < w1.heap.size := (by omega)) | (go_at_call 10; refine (may_yes _ _ _ h1 h2 h3 h4).mono ?_; rintro e w' ⟨rfl, rfl⟩))
  go_region_held3 (fun w' => w'.cell? ⟨w.heap.size, 0, none⟩ = some (.int .i64 B) ∧ w'.cell? ⟨w.heap.size, 1, none⟩ = some (.int .i64 P) ∧ w'.cell? ⟨w1.heap.size, 0, none⟩ = some (.int .i64 (B * P)) ∧ w'.cell? ⟨w1.heap.size, 1, none⟩ = some (.int .i64 (B / 8)) ∧ w'.cell? ⟨w1.heap.size, 2, none⟩ = some (.int .i64 (capZ B P)) ∧ w'.cell? ⟨w1.heap.size, 3, none⟩ = some (.int .i64 (lowZ B P)) ∧ w'.cell? ⟨w1.heap.size, 4, none⟩ = some (.int .i64 (lowZ B P + 1))) (first | (exact keep7 (by assumption) (by assumption)) | (simp [World.cell?_alloc_past, hy1, hc1]))
    (first | (go_at_call 11; refine (awake_yes _).mono ?_; rintro e w2 ⟨rfl, hb2⟩; have hz2 := hb2.size; simp at hz2) | (go_at_call 12; refine (check_bel _ _ _ h1 h2 h3 h4).mono ?_; rintro e w3 ⟨rfl, hb3⟩) | (go_at_call 14; refine (of_yes _ _ _ h1 h2 h3 h4).mono ?_; rintro e w4 ⟨rfl, hb4⟩) | (go_at_call 13; refine (nodes_yes _ _ _ h1 h2 h3 h4).mono ?_; rintro e w5 ⟨rfl, hb5⟩) | (go_at_call 15; refine (refnodes_yes _ _ _ h1 h2 h3 h4).mono ?_; rintro e w6 ⟨rfl, hb6⟩))
  go_wp2
  go_ret
  refine ⟨rfl, ?_⟩
  have hz3 := hb3.size
  have hz4 := hb4.size
  have hz5 := hb5.size
  repeat (first | exact Below.refl _ _ | refine Below.trans ?_ (hb6.mono (by omega)) | refine Below.trans ?_ (hb5.mono (by omega)) | refine Below.trans ?_ (hb4.mono (by omega)) | refine Below.trans ?_ (hb3.mono (by omega)) | refine Below.drew ?_ | refine Below.alloc ?_ (by omega) _ | refine Below.trans ?_ (hb2.mono (by simp; omega)) | refine Below.trans ?_ (hb1.mono (by simp)) | refine Below.alloc ?_ (by simp) _)

theorem plans_walk (B P : Int) (w : World) : Calls Try.prog 3 #[.agg #[.int .i64 B, .int .i64 P]] w fun e w' => e = .returned (.bool true) ∧ Below w.heap.size w w' := by
  by_cases h : B < 16 ∨ 64 < B ∨ P < 8 ∨ 32 < P
  · exact plans_no B P w h
  · exact plans_yes B P w (by omega) (by omega) (by omega) (by omega)

/-! ### GeomRises -/
theorem plan_any (B P : Int) (w : World) :
    Calls Try.prog 9 #[.agg #[.int .i64 B, .int .i64 P]] w fun e w' =>
      ∃ n0 n1 n2 n3 n4 c : Int, e = .returned (.tuple #[.agg #[.int .i64 n0, .int .i64 n1, .int .i64 n2, .int .i64 n3, .int .i64 n4], .int .i64 c]) ∧ Below w.heap.size w w' := by
  by_cases h : B < 16 ∨ 64 < B ∨ P < 8 ∨ 32 < P
  · exact (plan_no B P w h).mono fun e w' ⟨he, hb⟩ => ⟨_, _, _, _, _, _, he, hb⟩
  · exact (plan_yes B P w (by omega) (by omega) (by omega) (by omega)).mono fun e w' ⟨he, hb⟩ => ⟨_, _, _, _, _, _, he, hb⟩

set_option maxHeartbeats 2000000 in
theorem rises_no (A P B Q : Int) (w : World) (h : A < 16 ∨ 64 < A ∨ P < 8 ∨ 32 < P) :
    Calls Try.prog 6 #[.agg #[.int .i64 A, .int .i64 P], .agg #[.int .i64 B, .int .i64 Q]] w fun e w' => e = .returned (.bool true) ∧ Below w.heap.size w w' := by
  have H := Lib.hid h
  clear h
  go_enter Try.func6, Try.ntmps6
  go_wp2_with fail
  refine (plan_no _ _ _ H.out).mono ?_; rintro e w1 ⟨rfl, hb1⟩; obtain ⟨hc1, hf1⟩ := bcell hb1; have hz1 := hb1.size; simp at hz1; have hy1 : w.heap.size < w1.heap.size := (by omega); have hx1 : w.heap.size + 1 < w1.heap.size := (by omega)
  go_wp2_with fail
  refine (plan_any _ _ _).mono ?_; rintro e w2 ⟨n0, n1, n2, n3, n4, c, rfl, hb2⟩; obtain ⟨hc2, hf2⟩ := bcell hb2; have hz2 := hb2.size; simp at hz2; have hy2 : w.heap.size < w2.heap.size := (by omega); have hx2 : w.heap.size + 1 < w2.heap.size := (by omega); have hw2 : w1.heap.size < w2.heap.size := (by omega)
  go_wp2_with fail
  refine (awake_yes _).mono ?_; rintro e w3 ⟨rfl, hb3⟩
  go_wp2_with fail
  go_ret
  refine ⟨rfl, ?_⟩
  repeat (first | exact Below.refl _ _ | refine Below.trans ?_ (hb3.mono (by simp; omega)) | refine Below.alloc ?_ (by omega) _ | refine Below.trans ?_ (hb2.mono (by simp; omega)) | refine Below.trans ?_ (hb1.mono (by simp; omega)) | refine Below.alloc ?_ (by first | (simp; done) | (simp; omega)) _)

set_option maxHeartbeats 2000000 in
theorem rises_yn (A P B Q : Int) (w : World) (a1 : 16 ≤ A) (a2 : A ≤ 64) (a3 : 8 ≤ P) (a4 : P ≤ 32) (h : B < 16 ∨ 64 < B ∨ Q < 8 ∨ 32 < Q) :
    Calls Try.prog 6 #[.agg #[.int .i64 A, .int .i64 P], .agg #[.int .i64 B, .int .i64 Q]] w fun e w' => e = .returned (.bool true) ∧ Below w.heap.size w w' := by
  have H := Lib.hid h
  clear h
  go_enter Try.func6, Try.ntmps6
  go_wp2_with fail
  refine (plan_yes _ _ _ a1 a2 a3 a4).mono ?_; rintro e w1 ⟨rfl, hb1⟩; obtain ⟨hc1, hf1⟩ := bcell hb1; have hz1 := hb1.size; simp at hz1; have hy1 : w.heap.size < w1.heap.size := (by omega); have hx1 : w.heap.size + 1 < w1.heap.size := (by omega)
  go_wp2_with fail
  refine (plan_no _ _ _ H.out).mono ?_; rintro e w2 ⟨rfl, hb2⟩; obtain ⟨hc2, hf2⟩ := bcell hb2; have hz2 := hb2.size; simp at hz2; have hy2 : w.heap.size < w2.heap.size := (by omega); have hx2 : w.heap.size + 1 < w2.heap.size := (by omega); have hw2 : w1.heap.size < w2.heap.size := (by omega)
  go_wp2_with fail
  refine (awake_yes _).mono ?_; rintro e w3 ⟨rfl, hb3⟩
  go_wp2_with fail
  go_ret
  refine ⟨rfl, ?_⟩
  repeat (first | exact Below.refl _ _ | refine Below.trans ?_ (hb3.mono (by simp; omega)) | refine Below.alloc ?_ (by omega) _ | refine Below.trans ?_ (hb2.mono (by simp; omega)) | refine Below.trans ?_ (hb1.mono (by simp; omega)) | refine Below.alloc ?_ (by first | (simp; done) | (simp; omega)) _)

set_option maxHeartbeats 2000000 in
theorem rises_b (A P B Q : Int) (w : World) (a1 : 16 ≤ A) (a2 : A ≤ 64) (a3 : 8 ≤ P) (a4 : P ≤ 32) (b1 : 16 ≤ B) (b2 : B ≤ 64) (b3 : 8 ≤ Q) (b4 : Q ≤ 32) (g : B < A) :
    Calls Try.prog 6 #[.agg #[.int .i64 A, .int .i64 P], .agg #[.int .i64 B, .int .i64 Q]] w fun e w' => e = .returned (.bool true) ∧ Below w.heap.size w w' := by
  go_enter Try.func6, Try.ntmps6
  go_wp2_with fail
  refine (plan_yes _ _ _ a1 a2 a3 a4).mono ?_; rintro e w1 ⟨rfl, hb1⟩; obtain ⟨hc1, hf1⟩ := bcell hb1; have hz1 := hb1.size; simp at hz1; have hy1 : w.heap.size < w1.heap.size := (by omega); have hx1 : w.heap.size + 1 < w1.heap.size := (by omega)
  go_wp2_with fail
  refine (plan_yes _ _ _ b1 b2 b3 b4).mono ?_; rintro e w2 ⟨rfl, hb2⟩; obtain ⟨hc2, hf2⟩ := bcell hb2; have hz2 := hb2.size; simp at hz2; have hy2 : w.heap.size < w2.heap.size := (by omega); have hx2 : w.heap.size + 1 < w2.heap.size := (by omega); have hw2 : w1.heap.size < w2.heap.size := (by omega)
  go_wp2_with fail
  refine (awake_yes _).mono ?_; rintro e w3 ⟨rfl, hb3⟩
  go_wp2_with fail
  go_ret
  refine ⟨rfl, ?_⟩
  repeat (first | exact Below.refl _ _ | refine Below.trans ?_ (hb3.mono (by simp; omega)) | refine Below.alloc ?_ (by omega) _ | refine Below.trans ?_ (hb2.mono (by simp; omega)) | refine Below.trans ?_ (hb1.mono (by simp; omega)) | refine Below.alloc ?_ (by first | (simp; done) | (simp; omega)) _)

set_option maxHeartbeats 2000000 in
theorem rises_p (A P B Q : Int) (w : World) (a1 : 16 ≤ A) (a2 : A ≤ 64) (a3 : 8 ≤ P) (a4 : P ≤ 32) (b1 : 16 ≤ B) (b2 : B ≤ 64) (b3 : 8 ≤ Q) (b4 : Q ≤ 32) (g0 : A ≤ B) (g : Q < P) :
    Calls Try.prog 6 #[.agg #[.int .i64 A, .int .i64 P], .agg #[.int .i64 B, .int .i64 Q]] w fun e w' => e = .returned (.bool true) ∧ Below w.heap.size w w' := by
  go_enter Try.func6, Try.ntmps6
  go_wp2_with fail
  refine (plan_yes _ _ _ a1 a2 a3 a4).mono ?_; rintro e w1 ⟨rfl, hb1⟩; obtain ⟨hc1, hf1⟩ := bcell hb1; have hz1 := hb1.size; simp at hz1; have hy1 : w.heap.size < w1.heap.size := (by omega); have hx1 : w.heap.size + 1 < w1.heap.size := (by omega)
  go_wp2_with fail
  refine (plan_yes _ _ _ b1 b2 b3 b4).mono ?_; rintro e w2 ⟨rfl, hb2⟩; obtain ⟨hc2, hf2⟩ := bcell hb2; have hz2 := hb2.size; simp at hz2; have hy2 : w.heap.size < w2.heap.size := (by omega); have hx2 : w.heap.size + 1 < w2.heap.size := (by omega); have hw2 : w1.heap.size < w2.heap.size := (by omega)
  go_wp2_with fail
  refine (awake_yes _).mono ?_; rintro e w3 ⟨rfl, hb3⟩
  go_wp2_with fail
  go_ret
  refine ⟨rfl, ?_⟩
  repeat (first | exact Below.refl _ _ | refine Below.trans ?_ (hb3.mono (by simp; omega)) | refine Below.alloc ?_ (by omega) _ | refine Below.trans ?_ (hb2.mono (by simp; omega)) | refine Below.trans ?_ (hb1.mono (by simp; omega)) | refine Below.alloc ?_ (by first | (simp; done) | (simp; omega)) _)

set_option maxHeartbeats 2000000 in
theorem rises_yy (A P B Q : Int) (w : World) (a1 : 16 ≤ A) (a2 : A ≤ 64) (a3 : 8 ≤ P) (a4 : P ≤ 32) (b1 : 16 ≤ B) (b2 : B ≤ 64) (b3 : 8 ≤ Q) (b4 : Q ≤ 32) (g1 : A ≤ B) (g2 : P ≤ Q) :
    Calls Try.prog 6 #[.agg #[.int .i64 A, .int .i64 P], .agg #[.int .i64 B, .int .i64 Q]] w fun e w' => e = .returned (.bool true) ∧ Below w.heap.size w w' := by
  have d1 := cap_rises A P B Q a1 a3 g1 g2 b4 b2
  have d2 := prod_rises A P B Q a1 a3 g1 g2
  have d3 : A / 8 ≤ B / 8 := by omega
  have t1 : decide (capZ A P ≤ capZ B Q) = true := by simpa using d1
  have t2 : decide (A * P ≤ B * Q) = true := by simpa using d2
  have t3 : decide (A / 8 ≤ B / 8) = true := by simpa using d3
  clear d1 d2 d3
  go_enter Try.func6, Try.ntmps6
  go_wp2_with fail
  refine (plan_yes _ _ _ a1 a2 a3 a4).mono ?_; rintro e w1 ⟨rfl, hb1⟩; obtain ⟨hc1, hf1⟩ := bcell hb1; have hz1 := hb1.size; simp at hz1; have hy1 : w.heap.size < w1.heap.size := (by omega); have hx1 : w.heap.size + 1 < w1.heap.size := (by omega)
  go_wp2_with fail
  refine (plan_yes _ _ _ b1 b2 b3 b4).mono ?_; rintro e w2 ⟨rfl, hb2⟩; obtain ⟨hc2, hf2⟩ := bcell hb2; have hz2 := hb2.size; simp at hz2; have hy2 : w.heap.size < w2.heap.size := (by omega); have hx2 : w.heap.size + 1 < w2.heap.size := (by omega); have hw2 : w1.heap.size < w2.heap.size := (by omega)
  go_wp2_with fail
  refine (awake_yes _).mono ?_; rintro e w3 ⟨rfl, hb3⟩;
  obtain ⟨hc3, hf3⟩ := bcell hb3; have hy3 : w1.heap.size < w2.heap.size + 1 := (by omega); have hw3 : w2.heap.size < w2.heap.size + 1 := (by omega)
  go_wp2_with fail
  go_ret
  refine ⟨rfl, ?_⟩
  repeat (first | exact Below.refl _ _ | refine Below.trans ?_ (hb3.mono (by simp; omega)) | refine Below.alloc ?_ (by omega) _ | refine Below.trans ?_ (hb2.mono (by simp; omega)) | refine Below.trans ?_ (hb1.mono (by simp; omega)) | refine Below.alloc ?_ (by first | (simp; done) | (simp; omega)) _)

theorem rises_walk (A P B Q : Int) (w : World) : Calls Try.prog 6 #[.agg #[.int .i64 A, .int .i64 P], .agg #[.int .i64 B, .int .i64 Q]] w fun e w' => e = .returned (.bool true) ∧ Below w.heap.size w w' := by
  by_cases h : A < 16 ∨ 64 < A ∨ P < 8 ∨ 32 < P
  · exact rises_no A P B Q w h
  by_cases h' : B < 16 ∨ 64 < B ∨ Q < 8 ∨ 32 < Q
  · exact rises_yn A P B Q w (by omega) (by omega) (by omega) (by omega) h'
  by_cases g1 : B < A
  · exact rises_b A P B Q w (by omega) (by omega) (by omega) (by omega) (by omega) (by omega) (by omega) (by omega) g1
  by_cases g2 : Q < P
  · exact rises_p A P B Q w (by omega) (by omega) (by omega) (by omega) (by omega) (by omega) (by omega) (by omega) (by omega) g2
  exact rises_yy A P B Q w (by omega) (by omega) (by omega) (by omega) (by omega) (by omega) (by omega) (by omega) (by omega) (by omega)
end Go.Proofs.Ytkkfolbidclonaa.geo
