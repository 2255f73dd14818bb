/- room, and the walks of the laws of layer 6 -/
import Derived.Test.YtkkfolbidclonaaGeoC
import Derived.Deep.RegionHeld3
namespace Go.Proofs.Ytkkfolbidclonaa.geo
open Go.RowKit
set_option linter.unusedVariables false

theorem below_keep {w' w'' : World} (hb : Below w'.heap.size w' w'') {a : Addr} {v : Value} (h : w'.cell? a = some v) : w''.cell? a = some v :=
  (hb.cell (World.block_lt_of_cell? w' a h)).trans h
theorem keep7 {w' w'' : World} {a0 a1 a2 a3 a4 a5 a6 : Addr} {v0 v1 v2 v3 v4 v5 v6 : Value} (hb : Below w'.heap.size w' w'')
    (h : w'.cell? a0 = some v0 ∧ w'.cell? a1 = some v1 ∧ w'.cell? a2 = some v2 ∧ w'.cell? a3 = some v3 ∧ w'.cell? a4 = some v4 ∧ w'.cell? a5 = some v5 ∧ w'.cell? a6 = some v6) :
    w''.cell? a0 = some v0 ∧ w''.cell? a1 = some v1 ∧ w''.cell? a2 = some v2 ∧ w''.cell? a3 = some v3 ∧ w''.cell? a4 = some v4 ∧ w''.cell? a5 = some v5 ∧ w''.cell? a6 = some v6 :=
  ⟨below_keep hb h.1, below_keep hb h.2.1, below_keep hb h.2.2.1, below_keep hb h.2.2.2.1, below_keep hb h.2.2.2.2.1, below_keep hb h.2.2.2.2.2.1, below_keep hb h.2.2.2.2.2.2⟩

/-! ### plain laws -/
theorem cap_ge5 (B P : Int) (h1 : 16 ≤ B) (h2 : B ≤ 64) (h3 : 8 ≤ P) (h4 : P ≤ 32) : 5 ≤ capZ B P := by
  have e : 10 ≤ B - B / 8 - 4 := by omega
  have : 80 ≤ P * (B - B / 8 - 4) := by
    calc 80 ≤ P * 10 := by omega
      _ ≤ P * (B - B / 8 - 4) := Int.mul_le_mul_of_nonneg_left e (by omega)
  unfold capZ; omega
theorem room_law (B P : Int) (h1 : 16 ≤ B) (h2 : B ≤ 64) (h3 : 8 ≤ P) (h4 : P ≤ 32) : capZ B P + nodZ B P + 1 ≤ (B - B / 8 - (lowZ B P + 1)) * P := by
  have key : ∀ P : Nat, 8 ≤ P → P ≤ 32 → ∀ B : Nat, 16 ≤ B → B ≤ 64 → capZ B P + nodZ B P + 1 ≤ ((B : Int) - (B : Int) / 8 - (lowZ B P + 1)) * P := by
    have : ∀ P : Fin 33, 8 ≤ P.1 → ∀ B : Fin 65, 16 ≤ B.1 → capZ (B.1 : Int) (P.1 : Int) + nodZ (B.1 : Int) (P.1 : Int) + 1 ≤ ((B.1 : Int) - (B.1 : Int) / 8 - (lowZ (B.1 : Int) (P.1 : Int) + 1)) * (P.1 : Int) := by decide +kernel
    intro P p1 p2 B b1 b2
    exact this ⟨P, by omega⟩ p1 ⟨B, by omega⟩ b1
  have := key P.toNat (by omega) (by omega) B.toNat (by omega) (by omega)
  rw [Int.toNat_of_nonneg (by omega), Int.toNat_of_nonneg (by omega)] at this
  exact this
theorem left_bd (B P : Int) (h1 : 16 ≤ B) (h2 : B ≤ 64) (h3 : 8 ≤ P) (h4 : P ≤ 32) : (B - B / 8 - (lowZ B P + 1)) * P ≤ 2048 := by
  obtain ⟨c1, c2⟩ := lowZ_bd B P h1 h2 h3 h4
  calc (B - B / 8 - (lowZ B P + 1)) * P ≤ 64 * P := Int.mul_le_mul_of_nonneg_right (by omega) (by omega)
    _ ≤ 2048 := by omega

set_option maxHeartbeats 1000000 in
theorem room_yes (B P : Int) (w : World) (h1 : 16 ≤ B) (h2 : B ≤ 64) (h3 : 8 ≤ P) (h4 : P ≤ 32) :
    Calls Try.prog 16 #[.agg #[.int .i64 B, .int .i64 P]] w fun e w' => e = .returned (.bool true) ∧ Below w.heap.size w w' := by
  obtain ⟨c1, c2⟩ := lowZ_bd B P h1 h2 h3 h4
  obtain ⟨n1, n2⟩ := nodZ_bd B P h1 h2 h3 h4
  obtain ⟨k1, k2⟩ := capZ_bd B P h1 h2 h3 h4
  have k3 := cap_ge5 B P h1 h2 h3 h4
  have r1 := room_law B P h1 h2 h3 h4
  have r2 := left_bd B P h1 h2 h3 h4
  have g1 : B / 8 < lowZ B P := by
    obtain ⟨c1, c2⟩ := holdZ_bd B P h1 h2 h3 h4
    unfold lowZ; omega
  have d1 : decide (lowZ B P < lowZ B P + 1) = true := by simp; omega
  have d2 : decide (B / 8 < lowZ B P) = true := by simpa using g1
  have d3 : decide (5 ≤ capZ B P) = true := by simpa using k3
  have d4 : decide (capZ B P + nodZ B P + 1 ≤ (B - B / 8 - (lowZ B P + 1)) * P) = true := by simpa using r1
  go_enter Try.func16, Try.ntmps16
  go_wp2_with (first | (go_at_call 9; refine (plan_yes _ _ _ h1 h2 h3 h4).mono ?_; rintro e w1 ⟨rfl, hb⟩; obtain ⟨hc, hf⟩ := bcell hb; have hz := hb.size; simp at hz; have hz0 : w.heap.size < w1.heap.size := (by omega)))
  go_region_held3 (fun w' => w'.cell? ⟨w.heap.size, 0, none⟩ = some (.int .i64 B) ∧ w'.cell? ⟨w.heap.size, 1, none⟩ = some (.int .i64 P) ∧ w'.cell? ⟨w1.heap.size, 0, none⟩ = some (.int .i64 (B * P)) ∧ w'.cell? ⟨w1.heap.size, 1, none⟩ = some (.int .i64 (B / 8)) ∧ w'.cell? ⟨w1.heap.size, 2, none⟩ = some (.int .i64 (capZ B P)) ∧ w'.cell? ⟨w1.heap.size, 3, none⟩ = some (.int .i64 (lowZ B P)) ∧ w'.cell? ⟨w1.heap.size, 4, none⟩ = some (.int .i64 (lowZ B P + 1))) (first | (exact keep7 (by assumption) (by assumption)) | (simp [World.cell?_alloc_past, hz0, hc]))
    (first | (go_at_call 13; refine (nodes_yes _ _ _ h1 h2 h3 h4).mono ?_; rintro e w2 ⟨rfl, hb2⟩))
  have e4 : IntKind.i64.wrap (IntKind.i64.wrap (capZ B P + nodZ B P) + 1) = capZ B P + nodZ B P + 1 := by
    rw [IntWalk.i64_in (capZ B P + nodZ B P) (by omega), IntWalk.i64_in _ (by omega)]
  rw [e4]
  go_wp2
  go_ret
  refine ⟨by simp [r1], ?_⟩
  repeat (first | exact Below.refl _ _ | refine Below.trans ?_ (hb2.mono (by simp; omega)) | refine Below.drew ?_ | refine Below.alloc ?_ (by first | (simp; done) | omega) _ | refine Below.trans ?_ (hb.mono (by simp)))

theorem blocks_bd (n : Int) : 16 ≤ wrap64 (16 + (wrap64 (n.tmod 49 + 49)).tmod 49) ∧ wrap64 (16 + (wrap64 (n.tmod 49 + 49)).tmod 49) ≤ 64 := by
  have a : -49 < n.tmod 49 ∧ n.tmod 49 < 49 := ⟨by have := Int.lt_tmod_of_pos n (b := 49) (by omega); omega, Int.tmod_lt_of_pos n (by omega)⟩
  have b : wrap64 (n.tmod 49 + 49) = n.tmod 49 + 49 := by unfold wrap64; omega
  rw [b, Int.tmod_eq_emod_of_nonneg (by omega)]
  unfold wrap64
  omega

/-! ### the laws -/
set_option maxHeartbeats 1000000 in
theorem holds_walk (B P : Int) (w : World) : Calls Try.prog 4 #[.agg #[.int .i64 B, .int .i64 P]] w fun e w' => e = .returned (.bool true) ∧ Below w.heap.size w w' := by
  by_cases h : B < 16 ∨ 64 < B ∨ P < 8 ∨ 32 < P
  · have H := Lib.hid h
    clear h
    go_enter Try.func4, Try.ntmps4
    go_wp2_with (first | (go_at_call 12; refine (check_no _ _ _ H.out).mono ?_; rintro e w' ⟨rfl, rfl⟩) | (go_at_call 11; refine (awake_yes _).mono ?_; rintro e w1 ⟨rfl, hb⟩; obtain ⟨hc, hf⟩ := bcell hb) | (go_at_call 10; refine (may_no _ _ _ H.out).mono ?_; rintro e w' ⟨rfl, rfl⟩))
    go_ret
    refine ⟨rfl, ?_⟩
    repeat (first | exact Below.refl _ _ | refine Below.alloc ?_ (by first | (simp; done) | omega) _ | refine Below.trans ?_ (hb.mono (by simp; omega)))
  · have h1 : 16 ≤ B := by omega
    have h2 : B ≤ 64 := by omega
    have h3 : 8 ≤ P := by omega
    have h4 : P ≤ 32 := by omega
    clear h
    go_enter Try.func4, Try.ntmps4
    go_wp2_with (first | (go_at_call 12; refine (check_yes _ _ _ h1 h2 h3 h4).mono ?_; rintro e w' ⟨rfl, rfl⟩) | (go_at_call 11; refine (awake_yes _).mono ?_; rintro e w1 ⟨rfl, hb⟩; obtain ⟨hc, hf⟩ := bcell hb) | (go_at_call 16; refine (room_yes _ _ _ h1 h2 h3 h4).mono ?_; rintro e w2 ⟨rfl, hb2⟩))
    go_ret
    refine ⟨rfl, ?_⟩
    have hz := hb.size
    simp at hz
    repeat (first | exact Below.refl _ _ | refine Below.trans ?_ (hb2.mono (by omega)) | refine Below.alloc ?_ (by first | (simp; done) | omega) _ | refine Below.trans ?_ (hb.mono (by simp; omega)))

set_option maxHeartbeats 1000000 in
theorem all_walk (n : Int) (w : World) : Calls Try.prog 5 #[.int .i64 n] w fun e w' => e = .returned (.bool true) ∧ Below w.heap.size w w' := by
  go_enter Try.func5, Try.ntmps5
  go_wp2
  have hb := blocks_bd n
  generalize wrap64 (16 + (wrap64 (n.tmod 49 + 49)).tmod 49) = b at hb ⊢
  obtain ⟨h1, h2⟩ := hb
  go_loopw [3] (fun t wr => ∃ k : Int, 8 ≤ k ∧ k ≤ 33 ∧ t = .int .i64 k ∧ Below w.heap.size w wr) (fun t _ => (40 - intOf t).toNat)
  case atStart => exact ⟨8, by omega, by omega, rfl, Below.refl _ _⟩
  case round =>
    obtain ⟨k, hk1, hk2, rfl, hbel⟩ := hrel
    have hs0 := hbel.size
    by_cases hlt : k ≤ 32
    · go_wp2_with (first | (go_at_call 16; refine (room_yes _ _ _ h1 h2 hk1 hlt).mono ?_; rintro e w2 ⟨rfl, hb2⟩))
      go_roundw
      case rel => exact ⟨k + 1, by omega, by omega, rfl, hbel.trans (hb2.mono (by omega))⟩
      case measure => simp [intOf]; omega
    · go_wp2_with (first | (go_at_call 11; refine (awake_yes _).mono ?_; rintro e w1 ⟨rfl, hb⟩))
      go_ret
      exact ⟨rfl, hbel.trans (hb.mono (by omega))⟩
end Go.Proofs.Ytkkfolbidclonaa.geo
