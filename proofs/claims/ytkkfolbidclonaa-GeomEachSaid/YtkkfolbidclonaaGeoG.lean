/- the walk of GeomEach -/
import Derived.Test.YtkkfolbidclonaaGeoF
namespace Go.Proofs.Ytkkfolbidclonaa.geo
open Go.RowKit
set_option linter.unusedVariables false

structure EachSt (B P : Int) (w : World) (g : Nat) (wr : World) : Prop where
  c0 : wr.cell? ⟨w.heap.size, 0, none⟩ = some (.int .i64 B)
  c1 : wr.cell? ⟨w.heap.size, 1, none⟩ = some (.int .i64 P)
  c2 : wr.cell? ⟨g, 0, none⟩ = some (.int .i64 (B * P))
  bel : Below w.heap.size w wr
theorem EachSt.step {B P : Int} {w wr w' : World} {g : Nat} (h : EachSt B P w g wr) (hb : Below wr.heap.size wr w') : EachSt B P w g w' :=
  ⟨below_keep hb h.c0, below_keep hb h.c1, below_keep hb h.c2, h.bel.trans (hb.mono h.bel.size)⟩

theorem each_row (P k i : Int) (h3 : 8 ≤ P) (i1 : 0 ≤ i) (i2 : i < P) : (k * P + i) / P = k := by
  rw [Int.add_comm, Int.add_mul_ediv_right _ _ (by omega), Int.ediv_eq_zero_of_lt i1 i2]; omega

set_option maxHeartbeats 2000000 in
theorem each_walk (B P : Int) (w : World) : Calls Try.prog 8 #[.agg #[.int .i64 B, .int .i64 P]] w fun e w' => e = .returned (.bool true) ∧ Below w.heap.size w w' := by
  by_cases h : B < 16 ∨ 64 < B ∨ P < 8 ∨ 32 < P
  · have H := Lib.hid h
    clear h
    go_enter Try.func8, Try.ntmps8
    go_wp2_with (first | (go_at_call 9; refine (plan_no _ _ _ H.out).mono ?_; rintro e w1 ⟨rfl, hb1⟩) | (go_at_call 11; refine (awake_yes _).mono ?_; rintro e w2 ⟨rfl, hb2⟩))
    go_ret
    refine ⟨rfl, ?_⟩
    have hz1 := hb1.size
    simp at hz1
    repeat (first | exact Below.refl _ _ | refine Below.trans ?_ (hb2.mono (by simp; omega)) | refine Below.alloc ?_ (by omega) _ | refine Below.trans ?_ (hb1.mono (by simp)) | refine Below.alloc ?_ (by simp) _)
  have h1 : 16 ≤ B := by omega
  have h2 : B ≤ 64 := by omega
  have h3 : 8 ≤ P := by omega
  have h4 : P ≤ 32 := by omega
  clear h
  obtain ⟨a1, a2⟩ := prod_bd B P h1 h2 h3 h4
  go_enter Try.func8, Try.ntmps8
  go_wp2_with (first | (go_at_call 9; refine (plan_yes _ _ _ h1 h2 h3 h4).mono ?_; rintro e w1 ⟨rfl, hb1⟩))
  obtain ⟨hc1, hf1⟩ := bcell hb1
  have hz1 := hb1.size
  simp at hz1
  have hy1 : w.heap.size < w1.heap.size := by omega
  go_loopw [5, 6] (fun n b wr => ∃ k : Int, 0 ≤ k ∧ k ≤ B ∧ n = .int .i64 (k * P) ∧ b = .int .i64 k ∧ EachSt B P w w1.heap.size wr) (fun _ b _ => (64 - intOf b).toNat)
  case atStart =>
    refine ⟨0, by omega, by omega, by simp, rfl, ?_⟩
    exact ⟨by simp [World.cell?_alloc_past, hy1, hc1], by simp [World.cell?_alloc_past, hy1, hc1], by simp, (((Below.refl _ _).alloc (Nat.le_refl _) _).trans (hb1.mono (by simp))).alloc (by omega) _⟩
  case round =>
    obtain ⟨k, hk1, hk2, rfl, rfl, st⟩ := hrel
    obtain ⟨m1, m2⟩ := mul_bd P k h3 h4 hk1 (by omega)
    obtain ⟨q0, q1, q2, bel⟩ := st
    by_cases hlt : k < B
    · go_wp2_with (first | (go_at_call 18; refine (first_in _ _ _ _ h1 h2 h3 h4 hk1 hlt).mono ?_; rintro e w2 ⟨rfl, hb2⟩))
      have st : EachSt B P w w1.heap.size w2 := EachSt.step ⟨q0, q1, q2, bel⟩ hb2
      clear q0 q1 q2 bel hb2 hc1 hf1
      obtain ⟨wo, rfl⟩ : ∃ wo : World, wo = wr := ⟨_, rfl⟩
      go_loopw [5, 8] (fun n i wr => ∃ j : Int, 0 ≤ j ∧ j ≤ P ∧ n = .int .i64 (k * P + j) ∧ i = .int .i64 j ∧ EachSt B P w w1.heap.size wr) (fun _ i _ => (32 - intOf i).toNat)
      case atStart => exact ⟨0, by omega, by omega, by simp, rfl, st⟩
      case round =>
        obtain ⟨j, hj1, hj2, rfl, rfl, st'⟩ := hrel
        obtain ⟨q0, q1, q2, bel⟩ := st'
        by_cases hlj : j < P
        · have hr := each_row P k j h3 hj1 hlj
          have hin : k * P + j < B * P := by
            have := Int.mul_le_mul_of_nonneg_right (show k + 1 ≤ B by omega) (show 0 ≤ P by omega)
            rw [Int.add_mul] at this
            omega
          have HR := Lib.hid hr
          clear hr st
          go_wp2_with (first | (go_at_call 17; refine (block_in _ _ _ _ h1 h2 h3 h4 (by omega) hin).mono ?_; rw [HR.out]; rintro e w3 ⟨rfl, hb3⟩))
          go_roundw
          case rel => exact ⟨j + 1, by omega, by omega, by go_num, rfl, EachSt.step ⟨q0, q1, q2, bel⟩ hb3⟩
          case measure => simp [intOf]; omega
        · obtain rfl : j = P := by omega
          go_wp2
          go_roundw
          case rel => exact ⟨k + 1, by omega, by omega, by rw [Int.add_mul]; go_num, rfl, ⟨q0, q1, q2, bel⟩⟩
          case measure => simp [intOf]; omega
    · obtain rfl : k = B := by omega
      have o1 : (k * P < 0 ∨ k * P ≤ k * P) := by omega
      have o2 : ((-1 : Int) < 0 ∨ k * P ≤ -1) := by omega
      have O1 := Lib.hid o1
      have O2 := Lib.hid o2
      clear o1 o2
      clear hc1 hf1 hb1
      go_wp2_with fail
      refine (awake_yes _).mono ?_
      rintro e w2 ⟨rfl, hb2⟩
      have p0 := below_keep hb2 q0
      have p1 := below_keep hb2 q1
      have p2 := below_keep hb2 q2
      go_wp2_with fail
      refine (block_out _ _ _ _ h1 h2 h3 h4 O1.out).mono ?_
      rintro e w3 ⟨rfl, hb3⟩
      have r0 := below_keep hb3 p0
      have r1 := below_keep hb3 p1
      go_wp2_with fail
      refine (block_out _ _ _ _ h1 h2 h3 h4 O2.out).mono ?_
      rintro e w4 ⟨rfl, hb4⟩
      go_wp2_with fail
      go_ret
      have z1 := bel.size
      have z2 := hb2.size
      have z3 := hb3.size
      exact ⟨rfl, ((bel.trans (hb2.mono (by omega))).trans (hb3.mono (by omega))).trans (hb4.mono (by omega))⟩
end Go.Proofs.Ytkkfolbidclonaa.geo
