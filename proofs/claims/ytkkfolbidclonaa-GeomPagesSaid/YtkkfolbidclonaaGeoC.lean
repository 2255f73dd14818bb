/- contracts of package geom and its reference, third part -/
import Derived.Test.YtkkfolbidclonaaGeoB
namespace Go.Proofs.Ytkkfolbidclonaa.geo
open Go.RowKit
set_option linter.unusedVariables false

/-! ### Block and First -/
set_option maxHeartbeats 400000 in
theorem block_none (B P g : Int) (w : World) (h : B < 16 ∨ 64 < B ∨ P < 8 ∨ 32 < P) :
    Calls Try.prog 17 #[.agg #[.int .i64 B, .int .i64 P], .int .i64 g] w fun e w' => e = .returned (.int .i64 (-1)) ∧ Below w.heap.size w w' := by
  have H := Lib.hid h
  clear h
  go_enter Try.func17, Try.ntmps17
  go_wp2_with (go_at_call 12; refine (check_no _ _ _ H.out).mono ?_; rintro e w' ⟨rfl, rfl⟩)
  go_ret
  exact ⟨rfl, (((Below.refl w.heap.size w).alloc (Nat.le_refl _) _).alloc (by simp) _)⟩
set_option maxHeartbeats 400000 in
theorem block_out (B P g : Int) (w : World) (h1 : 16 ≤ B) (h2 : B ≤ 64) (h3 : 8 ≤ P) (h4 : P ≤ 32) (h : g < 0 ∨ B * P ≤ g) :
    Calls Try.prog 17 #[.agg #[.int .i64 B, .int .i64 P], .int .i64 g] w fun e w' => e = .returned (.int .i64 (-1)) ∧ Below w.heap.size w w' := by
  obtain ⟨a1, a2⟩ := prod_bd B P h1 h2 h3 h4
  by_cases a : g < 0
  · clear h
    go_enter Try.func17, Try.ntmps17
    go_wp2_with (go_at_call 12; refine (check_yes _ _ _ h1 h2 h3 h4).mono ?_; rintro e w' ⟨rfl, rfl⟩)
    go_ret
    exact ⟨rfl, (((Below.refl w.heap.size w).alloc (Nat.le_refl _) _).alloc (by simp) _)⟩
  · have b : B * P ≤ g := by omega
    clear h
    go_enter Try.func17, Try.ntmps17
    go_wp2_with (go_at_call 12; refine (check_yes _ _ _ h1 h2 h3 h4).mono ?_; rintro e w' ⟨rfl, rfl⟩)
    go_ret
    exact ⟨rfl, (((Below.refl w.heap.size w).alloc (Nat.le_refl _) _).alloc (by simp) _)⟩
set_option maxHeartbeats 400000 in
theorem block_in (B P g : Int) (w : World) (h1 : 16 ≤ B) (h2 : B ≤ 64) (h3 : 8 ≤ P) (h4 : P ≤ 32) (h5 : 0 ≤ g) (h6 : g < B * P) :
    Calls Try.prog 17 #[.agg #[.int .i64 B, .int .i64 P], .int .i64 g] w fun e w' => e = .returned (.int .i64 (g / P)) ∧ Below w.heap.size w w' := by
  obtain ⟨a1, a2⟩ := prod_bd B P h1 h2 h3 h4
  have nz : (P == 0) = false := by simp; omega
  go_enter Try.func17, Try.ntmps17
  go_wp2_with (go_at_call 12; refine (check_yes _ _ _ h1 h2 h3 h4).mono ?_; rintro e w' ⟨rfl, rfl⟩)
  go_ret
  exact ⟨rfl, (((Below.refl w.heap.size w).alloc (Nat.le_refl _) _).alloc (by simp) _)⟩

set_option maxHeartbeats 400000 in
theorem first_none (B P g : Int) (w : World) (h : B < 16 ∨ 64 < B ∨ P < 8 ∨ 32 < P) :
    Calls Try.prog 18 #[.agg #[.int .i64 B, .int .i64 P], .int .i64 g] w fun e w' => e = .returned (.int .i64 (-1)) ∧ Below w.heap.size w w' := by
  have H := Lib.hid h
  clear h
  go_enter Try.func18, Try.ntmps18
  go_wp2_with (go_at_call 12; refine (check_no _ _ _ H.out).mono ?_; rintro e w' ⟨rfl, rfl⟩)
  go_ret
  exact ⟨rfl, (((Below.refl w.heap.size w).alloc (Nat.le_refl _) _).alloc (by simp) _)⟩
set_option maxHeartbeats 400000 in
theorem first_out (B P g : Int) (w : World) (h1 : 16 ≤ B) (h2 : B ≤ 64) (h3 : 8 ≤ P) (h4 : P ≤ 32) (h : g < 0 ∨ B ≤ g) :
    Calls Try.prog 18 #[.agg #[.int .i64 B, .int .i64 P], .int .i64 g] w fun e w' => e = .returned (.int .i64 (-1)) ∧ Below w.heap.size w w' := by
  by_cases a : g < 0
  · clear h
    go_enter Try.func18, Try.ntmps18
    go_wp2_with (go_at_call 12; refine (check_yes _ _ _ h1 h2 h3 h4).mono ?_; rintro e w' ⟨rfl, rfl⟩)
    go_ret
    exact ⟨rfl, (((Below.refl w.heap.size w).alloc (Nat.le_refl _) _).alloc (by simp) _)⟩
  · have b : B ≤ g := by omega
    clear h
    go_enter Try.func18, Try.ntmps18
    go_wp2_with (go_at_call 12; refine (check_yes _ _ _ h1 h2 h3 h4).mono ?_; rintro e w' ⟨rfl, rfl⟩)
    go_ret
    exact ⟨rfl, (((Below.refl w.heap.size w).alloc (Nat.le_refl _) _).alloc (by simp) _)⟩
set_option maxHeartbeats 400000 in
theorem first_in (B P g : Int) (w : World) (h1 : 16 ≤ B) (h2 : B ≤ 64) (h3 : 8 ≤ P) (h4 : P ≤ 32) (h5 : 0 ≤ g) (h6 : g < B) :
    Calls Try.prog 18 #[.agg #[.int .i64 B, .int .i64 P], .int .i64 g] w fun e w' => e = .returned (.int .i64 (g * P)) ∧ Below w.heap.size w w' := by
  have a1 : 0 ≤ g * P := Int.mul_nonneg h5 (by omega)
  have a2 : g * P ≤ 2048 := by
    calc g * P ≤ 64 * P := Int.mul_le_mul_of_nonneg_right (by omega) (by omega)
      _ ≤ 2048 := by omega
  go_enter Try.func18, Try.ntmps18
  go_wp2_with (go_at_call 12; refine (check_yes _ _ _ h1 h2 h3 h4).mono ?_; rintro e w' ⟨rfl, rfl⟩)
  go_ret
  exact ⟨rfl, (((Below.refl w.heap.size w).alloc (Nat.le_refl _) _).alloc (by simp) _)⟩

/-! ### the reference's Of: a loop that counts -/
theorem hold_step (P n k : Int) (h3 : 8 ≤ P) (hk : k * P < n) : k + 1 ≤ (n + P - 1) / P := by
  rw [Int.le_ediv_iff_mul_le (by omega), Int.add_mul]; omega
theorem hold_end (P n k : Int) (h3 : 8 ≤ P) (hk : n ≤ k * P) (hl : k ≤ (n + P - 1) / P) : k = (n + P - 1) / P := by
  have h : (n + P - 1) / P ≤ k := by
    have := Int.ediv_lt_of_lt_mul (a := n + P - 1) (b := k + 1) (c := P) (by omega) (by rw [Int.add_mul]; omega)
    omega
  omega
theorem mul_bd (P k : Int) (h3 : 8 ≤ P) (h4 : P ≤ 32) (hk : 0 ≤ k) (hl : k ≤ 300) : 0 ≤ k * P ∧ k * P ≤ 9600 := by
  constructor
  · exact Int.mul_nonneg hk (by omega)
  · calc k * P ≤ 300 * P := Int.mul_le_mul_of_nonneg_right hl (by omega)
      _ ≤ 9600 := by omega

set_option maxHeartbeats 800000 in
theorem of_yes (B P : Int) (w : World) (h1 : 16 ≤ B) (h2 : B ≤ 64) (h3 : 8 ≤ P) (h4 : P ≤ 32) :
    Calls Try.prog 14 #[.int .i64 B, .int .i64 P] w fun e w' =>
      e = .returned (.agg #[.int .i64 (B * P), .int .i64 (B / 8), .int .i64 (capZ B P), .int .i64 (lowZ B P), .int .i64 (lowZ B P + 1)]) ∧ Below w.heap.size w w' := by
  obtain ⟨a1, a2⟩ := prod_bd B P h1 h2 h3 h4
  obtain ⟨b1, b2⟩ := cap_bd B P h1 h2 h3 h4
  obtain ⟨c1, c2⟩ := holdZ_bd B P h1 h2 h3 h4
  go_enter Try.func14, Try.ntmps14
  go_wp2
  go_loop [7] (fun t => ∃ k : Int, 0 ≤ k ∧ k ≤ holdZ B P ∧ t = .int .i64 k) (fun t => (300 - intOf t).toNat)
  case atStart => exact ⟨0, by omega, c1, rfl⟩
  case round =>
    obtain ⟨k, hk1, hk2, rfl⟩ := hrel
    obtain ⟨m1, m2⟩ := mul_bd P k h3 h4 hk1 (by omega)
    by_cases hlt : k * P < 8 + P + P * (B - B / 8 - 4) / 16 / 2 + 16 + 1
    · have hs : k + 1 ≤ holdZ B P := by
        refine hold_step P _ k h3 ?_
        unfold nodZ capZ; omega
      go_wp2
      go_round
      case rel => exact ⟨k + 1, by omega, hs, rfl⟩
      case measure => simp [intOf]; omega
    · have he : k = holdZ B P := by
        refine hold_end P _ k h3 ?_ hk2
        unfold nodZ capZ; omega
      subst he
      go_wp2
      refine bodyPost_ret (v := .agg #[.int .i64 (B * P), .int .i64 (B / 8), .int .i64 (capZ B P), .int .i64 (lowZ B P), .int .i64 (lowZ B P + 1)]) (by simp [results, Try.results14, go_sem]; exact ⟨rfl, rfl⟩) rfl ⟨rfl, ?_⟩
      exact ((((Below.refl _ _).alloc (Nat.le_refl _) _).alloc (by simp) _))

set_option maxHeartbeats 400000 in
theorem refnodes_yes (B P : Int) (w : World) (h1 : 16 ≤ B) (h2 : B ≤ 64) (h3 : 8 ≤ P) (h4 : P ≤ 32) :
    Calls Try.prog 15 #[.int .i64 B, .int .i64 P] w fun e w' => e = .returned (.int .i64 (nodZ B P)) ∧ Below w.heap.size w w' := by
  obtain ⟨c1, c2⟩ := capZ_bd B P h1 h2 h3 h4
  have fx : ∀ (a b c d f : Value) (w : World), (Instr.field 33 (.agg #[a, b, c, d, f]) 2).run Try.prog w = .ok c w := fun _ _ _ _ _ _ => by kernel_rfl
  go_enter Try.func15, Try.ntmps15
  go_wp2_with (first | (go_at_call 10; refine (may_yes _ _ _ h1 h2 h3 h4).mono ?_; rintro e w' ⟨rfl, rfl⟩) | (go_at_call 14; refine (of_yes _ _ _ h1 h2 h3 h4).mono ?_; rintro e w1 ⟨rfl, hb⟩))
  go_ret
  exact ⟨rfl, hb⟩

/-! ### awake: the page's example -/
theorem lowZ_16_8 : lowZ 16 8 = 9 := by decide
theorem capZ_16_8 : capZ 16 8 = 5 := by decide
theorem nodZ_16_8 : nodZ 16 8 = 18 := by decide

set_option maxHeartbeats 400000 in
theorem awake_yes (w : World) : Calls Try.prog 11 #[] w fun e w' => e = .returned (.bool true) ∧ Below w.heap.size w w' := by
  have eqp : ∀ (w : World), (binOp .eql 25 (.agg #[.int .i64 128, .int .i64 2, .int .i64 5, .int .i64 9, .int .i64 10]) (.agg #[.int .i64 128, .int .i64 2, .int .i64 5, .int .i64 9, .int .i64 10])).run Try.prog w = .ok (.bool true) w := fun _ => by kernel_rfl
  have p := fun w => plan_yes 16 8 w (by decide) (by decide) (by decide) (by decide)
  have n := fun w => nodes_yes 16 8 w (by decide) (by decide) (by decide) (by decide)
  rw [lowZ_16_8, capZ_16_8] at p
  rw [nodZ_16_8] at n
  simp at p
  have P := Lib.hid p
  have N := Lib.hid n
  clear p n
  go_enter Try.func11, Try.ntmps11
  go_wp2_with (first | (go_at_call 9; refine (P.out _).mono ?_; rintro e w1 ⟨rfl, hb⟩; obtain ⟨hc, hf⟩ := bcell hb; have hz := hb.size; simp at hz; have hz0 : w.heap.size < w1.heap.size := (by omega)) | (go_at_call 13; refine (N.out _).mono ?_; rintro e w2 ⟨rfl, hb2⟩))
  go_ret
  exact ⟨rfl, ((((Below.refl w.heap.size w).alloc (Nat.le_refl _) _).trans (hb.mono (by simp))).alloc (by omega) _).trans (hb2.mono (by simp; omega))⟩
end Go.Proofs.Ytkkfolbidclonaa.geo
