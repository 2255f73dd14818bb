/- contracts of package geom, second part -/
import Derived.Test.YtkkfolbidclonaaGeoA
import Derived.BigQuiet
import Derived.WalkSpells
import Derived.Lib.Hide
import Derived.WalkLawsBesides
import Derived.Deep.QuietTactic
namespace Go.Proofs.Ytkkfolbidclonaa.geo
open Go.RowKit
set_option linter.unusedVariables false

def capZ (B P : Int) : Int := P * (B - B / 8 - 4) / 16
def nodZ (B P : Int) : Int := capZ B P / 2 + 16
def holdZ (B P : Int) : Int := (8 + P + nodZ B P + 1 + P - 1) / P
def lowZ (B P : Int) : Int := 2 + B / 8 + holdZ B P

theorem prod_bd (B P : Int) (h1 : 16 ≤ B) (h2 : B ≤ 64) (h3 : 8 ≤ P) (h4 : P ≤ 32) : 0 ≤ B * P ∧ B * P ≤ 2048 := by
  constructor
  · exact Int.mul_nonneg (by omega) (by omega)
  · calc B * P ≤ 64 * P := Int.mul_le_mul_of_nonneg_right h2 (by omega)
      _ ≤ 2048 := by omega
theorem cap_bd (B P : Int) (h1 : 16 ≤ B) (h2 : B ≤ 64) (h3 : 8 ≤ P) (h4 : P ≤ 32) : 0 ≤ P * (B - B / 8 - 4) ∧ P * (B - B / 8 - 4) ≤ 2048 := by
  have e : 0 ≤ B - B / 8 - 4 ∧ B - B / 8 - 4 ≤ 64 := by omega
  constructor
  · exact Int.mul_nonneg (by omega) (by omega)
  · calc P * (B - B / 8 - 4) ≤ P * 64 := Int.mul_le_mul_of_nonneg_left e.2 (by omega)
      _ ≤ 2048 := by omega
theorem div_bd (P n : Int) (h3 : 8 ≤ P) (h5 : 0 ≤ n) : 0 ≤ n / P ∧ n / P ≤ n :=
  ⟨Int.ediv_nonneg h5 (by omega), Int.ediv_le_self _ h5⟩
theorem capZ_bd (B P : Int) (h1 : 16 ≤ B) (h2 : B ≤ 64) (h3 : 8 ≤ P) (h4 : P ≤ 32) : 0 ≤ capZ B P ∧ capZ B P ≤ 128 := by
  have := cap_bd B P h1 h2 h3 h4; unfold capZ; omega
theorem nodZ_bd (B P : Int) (h1 : 16 ≤ B) (h2 : B ≤ 64) (h3 : 8 ≤ P) (h4 : P ≤ 32) : 0 ≤ nodZ B P ∧ nodZ B P ≤ 128 := by
  have := capZ_bd B P h1 h2 h3 h4; unfold nodZ; omega
theorem holdZ_bd (B P : Int) (h1 : 16 ≤ B) (h2 : B ≤ 64) (h3 : 8 ≤ P) (h4 : P ≤ 32) : 0 ≤ holdZ B P ∧ holdZ B P ≤ 300 := by
  have := nodZ_bd B P h1 h2 h3 h4; unfold holdZ
  have := div_bd P (8 + P + nodZ B P + 1 + P - 1) h3 (by omega)
  omega
theorem lowZ_bd (B P : Int) (h1 : 16 ≤ B) (h2 : B ≤ 64) (h3 : 8 ≤ P) (h4 : P ≤ 32) : 0 ≤ lowZ B P ∧ lowZ B P ≤ 400 := by
  have := holdZ_bd B P h1 h2 h3 h4; unfold lowZ; omega

theorem bcell {W w1 : World} (hb : Below W.heap.size W w1) : (∀ b o, b < W.heap.size → w1.cell? ⟨b, o, none⟩ = W.cell? ⟨b, o, none⟩) ∧ (∀ b o, b < W.heap.size → w1.frozen? ⟨b, o, none⟩ = W.frozen? ⟨b, o, none⟩) :=
  ⟨fun b o h => hb.cell (p := ⟨b, o, none⟩) h, fun b o h => hb.frozen (p := ⟨b, o, none⟩) h⟩

set_option maxHeartbeats 400000 in
theorem numbers (B P : Int) (w : World) (h1 : 16 ≤ B) (h2 : B ≤ 64) (h3 : 8 ≤ P) (h4 : P ≤ 32) :
    Calls Try.prog 19 #[.agg #[.int .i64 B, .int .i64 P]] w fun e w' =>
      e = .returned (.agg #[.int .i64 (B * P), .int .i64 (B / 8), .int .i64 (capZ B P), .int .i64 (nodZ B P), .int .i64 (lowZ B P)]) ∧ Below w.heap.size w w' := by
  obtain ⟨a1, a2⟩ := prod_bd B P h1 h2 h3 h4
  obtain ⟨b1, b2⟩ := cap_bd B P h1 h2 h3 h4
  have c := div_bd P (8 + P + (P * (B - B / 8 - 4) / 16 / 2 + 16) + 1 + P - 1) h3 (by omega)
  obtain ⟨c1, c2⟩ := c
  go_enter Try.func19, Try.ntmps19
  go_wp2
  go_region
  go_wp2
  refine bodyPost_ret (v := .agg #[.int .i64 (B * P), .int .i64 (B / 8), .int .i64 (capZ B P), .int .i64 (nodZ B P), .int .i64 (lowZ B P)]) (by simp [results, Try.results19, go_sem]; exact ⟨rfl, rfl, rfl⟩) rfl ⟨rfl, ?_⟩
  exact ((((Below.refl _ _).alloc (Nat.le_refl _) _).alloc (by simp) _).alloc (by simp; omega) _).drew

set_option maxHeartbeats 400000 in
theorem plan_yes (B P : Int) (w : World) (h1 : 16 ≤ B) (h2 : B ≤ 64) (h3 : 8 ≤ P) (h4 : P ≤ 32) :
    Calls Try.prog 9 #[.agg #[.int .i64 B, .int .i64 P]] w fun e w' =>
      e = .returned (.tuple #[.agg #[.int .i64 (B * P), .int .i64 (B / 8), .int .i64 (capZ B P), .int .i64 (lowZ B P), .int .i64 (lowZ B P + 1)], .int .i64 0]) ∧ Below w.heap.size w w' := by
  obtain ⟨c1, c2⟩ := lowZ_bd B P h1 h2 h3 h4
  go_enter Try.func9, Try.ntmps9
  go_wp2_with (first | (go_at_call 12; refine (check_yes _ _ _ h1 h2 h3 h4).mono ?_; rintro e w' ⟨rfl, rfl⟩) | (go_at_call 19; refine (numbers _ _ _ h1 h2 h3 h4).mono ?_; rintro e w1 ⟨rfl, hb⟩; obtain ⟨hc, hf⟩ := bcell hb; have hz := hb.size; simp at hz; have hz0 : w.heap.size < w1.heap.size := (by omega); have hz1 : w.heap.size + 1 < w1.heap.size := (by omega)))
  refine bodyPost_ret (v := .tuple #[.agg #[.int .i64 (B * P), .int .i64 (B / 8), .int .i64 (capZ B P), .int .i64 (lowZ B P), .int .i64 (lowZ B P + 1)], .int .i64 0]) (by simp [results, Try.results9, go_sem, hc, hz1]) rfl ⟨rfl, ?_⟩
  have hb0 := ((((Below.refl w.heap.size w).alloc (Nat.le_refl _) _).alloc (by simp) _).alloc (by simp; omega) _).trans (hb.mono (by simp; omega))
  exact (((((hb0.setCell (by simp) _).setCell (by simp) _).setCell (by simp) _).setCell (by simp) _).setCell (by simp) _).alloc (by simp; omega) _

set_option maxHeartbeats 400000 in
theorem plan_no (B P : Int) (w : World) (h : B < 16 ∨ 64 < B ∨ P < 8 ∨ 32 < P) :
    Calls Try.prog 9 #[.agg #[.int .i64 B, .int .i64 P]] w fun e w' =>
      e = .returned (.tuple #[.agg #[.int .i64 0, .int .i64 0, .int .i64 0, .int .i64 0, .int .i64 0], .int .i64 1]) ∧ Below w.heap.size w w' := by
  have H := Lib.hid h
  clear h
  go_enter Try.func9, Try.ntmps9
  go_wp2_with (go_at_call 12; refine (check_no _ _ _ H.out).mono ?_; rintro e w' ⟨rfl, rfl⟩)
  refine bodyPost_ret (v := .tuple #[.agg #[.int .i64 0, .int .i64 0, .int .i64 0, .int .i64 0, .int .i64 0], .int .i64 1]) (by simp [results, Try.results9, go_sem]) rfl ⟨rfl, ?_⟩
  exact ((((Below.refl _ _).alloc (Nat.le_refl _) _).alloc (by simp) _).alloc (by simp; omega) _)

set_option maxHeartbeats 400000 in
theorem nodes_yes (B P : Int) (w : World) (h1 : 16 ≤ B) (h2 : B ≤ 64) (h3 : 8 ≤ P) (h4 : P ≤ 32) :
    Calls Try.prog 13 #[.agg #[.int .i64 B, .int .i64 P]] w fun e w' => e = .returned (.int .i64 (nodZ B P)) ∧ Below w.heap.size w w' := by
  have ix : ∀ (a b c d f : Value) (w : World), (Instr.index 41 (.agg #[a, b, c, d, f]) (.int .i64 3)).run Try.prog w = .ok d w := fun _ _ _ _ _ _ => by kernel_rfl
  go_enter Try.func13, Try.ntmps13
  go_wp2_with (first | (go_at_call 12; refine (check_yes _ _ _ h1 h2 h3 h4).mono ?_; rintro e w' ⟨rfl, rfl⟩) | (go_at_call 19; refine (numbers _ _ _ h1 h2 h3 h4).mono ?_; rintro e w1 ⟨rfl, hb⟩))
  go_ret
  exact ⟨rfl, (((Below.refl w.heap.size w).alloc (Nat.le_refl _) _).alloc (by simp) _).trans (hb.mono (by simp; omega))⟩

set_option maxHeartbeats 400000 in
theorem nodes_no (B P : Int) (w : World) (h : B < 16 ∨ 64 < B ∨ P < 8 ∨ 32 < P) :
    Calls Try.prog 13 #[.agg #[.int .i64 B, .int .i64 P]] w fun e w' => e = .returned (.int .i64 0) ∧ Below w.heap.size w w' := by
  have H := Lib.hid h
  clear h
  go_enter Try.func13, Try.ntmps13
  go_wp2_with (go_at_call 12; refine (check_no _ _ _ H.out).mono ?_; rintro e w' ⟨rfl, rfl⟩)
  go_ret
  exact ⟨rfl, (((Below.refl w.heap.size w).alloc (Nat.le_refl _) _).alloc (by simp) _)⟩

/-! ### the reference -/
set_option maxHeartbeats 400000 in
theorem may_yes (B P : Int) (w : World) (h1 : 16 ≤ B) (h2 : B ≤ 64) (h3 : 8 ≤ P) (h4 : P ≤ 32) :
    Calls Try.prog 10 #[.int .i64 B, .int .i64 P] w fun e w' => e = .returned (.bool true) ∧ w = w' := by
  go_enter Try.func10, Try.ntmps10
  go_wp2
  go_ret
  exact ⟨rfl, rfl⟩
set_option maxHeartbeats 400000 in
theorem may_no (B P : Int) (w : World) (h : B < 16 ∨ 64 < B ∨ P < 8 ∨ 32 < P) :
    Calls Try.prog 10 #[.int .i64 B, .int .i64 P] w fun e w' => e = .returned (.bool false) ∧ w = w' := by
  by_cases a : B < 16
  · clear h
    go_enter Try.func10, Try.ntmps10
    go_wp2
    go_ret
    exact ⟨rfl, rfl⟩
  by_cases b : 64 < B
  · clear h
    go_enter Try.func10, Try.ntmps10
    go_wp2
    go_ret
    exact ⟨rfl, rfl⟩
  by_cases c : P < 8
  · clear h
    go_enter Try.func10, Try.ntmps10
    go_wp2
    go_ret
    exact ⟨rfl, rfl⟩
  have d : 32 < P := by omega
  have d' : decide (P ≤ 32) = false := by simp; omega
  clear h
  go_enter Try.func10, Try.ntmps10
  go_wp2
  go_ret
  exact ⟨rfl, rfl⟩
end Go.Proofs.Ytkkfolbidclonaa.geo
