/- field: none of a page's widths is wrong. -/
import Derived.Test.YtfacgeappbgldaaGreatDoorFdC
namespace Go.Proofs.YtfacgeappbgldaaGreatDoor.fd
open Go.RowKit Go.Proofs.YtfacgeappbgldaaGreatDoor.er
set_option linter.unusedVariables false

/-- The row of a page's widths. -/
def WidthsAt (w : World) (g : Nat) : Prop := Whole w g 3 #[.int .i64 1, .int .i64 2, .int .i64 4, .int .i64 6, .int .i64 1]
def widN : Nat → Nat | 0 => 1 | 1 => 2 | 2 => 4 | 3 => 6 | _ => 1
theorem WidthsAt.cell {w : World} {g : Nat} (h : WidthsAt w g) (j : Nat) (hj : j < 5) : w.cell? ⟨g, j, none⟩ = some (.int .i64 (widN j)) := by
  rw [Whole.cell h j]
  match j, hj with
  | 0, _ => rfl
  | 1, _ => rfl
  | 2, _ => rfl
  | 3, _ => rfl
  | 4, _ => rfl
theorem widN_le (j : Nat) : 1 ≤ widN j ∧ widN j ≤ 8 := by
  unfold widN
  split <;> omega
theorem wrong_not (j : Nat) (w : World) :
    Calls Tryz.prog 84 #[.int .i64 (widN j)] w fun e w' => e = .returned (.bool false) ∧ w = w' := by
  refine (wrong_any _ _).mono ?_
  rintro e w' ⟨rfl, rfl⟩
  have := widN_le j
  refine ⟨?_, rfl⟩
  rw [decide_eq_true (show (1 : Int) ≤ (widN j : Int) by omega), decide_eq_true (show (widN j : Int) ≤ 8 by omega)]
  rfl
set_option maxHeartbeats 1000000 in
theorem index_w (g : Nat) (w : World) (hw : WidthsAt w g) :
    Calls Tryz.prog 96 #[.slice (some ⟨g, 0, none⟩) 5 5, .func (.func 84) #[] #[]] w fun e w' => e = .returned (.int .i64 (-1)) ∧ w = w' := by
  have HW := Lib.hid hw
  clear hw
  go_enter Tryz.func96, Tryz.ntmps96
  go_wp2_with fail
  go_loopw [8] (fun i wr => ∃ j : Nat, j ≤ 5 ∧ i = .int .i64 j ∧ w = wr) (fun i _ => 5 - (intOf i).toNat)
  case atStart => exact ⟨0, Nat.zero_le _, rfl, rfl⟩
  case round =>
    obtain ⟨j, hj, rfl, rfl⟩ := hrel
    by_cases hlt : j < 5
    · have c0 := HW.out.cell j hlt
      have hlt2 : (j : Int) < 5 := by omega
      go_wp2_with (go_at_call 84; refine (wrong_not j _).mono ?_; rintro e w2 ⟨rfl, rfl⟩)
      go_roundw
      case rel => exact ⟨j + 1, by omega, by go_num, trivial⟩
      case measure => simp [intOf]; omega
    · obtain rfl : j = 5 := by omega
      go_wp2_with fail
      go_ret
      exact ⟨rfl, rfl⟩
theorem contains_w (g : Nat) (w : World) (hw : WidthsAt w g) :
    Calls Tryz.prog 83 #[.slice (some ⟨g, 0, none⟩) 5 5, .func (.func 84) #[] #[]] w fun e w' => e = .returned (.bool false) ∧ w = w' := by
  go_enter Tryz.func83, Tryz.ntmps83
  go_wp2_with (go_at_call 96; refine (index_w g _ hw).mono ?_; rintro e w2 ⟨rfl, rfl⟩)
  go_ret
  exact ⟨rfl, rfl⟩
end Go.Proofs.YtfacgeappbgldaaGreatDoor.fd
