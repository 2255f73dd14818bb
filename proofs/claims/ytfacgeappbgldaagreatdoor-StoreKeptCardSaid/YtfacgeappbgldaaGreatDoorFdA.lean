/- field: width, fits, laid, Get (walks and plain). -/
import Derived.Test.YtfacgeappbgldaaGreatDoorCkA
namespace Go.Proofs.YtfacgeappbgldaaGreatDoor.fd
open Go.RowKit Go.Proofs.YtfacgeappbgldaaGreatDoor.er
set_option linter.unusedVariables false

theorem width_any (n : Int) (w : World) :
    Calls Tryz.prog 97 #[.int .i64 n] w fun e w' => e = .returned (.bool (decide (1 ≤ n) && decide (n ≤ 8))) ∧ w = w' := by
  go_enter Tryz.func97, Tryz.ntmps97
  by_cases h1 : 1 ≤ n
  · by_cases h8 : n ≤ 8
    · go_wp2_with fail
      go_ret
      exact ⟨by simp [h1, h8], rfl⟩
    · go_wp2_with fail
      go_ret
      exact ⟨by simp [h1, h8], rfl⟩
  · have h1' : n < 1 := by omega
    go_wp2_with fail
    go_ret
    exact ⟨by simp; omega, rfl⟩
theorem wrong_any (n : Int) (w : World) :
    Calls Tryz.prog 84 #[.int .i64 n] w fun e w' => e = .returned (.bool (!(decide (1 ≤ n) && decide (n ≤ 8)))) ∧ w = w' := by
  go_enter Tryz.func84, Tryz.ntmps84
  go_wp2_with fail
  refine (width_any n _).mono ?_
  rintro e w' ⟨rfl, rfl⟩
  go_wp2_with fail
  go_ret
  exact ⟨by simp, rfl⟩
/-- The bytes of a number, the least first. -/
def bytesOf (k : Nat) (n : Int) : List Int := (List.range k).map fun (j : Nat) => n / (256 ^ j : Int) % 256
set_option maxHeartbeats 4000000 in
set_option maxRecDepth 100000 in
theorem laid1 (n : Int) (w : World) (h0 : 0 ≤ n) (h1 : n < 18446744073709551616) :
    Calls Tryz.prog 87 #[.int .u64 n, .int .i64 1] w fun e w' => e = .returned (.string (strOfNums (bytesOf 1 n))) ∧ Below w.heap.size w w' := by
  have hcv := run_convert_bytes_arg (P := Tryz.prog) (w.alloc (.cells #[.int .u8 (n % 256), .int .u8 0, .int .u8 0, .int .u8 0, .int .u8 0, .int .u8 0, .int .u8 0, .int .u8 0] 171)) 154 5 Tryz.underlying154 Tryz.underlying5 w.heap.size 0 1 8 (bytesOf 1 n) (by simp [bytesOf]) (fun i hi => by
    have hw := Whole.new w 171 #[.int .u8 (n % 256), .int .u8 0, .int .u8 0, .int .u8 0, .int .u8 0, .int .u8 0, .int .u8 0, .int .u8 0]
    rw [Nat.zero_add, hw.cell i]
    match i, hi with
    | 0, _ => simp [bytesOf]) 9 Tryz.underlying9
  go_enter Tryz.func87, Tryz.ntmps87
  go_wp2_with fail
  go_ret
  exact ⟨rfl, (Below.refl _ _).alloc (Nat.le_refl _) _⟩
set_option maxHeartbeats 4000000 in
set_option maxRecDepth 100000 in
theorem laid2 (n : Int) (w : World) (h0 : 0 ≤ n) (h1 : n < 18446744073709551616) :
    Calls Tryz.prog 87 #[.int .u64 n, .int .i64 2] w fun e w' => e = .returned (.string (strOfNums (bytesOf 2 n))) ∧ Below w.heap.size w w' := by
  have hcv := run_convert_bytes_arg (P := Tryz.prog) (w.alloc (.cells #[.int .u8 (n % 256), .int .u8 (n / 256 % 256), .int .u8 0, .int .u8 0, .int .u8 0, .int .u8 0, .int .u8 0, .int .u8 0] 171)) 154 5 Tryz.underlying154 Tryz.underlying5 w.heap.size 0 2 8 (bytesOf 2 n) (by simp [bytesOf]) (fun i hi => by
    have hw := Whole.new w 171 #[.int .u8 (n % 256), .int .u8 (n / 256 % 256), .int .u8 0, .int .u8 0, .int .u8 0, .int .u8 0, .int .u8 0, .int .u8 0]
    rw [Nat.zero_add, hw.cell i]
    match i, hi with
    | 0, _ => simp [bytesOf]
    | 1, _ => simp [bytesOf]) 9 Tryz.underlying9
  go_enter Tryz.func87, Tryz.ntmps87
  go_wp2_with fail
  go_ret
  exact ⟨rfl, (Below.refl _ _).alloc (Nat.le_refl _) _⟩
set_option maxHeartbeats 4000000 in
set_option maxRecDepth 100000 in
theorem laid4 (n : Int) (w : World) (h0 : 0 ≤ n) (h1 : n < 18446744073709551616) :
    Calls Tryz.prog 87 #[.int .u64 n, .int .i64 4] w fun e w' => e = .returned (.string (strOfNums (bytesOf 4 n))) ∧ Below w.heap.size w w' := by
  have hcv := run_convert_bytes_arg (P := Tryz.prog) (w.alloc (.cells #[.int .u8 (n % 256), .int .u8 (n / 256 % 256), .int .u8 (n / 65536 % 256), .int .u8 (n / 16777216 % 256), .int .u8 0, .int .u8 0, .int .u8 0, .int .u8 0] 171)) 154 5 Tryz.underlying154 Tryz.underlying5 w.heap.size 0 4 8 (bytesOf 4 n) (by simp [bytesOf]) (fun i hi => by
    have hw := Whole.new w 171 #[.int .u8 (n % 256), .int .u8 (n / 256 % 256), .int .u8 (n / 65536 % 256), .int .u8 (n / 16777216 % 256), .int .u8 0, .int .u8 0, .int .u8 0, .int .u8 0]
    rw [Nat.zero_add, hw.cell i]
    match i, hi with
    | 0, _ => simp [bytesOf]
    | 1, _ => simp [bytesOf]
    | 2, _ => simp [bytesOf]
    | 3, _ => simp [bytesOf]) 9 Tryz.underlying9
  go_enter Tryz.func87, Tryz.ntmps87
  go_wp2_with fail
  go_ret
  exact ⟨rfl, (Below.refl _ _).alloc (Nat.le_refl _) _⟩
set_option maxHeartbeats 4000000 in
set_option maxRecDepth 100000 in
theorem laid6 (n : Int) (w : World) (h0 : 0 ≤ n) (h1 : n < 18446744073709551616) :
    Calls Tryz.prog 87 #[.int .u64 n, .int .i64 6] w fun e w' => e = .returned (.string (strOfNums (bytesOf 6 n))) ∧ Below w.heap.size w w' := by
  have hcv := run_convert_bytes_arg (P := Tryz.prog) (w.alloc (.cells #[.int .u8 (n % 256), .int .u8 (n / 256 % 256), .int .u8 (n / 65536 % 256), .int .u8 (n / 16777216 % 256), .int .u8 (n / 4294967296 % 256), .int .u8 (n / 1099511627776 % 256), .int .u8 0, .int .u8 0] 171)) 154 5 Tryz.underlying154 Tryz.underlying5 w.heap.size 0 6 8 (bytesOf 6 n) (by simp [bytesOf]) (fun i hi => by
    have hw := Whole.new w 171 #[.int .u8 (n % 256), .int .u8 (n / 256 % 256), .int .u8 (n / 65536 % 256), .int .u8 (n / 16777216 % 256), .int .u8 (n / 4294967296 % 256), .int .u8 (n / 1099511627776 % 256), .int .u8 0, .int .u8 0]
    rw [Nat.zero_add, hw.cell i]
    match i, hi with
    | 0, _ => simp [bytesOf]
    | 1, _ => simp [bytesOf]
    | 2, _ => simp [bytesOf]
    | 3, _ => simp [bytesOf]
    | 4, _ => simp [bytesOf]
    | 5, _ => simp [bytesOf]) 9 Tryz.underlying9
  go_enter Tryz.func87, Tryz.ntmps87
  go_wp2_with fail
  go_ret
  exact ⟨rfl, (Below.refl _ _).alloc (Nat.le_refl _) _⟩
end Go.Proofs.YtfacgeappbgldaaGreatDoor.fd
