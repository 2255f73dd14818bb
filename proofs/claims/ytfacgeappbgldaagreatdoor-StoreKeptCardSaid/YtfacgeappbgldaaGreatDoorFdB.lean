/- field: fits, Get. -/
import Derived.Test.YtfacgeappbgldaaGreatDoorFdA
namespace Go.Proofs.YtfacgeappbgldaaGreatDoor.fd
open Go.RowKit Go.Proofs.YtfacgeappbgldaaGreatDoor.er
set_option linter.unusedVariables false

theorem fits1 (n : Int) (w : World) (h0 : 0 ≤ n) (h1 : n < 18446744073709551616) :
    Calls Tryz.prog 85 #[.int .u64 n, .int .i64 1] w fun e w' => e = .returned (.bool (n / 256 == 0)) ∧ w = w' := by
  go_enter Tryz.func85, Tryz.ntmps85
  go_wp2_with fail
  go_ret
  exact ⟨by simp, rfl⟩
theorem fits2 (n : Int) (w : World) (h0 : 0 ≤ n) (h1 : n < 18446744073709551616) :
    Calls Tryz.prog 85 #[.int .u64 n, .int .i64 2] w fun e w' => e = .returned (.bool (n / 65536 == 0)) ∧ w = w' := by
  go_enter Tryz.func85, Tryz.ntmps85
  go_wp2_with fail
  go_ret
  exact ⟨by simp, rfl⟩
theorem fits4 (n : Int) (w : World) (h0 : 0 ≤ n) (h1 : n < 18446744073709551616) :
    Calls Tryz.prog 85 #[.int .u64 n, .int .i64 4] w fun e w' => e = .returned (.bool (n / 4294967296 == 0)) ∧ w = w' := by
  go_enter Tryz.func85, Tryz.ntmps85
  go_wp2_with fail
  go_ret
  exact ⟨by simp, rfl⟩
theorem fits6 (n : Int) (w : World) (h0 : 0 ≤ n) (h1 : n < 18446744073709551616) :
    Calls Tryz.prog 85 #[.int .u64 n, .int .i64 6] w fun e w' => e = .returned (.bool (n / 281474976710656 == 0)) ∧ w = w' := by
  go_enter Tryz.func85, Tryz.ntmps85
  go_wp2_with fail
  go_ret
  exact ⟨by simp, rfl⟩
end Go.Proofs.YtfacgeappbgldaaGreatDoor.fd
