/- first contracts of package geom -/
import Derived.Test.YtkkfolbidclonaaRows
import Derived.WalkKit
import Derived.ProofKit
import Derived.OpenShut
namespace Go.Proofs.Ytkkfolbidclonaa.geo
open Go.RowKit
set_option linter.unusedVariables false

set_option maxHeartbeats 400000 in
theorem check_yes (B P : Int) (w : World) (h1 : 16 ≤ B) (h2 : B ≤ 64) (h3 : 8 ≤ P) (h4 : P ≤ 32) :
    Calls Try.prog 12 #[.agg #[.int .i64 B, .int .i64 P]] w fun e w' => e = .returned (.int .i64 0) ∧ w.alloc (.cells #[.int .i64 B, .int .i64 P] 23) = w' := by
  go_enter Try.func12, Try.ntmps12
  go_wp2
  go_ret
  exact ⟨rfl, rfl⟩

set_option maxHeartbeats 400000 in
theorem check_no (B P : Int) (w : World) (h : B < 16 ∨ 64 < B ∨ P < 8 ∨ 32 < P) :
    Calls Try.prog 12 #[.agg #[.int .i64 B, .int .i64 P]] w fun e w' => e = .returned (.int .i64 1) ∧ w.alloc (.cells #[.int .i64 B, .int .i64 P] 23) = w' := by
  by_cases a : B < 16
  · clear h
    go_enter Try.func12, Try.ntmps12
    go_wp2
    go_ret
    exact ⟨rfl, rfl⟩
  by_cases b : 64 < B
  · clear h
    go_enter Try.func12, Try.ntmps12
    go_wp2
    go_ret
    exact ⟨rfl, rfl⟩
  by_cases c : P < 8
  · clear h
    go_enter Try.func12, Try.ntmps12
    go_wp2
    go_ret
    exact ⟨rfl, rfl⟩
  have d : 32 < P := by omega
  clear h
  go_enter Try.func12, Try.ntmps12
  go_wp2
  go_ret
  exact ⟨rfl, rfl⟩
end Go.Proofs.Ytkkfolbidclonaa.geo
