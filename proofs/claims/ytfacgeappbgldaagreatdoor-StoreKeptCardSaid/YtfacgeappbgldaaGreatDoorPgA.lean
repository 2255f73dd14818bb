/- page: in, may (walks and plain). -/
import Derived.Test.YtfacgeappbgldaaGreatDoorFlB
namespace Go.Proofs.YtfacgeappbgldaaGreatDoor.pg
open Go.RowKit Go.Proofs.YtfacgeappbgldaaGreatDoor.er
set_option linter.unusedVariables false

structure Page where
  kind : Int
  space : Int
  key : Int
  seq : Int
  body : ByteArray
def Page.val (p : Page) : Value := .agg #[.int .i64 p.kind, .int .i64 p.space, .int .i64 p.key, .int .i64 p.seq, .string p.body]
def inB (n most : Int) : Bool := decide (0 ≤ n) && decide (n ≤ most)
theorem in_any (n m : Int) (w : World) :
    Calls Tryz.prog 82 #[.int .i64 n, .int .i64 m] w fun e w' => e = .returned (.bool (inB n m)) ∧ w = w' := by
  go_enter Tryz.func82, Tryz.ntmps82
  by_cases h1 : 0 ≤ n
  · by_cases h8 : n ≤ m
    · go_wp2_with fail
      go_ret
      exact ⟨by simp [inB, h1, h8], rfl⟩
    · have h8' : m < n := by omega
      go_wp2_with fail
      go_ret
      exact ⟨by simp [inB, h1]; omega, rfl⟩
  · have h1' : n < 0 := by omega
    go_wp2_with fail
    go_ret
    exact ⟨by simp [inB]; omega, rfl⟩
def mayB (p : Page) : Bool := decide (1 ≤ p.kind) && decide (p.kind ≤ 4) && inB p.space 65535 && inB p.key 4294967295 && inB p.seq 281474976710655 && decide (p.body.size ≤ 100)
set_option maxHeartbeats 4000000 in
set_option maxRecDepth 100000 in
theorem may_any (p : Page) (w : World) :
    Calls Tryz.prog 67 #[p.val] w fun e w' => e = .returned (.bool (mayB p)) ∧ Below w.heap.size w w' := by
  obtain ⟨k, s, y, q, b⟩ := p
  show Calls Tryz.prog 67 #[.agg #[.int .i64 k, .int .i64 s, .int .i64 y, .int .i64 q, .string b]] w _
  have hb1 : Below w.heap.size w (w.alloc (.cells #[.int .i64 k, .int .i64 s, .int .i64 y, .int .i64 q, .string b] 39)) := (Below.refl _ _).alloc (Nat.le_refl _) _
  have HB1 := Lib.hid hb1
  clear hb1
  by_cases h1 : 1 ≤ k
  · by_cases h2 : k ≤ 4
    · cases h3 : inB s 65535
      · have H3 := Lib.hid h3
        clear h3
        have H4 := H3
        have H5 := H3
        go_enter Tryz.func67, Tryz.ntmps67
        go_wp2_with (go_at_call 82; refine (in_any _ _ _).mono ?_; (first | rw [H3.out] | rw [H4.out] | rw [H5.out]); rintro e w' ⟨rfl, rfl⟩)
        go_ret
        exact ⟨by simp [mayB, h1, h2, H3.out], HB1.out⟩
      · have H3 := Lib.hid h3
        clear h3
        cases h4 : inB y 4294967295
        · have H4 := Lib.hid h4
          clear h4
          have H5 := H4
          go_enter Tryz.func67, Tryz.ntmps67
          go_wp2_with (go_at_call 82; refine (in_any _ _ _).mono ?_; (first | rw [H3.out] | rw [H4.out] | rw [H5.out]); rintro e w' ⟨rfl, rfl⟩)
          go_ret
          exact ⟨by simp [mayB, h1, h2, H3.out, H4.out], HB1.out⟩
        · have H4 := Lib.hid h4
          clear h4
          cases h5 : inB q 281474976710655
          · have H5 := Lib.hid h5
            clear h5
            go_enter Tryz.func67, Tryz.ntmps67
            go_wp2_with (go_at_call 82; refine (in_any _ _ _).mono ?_; (first | rw [H3.out] | rw [H4.out] | rw [H5.out]); rintro e w' ⟨rfl, rfl⟩)
            go_ret
            exact ⟨by simp [mayB, h1, h2, H3.out, H4.out, H5.out], HB1.out⟩
          · have H5 := Lib.hid h5
            clear h5
            by_cases h6 : b.size ≤ 100
            · have h6' : (b.size : Int) ≤ 100 := by omega
              go_enter Tryz.func67, Tryz.ntmps67
              go_wp2_with (go_at_call 82; refine (in_any _ _ _).mono ?_; (first | rw [H3.out] | rw [H4.out] | rw [H5.out]); rintro e w' ⟨rfl, rfl⟩)
              go_ret
              exact ⟨by simp [mayB, h1, h2, H3.out, H4.out, H5.out, h6], HB1.out⟩
            · have h6' : (100 : Int) < (b.size : Int) := by omega
              go_enter Tryz.func67, Tryz.ntmps67
              go_wp2_with (go_at_call 82; refine (in_any _ _ _).mono ?_; (first | rw [H3.out] | rw [H4.out] | rw [H5.out]); rintro e w' ⟨rfl, rfl⟩)
              go_ret
              exact ⟨by simp [mayB, h1, h2, H3.out, H4.out, H5.out]; omega, HB1.out⟩
    · have h2' : 4 < k := by omega
      go_enter Tryz.func67, Tryz.ntmps67
      go_wp2_with fail
      go_ret
      exact ⟨by rw [show mayB ⟨k, s, y, q, b⟩ = false from by unfold mayB; rw [decide_eq_false (show ¬ k ≤ 4 by omega)]; simp]; rfl, HB1.out⟩
  · have h1' : k < 1 := by omega
    go_enter Tryz.func67, Tryz.ntmps67
    go_wp2_with fail
    go_ret
    exact ⟨by rw [show mayB ⟨k, s, y, q, b⟩ = false from by unfold mayB; rw [decide_eq_false (show ¬ 1 ≤ k by omega)]; simp]; rfl, HB1.out⟩
end Go.Proofs.YtfacgeappbgldaaGreatDoor.pg
