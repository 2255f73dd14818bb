/- Contracts of nand's ready, with the closures that it is handed. (By wip/tools/gen_ready.py.) -/
import Derived.Test.YtfacgeappbgldaaGreatDoorNdC
namespace Go.Proofs.YtfacgeappbgldaaGreatDoor.nd
open Go.RowKit Go.Proofs.YtfacgeappbgldaaGreatDoor.er
set_option linter.unusedVariables false

/-- What ready answers: the array is down or not, the call may be or not. -/
def readyC : Bool → Bool → Int | true, _ => 9 | false, false => 1 | false, true => 0
theorem block_any (w : World) (F : Nat → Prop) (p : Nat) (s : Nand) (q : Int) (h : NandAt w F p s) :
    Calls Tryz.prog 42 #[.pointer (some ⟨p, 0, none⟩), .int .i64 q] w fun e w' => e = .returned (.bool (s.has q)) ∧ w = w' := by
  obtain ⟨pb, pv, vs, h⟩ := h
  obtain ⟨c0, c1, c2, c3, c4, c5, hpl, hfz⟩ := h.hide
  have h1 := h.ok.b1
  unfold Nand.has
  clear h c1 c2 c3 c4 c5 hfz
  generalize s.blocks = bl at *
  have hn : ∀ (w : World), (binOp .neq 22 (.pointer (some ⟨p, 0, none⟩)) (.pointer none)).run Tryz.prog w = .ok (.bool true) w := fun w => by kernel_rfl
  by_cases hq : 0 ≤ q
  · have hd : decide (0 ≤ q) = true := by simpa using hq
    go_enter Tryz.func42, Tryz.ntmps42
    go_wp2
    go_ret
    exact ⟨by simp [hq], rfl⟩
  · have hd : decide (0 ≤ q) = false := by simpa using hq
    go_enter Tryz.func42, Tryz.ntmps42
    go_wp2
    go_ret
    exact ⟨by simp [hq], rfl⟩
theorem block_nil (q : Int) (w : World) :
    Calls Tryz.prog 42 #[.pointer none, .int .i64 q] w fun e w' => e = .returned (.bool false) ∧ w = w' := by
  go_enter Tryz.func42, Tryz.ntmps42
  go_wp2
  go_ret
  exact ⟨rfl, rfl⟩
theorem ready_nil (fv : Value) (w : World) :
    Calls Tryz.prog 62 #[.pointer none, fv] w fun e w' => e = .returned (errV 1) ∧ w = w' := by
  go_enter Tryz.func62, Tryz.ntmps62
  go_wp2_with fail
  go_ret
  exact ⟨rfl, rfl⟩

set_option maxHeartbeats 1000000 in
theorem program_cl (w : World) (F : Nat → Prop) (p : Nat) (s : Nand) (q : Int) (t : ByteArray) (bn bq bt : Nat) (h : NandAt w F p s) (hbn : w.cell? ⟨bn, 0, none⟩ = some (.pointer (some ⟨p, 0, none⟩))) (hbq : w.cell? ⟨bq, 0, none⟩ = some (.int .i64 q)) (hbt : w.cell? ⟨bt, 0, none⟩ = some (.string t)) :
    Calls Tryz.prog 63 #[.pointer (some ⟨bn, 0, none⟩), .pointer (some ⟨bq, 0, none⟩), .pointer (some ⟨bt, 0, none⟩)] w fun e w' => e = .returned (.bool (hasPage s q && decide (t.size ≤ 128))) ∧ ∃ n, w' = w.drewN n := by
  have H := Lib.hid h
  clear h
  cases hq : hasPage s q
  all_goals
    have HQ := Lib.hid hq
    clear hq
    go_enter Tryz.func63, Tryz.ntmps63
    go_wp2_with (go_at_call 64; refine (page_any _ F p s q H.out).mono ?_; rw [HQ.out]; rintro e w' ⟨rfl, n, rfl⟩)
    go_ret
    exact ⟨by simp; try omega, n, rfl⟩

set_option maxHeartbeats 1000000 in
theorem program_ready (w : World) (F : Nat → Prop) (p : Nat) (s : Nand) (q : Int) (t : ByteArray) (bn bq bt : Nat) (h : NandAt w F p s) (hbn : w.cell? ⟨bn, 0, none⟩ = some (.pointer (some ⟨p, 0, none⟩))) (hbq : w.cell? ⟨bq, 0, none⟩ = some (.int .i64 q)) (hbt : w.cell? ⟨bt, 0, none⟩ = some (.string t)) :
    Calls Tryz.prog 62 #[.pointer (some ⟨p, 0, none⟩), .func (.func 63) #[] #[.pointer (some ⟨bn, 0, none⟩), .pointer (some ⟨bq, 0, none⟩), .pointer (some ⟨bt, 0, none⟩)]] w fun e w' => e = .returned (errV (readyC s.down (hasPage s q && decide (t.size ≤ 128)))) ∧ ∃ n, w' = w.drewN n := by
  have H := Lib.hid h
  obtain ⟨pb, pv, vs, h⟩ := h
  obtain ⟨c0, c1, c2, c3, c4, c5, hpl, hfz⟩ := h.hide
  have hn : ∀ (w : World), (binOp .eql 22 (.pointer (some ⟨p, 0, none⟩)) (.pointer none)).run Tryz.prog w = .ok (.bool false) w := fun w => by kernel_rfl
  clear h c0 c1 c2 c3 c4 hfz
  cases hd : s.down
  · rw [hd] at c5
    have HD := Lib.hid hd
    clear hd
    cases hq : (hasPage s q && decide (t.size ≤ 128))
    all_goals
      have HQ := Lib.hid hq
      clear hq
      go_enter Tryz.func62, Tryz.ntmps62
      go_wp2_with (go_at_call 63; refine (program_cl _ F p s q t bn bq bt H.out hbn hbq hbt).mono ?_; rw [HQ.out]; rintro e w' ⟨rfl, n, rfl⟩)
      go_ret
      exact ⟨rfl, n, rfl⟩
  · rw [hd] at c5
    have HD := Lib.hid hd
    clear hd
    go_enter Tryz.func62, Tryz.ntmps62
    go_wp2_with fail
    go_ret
    exact ⟨rfl, 0, rfl⟩

set_option maxHeartbeats 1000000 in
theorem erase_cl (w : World) (F : Nat → Prop) (p : Nat) (s : Nand) (q : Int) (bn bq : Nat) (h : NandAt w F p s) (hbn : w.cell? ⟨bn, 0, none⟩ = some (.pointer (some ⟨p, 0, none⟩))) (hbq : w.cell? ⟨bq, 0, none⟩ = some (.int .i64 q)) :
    Calls Tryz.prog 94 #[.pointer (some ⟨bn, 0, none⟩), .pointer (some ⟨bq, 0, none⟩)] w fun e w' => e = .returned (.bool (s.has q)) ∧ ∃ n, w' = w.drewN n := by
  have H := Lib.hid h
  clear h
  go_enter Tryz.func94, Tryz.ntmps94
  go_wp2_with (go_at_call 42; refine (block_any _ F p s q H.out).mono ?_; rintro e w' ⟨rfl, rfl⟩)
  go_ret
  exact ⟨rfl, 0, rfl⟩

set_option maxHeartbeats 1000000 in
theorem erase_ready (w : World) (F : Nat → Prop) (p : Nat) (s : Nand) (q : Int) (bn bq : Nat) (h : NandAt w F p s) (hbn : w.cell? ⟨bn, 0, none⟩ = some (.pointer (some ⟨p, 0, none⟩))) (hbq : w.cell? ⟨bq, 0, none⟩ = some (.int .i64 q)) :
    Calls Tryz.prog 62 #[.pointer (some ⟨p, 0, none⟩), .func (.func 94) #[] #[.pointer (some ⟨bn, 0, none⟩), .pointer (some ⟨bq, 0, none⟩)]] w fun e w' => e = .returned (errV (readyC s.down (s.has q))) ∧ ∃ n, w' = w.drewN n := by
  have H := Lib.hid h
  obtain ⟨pb, pv, vs, h⟩ := h
  obtain ⟨c0, c1, c2, c3, c4, c5, hpl, hfz⟩ := h.hide
  have hn : ∀ (w : World), (binOp .eql 22 (.pointer (some ⟨p, 0, none⟩)) (.pointer none)).run Tryz.prog w = .ok (.bool false) w := fun w => by kernel_rfl
  clear h c0 c1 c2 c3 c4 hfz
  cases hd : s.down
  · rw [hd] at c5
    have HD := Lib.hid hd
    clear hd
    cases hq : (s.has q)
    all_goals
      have HQ := Lib.hid hq
      clear hq
      go_enter Tryz.func62, Tryz.ntmps62
      go_wp2_with (go_at_call 94; refine (erase_cl _ F p s q bn bq H.out hbn hbq).mono ?_; rw [HQ.out]; rintro e w' ⟨rfl, n, rfl⟩)
      go_ret
      exact ⟨rfl, n, rfl⟩
  · rw [hd] at c5
    have HD := Lib.hid hd
    clear hd
    go_enter Tryz.func62, Tryz.ntmps62
    go_wp2_with fail
    go_ret
    exact ⟨rfl, 0, rfl⟩

set_option maxHeartbeats 1000000 in
theorem read_cl (w : World) (F : Nat → Prop) (p : Nat) (s : Nand) (q : Int) (bn bq : Nat) (h : NandAt w F p s) (hbn : w.cell? ⟨bn, 0, none⟩ = some (.pointer (some ⟨p, 0, none⟩))) (hbq : w.cell? ⟨bq, 0, none⟩ = some (.int .i64 q)) :
    Calls Tryz.prog 92 #[.pointer (some ⟨bn, 0, none⟩), .pointer (some ⟨bq, 0, none⟩)] w fun e w' => e = .returned (.bool (hasPage s q)) ∧ ∃ n, w' = w.drewN n := by
  have H := Lib.hid h
  clear h
  go_enter Tryz.func92, Tryz.ntmps92
  go_wp2_with (go_at_call 64; refine (page_any _ F p s q H.out).mono ?_; rintro e w' ⟨rfl, n, rfl⟩)
  go_ret
  exact ⟨rfl, n, rfl⟩

set_option maxHeartbeats 1000000 in
theorem read_ready (w : World) (F : Nat → Prop) (p : Nat) (s : Nand) (q : Int) (bn bq : Nat) (h : NandAt w F p s) (hbn : w.cell? ⟨bn, 0, none⟩ = some (.pointer (some ⟨p, 0, none⟩))) (hbq : w.cell? ⟨bq, 0, none⟩ = some (.int .i64 q)) :
    Calls Tryz.prog 62 #[.pointer (some ⟨p, 0, none⟩), .func (.func 92) #[] #[.pointer (some ⟨bn, 0, none⟩), .pointer (some ⟨bq, 0, none⟩)]] w fun e w' => e = .returned (errV (readyC s.down (hasPage s q))) ∧ ∃ n, w' = w.drewN n := by
  have H := Lib.hid h
  obtain ⟨pb, pv, vs, h⟩ := h
  obtain ⟨c0, c1, c2, c3, c4, c5, hpl, hfz⟩ := h.hide
  have hn : ∀ (w : World), (binOp .eql 22 (.pointer (some ⟨p, 0, none⟩)) (.pointer none)).run Tryz.prog w = .ok (.bool false) w := fun w => by kernel_rfl
  clear h c0 c1 c2 c3 c4 hfz
  cases hd : s.down
  · rw [hd] at c5
    have HD := Lib.hid hd
    clear hd
    cases hq : (hasPage s q)
    all_goals
      have HQ := Lib.hid hq
      clear hq
      go_enter Tryz.func62, Tryz.ntmps62
      go_wp2_with (go_at_call 92; refine (read_cl _ F p s q bn bq H.out hbn hbq).mono ?_; rw [HQ.out]; rintro e w' ⟨rfl, n, rfl⟩)
      go_ret
      exact ⟨rfl, n, rfl⟩
  · rw [hd] at c5
    have HD := Lib.hid hd
    clear hd
    go_enter Tryz.func62, Tryz.ntmps62
    go_wp2_with fail
    go_ret
    exact ⟨rfl, 0, rfl⟩
end Go.Proofs.YtfacgeappbgldaaGreatDoor.nd
