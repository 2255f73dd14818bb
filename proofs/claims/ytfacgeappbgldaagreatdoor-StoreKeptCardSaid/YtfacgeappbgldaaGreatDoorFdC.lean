/- field: Get. -/
import Derived.Test.YtfacgeappbgldaaGreatDoorFdB
import Derived.Laws.BitsAllLaws
import Derived.Laws.Closers25b
namespace Go.Proofs.YtfacgeappbgldaaGreatDoor.fd
open Go.RowKit Go.Proofs.YtfacgeappbgldaaGreatDoor.er
set_option linter.unusedVariables false

def byteAt (s : ByteArray) (i : Nat) : Int := if h : i < s.size then s[i].toNat else 0
def getStep (x b : Int) : Int := bits .or .u64 (IntKind.u64.wrap (x * 256)) (IntKind.u64.wrap b)
/-- The number of the d bytes that end at a + k. -/
def getN (s : ByteArray) (a k : Nat) : Nat → Int
  | 0 => 0
  | d + 1 => getStep (getN s a k d) (byteAt s (a + (k - 1 - d)))
set_option maxHeartbeats 4000000 in
set_option maxRecDepth 100000 in
theorem get_short (s : ByteArray) (a k : Nat) (w : World) (hk : 1 ≤ k) (hk8 : k ≤ 8) (ha : a ≤ s.size) (hs : s.size ≤ 70368744177664) (h : s.size < a + k) :
    Calls Tryz.prog 93 #[.string s, .int .i64 a, .int .i64 k] w fun e w' => e = .returned (.tuple #[.int .u64 0, .int .i64 5]) ∧ w = w' := by
  have k1 : (1 : Int) ≤ (k : Int) := by omega
  have k8 : (k : Int) ≤ 8 := by omega
  have a0 : (0 : Int) ≤ (a : Int) := by omega
  have a1 : (a : Int) ≤ (s.size : Int) := by omega
  have h1 : (s.size : Int) - (a : Int) < (k : Int) := by omega
  go_enter Tryz.func93, Tryz.ntmps93
  go_wp2_with fail
  refine (width_any k _).mono ?_
  rintro e w' ⟨rfl, rfl⟩
  go_wp2_with fail
  refine bodyPost_ret (v := .tuple #[.int .u64 0, .int .i64 5]) (by simp [results, Tryz.results93, go_sem]) rfl ⟨rfl, rfl⟩
set_option maxHeartbeats 4000000 in
set_option maxRecDepth 100000 in
theorem get_some (s : ByteArray) (a k : Nat) (w : World) (hk : 1 ≤ k) (hk8 : k ≤ 8) (hs : s.size ≤ 70368744177664) (h : a + k ≤ s.size) :
    Calls Tryz.prog 93 #[.string s, .int .i64 a, .int .i64 k] w fun e w' => e = .returned (.tuple #[.int .u64 (getN s a k k), .int .i64 0]) ∧ w = w' := by
  have k1 : (1 : Int) ≤ (k : Int) := by omega
  have k8 : (k : Int) ≤ 8 := by omega
  have a0 : (0 : Int) ≤ (a : Int) := by omega
  have a1 : (a : Int) ≤ (s.size : Int) := by omega
  have h1 : (k : Int) ≤ (s.size : Int) - (a : Int) := by omega
  have hb0 : decide ((a : Int) < 0) = false := by simp
  have hb1 : decide (s.size < a) = false := by simp; omega
  have hb2 : decide ((s.size : Int) - (a : Int) < (k : Int)) = false := by simp; omega
  go_enter Tryz.func93, Tryz.ntmps93
  go_wp2_with fail
  refine (width_any k _).mono ?_
  rintro e w' ⟨rfl, rfl⟩
  go_wp2_with fail
  go_loopw [8, 9] (fun nv i wr => ∃ (d : Nat) (x : Int), d ≤ k ∧ i = .int .i64 ((k : Int) - 1 - (d : Int)) ∧ nv = .int .u64 x ∧ 0 ≤ x ∧ x < 18446744073709551616 ∧ Hid (x = getN s a k d) ∧ w = wr) (fun _ i _ => (intOf i + 1).toNat)
  case atStart => exact ⟨0, 0, by omega, by simp, rfl, by omega, by omega, rfl, rfl⟩
  case round =>
    obtain ⟨d, x, hd, rfl, rfl, hx0, hx1, hx, rfl⟩ := hrel
    by_cases hlt : d < k
    · obtain ⟨i, hi⟩ : ∃ i : Nat, a + i < s.size ∧ (k : Int) - 1 - (d : Int) = (i : Int) ∧ k - 1 - d = i := ⟨k - 1 - d, by omega, by omega, rfl⟩
      obtain ⟨hi1, hi2, hi3⟩ := hi
      rw [hi2]
      have HN : Hid (getStep x s[a + i].toNat = getN s a k (d + 1)) := by show _ = getStep _ _; rw [hi3, ← hx.out]; unfold byteAt; rw [dif_pos hi1]
      have HI2 := Lib.hid hi2
      have HL1 := Lib.hid (bits_within .or .u64 (IntKind.u64.wrap (x * 256)) (IntKind.u64.wrap s[a + i].toNat))
      clear hi2 hi3
      have i0 : (0 : Int) ≤ (i : Int) := by omega
      have i1 : (a : Int) + (i : Int) < (s.size : Int) := by omega
      go_wp2_with fail
      go_roundw
      case rel => exact ⟨d + 1, getStep x s[a + i].toNat, by omega, by rw [← HI2.out]; congr 1; push_cast; omega, rfl, HL1.out.1, by have := HL1.out.2; exact Int.lt_of_le_of_lt this (by decide), HN.out, trivial⟩
      case measure => simp [intOf] <;> omega
    · obtain rfl : d = k := by omega
      have HX : Hid (x = getN s a d d) := hx.out
      clear hx
      have e : (d : Int) - 1 - (d : Int) = -1 := by omega
      rw [e]
      go_wp2_with fail
      refine bodyPost_ret (v := .tuple #[.int .u64 x, .int .i64 0]) (by simp [results, Tryz.results93, go_sem]) rfl ⟨by rw [HX.out], rfl⟩
end Go.Proofs.YtfacgeappbgldaaGreatDoor.fd
