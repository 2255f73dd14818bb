/- field: Take at a page's widths. -/
import Derived.Test.YtfacgeappbgldaaGreatDoorFdE
import Derived.Deep.RegionHeld3
namespace Go.Proofs.YtfacgeappbgldaaGreatDoor.fd
open Go.RowKit Go.Proofs.YtfacgeappbgldaaGreatDoor.er
set_option linter.unusedVariables false

def offN : Nat → Nat
  | 0 => 0
  | k + 1 => offN k + widN k
theorem offN_le : ∀ j, j ≤ 5 → offN j ≤ 14 := by decide
theorem offN_next : ∀ j, j < 5 → offN j + widN j ≤ 14 := by decide
/-- The first k numbers of a row. -/
def tookL (s : ByteArray) : Nat → List Value
  | 0 => []
  | k + 1 => tookL s k ++ [.int .u64 (getN s (offN k) (widN k) (widN k))]
theorem tookL_length (s : ByteArray) : ∀ k, (tookL s k).length = k
  | 0 => rfl
  | k + 1 => by simp [tookL, tookL_length s k]
theorem u64Info : (Tryz.prog.info? 126).map (fun i => (i.zero, i.size, i.bytes)) = some (some (.int .u64 0), 1, 8) := by kernel_rfl
set_option maxHeartbeats 4000000 in
set_option maxRecDepth 100000 in
theorem take_any (s : ByteArray) (gw : Nat) (w : World) (hw : WidthsAt w gw) (h14 : 14 ≤ s.size) (hs : s.size ≤ 70368744177664) :
    Calls Tryz.prog 74 #[.string s, .slice (some ⟨gw, 0, none⟩) 5 5] w fun e w' => ∃ A cap, e = .returned (.tuple #[.slice A 5 cap, .string (s.extract 14 s.size), .int .i64 0]) ∧ w'.ownsRow w.heap.size 126 1 (.slice A 5 cap) 5 (tookL s 5) ∧ Below w.heap.size w w' := by
  have HW := Lib.hid hw
  clear hw
  go_enter Tryz.func74, Tryz.ntmps74
  go_wp2_with (go_at_call 83; refine (contains_w gw _ HW.out).mono ?_; rintro e w2 ⟨rfl, rfl⟩)
  obtain ⟨i0, hi0, hz0, hz1, hz2⟩ := info_parts u64Info
  go_loopw [4, 7, 16] (fun nv av i wr => ∃ (j : Nat) (A : Option Addr) (c : Nat), j ≤ 5 ∧ nv = .slice A j c ∧ av = .int .i64 (offN j) ∧ i = .int .i64 j ∧ Hid (wr.ownsRow w.heap.size 126 1 (.slice A j c) j (tookL s j)) ∧ Hid (Below w.heap.size w wr)) (fun _ _ i _ => 5 - (intOf i).toNat)
  case atStart => exact ⟨0, none, 0, Nat.zero_le _, rfl, rfl, rfl, ⟨rfl, .inl ⟨rfl, rfl⟩⟩, Below.refl _ _⟩
  case round =>
    obtain ⟨j, A, c, hj, rfl, rfl, rfl, HOWN, HBEL⟩ := hrel
    by_cases hlt : j < 5
    · have hlt2 : (j : Int) < 5 := by omega
      have c0 := below_c HBEL.out (HW.out.cell j hlt)
      have hk := widN_le j
      have ho := offN_next j hlt
      have HG := Lib.hid (get_some s (offN j) (widN j) wr hk.1 hk.2 hs (by omega))
      have hone : ∀ u ∈ [Value.int .u64 (getN s (offN j) (widN j) (widN j))], u.oneCell' = true := by simp [Value.oneCell']
      have HONE := Lib.hid hone
      have HO1 := Lib.hid (HOWN.out.alloc (.cells #[.int .u64 (getN s (offN j) (widN j) (widN j))] 126))
      have HSZ : Hid (w.heap.size ≤ (wr.alloc (.cells #[.int .u64 (getN s (offN j) (widN j) (widN j))] 126)).heap.size) := by show _ ≤ _; have := HBEL.out.size; simp only [World.size_alloc]; omega
      have ho1 : (offN j : Int) ≤ 14 := by omega
      have ho2 : (widN j : Int) ≤ 8 := by omega
      clear hone hk ho
      go_wp2_with fail
      refine HG.out.mono ?_
      rintro e w2 ⟨rfl, rfl⟩
      go_wp2_with (at_builtin; go_must (refine wpList_append_own _ rfl (.tmp 30) (.tmp 32) 127 rfl w.heap.size 126 i0 _ 1 8 Tryz.underlying127 hi0 hz0 hz1 hz2 rfl (by omega) (.slice A j c) j (tookL s j) rfl HO1.out ⟨wr.heap.size, 0, none⟩ 1 1 [.int .u64 (getN s (offN j) (widN j) (widN j))] rfl rfl (cell_one_new' _ _ _) HONE.out (by simp only [maxLen]; omega) (by omega) HSZ.out ?_; intro v2 w2 hown2 hg2 _; have HO2 := Lib.hid hown2; have HB2 := Lib.hid (below_append HOWN.out hg2 HBEL.out.size); obtain ⟨A2, c2, e2⟩ := own_slice hown2; subst e2; clear hown2 hg2))
      go_roundw
      case rel => exact ⟨j + 1, A2, c2, by omega, rfl, by show _ = Value.int .i64 _; simp only [offN]; push_cast; go_num, by go_num, HO2.out, HBEL.out.trans (HB2.out)⟩
      case measure => simp [intOf]; omega
    · obtain rfl : j = 5 := by omega
      rw [show ((offN 5 : Nat) : Int) = 14 from rfl]
      have h14i : (14 : Int) ≤ (s.size : Int) := by omega
      go_wp2_with fail
      go_region_held3 (fun _ => True) (trivial) (fail)
      go_wp2_with fail
      refine bodyPost_ret (v := .tuple #[.slice A 5 c, .string (s.extract 14 s.size), .int .i64 0]) (by simp [results, Tryz.results74, go_sem]) rfl ⟨A, c, rfl, HOWN.out.drew, HBEL.out.drew⟩
end Go.Proofs.YtfacgeappbgldaaGreatDoor.fd
