/- The contract of nand's New at a geometry that may be. -/
import Derived.Test.YtfacgeappbgldaaGreatDoorNdK
namespace Go.Proofs.YtfacgeappbgldaaGreatDoor.nd
open Go.RowKit Go.Proofs.YtfacgeappbgldaaGreatDoor.er
attribute [local go_sem ↓] Go.wp_at_zero Go.wp_at_succ
set_option linter.unusedVariables false

theorem blockInfo : (Tryz.prog.info? 88).map (fun i => (i.zero, i.size, i.bytes)) = some (some (.agg #[.slice none 0 0, .int .i64 0, .bool false]), 3, 40) := by kernel_rfl
theorem made_blocks (n : Nat) : (madeCells (Value.agg #[.slice none 0 0, .int .i64 0, .bool false]).cells (n * 3)).toList = blkCells (List.replicate n (.slice none 0 0)) (List.replicate n ⟨[], 0, false⟩) := by
  apply List.ext_getElem?
  intro j
  by_cases hj : j < n * 3
  · have hi : j / 3 < n := by omega
    obtain ⟨e0, e1, e2⟩ := blkCells_at (List.replicate n (Value.slice none 0 0)) (List.replicate n (⟨[], 0, false⟩ : Blk)) (j / 3) (.slice none 0 0) ⟨[], 0, false⟩ (by simp [hi]) (by simp [hi])
    have hl : (madeCells (Value.agg #[.slice none 0 0, .int .i64 0, .bool false]).cells (n * 3)).toList[j]? = some ((Value.agg #[.slice none 0 0, .int .i64 0, .bool false]).cells[j % 3]!) := by
      simp only [madeCells, Array.toList_map, Array.toList_range, List.getElem?_map, List.getElem?_range hj, Option.map_some]
      rfl
    rw [hl]
    have h3 : j % 3 = 0 ∨ j % 3 = 1 ∨ j % 3 = 2 := by omega
    rcases h3 with h | h | h
    · rw [h, show j = j / 3 * 3 from by omega, e0]
      rfl
    · rw [h, show j = j / 3 * 3 + 1 from by omega, e1]; rfl
    · rw [h, show j = j / 3 * 3 + 2 from by omega, e2]; rfl
  · rw [List.getElem?_eq_none (by simp [madeCells]; omega), List.getElem?_eq_none (by rw [blkCells_len _ _ (by simp)]; simp; omega)]
theorem fresh_in {w1 w2 : World} {g n k : Nat} (hn0 : 16 ≤ n) (hn1 : n ≤ 64) (hk0 : 8 ≤ k) (hk1 : k ≤ 32) 
    (hb : Whole w1 g 88 (blkCells (List.replicate n (.slice none 0 0)) (List.replicate n ⟨[], 0, false⟩)).toArray)
    (h2 : w2 = w1.alloc (.cells #[.int .i64 n, .int .i64 k, .slice (some ⟨g, 0, none⟩) n n, .int .i64 0, .slice none 0 0, .bool false] 73)) :
    NandIn w2 (fun x => x = g ∨ x = w1.heap.size) w1.heap.size (freshNand n k) g (.slice none 0 0) (List.replicate n (.slice none 0 0)) := by
  subst h2
  refine ⟨⟨hn0, hn1, hk0, hk1, by simp [freshNand], fun i b hb => ?_, Int.le_refl _, fun m hm => by simp [freshNand] at hm⟩, Whole.new _ _ _, hb.alloc _, by simp [freshNand], fun i b v hb hv => ?_, fun i j v u g' _ hv hu hg => ?_, World.ownsRow_nil _ _ _ _, .inr rfl, .inl rfl, fun i v g' hv hg => ?_, fun g' hg => ?_, fun x hx => ?_⟩
  · have : b = ⟨[], 0, false⟩ := by
      simp only [freshNand] at hb
      exact (List.mem_replicate.1 (List.mem_of_getElem? hb)).2
    subst this
    exact ⟨Nat.zero_le _, Int.le_refl _, Int.le_refl _⟩
  · have e1 : b = ⟨[], 0, false⟩ := by
      simp only [freshNand] at hb
      exact (List.mem_replicate.1 (List.mem_of_getElem? hb)).2
    have e2 : v = .slice none 0 0 := (List.mem_replicate.1 (List.mem_of_getElem? hv)).2
    subst e1 e2
    exact World.ownsRow_nil _ _ _ _
  · have e2 : v = .slice none 0 0 := (List.mem_replicate.1 (List.mem_of_getElem? hv)).2
    subst e2
    simp [Value.ownBlock] at hg
  · have e2 : v = .slice none 0 0 := (List.mem_replicate.1 (List.mem_of_getElem? hv)).2
    subst e2
    simp [Value.ownBlock] at hg
  · simp [Value.ownBlock] at hg
  · simp only [World.size_alloc]
    have := hb.lt
    omega
def NewPost (w : World) (s : Nand) (e : Ending) (w' : World) : Prop :=
  ∃ F p, e = .returned (.tuple #[.pointer (some ⟨p, 0, none⟩), .nilIface]) ∧ NandAt w' F p s ∧ Below w.heap.size w w' ∧ ∀ k, F k → w.heap.size ≤ k
set_option maxHeartbeats 4000000 in
set_option maxRecDepth 100000 in
theorem New_ok (n k : Nat) (hn0 : 16 ≤ n) (hn1 : n ≤ 64) (hk0 : 8 ≤ k) (hk1 : k ≤ 32) (w : World) :
    Calls Tryz.prog 30 #[.agg #[.int .i64 n, .int .i64 k]] w (NewPost w (freshNand n k)) := by
  have i1 : ((16 : Int) ≤ (n : Int)) := by omega
  have i2 : ((n : Int) ≤ 64) := by omega
  have i3 : ((8 : Int) ≤ (k : Int)) := by omega
  have i4 : ((k : Int) ≤ 32) := by omega
  obtain ⟨j0, hj0, hz0, hz1, hz2⟩ := info_parts blockInfo
  obtain ⟨w1, hmk, r1, r2⟩ := run_make_full (P := Tryz.prog) (w.alloc (.cells #[.int .i64 n, .int .i64 k] 27)).drew (w.heap.size + 1) 71 88 j0 _ 3 Tryz.underlying71 hj0 hz0 hz1 .i64 .i64 n (by rw [hz2]; omega) (by unfold maxLen; omega) (by simp)
  rw [made_blocks] at r1
  have hbx : Whole w1 w.heap.size 27 #[.int .i64 n, .int .i64 k] := Whole.grown (w := (w.alloc (.cells #[.int .i64 n, .int .i64 k] 27)).drew) (Whole.new w _ _) r2 (by simp)
  have hgb : Whole w1 (w.heap.size + 1) 88 (blkCells (List.replicate n (.slice none 0 0)) (List.replicate n ⟨[], 0, false⟩)).toArray := by
    rcases r1.2 with ⟨h, _⟩ | ⟨g, cap, cur, hv, hgb, hh, q1, q2, q3, q4⟩
    · injection h with h
      cases h
    · injection hv with hv h2 h3
      injection hv with hv
      injection hv with hv
      have hv' : g = w.heap.size + 1 := by rw [← hv]; simp
      subst hv'
      rw [← h3] at q3
      clear q1 q2 h3 h2 hv
      have hcl : cur.toList = blkCells (List.replicate n (.slice none 0 0)) (List.replicate n ⟨[], 0, false⟩) := by
        rw [← q4, List.take_of_length_le]
        rw [Array.length_toList, q3]
        exact Nat.le_refl _
      show w1.heap[w.heap.size + 1]? = _
      rw [hh, ← hcl]
  have hb1 : Below w.heap.size w w1 := (((Below.refl _ _).alloc (Nat.le_refl _) _).drew).trans ⟨r2.os, r2.tape, r2.output, r2.size, fun x hx => r2.block x (by simp; omega) (by simp)⟩
  have HBX := Lib.hid hbx
  have HGB := Lib.hid hgb
  have HB1 := Lib.hid hb1
  have b0 := hbx.cell 0
  have b1 := hbx.cell 1
  simp only [List.getElem?_toArray, List.getElem?_cons_zero, List.getElem?_cons_succ] at b0 b1
  have a0 : (w.alloc (.cells #[.int .i64 n, .int .i64 k] 27)).drew.cell? ⟨w.heap.size, 0, none⟩ = some (.int .i64 n) := (Whole.new w 27 #[.int .i64 n, .int .i64 k]).cell 0
  have a1 : (w.alloc (.cells #[.int .i64 n, .int .i64 k] 27)).drew.cell? ⟨w.heap.size, 1, none⟩ = some (.int .i64 k) := (Whole.new w 27 #[.int .i64 n, .int .i64 k]).cell 1
  have HA := Lib.hid (And.intro a0 a1)
  have HBB := Lib.hid (And.intro b0 b1)
  have HAL : Hid (∀ o, (w1.alloc o).cell? ⟨w.heap.size, 0, none⟩ = some (.int .i64 n) ∧ (w1.alloc o).cell? ⟨w.heap.size, 1, none⟩ = some (.int .i64 k)) := fun o => ⟨(hbx.alloc o).cell 0, (hbx.alloc o).cell 1⟩
  clear r1 r2 hbx hgb hb1 a0 a1 b0 b1
  go_enter Tryz.func30, Tryz.ntmps30
  go_wp2_with (go_at_call 46; refine (in_any _ _ _ _).mono ?_; rintro e w' ⟨rfl, rfl⟩)
  go_region_held3 (fun w' => w'.cell? ⟨w.heap.size, 0, none⟩ = some (.int .i64 n) ∧ w'.cell? ⟨w.heap.size, 1, none⟩ = some (.int .i64 k)) (first | exact HA.out | exact HBB.out | exact HAL.out _) (fail)
  go_wp2
  go_ret2
  have hfr := fresh_in hn0 hn1 hk0 hk1 HGB.out (w2 := w1.alloc (.cells #[.int .i64 n, .int .i64 k, .slice (some ⟨w.heap.size + 1, 0, none⟩) n n, .int .i64 0, .slice none 0 0, .bool false] 73)) rfl
  have hsz := HB1.out.size
  exact ⟨_, _, rfl, ⟨_, _, _, hfr⟩, HB1.out.trans ((Below.refl _ _).alloc hsz _), fun x hx => by omega⟩
end Go.Proofs.YtfacgeappbgldaaGreatDoor.nd
