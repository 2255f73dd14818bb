/- The contract of slices.Repeat at a list of one text, repeated 8 to 32 times. -/
import Derived.Test.YtfacgeappbgldaaGreatDoorNdG
import Derived.Laws.CopyOwn
namespace Go.Proofs.YtfacgeappbgldaaGreatDoor.nd
open Go.RowKit Go.Proofs.YtfacgeappbgldaaGreatDoor.er
attribute [local go_sem ↓] Go.wp_at_zero Go.wp_at_succ
set_option linter.unusedVariables false

set_option maxHeartbeats 4000000 in
theorem mul64_small (n : Nat) (h0 : 8 ≤ n) (h1 : n ≤ 32) (w : World) : Calls Tryz.prog 110 #[.int .u64 1, .int .u64 n] w fun e w' => e = .returned (.tuple #[.int .u64 0, .int .u64 n]) ∧ w = w' := by
  rcases (by omega : n = 8 ∨ n = 9 ∨ n = 10 ∨ n = 11 ∨ n = 12 ∨ n = 13 ∨ n = 14 ∨ n = 15 ∨ n = 16 ∨ n = 17 ∨ n = 18 ∨ n = 19 ∨ n = 20 ∨ n = 21 ∨ n = 22 ∨ n = 23 ∨ n = 24 ∨ n = 25 ∨ n = 26 ∨ n = 27 ∨ n = 28 ∨ n = 29 ∨ n = 30 ∨ n = 31 ∨ n = 32) with
    rfl | rfl | rfl | rfl | rfl | rfl | rfl | rfl | rfl | rfl | rfl | rfl | rfl | rfl | rfl | rfl | rfl | rfl | rfl | rfl | rfl | rfl | rfl | rfl | rfl
  all_goals
    go_enter Tryz.func110, Tryz.ntmps110
    go_wp2
    go_ret2
    exact ⟨rfl, rfl⟩
theorem mul_small (n : Nat) (h0 : 8 ≤ n) (h1 : n ≤ 32) (w : World) : Calls Tryz.prog 103 #[.int .u64 1, .int .u64 n] w fun e w' => e = .returned (.tuple #[.int .u64 0, .int .u64 n]) ∧ w = w' := by
  go_enter Tryz.func103, Tryz.ntmps103
  go_wp2_with (go_at_call 110; refine (mul64_small n h0 h1 _).mono ?_; rintro e w' ⟨rfl, rfl⟩)
  go_ret2
  exact ⟨rfl, rfl⟩

def filled (x : ByteArray) (n k : Nat) : List Value := List.replicate k (Value.string x) ++ List.replicate (n - k) (Value.string ⟨#[]⟩)
theorem filled_len (x : ByteArray) (n k : Nat) (h : k ≤ n) : (filled x n k).length = n := by simp [filled]; omega
theorem filled_splice (x : ByteArray) (n k m : Nat) (h : k + m ≤ n) : splice (filled x n k) k (List.replicate m (Value.string x)) = filled x n (k + m) := by
  unfold splice filled
  rw [List.take_left' (by simp), List.length_replicate, List.drop_append]
  simp only [List.drop_replicate, List.length_replicate]
  rw [show k - (k + m) = 0 from by omega, show k + m - k = m from by omega, show n - k - m = n - (k + m) from by omega, List.replicate_zero, List.nil_append, ← List.append_assoc, List.replicate_append_replicate]
theorem filled_at (x : ByteArray) (n k j : Nat) (h : j < k) : (filled x n k)[j]? = some (.string x) := by
  unfold filled
  rw [List.getElem?_append_left (by simpa using h)]
  simp [h]
theorem filled_full (x : ByteArray) (n : Nat) : filled x n n = List.replicate n (Value.string x) := by simp [filled]

theorem made_filled (x : ByteArray) (n : Nat) : (madeCells (Value.string ⟨#[]⟩).cells (n * 1)).toList = filled x n 0 := by
  simp only [madeCells, filled, Nat.mul_one, Nat.sub_zero, List.replicate_zero, List.nil_append, Array.toList_map, Array.toList_range]
  apply List.ext_getElem
  · simp
  · intro j h1 h2
    simp [Value.cells, Nat.mod_one]
theorem run_copy_sp {P : Program} (w : World) (dT sT ty elem : TypeId) (g off dLen dCap : Nat) (ad : Addr) (sLen sCap : Nat) (cur : List Value) (t : TypeId) (cs : List Value) (hu : P.underlying dT = some (.slice elem)) (hsz : (P.info? elem).map (·.size) = some 1)
    (hg : w.heap[g]? = some (.cells cur.toArray t (0, 0))) (hn : cs.length = Nat.min sLen dLen) (hsrc : ∀ j v, cs[j]? = some v → w.cell? (ad.add j) = some v) (hfit : off + cs.length ≤ cur.length) (h1 : ∀ v ∈ cs, v.oneCell' = true) (B : Nat) (hB : B ≤ g) :
    ∃ w', (Builtin.copy_ #[dT, sT] ty #[.slice (some ⟨g, off, none⟩) dLen dCap, .slice (some ad) sLen sCap]).run P w = .ok (goInt cs.length) w' ∧ w'.heap[g]? = some (.cells (splice cur off cs).toArray t (0, 0)) ∧ Below B w w' := by
  have hr := run_copy_row (P := P) w dT sT ty elem g off dLen dCap ad sLen sCap cur.toArray t cs hu hsz hg hn hsrc (by simpa using hfit) h1
  refine ⟨_, hr, ?_, below_setRow (Below.refl _ _) hB _⟩
  rw [setRow_heap w g cur.toArray _ t _ hg]
  simp [splice]
theorem strSize : (Tryz.prog.info? 9).map (·.size) = some 1 := by kernel_rfl
set_option maxHeartbeats 4000000 in
set_option maxRecDepth 100000 in
theorem repeat_any (x : ByteArray) (n : Nat) (h0 : 8 ≤ n) (h1 : n ≤ 32) (g0 c0 : Nat) (w : World) (hc : w.cell? ⟨g0, 0, none⟩ = some (.string x)) :
    Calls Tryz.prog 95 #[.slice (some ⟨g0, 0, none⟩) 1 c0, .int .i64 n] w fun e w' => ∃ g, e = .returned (.slice (some ⟨g, 0, none⟩) n n) ∧ w.heap.size ≤ g ∧ w'.heap[g]? = some (.cells (List.replicate n (Value.string x)).toArray 9 (0, 0)) ∧ Below w.heap.size w w' := by
  have HC := Lib.hid hc
  have hlt := World.block_lt_of_cell? _ _ hc
  clear hc
  obtain ⟨i0, hi0, hz0, hz1, hz2⟩ := info_parts strInfo
  go_enter Tryz.func95, Tryz.ntmps95
  go_wp2_with fail
  refine (mul_small n h0 h1 _).mono ?_
  rintro e w' ⟨rfl, rfl⟩
  have hn2 : (n : Int) ≤ 32 := by omega
  have hn0 : (0 : Int) ≤ (n : Int) := by omega
  have MK : Hid (∀ w1, w1.ownsRow w.heap.size 9 1 (.slice (some ⟨w.heap.size, 0, none⟩) n n) n (madeCells (Value.string ⟨#[]⟩).cells (n * 1)).toList → w.grownBy w1 none →
      ∃ w2, (Builtin.copy_ #[86, 86] 3 #[.slice (some ⟨w.heap.size, 0, none⟩) n n, .slice (some ⟨g0, 0, none⟩) 1 c0]).run Tryz.prog w1 = .ok (.int .i64 1) w2 ∧ w2.heap[w.heap.size]? = some (.cells (filled x n 1).toArray 9 (0, 0)) ∧ Below w.heap.size w w2) := fun w1 hown hg => by
    rcases hown.2 with ⟨h, _⟩ | ⟨g, cap, cur, hv, hgb, hh, r1, r2, r3, r4⟩
    · injection h with h
      cases h
    · injection hv with hv h2 h3
      injection hv with hv
      injection hv with hv
      subst hv h3
      rw [made_filled x] at r4
      have hcl : cur.toList = filled x n 0 := by
        rw [← r4, List.take_of_length_le]
        rw [Array.length_toList, r3]
        exact Nat.le_refl _
      have hcur : cur = (filled x n 0).toArray := by rw [← hcl]
      rw [hcur] at hh
      have hb1 : Below w.heap.size w w1 := ⟨hg.os, hg.tape, hg.output, hg.size, fun k hk => hg.block k hk (by simp)⟩
      obtain ⟨w2, e1, e2, e3⟩ := run_copy_sp (P := Tryz.prog) w1 86 86 3 9 w.heap.size 0 n n ⟨g0, 0, none⟩ 1 c0 (filled x n 0) 9 [.string x] Tryz.underlying86 strSize hh (by rw [show Nat.min 1 n = 1 from Nat.min_eq_left (by omega)]; rfl)
        (fun j v hj => by
          match j, hj with
          | 0, hj =>
            simp at hj
            subst hj
            simpa [Addr.add] using below_c hb1 HC.out) (by rw [filled_len _ _ _ (Nat.zero_le _)]; simp; omega) (by simp [Value.oneCell']) w.heap.size (Nat.le_refl _)
      refine ⟨w2, e1, ?_, hb1.trans e3⟩
      rw [e2, show ([Value.string x] : List Value) = List.replicate 1 (.string x) from rfl, filled_splice x n 0 1 (by omega)]
  go_wp2_with ((at_make; refine wpList_make_full _ rfl _ _ 86 rfl w.heap.size 9 i0 (.string ⟨#[]⟩) 1 Tryz.underlying86 hi0 hz0 hz1 _ _ _ _ n (by rfl) (by rfl) (by rfl) (by rfl) (by rw [hz2]; omega) (by unfold maxLen; omega) (Nat.le_refl _) ?_; intro w1 hown hg; obtain ⟨w2, hcp, hh2, hb2⟩ := MK.out w1 hown hg; have HH2 := Lib.hid hh2; have HB2 := Lib.hid hb2; clear hown hg hh2 hb2))
  have HGS : Hid (w.heap.size = w.heap.size) := rfl
  clear hcp
  go_loopw [8] (fun i wr => ∃ k : Nat, 1 ≤ k ∧ k ≤ n ∧ i = .int .i64 k ∧ Hid (wr.heap[w.heap.size]? = some (.cells (filled x n k).toArray 9 (0, 0))) ∧ Hid (Below w.heap.size w wr)) (fun i _ => n - (intOf i).toNat)
  case atStart => exact ⟨1, Nat.le_refl _, by omega, rfl, HH2.out, HB2.out⟩
  case round =>
    obtain ⟨k, hk1, hk2, rfl, HHr, HBr⟩ := hrel
    by_cases hlt : k < n
    · have hk0 : (0 : Int) ≤ (k : Int) := by omega
      have hkn : (k : Int) ≤ (n : Int) := by omega
      have hkl : (k : Int) < (n : Int) := by omega
      obtain ⟨m, hm⟩ : ∃ m, m = Nat.min (n - k) k := ⟨_, rfl⟩
      have hm1 : 1 ≤ m := by have := Nat.min_def (n := n - k) (m := k); rw [hm]; show 1 ≤ min (n - k) k; omega
      have hm2 : k + m ≤ n := by rw [hm]; show k + min (n - k) k ≤ n; omega
      have hm3 : m ≤ k := by rw [hm]; show min (n - k) k ≤ k; omega
      have hw : IntKind.i64.wrap ((k : Int) + (m : Int)) = ((k + m : Nat) : Int) := by rw [IntKind.wrap_i64]; omega
      have HM : Hid ((List.replicate m (Value.string x)).length = Nat.min k (n - k)) := by
        show _ = _
        rw [List.length_replicate, hm]
        exact Nat.min_comm _ _
      have HP : Hid (∀ dp sp : Option Addr, dp = some ⟨w.heap.size, k, none⟩ → sp = some ⟨w.heap.size, 0, none⟩ → 0 < (List.replicate m (Value.string x)).length → dp = some ⟨w.heap.size, k, none⟩ ∧ ∃ ad, sp = some ad ∧ ∀ j v, (List.replicate m (Value.string x))[j]? = some v → wr.drew.cell? (ad.add j) = some v) := fun dp sp hdp hsp _ => by
        subst hdp hsp
        refine ⟨rfl, _, rfl, fun j v hj => ?_⟩
        have hj1 : j < m := by have := (List.getElem?_eq_some_iff.1 hj).1; simpa using this
        have hv : v = .string x := by simpa [hj1, eq_comm] using hj
        subst hv
        have : wr.cell? ⟨w.heap.size, j, none⟩ = some (.string x) := by
          rw [cell_of_row wr _ j _ _ _ HHr.out]
          have := filled_at x n k j (by omega)
          simpa using this
        rw [show (⟨w.heap.size, 0, none⟩ : Addr).add j = ⟨w.heap.size, j, none⟩ from by unfold Addr.add; split <;> simp_all]
        exact this
      have HF : Hid (k + (List.replicate m (Value.string x)).length ≤ (filled x n k).length) := by
        show _ ≤ _
        rw [filled_len x n k hk2, List.length_replicate]
        exact hm2
      have HS := Lib.hid (filled_splice x n k m hm2)
      have HBd : Hid (Below w.heap.size w wr.drew) := HBr.out.drew
      have hnk : ¬ n = k := by omega
      clear hm
      go_wp2_with fail
      go_region_held3 (fun _ => True) (trivial)
        ((refine step_copy_splice (by rfl) (.tmp 41) (.tmp 44) 86 86 (by rfl) 9 Tryz.underlying86 strSize (some ⟨w.heap.size, k, none⟩) (some ⟨w.heap.size, 0, none⟩) (n - k) (n - k) k n (by rfl) (by rfl) w.heap.size k (filled x n k) 9 HHr.out (List.replicate m (.string x)) HM.out (HP.out _ _ rfl rfl) HF.out (by simp [Value.oneCell']) w.heap.size w HBd.out (Nat.le_refl _) ?_; intro w5 hh5 hb5; rw [HS.out] at hh5; simp only [goInt, List.length_replicate]; have HB5 := Lib.hid hb5; clear hb5))
      go_roundw
      case rel => first | exact ⟨k + m, by omega, hm2, rfl, hh5, HB5.out⟩ | ((repeat apply Exists.intro); exact ⟨⟨k + m, by omega, hm2, rfl, hh5, HB5.out⟩, rfl⟩)
      case measure => simp [intOf]; omega
    · obtain rfl : k = n := by omega
      go_wp2_with fail
      go_ret
      refine ⟨_, rfl, Nat.le_refl _, ?_, HBr.out⟩
      rw [HHr.out, filled_full]
      simp
end Go.Proofs.YtfacgeappbgldaaGreatDoor.nd
