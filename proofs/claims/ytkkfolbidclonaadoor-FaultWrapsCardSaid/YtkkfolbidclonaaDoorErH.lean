/- The contracts of errors.Join and fault.Join. -/
import Derived.Test.YtkkfolbidclonaaDoorErG
namespace Go.Proofs.YtkkfolbidclonaaDoor.er
open Go.RowKit Go.Extern.Stop Go.Stop Go.Extern
set_option linter.unusedVariables false

def isErr (v : Value) : Bool := match v with | .nilIface => false | _ => true
def Errs (xs : List Value) : Prop := ∀ x ∈ xs, x = .nilIface ∨ ∃ t y, x = .iface t y
theorem errInfo : (Tryd.prog.info? 26).map (fun i => (i.zero, i.size, i.bytes)) = some (some .nilIface, 1, 16) := by kernel_rfl

set_option maxHeartbeats 2000000 in
theorem join_nil (w : World) : Calls Tryd.prog 24 #[.slice none 0 0] w fun e w' => e = .returned .nilIface ∧ w = w' := by
  go_enter Tryd.func24, Tryd.ntmps24
  go_wp2
  refine wp_loop_rounds 1 ?_
  rw [rounds_succ]
  go_wp2
  go_ret
  exact ⟨rfl, rfl⟩

theorem take_snoc (xs : List Value) (k : Nat) (x : Value) (h : xs[k]? = some x) : xs.take (k + 1) = xs.take k ++ [x] := by
  obtain ⟨hk, e⟩ := List.getElem?_eq_some_iff.1 h
  rw [List.take_succ_eq_append_getElem hk, e]
def cnt (xs : List Value) (k : Nat) : Nat := ((xs.take k).filter isErr).length
theorem cnt_le (xs : List Value) (k : Nat) : cnt xs k ≤ k := by
  unfold cnt
  exact Nat.le_trans (List.length_filter_le _ _) (List.length_take_le _ _)
theorem cnt_nil (xs : List Value) (k : Nat) (h : xs[k]? = some .nilIface) : cnt xs (k + 1) = cnt xs k := by
  unfold cnt; rw [take_snoc _ _ _ h, List.filter_append]; simp [isErr]
theorem cnt_err (xs : List Value) (k : Nat) (t : TypeId) (y : Value) (h : xs[k]? = some (.iface t y)) : cnt xs (k + 1) = cnt xs k + 1 := by
  unfold cnt; rw [take_snoc _ _ _ h, List.filter_append]; simp [isErr, List.filter]
theorem fil_err (xs : List Value) (k : Nat) (t : TypeId) (y : Value) (h : xs[k]? = some (.iface t y)) : (xs.take (k + 1)).filter isErr = (xs.take k).filter isErr ++ [.iface t y] := by
  rw [take_snoc _ _ _ h, List.filter_append]; simp [isErr, List.filter]
theorem fil_nil (xs : List Value) (k : Nat) (h : xs[k]? = some .nilIface) : (xs.take (k + 1)).filter isErr = (xs.take k).filter isErr := by
  rw [take_snoc _ _ _ h, List.filter_append]; simp [isErr]
def JoinPost (w : World) (ys : List Value) (e : Ending) (w' : World) : Prop :=
  (ys = [] ∧ e = .returned .nilIface ∧ w = w') ∨
  (ys ≠ [] ∧ ∃ b v, e = .returned (.iface 80 (.pointer (some ⟨b, 0, none⟩))) ∧ w.heap.size ≤ b ∧ Whole w' b 82 #[v] ∧
    w'.ownsRow w.heap.size 26 1 v ys.length ys ∧ Below w.heap.size w w')

set_option maxHeartbeats 2000000 in
set_option maxRecDepth 100000 in
theorem join_any (g0 n cap : Nat) (xs : List Value) (w : World) (hl : xs.length = n) (hn : n ≤ 1000) (he : Errs xs) (hc : ∀ (j : Nat) (u : Value), xs[j]? = some u → w.cell? ⟨g0, j, none⟩ = some u) :
    Calls Tryd.prog 24 #[.slice (some ⟨g0, 0, none⟩) n cap] w (JoinPost w (xs.filter isErr)) := by
  obtain ⟨i0, hi0, hz0, hz1, hz2⟩ := info_parts errInfo
  have HE := Lib.hid he
  have HC := Lib.hid hc
  have HL := Lib.hid hl
  clear hl he hc
  go_enter Tryd.func24, Tryd.ntmps24
  go_wp2
  go_loop [3, 11] (fun m i => ∃ k : Nat, k ≤ n ∧ i = .int .i64 k ∧ m = .int .i64 (cnt xs k)) (fun _ i => n - (intOf i).toNat)
  case atStart => exact ⟨0, Nat.zero_le _, rfl, by simp [cnt]⟩
  case round =>
    obtain ⟨k, hk, rfl, rfl⟩ := hrel
    have hcl := cnt_le xs k
    by_cases hlt : k < n
    · obtain ⟨x, hx⟩ : ∃ x, xs[k]? = some x := ⟨xs[k]'(by rw [HL.out]; exact hlt), List.getElem?_eq_getElem _⟩
      have hxc := HC.out k x hx
      rcases HE.out x (List.mem_of_getElem? hx) with rfl | ⟨t, y, rfl⟩
      · have HN := Lib.hid (cnt_nil xs k hx)
        clear hx
        go_wp2
        go_round
        case rel => exact ⟨k + 1, by omega, by go_num, by rw [HN.out]⟩
        case measure => simp [intOf]; omega
      · have HN := Lib.hid (cnt_err xs k t y hx)
        clear hx
        go_wp2
        go_round
        case rel => exact ⟨k + 1, by omega, by go_num, by rw [HN.out]; go_num⟩
        case measure => simp [intOf]; omega
    · obtain rfl : k = n := by omega
      have hfl : Hid ((xs.filter isErr).length = cnt xs k) := by show _ = _; unfold cnt; rw [List.take_of_length_le (by rw [HL.out]; omega)]
      by_cases h0 : cnt xs k = 0
      · have hb : ((cnt xs k : Int) == 0) = true := by simp [h0]
        have H0 := Lib.hid h0
        clear h0
        go_wp2
        go_ret
        exact .inl ⟨List.eq_nil_of_length_eq_zero (by rw [hfl.out, H0.out]), rfl, rfl⟩
      · have hb : ((cnt xs k : Int) == 0) = false := by simp [h0]
        generalize hm : cnt xs k = m at *
        have HM := Lib.hid hm
        clear hm
        go_wp2_with (at_make; refine wpList_make_own _ rfl _ _ 45 rfl w.heap.size 26 i0 .nilIface 1 Tryd.underlying45 hi0 hz0 hz1 _ _ (m : Int) m rfl rfl rfl (by rw [hz2]; omega) (by simp only [maxLen]; omega) (Nat.le_refl _) ?_; intro w1 ho1 hg1; have HO1 := Lib.hid ho1; have HG1 := Lib.hid hg1; clear ho1 hg1)
        have hs1 := HG1.out.size
        have hw0 : Whole (w1.alloc (.cells #[.slice (some ⟨w.heap.size, 0, none⟩) 0 m] 82)) w1.heap.size 82 #[.slice (some ⟨w.heap.size, 0, none⟩) 0 m] := Whole.new _ _ _
        have HW0 := Lib.hid hw0
        have HB1 : Hid (Below w.heap.size w w1) := ⟨HG1.out.os, HG1.out.tape, HG1.out.output, HG1.out.size, fun j hj => HG1.out.block j hj (by simp)⟩
        clear hw0
        go_loopw [28] (fun s wr => ∃ j : Nat, j ≤ k ∧ s = .int .i64 j ∧ ∃ v, Whole wr w1.heap.size 82 #[v] ∧ wr.ownsRow w.heap.size 26 1 v (cnt xs j) ((xs.take j).filter isErr) ∧ Below w.heap.size w wr) (fun s _ => k - (intOf s).toNat)
        case atStart => exact ⟨0, Nat.zero_le _, rfl, _, HW0.out, by simpa [cnt] using HO1.out.alloc _, HB1.out.alloc hs1 _⟩
        case round =>
          obtain ⟨j, hj, rfl, v, hw, hown, hbel⟩ := hrel
          have HW := Lib.hid hw
          have HOWN := Lib.hid hown
          have HBEL := Lib.hid hbel
          have hcl := cnt_le xs j
          have hsr := hbel.size
          clear hw hown hbel
          by_cases hlt : j < k
          · obtain ⟨x, hx⟩ : ∃ x, xs[j]? = some x := ⟨xs[j]'(by rw [HL.out]; exact hlt), List.getElem?_eq_getElem _⟩
            have hxc := (HBEL.out.cell (p := ⟨g0, j, none⟩) (World.block_lt_of_cell? _ _ (HC.out j x hx))).trans (HC.out j x hx)
            rcases HE.out x (List.mem_of_getElem? hx) with rfl | ⟨t, y, rfl⟩
            · have HN := Lib.hid (cnt_nil xs j hx)
              have HF := Lib.hid (fil_nil xs j hx)
              clear hx
              go_wp2
              go_roundw
              case rel => exact ⟨j + 1, by omega, by go_num, v, HW.out, by rw [HN.out, HF.out]; exact HOWN.out, HBEL.out⟩
              case measure => simp [intOf]; omega
            · have HN := Lib.hid (cnt_err xs j t y hx)
              have HF := Lib.hid (fil_err xs j t y hx)
              have hv0 : wr.cell? ⟨w1.heap.size, 0, none⟩ = some v := HW.out.cell 0
              have hown0 : Hid ((wr.alloc (.cells #[.iface t y] 26)).ownsRow w.heap.size 26 1 v (cnt xs j) ((xs.take j).filter isErr)) := HOWN.out.alloc _
              have hsz : Hid (w.heap.size ≤ (wr.alloc (.cells #[.iface t y] 26)).heap.size) := by show _ ≤ _; simp only [World.size_alloc]; omega
              have hone : ∀ u ∈ [Value.iface t y], u.oneCell' = true := by simp [Value.oneCell']
              have HONE := Lib.hid hone
              clear hx hone
              go_wp2_with (at_builtin; go_must (refine wpList_append_own _ rfl (.tmp 38) (.tmp 40) 45 rfl w.heap.size 26 i0 .nilIface 1 16 Tryd.underlying45 hi0 hz0 hz1 hz2 rfl (by omega) v (cnt xs j) ((xs.take j).filter isErr) rfl hown0.out ⟨wr.heap.size, 0, none⟩ 1 1 [.iface t y] rfl rfl (cell_one_new' _ _ _) HONE.out (by simp only [maxLen]; omega) (by omega) hsz.out ?_; intro v2 w2 hown2 hg2 _; obtain ⟨A2, c2, e2⟩ := own_slice hown2; subst e2; have HO2 := Lib.hid hown2; have HG2 := Lib.hid hg2; have HW2 := Lib.hid (Whole.grown (HW.out.alloc (.cells #[.iface t y] 26)) hg2 (own_ne hown0.out (HW.out.alloc _) (by decide))); have hv2 : w2.cell? ⟨w1.heap.size, 0, none⟩ = some v := HW2.out.cell 0; have hf2 : w2.frozen? ⟨w1.heap.size, 0, none⟩ = false := HW2.out.fz 0; clear hown2 hg2))
              go_roundw
              case rel =>
                have hg3 : Hid (Below w.heap.size wr w2) := ⟨HG2.out.os, HG2.out.tape, HG2.out.output, Nat.le_trans (by simp) HG2.out.size, fun i hi => (HG2.out.block i (by simp; omega) (fun e => by have := (hown0.out.lt i e.symm).1; omega)).trans (Below.heap_alloc _ _ _ (by omega))⟩
                refine ⟨j + 1, by omega, by go_num, _, HW2.out.set 0 _, ?_, (HBEL.out.trans hg3.out).setCell (by simp; omega) _⟩
                rw [HN.out, HF.out]
                refine HO2.out.kept (w' := _) (only_setCell (World.grownBy.refl _ _) (.inl rfl) _) (.inr ?_)
                exact fun e => own_ne HO2.out HW2.out (by decide) e.symm
              case measure => simp [intOf]; omega
          · obtain rfl : j = k := by omega
            go_wp2
            go_ret
            have hfin : (xs.take j).filter isErr = xs.filter isErr := by rw [List.take_of_length_le (by rw [HL.out]; omega)]
            refine .inr ⟨?_, w1.heap.size, v, rfl, hs1, HW.out, ?_, HBEL.out⟩
            · intro h
              have h1 := hfl.out
              rw [h] at h1
              exact h0 (by simpa using h1.symm)
            · have := HOWN.out
              rw [hfin, HM.out] at this
              rw [hfl.out]
              exact this

set_option maxHeartbeats 1000000 in
theorem Join_nil (w : World) : Calls Tryd.prog 18 #[.slice none 0 0] w fun e w' => e = .returned .nilIface ∧ w = w' := by
  go_enter Tryd.func18, Tryd.ntmps18
  go_wp2_with (go_at_call 24; refine (join_nil _).mono ?_; rintro e w' ⟨rfl, rfl⟩)
  go_ret
  exact ⟨rfl, rfl⟩
set_option maxHeartbeats 1000000 in
theorem Join_any (g0 n cap : Nat) (xs : List Value) (w : World) (hl : xs.length = n) (hn : n ≤ 1000) (he : Errs xs) (hc : ∀ (j : Nat) (u : Value), xs[j]? = some u → w.cell? ⟨g0, j, none⟩ = some u) :
    Calls Tryd.prog 18 #[.slice (some ⟨g0, 0, none⟩) n cap] w (JoinPost w (xs.filter isErr)) := by
  have HL := Lib.hid hl
  have HE := Lib.hid he
  have HC := Lib.hid hc
  clear hl he hc
  go_enter Tryd.func18, Tryd.ntmps18
  go_wp2_with (go_at_call 24; refine (join_any g0 n cap xs _ HL.out hn HE.out HC.out).mono ?_; rintro e w' (⟨h1, rfl, rfl⟩ | ⟨h1, b, v, rfl, h2, h3, h4, h5⟩))
  · go_ret
    exact .inl ⟨h1, rfl, rfl⟩
  · go_ret
    exact .inr ⟨h1, b, v, rfl, h2, h3, h4, h5⟩
end Go.Proofs.YtkkfolbidclonaaDoor.er
