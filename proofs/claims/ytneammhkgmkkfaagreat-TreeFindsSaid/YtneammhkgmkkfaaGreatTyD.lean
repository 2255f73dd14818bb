/- slices.Grow (of nil), Concat, Clone at []api.Ext and []tree.node. -/
import Derived.Test.YtneammhkgmkkfaaGreatTyC
namespace Go.Proofs.YtneammhkgmkkfaaGreat.tr
open Go.RowKit Go.Proofs.YtneammhkgmkkfaaGreat.er
set_option linter.unusedVariables false
set_option linter.unusedSimpArgs false

theorem infoE : (Tryz.prog.info? 39).map (fun i => (i.zero, i.size, i.bytes)) = some (some (.agg #[.int .i64 0, .int .i64 0, .int .i64 0, .int .i64 0]), 4, 32) := by kernel_rfl
theorem infoSE : (Tryz.prog.info? 32).map (fun i => (i.zero, i.size, i.bytes)) = some (some (.slice none 0 0), 1, 24) := by kernel_rfl
set_option maxHeartbeats 4000000 in
set_option maxRecDepth 100000 in
/-- slices.Grow of nil. -/
theorem growE (n : Nat) (w : World) (hn : n ≤ 100000000) : Calls Tryz.prog 90 #[.slice none 0 0, .int .i64 n] w fun e w' => ∃ v', e = .returned v' ∧ w'.ownsRow w.heap.size 39 4 v' 0 [] ∧ Below w.heap.size w w' := by
  rcases Nat.eq_zero_or_pos n with rfl | h0
  · go_enter Tryz.func90, Tryz.ntmps90
    go_wp2_with fail
    go_ret
    exact ⟨_, rfl, ⟨rfl, .inl ⟨rfl, rfl⟩⟩, Below.refl _ _⟩
  · obtain ⟨i0, hi0, hz0, hz1, hz2⟩ := info_parts infoE
    have hrz : ∀ ty, (Builtin.append_ #[32, 3] ty #[.slice none 0 0, .int .i64 (n : Int)]).run Tryz.prog w = .ok (.slice (some ⟨w.heap.size, 0, none⟩) n (grownCap w n 0 39)) (w.drew.alloc (.cells (Builtin.zeroCells (Value.cells (.agg #[.int .i64 0, .int .i64 0, .int .i64 0, .int .i64 0])) n ++ Builtin.zeroCells (Value.cells (.agg #[.int .i64 0, .int .i64 0, .int .i64 0, .int .i64 0])) (grownCap w n 0 39 - n)) 39)) := fun ty =>
      Lib.run_append_nil_zeros w 32 3 ty 39 i0 _ .i64 .i64 Tryz.underlying32 Tryz.underlying3 hi0 hz0 n h0 (by omega) (by omega) (by rw [hz2]; omega)
    have hge := grownCap_ge w n 0 39
    have hle := grownCap_le_maxLen w n 0 39 (by unfold maxLen; omega)
    obtain ⟨G, hG⟩ : ∃ G, grownCap w n 0 39 = G := ⟨_, rfl⟩
    rw [hG] at hrz hge hle
    have hle' := hle
    unfold maxLen at hle'
    have h1 : (0 : Int) < (n : Int) := by omega
    have h2 : (n : Int) > 0 := by omega
    have hcs : (Builtin.zeroCells (Value.cells (.agg #[.int .i64 0, .int .i64 0, .int .i64 0, .int .i64 0])) n ++ Builtin.zeroCells (Value.cells (.agg #[.int .i64 0, .int .i64 0, .int .i64 0, .int .i64 0])) (G - n)).size = G * 4 := by
      rw [Array.size_append, size_zeroCells, size_zeroCells]
      show n * 4 + (G - n) * 4 = G * 4
      omega
    obtain ⟨cs, hcs0⟩ : ∃ cs, Builtin.zeroCells (Value.cells (.agg #[.int .i64 0, .int .i64 0, .int .i64 0, .int .i64 0])) n ++ Builtin.zeroCells (Value.cells (.agg #[.int .i64 0, .int .i64 0, .int .i64 0, .int .i64 0])) (G - n) = cs := ⟨_, rfl⟩
    rw [hcs0] at hrz hcs
    have HRZ := Lib.hid hrz
    have HCS := Lib.hid hcs
    have HLE := Lib.hid hle
    clear hG hcs0 hcs hrz hi0 hz0 hz1 hz2 hle
    go_enter Tryz.func90, Tryz.ntmps90
    go_wp2_with (at_builtin; refine Lib.wpList_append_run _ rfl _ _ _ _ rfl _ _ rfl rfl _ _ (HRZ.out _) ?_)
    all_goals (go_ret; refine ⟨_, rfl, World.ownsRow_made w.drew cs G (Nat.le_refl _) HLE.out HCS.out, (Below.drew (Below.refl _ _)).alloc (Nat.le_refl _) _⟩)
set_option maxHeartbeats 4000000 in
set_option maxRecDepth 100000 in
/-- slices.Concat: some slices' cells, one behind the other, in a row of the call's own. -/
theorem concatE (ys : List (Value × Nat × List Value)) (gb mc : Nat) (w : World) (hc : ∀ j y, ys[j]? = some y → w.cell? ⟨gb, j, none⟩ = some y.1 ∧ SlAt w y.1 y.2.1 4 y.2.2 ∧ ∀ u ∈ y.2.2, u.oneCell' = true)
    (hs : (ys.map fun y => y.2.1).sum ≤ 100000000) (hm : ys.length ≤ 1000) (h0 : 0 < ys.length) :
    Calls Tryz.prog 66 #[.slice (some ⟨gb, 0, none⟩) ys.length mc] w fun e w' => ∃ v', e = .returned v' ∧ w'.ownsRow w.heap.size 39 4 v' (ys.map fun y => y.2.1).sum (ys.flatMap fun y => y.2.2) ∧ Below w.heap.size w w' := by
  obtain ⟨m, hm0⟩ : ∃ m, ys.length = m := ⟨_, rfl⟩
  have HN := Lib.hid hm0
  have HC := Lib.hid hc
  rw [hm0] at hm
  rw [hm0]
  obtain ⟨i0, hi0, hz0, hz1, hz2⟩ := info_parts infoE
  have HS := Lib.hid (fun j => Nat.le_trans (sum_take_le (fun y : Value × Nat × List Value => y.2.1) ys j) hs)
  have HG := Lib.hid (fun (n : Nat) (hn : n ≤ 100000000) => growE n w hn)
  have HAP := Lib.hid (fun (wq : World) (v : Value) (n : Nat) (xs : List Value) (hown : wq.ownsRow w.heap.size 39 4 v n xs) (y : Value × Nat × List Value) (hq : SlAt wq y.1 y.2.1 4 y.2.2) (h1 : ∀ u ∈ y.2.2, u.oneCell' = true) (h63 : n + y.2.1 ≤ 100000000) (hb : w.heap.size ≤ wq.heap.size) (ty : TypeId) => run_app (P := Tryz.prog) wq w.heap.size 32 ty 39 i0 _ 4 32 Tryz.underlying32 hi0 hz0 hz1 hz2 rfl (by omega) v n xs hown y.1 y.2.1 y.2.2 hq h1 h63 (by omega) hb)
  have H0 : Hid (0 < m) := by show 0 < m; omega
  clear hm0 hc hs h0 hi0 hz0 hz1 hz2
  go_enter Tryz.func66, Tryz.ntmps66
  go_wp2_with fail
  go_loop [3, 11] (fun s i => ∃ j : Nat, j ≤ m ∧ i = .int .i64 j ∧ s = .int .i64 (((ys.take j).map fun y => y.2.1).sum : Nat)) (fun _ i => m - (intOf i).toNat)
  case atStart => exact ⟨0, Nat.zero_le _, rfl, rfl⟩
  case round =>
    obtain ⟨j, hj, rfl, rfl⟩ := hrel
    by_cases hlt : j < m
    · have hji : (j : Int) < (m : Int) := by omega
      have hln := HN.out
      obtain ⟨y, hy⟩ : ∃ y, ys[j]? = some y := ⟨ys[j]'(by omega), List.getElem?_eq_getElem (by omega)⟩
      have hsum := HS.out (j + 1)
      rw [list_take_sum _ _ _ _ hy] at hsum
      have HSUM := Lib.hid (list_take_sum (fun y : Value × Nat × List Value => y.2.1) _ _ _ hy)
      obtain ⟨c0, hsl, _⟩ := HC.out j y hy
      obtain ⟨S, hS⟩ : ∃ S, ((ys.take j).map fun y => y.2.1).sum = S := ⟨_, rfl⟩
      rw [hS] at hsum
      have HS2 := Lib.hid hS
      rw [hS]
      obtain ⟨yv, yn, yx⟩ := y
      dsimp only at c0 hsl hsum HSUM
      obtain ⟨_, ⟨rfl, rfl⟩ | ⟨yg, yo, yc, rfl, _⟩⟩ := hsl
      all_goals
        clear hy hln hS
        go_wp2_with fail
        go_round
        case rel => exact ⟨j + 1, by omega, by go_num, by rw [HSUM.out, HS2.out]; first | go_num | (congr 1; omega) | (simp; done)⟩
        case measure => simp [intOf]; omega
    · obtain rfl : j = m := by omega
      have hfull : ys.take j = ys := by rw [← HN.out]; exact List.take_length
      rw [hfull]
      have hsum := HS.out j
      rw [hfull] at hsum
      obtain ⟨S, hS⟩ : ∃ S, (ys.map fun y => y.2.1).sum = S := ⟨_, rfl⟩
      rw [hS] at hsum
      have HS2 := Lib.hid hS
      have HG2 := Lib.hid (HG.out S hsum)
      rw [hS]
      clear hS hfull
      go_wp2_with fail
      refine HG2.out.mono ?_
      rintro e w2 ⟨v2, rfl, hown2, hb2⟩
      obtain ⟨A2, c2, e2⟩ := own_slice hown2
      subst e2
      have HO2 := Lib.hid hown2
      have HB2 := Lib.hid hb2
      clear hown2 hb2
      go_wp2_with fail
      go_loopw [6, 27] (fun s i wr => ∃ (j2 nn : Nat) (A : Option Addr) (c : Nat), j2 ≤ j ∧ i = .int .i64 j2 ∧ s = .slice A nn c ∧ Hid (((ys.take j2).map fun y => y.2.1).sum = nn) ∧ Hid (wr.ownsRow w.heap.size 39 4 (.slice A nn c) nn ((ys.take j2).flatMap fun y => y.2.2)) ∧ Hid (Below w.heap.size w wr)) (fun _ i _ => j - (intOf i).toNat)
      case atStart => exact ⟨0, 0, A2, c2, Nat.zero_le _, rfl, rfl, rfl, HO2.out, HB2.out⟩
      case round =>
        obtain ⟨j2, nn, A, c, hj2, rfl, rfl, HM, HO, HB⟩ := hrel
        by_cases hlt2 : j2 < j
        · have hji : (j2 : Int) < (j : Int) := by omega
          have hln := HN.out
          obtain ⟨y, hy⟩ : ∃ y, ys[j2]? = some y := ⟨ys[j2]'(by omega), List.getElem?_eq_getElem (by omega)⟩
          have hsum := HS.out (j2 + 1)
          rw [list_take_sum _ _ _ _ hy, HM.out] at hsum
          have HSUM := Lib.hid (list_take_sum (fun y : Value × Nat × List Value => y.2.1) _ _ _ hy)
          have HFL := Lib.hid (list_take_flat (fun y : Value × Nat × List Value => y.2.2) _ _ _ hy)
          obtain ⟨c0, hsl, h1⟩ := HC.out j2 y hy
          have c0' := below_c HB.out c0
          obtain ⟨v3, w3, hrun, hown3, hg3⟩ := HAP.out wr _ _ _ HO.out y (hsl.below HB.out) h1 (by omega) HB.out.size 32
          have HR := Lib.hid hrun
          have HO3 := Lib.hid hown3
          have HB3 := Lib.hid (HB.out.grown hg3 HB.out.size (fun k hk => (HO.out.lt k hk).1))
          obtain ⟨A3, c3, e3⟩ := own_slice hown3
          subst e3
          clear hy hln hsum hsl h1 c0 hrun hown3 hg3
          go_wp2_with (at_builtin; refine Lib.wpList_append_run _ rfl _ _ _ _ rfl _ _ rfl rfl _ _ HR.out ?_)
          have hmeas : j - (intOf (.int .i64 ((j2 : Int) + 1))).toNat < j - (intOf (.int .i64 (j2 : Int))).toNat := by simp [intOf]; omega
          refine ⟨⟨j2 + 1, nn + y.2.1, A3, c3, ?_, ?_, rfl, ?_, ?_, ?_⟩, hmeas⟩
          · omega
          · go_num
          · show _ = _; rw [HSUM.out, HM.out]
          · rw [HFL.out]; with_reducible exact HO3
          · with_reducible exact HB3
        · obtain rfl : j2 = j := by omega
          go_wp2_with fail
          go_ret
          have hfull : ys.take j2 = ys := by rw [← HN.out]; exact List.take_length
          rw [hfull] at HO HM
          refine ⟨_, rfl, ?_, HB.out⟩
          have hs1 := HM.out
          rw [← HS2.out, hs1]
          exact HO.out
set_option maxHeartbeats 4000000 in
set_option maxRecDepth 100000 in
/-- slices.Clone. -/
theorem cloneE (n : Nat) (v : Value) (xs : List Value) (w : World) (h : SlAt w v n 4 xs) (hn : n ≤ 100000000) (h1 : ∀ u ∈ xs, u.oneCell' = true) :
    Calls Tryz.prog 153 #[v] w fun e w' => ∃ v', e = .returned v' ∧ w'.ownsRow w.heap.size 39 4 v' n xs ∧ Below w.heap.size w w' := by
  have hq := fun (w : World) (a : Option Addr) (n c n' c' : Nat) => Lib.run_eql_slice_nil (P := Tryz.prog) w 32 39 a n c n' c' Tryz.underlying32
  obtain ⟨i0, hi0, hz0, hz1, hz2⟩ := info_parts infoE
  have h' := h
  obtain ⟨hl, ⟨rfl, rfl⟩ | ⟨g, o, c, rfl, hc⟩⟩ := h'
  · obtain rfl : xs = [] := List.eq_nil_of_length_eq_zero (by simpa using hl)
    clear h hl h1 hi0 hz0 hz1 hz2
    go_enter Tryz.func153, Tryz.ntmps153
    go_wp2_with fail
    go_ret
    exact ⟨_, rfl, ⟨rfl, .inl ⟨rfl, rfl⟩⟩, Below.refl _ _⟩
  · obtain ⟨v3, w3, hrun, hown3, hg3⟩ := run_app (P := Tryz.prog) (w.alloc (.cells #[] 39)) w.heap.size 32 32 39 i0 _ 4 32 Tryz.underlying32 hi0 hz0 hz1 hz2 rfl (by omega) _ 0 [] (World.ownsRow_made w #[] 0 (Nat.le_refl _) (Nat.zero_le _) (by simp)) _ n xs (h.below ((Below.refl _ _).alloc (Nat.le_refl _) _)) h1 (by omega) (by omega) (by simp)
    have HR := Lib.hid hrun
    have HO3 : Hid (w3.ownsRow w.heap.size 39 4 v3 n xs) := by show World.ownsRow _ _ _ _ _ _ _; simpa using hown3
    have HB3 : Hid (Below w.heap.size w w3) := ((Below.refl _ _).alloc (Nat.le_refl _) _).grown hg3 (by simp) (fun k hk => by simp [Value.ownBlock] at hk; omega)
    clear h hl h1 hc hrun hown3 hg3 hi0 hz0 hz1 hz2
    go_enter Tryz.func153, Tryz.ntmps153
    go_wp2_with (at_builtin; refine Lib.wpList_append_run _ rfl _ _ _ _ rfl _ _ rfl rfl _ _ HR.out ?_)
    go_ret
    exact ⟨_, rfl, HO3.out, HB3.out⟩
theorem infoN : (Tryz.prog.info? 78).map (fun i => (i.zero, i.size, i.bytes)) = some (some .nilIface, 1, 16) := by kernel_rfl
theorem infoSN : (Tryz.prog.info? 83).map (fun i => (i.zero, i.size, i.bytes)) = some (some (.slice none 0 0), 1, 24) := by kernel_rfl
set_option maxHeartbeats 4000000 in
set_option maxRecDepth 100000 in
/-- slices.Grow of nil. -/
theorem growN (n : Nat) (w : World) (hn : n ≤ 100000000) : Calls Tryz.prog 179 #[.slice none 0 0, .int .i64 n] w fun e w' => ∃ v', e = .returned v' ∧ w'.ownsRow w.heap.size 78 1 v' 0 [] ∧ Below w.heap.size w w' := by
  rcases Nat.eq_zero_or_pos n with rfl | h0
  · go_enter Tryz.func179, Tryz.ntmps179
    go_wp2_with fail
    go_ret
    exact ⟨_, rfl, ⟨rfl, .inl ⟨rfl, rfl⟩⟩, Below.refl _ _⟩
  · obtain ⟨i0, hi0, hz0, hz1, hz2⟩ := info_parts infoN
    have hrz : ∀ ty, (Builtin.append_ #[83, 3] ty #[.slice none 0 0, .int .i64 (n : Int)]).run Tryz.prog w = .ok (.slice (some ⟨w.heap.size, 0, none⟩) n (grownCap w n 0 78)) (w.drew.alloc (.cells (Builtin.zeroCells (Value.cells .nilIface) n ++ Builtin.zeroCells (Value.cells .nilIface) (grownCap w n 0 78 - n)) 78)) := fun ty =>
      Lib.run_append_nil_zeros w 83 3 ty 78 i0 _ .i64 .i64 Tryz.underlying83 Tryz.underlying3 hi0 hz0 n h0 (by omega) (by omega) (by rw [hz2]; omega)
    have hge := grownCap_ge w n 0 78
    have hle := grownCap_le_maxLen w n 0 78 (by unfold maxLen; omega)
    obtain ⟨G, hG⟩ : ∃ G, grownCap w n 0 78 = G := ⟨_, rfl⟩
    rw [hG] at hrz hge hle
    have hle' := hle
    unfold maxLen at hle'
    have h1 : (0 : Int) < (n : Int) := by omega
    have h2 : (n : Int) > 0 := by omega
    have hcs : (Builtin.zeroCells (Value.cells .nilIface) n ++ Builtin.zeroCells (Value.cells .nilIface) (G - n)).size = G * 1 := by
      rw [Array.size_append, size_zeroCells, size_zeroCells]
      show n * 1 + (G - n) * 1 = G * 1
      omega
    obtain ⟨cs, hcs0⟩ : ∃ cs, Builtin.zeroCells (Value.cells .nilIface) n ++ Builtin.zeroCells (Value.cells .nilIface) (G - n) = cs := ⟨_, rfl⟩
    rw [hcs0] at hrz hcs
    have HRZ := Lib.hid hrz
    have HCS := Lib.hid hcs
    have HLE := Lib.hid hle
    clear hG hcs0 hcs hrz hi0 hz0 hz1 hz2 hle
    go_enter Tryz.func179, Tryz.ntmps179
    go_wp2_with (at_builtin; refine Lib.wpList_append_run _ rfl _ _ _ _ rfl _ _ rfl rfl _ _ (HRZ.out _) ?_)
    all_goals (go_ret; refine ⟨_, rfl, World.ownsRow_made w.drew cs G (Nat.le_refl _) HLE.out HCS.out, (Below.drew (Below.refl _ _)).alloc (Nat.le_refl _) _⟩)
set_option maxHeartbeats 4000000 in
set_option maxRecDepth 100000 in
/-- slices.Concat: some slices' cells, one behind the other, in a row of the call's own. -/
theorem concatN (ys : List (Value × Nat × List Value)) (gb mc : Nat) (w : World) (hc : ∀ j y, ys[j]? = some y → w.cell? ⟨gb, j, none⟩ = some y.1 ∧ SlAt w y.1 y.2.1 1 y.2.2 ∧ ∀ u ∈ y.2.2, u.oneCell' = true)
    (hs : (ys.map fun y => y.2.1).sum ≤ 100000000) (hm : ys.length ≤ 1000) (h0 : 0 < ys.length) :
    Calls Tryz.prog 175 #[.slice (some ⟨gb, 0, none⟩) ys.length mc] w fun e w' => ∃ v', e = .returned v' ∧ w'.ownsRow w.heap.size 78 1 v' (ys.map fun y => y.2.1).sum (ys.flatMap fun y => y.2.2) ∧ Below w.heap.size w w' := by
  obtain ⟨m, hm0⟩ : ∃ m, ys.length = m := ⟨_, rfl⟩
  have HN := Lib.hid hm0
  have HC := Lib.hid hc
  rw [hm0] at hm
  rw [hm0]
  obtain ⟨i0, hi0, hz0, hz1, hz2⟩ := info_parts infoN
  have HS := Lib.hid (fun j => Nat.le_trans (sum_take_le (fun y : Value × Nat × List Value => y.2.1) ys j) hs)
  have HG := Lib.hid (fun (n : Nat) (hn : n ≤ 100000000) => growN n w hn)
  have HAP := Lib.hid (fun (wq : World) (v : Value) (n : Nat) (xs : List Value) (hown : wq.ownsRow w.heap.size 78 1 v n xs) (y : Value × Nat × List Value) (hq : SlAt wq y.1 y.2.1 1 y.2.2) (h1 : ∀ u ∈ y.2.2, u.oneCell' = true) (h63 : n + y.2.1 ≤ 100000000) (hb : w.heap.size ≤ wq.heap.size) (ty : TypeId) => run_app (P := Tryz.prog) wq w.heap.size 83 ty 78 i0 _ 1 16 Tryz.underlying83 hi0 hz0 hz1 hz2 rfl (by omega) v n xs hown y.1 y.2.1 y.2.2 hq h1 h63 (by omega) hb)
  have H0 : Hid (0 < m) := by show 0 < m; omega
  clear hm0 hc hs h0 hi0 hz0 hz1 hz2
  go_enter Tryz.func175, Tryz.ntmps175
  go_wp2_with fail
  go_loop [3, 11] (fun s i => ∃ j : Nat, j ≤ m ∧ i = .int .i64 j ∧ s = .int .i64 (((ys.take j).map fun y => y.2.1).sum : Nat)) (fun _ i => m - (intOf i).toNat)
  case atStart => exact ⟨0, Nat.zero_le _, rfl, rfl⟩
  case round =>
    obtain ⟨j, hj, rfl, rfl⟩ := hrel
    by_cases hlt : j < m
    · have hji : (j : Int) < (m : Int) := by omega
      have hln := HN.out
      obtain ⟨y, hy⟩ : ∃ y, ys[j]? = some y := ⟨ys[j]'(by omega), List.getElem?_eq_getElem (by omega)⟩
      have hsum := HS.out (j + 1)
      rw [list_take_sum _ _ _ _ hy] at hsum
      have HSUM := Lib.hid (list_take_sum (fun y : Value × Nat × List Value => y.2.1) _ _ _ hy)
      obtain ⟨c0, hsl, _⟩ := HC.out j y hy
      obtain ⟨S, hS⟩ : ∃ S, ((ys.take j).map fun y => y.2.1).sum = S := ⟨_, rfl⟩
      rw [hS] at hsum
      have HS2 := Lib.hid hS
      rw [hS]
      obtain ⟨yv, yn, yx⟩ := y
      dsimp only at c0 hsl hsum HSUM
      obtain ⟨_, ⟨rfl, rfl⟩ | ⟨yg, yo, yc, rfl, _⟩⟩ := hsl
      all_goals
        clear hy hln hS
        go_wp2_with fail
        go_round
        case rel => exact ⟨j + 1, by omega, by go_num, by rw [HSUM.out, HS2.out]; first | go_num | (congr 1; omega) | (simp; done)⟩
        case measure => simp [intOf]; omega
    · obtain rfl : j = m := by omega
      have hfull : ys.take j = ys := by rw [← HN.out]; exact List.take_length
      rw [hfull]
      have hsum := HS.out j
      rw [hfull] at hsum
      obtain ⟨S, hS⟩ : ∃ S, (ys.map fun y => y.2.1).sum = S := ⟨_, rfl⟩
      rw [hS] at hsum
      have HS2 := Lib.hid hS
      have HG2 := Lib.hid (HG.out S hsum)
      rw [hS]
      clear hS hfull
      go_wp2_with fail
      refine HG2.out.mono ?_
      rintro e w2 ⟨v2, rfl, hown2, hb2⟩
      obtain ⟨A2, c2, e2⟩ := own_slice hown2
      subst e2
      have HO2 := Lib.hid hown2
      have HB2 := Lib.hid hb2
      clear hown2 hb2
      go_wp2_with fail
      go_loopw [6, 27] (fun s i wr => ∃ (j2 nn : Nat) (A : Option Addr) (c : Nat), j2 ≤ j ∧ i = .int .i64 j2 ∧ s = .slice A nn c ∧ Hid (((ys.take j2).map fun y => y.2.1).sum = nn) ∧ Hid (wr.ownsRow w.heap.size 78 1 (.slice A nn c) nn ((ys.take j2).flatMap fun y => y.2.2)) ∧ Hid (Below w.heap.size w wr)) (fun _ i _ => j - (intOf i).toNat)
      case atStart => exact ⟨0, 0, A2, c2, Nat.zero_le _, rfl, rfl, rfl, HO2.out, HB2.out⟩
      case round =>
        obtain ⟨j2, nn, A, c, hj2, rfl, rfl, HM, HO, HB⟩ := hrel
        by_cases hlt2 : j2 < j
        · have hji : (j2 : Int) < (j : Int) := by omega
          have hln := HN.out
          obtain ⟨y, hy⟩ : ∃ y, ys[j2]? = some y := ⟨ys[j2]'(by omega), List.getElem?_eq_getElem (by omega)⟩
          have hsum := HS.out (j2 + 1)
          rw [list_take_sum _ _ _ _ hy, HM.out] at hsum
          have HSUM := Lib.hid (list_take_sum (fun y : Value × Nat × List Value => y.2.1) _ _ _ hy)
          have HFL := Lib.hid (list_take_flat (fun y : Value × Nat × List Value => y.2.2) _ _ _ hy)
          obtain ⟨c0, hsl, h1⟩ := HC.out j2 y hy
          have c0' := below_c HB.out c0
          obtain ⟨v3, w3, hrun, hown3, hg3⟩ := HAP.out wr _ _ _ HO.out y (hsl.below HB.out) h1 (by omega) HB.out.size 83
          have HR := Lib.hid hrun
          have HO3 := Lib.hid hown3
          have HB3 := Lib.hid (HB.out.grown hg3 HB.out.size (fun k hk => (HO.out.lt k hk).1))
          obtain ⟨A3, c3, e3⟩ := own_slice hown3
          subst e3
          clear hy hln hsum hsl h1 c0 hrun hown3 hg3
          go_wp2_with (at_builtin; refine Lib.wpList_append_run _ rfl _ _ _ _ rfl _ _ rfl rfl _ _ HR.out ?_)
          have hmeas : j - (intOf (.int .i64 ((j2 : Int) + 1))).toNat < j - (intOf (.int .i64 (j2 : Int))).toNat := by simp [intOf]; omega
          refine ⟨⟨j2 + 1, nn + y.2.1, A3, c3, ?_, ?_, rfl, ?_, ?_, ?_⟩, hmeas⟩
          · omega
          · go_num
          · show _ = _; rw [HSUM.out, HM.out]
          · rw [HFL.out]; with_reducible exact HO3
          · with_reducible exact HB3
        · obtain rfl : j2 = j := by omega
          go_wp2_with fail
          go_ret
          have hfull : ys.take j2 = ys := by rw [← HN.out]; exact List.take_length
          rw [hfull] at HO HM
          refine ⟨_, rfl, ?_, HB.out⟩
          have hs1 := HM.out
          rw [← HS2.out, hs1]
          exact HO.out
set_option maxHeartbeats 4000000 in
set_option maxRecDepth 100000 in
/-- slices.Clone. -/
theorem cloneN (n : Nat) (v : Value) (xs : List Value) (w : World) (h : SlAt w v n 1 xs) (hn : n ≤ 100000000) (h1 : ∀ u ∈ xs, u.oneCell' = true) :
    Calls Tryz.prog 156 #[v] w fun e w' => ∃ v', e = .returned v' ∧ w'.ownsRow w.heap.size 78 1 v' n xs ∧ Below w.heap.size w w' := by
  have hq := fun (w : World) (a : Option Addr) (n c n' c' : Nat) => Lib.run_eql_slice_nil (P := Tryz.prog) w 83 78 a n c n' c' Tryz.underlying83
  obtain ⟨i0, hi0, hz0, hz1, hz2⟩ := info_parts infoN
  have h' := h
  obtain ⟨hl, ⟨rfl, rfl⟩ | ⟨g, o, c, rfl, hc⟩⟩ := h'
  · obtain rfl : xs = [] := List.eq_nil_of_length_eq_zero (by simpa using hl)
    clear h hl h1 hi0 hz0 hz1 hz2
    go_enter Tryz.func156, Tryz.ntmps156
    go_wp2_with fail
    go_ret
    exact ⟨_, rfl, ⟨rfl, .inl ⟨rfl, rfl⟩⟩, Below.refl _ _⟩
  · obtain ⟨v3, w3, hrun, hown3, hg3⟩ := run_app (P := Tryz.prog) (w.alloc (.cells #[] 78)) w.heap.size 83 83 78 i0 _ 1 16 Tryz.underlying83 hi0 hz0 hz1 hz2 rfl (by omega) _ 0 [] (World.ownsRow_made w #[] 0 (Nat.le_refl _) (Nat.zero_le _) (by simp)) _ n xs (h.below ((Below.refl _ _).alloc (Nat.le_refl _) _)) h1 (by omega) (by omega) (by simp)
    have HR := Lib.hid hrun
    have HO3 : Hid (w3.ownsRow w.heap.size 78 1 v3 n xs) := by show World.ownsRow _ _ _ _ _ _ _; simpa using hown3
    have HB3 : Hid (Below w.heap.size w w3) := ((Below.refl _ _).alloc (Nat.le_refl _) _).grown hg3 (by simp) (fun k hk => by simp [Value.ownBlock] at hk; omega)
    clear h hl h1 hc hrun hown3 hg3 hi0 hz0 hz1 hz2
    go_enter Tryz.func156, Tryz.ntmps156
    go_wp2_with (at_builtin; refine Lib.wpList_append_run _ rfl _ _ _ _ rfl _ _ rfl rfl _ _ HR.out ?_)
    go_ret
    exact ⟨_, rfl, HO3.out, HB3.out⟩
end Go.Proofs.YtneammhkgmkkfaaGreat.tr
