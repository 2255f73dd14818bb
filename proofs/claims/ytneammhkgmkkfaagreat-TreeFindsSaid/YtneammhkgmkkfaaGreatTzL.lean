/- tree: All, Height. -/
import Derived.Test.YtneammhkgmkkfaaGreatTzH
namespace Go.Proofs.YtneammhkgmkkfaaGreat.tr
open Go.RowKit Go.Proofs.YtneammhkgmkkfaaGreat.er
set_option linter.unusedVariables false
set_option linter.unusedSimpArgs false

def AllS (w : World) (B po : Nat) (done : List Ext) (wq : World) : Prop :=
  Keep (fun _ => False) w wq ∧ B ≤ wq.heap.size ∧ po < B ∧ w.heap.size ≤ po ∧ ∃ v, Whole wq po 32 #[v] ∧ wq.ownsRow B 39 4 v done.length (extCells done)
theorem AllS.below {w : World} {B po : Nat} {done : List Ext} {wq w' : World} (h : AllS w B po done wq) (hb : Below wq.heap.size wq w') : AllS w B po done w' := by
  obtain ⟨h1, h2, h3, h4, v, h6, h7⟩ := h
  exact ⟨h1.transBelow hb, Nat.le_trans h2 hb.size, h3, h4, v, h6.below hb h6.lt, own_below h7 hb⟩
set_option maxHeartbeats 4000000 in
set_option maxRecDepth 100000 in
theorem all1_any (w : World) (B po : Nat) (done : List Ext) (e : Ext) (wq : World) (hd : done.length < 16777216) (he : oneB e = true) (h : AllS w B po done wq) :
    Calls Tryz.prog 45 (#[e.val] ++ #[.pointer (some ⟨po, 0, none⟩)]) wq fun x w' => x = .returned (.bool true) ∧ AllS w B po (done ++ [e]) w' := by
  obtain ⟨f, en, k, t⟩ := e
  have hbl : Below wq.heap.size wq (wq.alloc (.cells #[.int .i64 f, .int .i64 en, .int .i64 k, .int .i64 t] 39)) := (Below.refl _ _).alloc (Nat.le_refl _) _
  have hN1 := h.below hbl
  obtain ⟨a1, a2, a3, a4, v, a6, a7⟩ := hN1
  obtain ⟨A, c, rfl⟩ := own_slice a7
  have co := a6.cell 0
  simp at co
  obtain ⟨i0, hi0, hz0, hz1, hz2⟩ := info_parts infoE
  have HI0 := Lib.hid hi0
  have HZ0 := Lib.hid hz0
  have HZ1 := Lib.hid hz1
  have HZ2 := Lib.hid hz2
  obtain ⟨n, hn⟩ : ∃ n, done.length = n := ⟨_, rfl⟩
  rw [hn] at a7 hd co a6
  obtain ⟨w1, hw1⟩ : ∃ w1, wq.alloc (.cells #[.int .i64 f, .int .i64 en, .int .i64 k, .int .i64 t] 39) = w1 := ⟨_, rfl⟩
  rw [hw1] at a1 a2 a6 a7 co
  have hbox : Whole w1 wq.heap.size 39 #[.int .i64 f, .int .i64 en, .int .i64 k, .int .i64 t] := by rw [← hw1]; exact Whole.new _ _ _
  obtain ⟨⟨y0, y1, y2, y3⟩, _⟩ := tmp4 hbox
  have HOA := Lib.hid (a7.alloc (.cells #[.int .i64 f, .int .i64 en, .int .i64 k, .int .i64 t] 39))
  have HNW : Hid (∀ (j' : Nat) (u : Value), ([.int .i64 f, .int .i64 en, .int .i64 k, .int .i64 t] : List Value)[j']? = some u → ((w1).alloc (.cells #[.int .i64 f, .int .i64 en, .int .i64 k, .int .i64 t] 39)).cell? ((⟨(w1).heap.size, 0, none⟩ : Addr).add j') = some u) := World.news_of_block (by simpa using heap_alloc_new (w1) (.cells #[.int .i64 f, .int .i64 en, .int .i64 k, .int .i64 t] 39))
  have hone : ∀ u ∈ ([.int .i64 f, .int .i64 en, .int .i64 k, .int .i64 t] : List Value), u.oneCell' = true := by simp [Value.oneCell']
  have HONE := Lib.hid hone
  have HSZ2 : Hid (B ≤ ((w1).alloc (.cells #[.int .i64 f, .int .i64 en, .int .i64 k, .int .i64 t] 39)).heap.size) := by show _ ≤ _; simp only [World.size_alloc]; omega
  have HEND : Hid (∀ v' w6, w6.ownsRow B 39 4 v' (n + 1) (extCells done ++ [.int .i64 f, .int .i64 en, .int .i64 k, .int .i64 t]) → (w1.alloc (.cells #[.int .i64 f, .int .i64 en, .int .i64 k, .int .i64 t] 39)).grownBy w6 (Value.slice A n c).ownBlock → (w6.cell? ⟨po, 0, none⟩ = some (.slice A n c) ∧ w6.frozen? ⟨po, 0, none⟩ = false) ∧ AllS w B po (done ++ [⟨f, en, k, t⟩]) (w6.setCell ⟨po, 0, none⟩ v')) := by
    intro v' w6 q1 q2
    have hrow : ∀ j, (Value.slice A n c).ownBlock = some j → B ≤ j := fun j hj => (a7.lt j hj).1
    have b6 := (a6.alloc (.cells #[.int .i64 f, .int .i64 en, .int .i64 k, .int .i64 t] 39)).grown q2 (fun e => by have := hrow po e.symm; omega)
    have hK6 : Keep (fun _ => False) w w6 := by
      have h0 : Keep (fun _ => False) w (w1.alloc (.cells #[.int .i64 f, .int .i64 en, .int .i64 k, .int .i64 t] 39)) := a1.alloc _
      exact h0.grown q2 (fun j hj => .inr (by have := hrow j hj; omega))
    refine ⟨⟨b6.cell 0, b6.fz 0⟩, ?_⟩
    have hkS : Keep (fun j => j = po) w6 (w6.setCell ⟨po, 0, none⟩ v') := Keep.set1 w6 po 0 v'
    have hs6 := q2.size
    simp only [World.size_alloc] at hs6
    have hv6 : ∀ j, v'.ownBlock = some j → ¬ (j = po) := fun j hj e => by have := (q1.lt j hj).1; omega
    refine ⟨hK6.setCell (p := ⟨po, 0, none⟩) (.inr a4) _, by rw [size_set]; omega, a3, a4, v', ?_, ?_⟩
    · have := b6.set 0 v'
      simpa using this
    · rw [extCells_append, List.length_append, hn]
      exact own_keep q1 hkS hv6
  clear hone hn hbox hi0 hz0 hz1 hz2 a1 a2 a3 a4 a6 a7 hbl h he
  show Calls Tryz.prog 45 #[.agg #[.int .i64 f, .int .i64 en, .int .i64 k, .int .i64 t], .pointer (some ⟨po, 0, none⟩)] wq _
  go_enter Tryz.func45, Tryz.ntmps45
  go_wp2_with (at_builtin; go_must (refine wpList_append_own _ rfl (.tmp 4) (.tmp 6) 32 rfl B 39 i0 _ 4 32 Tryz.underlying32 HI0.out HZ0.out HZ1.out HZ2.out rfl (by omega) (.slice A n c) n (extCells done) rfl HOA.out ⟨(w1).heap.size, 0, none⟩ 1 1 [.int .i64 f, .int .i64 en, .int .i64 k, .int .i64 t] rfl rfl HNW.out HONE.out (by simp only [maxLen]; omega) (by omega) HSZ2.out ?_; intro v2 w6 hown6 hg6 _; obtain ⟨⟨z0, z1⟩, hfin⟩ := HEND.out v2 w6 hown6 hg6; have HFIN := Lib.hid hfin; obtain ⟨A2, c2, e2⟩ := own_slice hown6; subst e2; clear hown6 hg6 hfin))
  go_ret
  exact ⟨rfl, HFIN.out⟩
theorem all_hand (w : World) (B po : Nat) : Hand 45 #[.pointer (some ⟨po, 0, none⟩)] (fun _ => true) (AllS w B po) (fun _ => False) w where
  eg := fun _ _ => by kernel_rfl
  call := fun done e wq hd he h => all1_any w B po done e wq hd he h
  below := fun done wq w' h hb => h.below hb
  keep := fun done wq h => h.1
set_option maxHeartbeats 4000000 in
set_option maxRecDepth 100000 in
theorem all_any (w : World) (F : List Nat) (p : Nat) (T : Tree) (ht : TrAt w F p T) (hok : T.Ok) (hc : Chk T.flat) :
    Calls Tryz.prog 18 #[.pointer (some ⟨p, 0, none⟩)] w fun x w' => ∃ v', x = .returned v' ∧ w'.ownsRow w.heap.size 39 4 v' T.flat.length (extCells T.flat) ∧ Below w.heap.size w w' := by
  obtain ⟨w3, hw3⟩ : ∃ w3, w.alloc (.cells #[.slice none 0 0] 32) = w3 := ⟨_, rfl⟩
  have k3 : Keep (fun _ => False) w w3 := by rw [← hw3]; exact (Keep.refl _ _).alloc _
  have hs3 : w3.heap.size = w.heap.size + 1 := by rw [← hw3]; simp
  have b3 : Whole w3 w.heap.size 32 #[.slice none 0 0] := by rw [← hw3]; exact Whole.new _ _ _
  have hN : AllS w (w.heap.size + 1) w.heap.size [] w3 := ⟨k3, by omega, by omega, by omega, _, b3, ⟨rfl, .inl ⟨rfl, rfl⟩⟩⟩
  have hW := walk_any _ _ _ _ _ w (all_hand w (w.heap.size + 1) w.heap.size) F p T (-1) w3 ht (fun _ _ h => h) hok hc hN
  rw [past_all hc, handed_all (List.all_eq_true.2 (fun _ _ => rfl))] at hW
  have HW : Hid (Calls Tryz.prog 44 #[.pointer (some ⟨p, 0, none⟩), .int .i64 (-1), .func (.func 45) #[] #[.pointer (some ⟨w.heap.size, 0, none⟩)]] w3 fun x w' => x = .returned (.tuple #[]) ∧ ∃ A c, w'.cell? ⟨w.heap.size, 0, none⟩ = some (.slice A T.flat.length c) ∧ w'.ownsRow w.heap.size 39 4 (.slice A T.flat.length c) T.flat.length (extCells T.flat) ∧ Below w.heap.size w w') := by
    refine hW.mono ?_
    rintro x w' ⟨rfl, q1, q2, q3, q4, v, q9, q10⟩
    obtain ⟨A, c, rfl⟩ := own_slice q10
    exact ⟨rfl, A, c, q9.cell 0, own_base q10 (by omega), ⟨q1.os, q1.tape, q1.output, q1.size, fun j hj => q1.block j hj (fun h => h)⟩⟩
  obtain ⟨NL, hNL⟩ : ∃ NL, T.flat = NL := ⟨_, rfl⟩
  rw [hNL] at HW ⊢
  clear hNL hW hN b3 k3 hs3 ht hok hc
  go_enter Tryz.func18, Tryz.ntmps18
  go_wp2_with fail
  with_reducible refine HW.out.mono ?_
  rintro e w5 ⟨rfl, A, c, z1, z2, z3⟩
  have HZ2 := Lib.hid z2
  have HZ3 := Lib.hid z3
  clear z2 z3
  go_wp2_with fail
  go_ret
  exact ⟨_, rfl, HZ2.out, HZ3.out⟩
def sumN (l : List Ext) : Int := (l.map fun e => e.n).sum
theorem sum_low : ∀ (l : List Ext) (a : Int), Chk l → 0 ≤ a → a ≤ 16777216 → (∀ e ∈ l, a ≤ e.fr) → 0 ≤ sumN l ∧ sumN l ≤ 16777216 - a
  | [], a, _, h0, h1, _ => by simp [sumN]; omega
  | e :: l, a, hc, h0, h1, hl => by
    have ho := one_spec (hc.one e (by simp))
    have hp := List.pairwise_cons.1 hc.ord
    have he : e.end_ = e.fr + e.n := rfl
    have := sum_low l e.end_ hc.tail (by omega) (by omega) (fun x hx => (hp.1 x hx).1)
    have := hl e (by simp)
    simp only [sumN, List.map_cons, List.sum_cons] at *
    omega
theorem sum_chk {l : List Ext} (h : Chk l) : 0 ≤ sumN l ∧ sumN l ≤ 16777216 := by
  have := sum_low l 0 h (by omega) (by omega) (fun e he => (one_spec (h.one e he)).1)
  omega
theorem sum_take {l : List Ext} {j : Nat} {e : Ext} (h : l[j]? = some e) : sumN (l.take (j + 1)) = sumN (l.take j) + e.n := by
  obtain ⟨hj, rfl⟩ := List.getElem?_eq_some_iff.1 h
  rw [List.take_succ_eq_append_getElem hj]
  unfold sumN
  rw [List.map_append, List.sum_append]
  simp only [List.map_cons, List.map_nil, List.sum_cons, List.sum_nil, Int.add_zero]
set_option maxHeartbeats 4000000 in
set_option maxRecDepth 100000 in
theorem count_any (l : List Ext) (v : Value) (w : World) (h : ExtsAt w v l) (hc : Chk l) : Calls Tryz.prog 43 #[v] w fun x w' => x = .returned (.int .i64 (sumN l)) ∧ Below w.heap.size w w' := by
  have HCK : Hid (Calls Tryz.prog 61 #[v] w fun x w' => x = .returned (.bool true) ∧ Below w.heap.size w w') := by have := check_any l v w h (by have := chk_len hc; omega); rw [chk_chkB _ hc] at this; exact this
  have hlen := chk_len hc
  obtain ⟨A, c, rfl, hcc⟩ := h
  have HC := Lib.hid hcc
  obtain ⟨n, hn⟩ : ∃ n, l.length = n := ⟨_, rfl⟩
  have HN := Lib.hid hn
  rw [hn] at HCK hlen
  rw [hn]
  have HSUM : Hid (∀ j, 0 ≤ sumN (l.take j) ∧ sumN (l.take j) ≤ 16777216) := fun j => sum_chk (take_chk hc j)
  have HOE := Lib.hid hc.one
  clear hcc hn hc
  go_enter Tryz.func43, Tryz.ntmps43
  go_wp2_with fail
  with_reducible refine HCK.out.mono ?_
  rintro e w1 ⟨rfl, hb1⟩
  have HB1 := Lib.hid hb1
  clear hb1
  go_wp2_with fail
  go_loopw [3, 5, 11] (fun s3 s5 i wr => ∃ (j : Nat), j ≤ n ∧ i = .int .i64 j ∧ s3 = .int .i64 (sumN (l.take j)) ∧ Hid (Below w.heap.size w wr)) (fun _ _ i _ => n - (intOf i).toNat)
  case atStart => exact ⟨0, Nat.zero_le _, rfl, rfl, HB1.out⟩
  case round =>
    obtain ⟨j, hj, rfl, rfl, HB⟩ := hrel
    by_cases hlt : j < n
    · have hji : (j : Int) < (n : Int) := by omega
      have hln := HN.out
      obtain ⟨g, o, rfl, hcc⟩ := HC.out (by omega)
      obtain ⟨x, hx'⟩ : ∃ x, l[j]? = some x := ⟨l[j]'(by omega), List.getElem?_eq_getElem (by omega)⟩
      obtain ⟨c0, c1, c2, c3⟩ := (hcc j x hx').below HB.out
      have HST := Lib.hid (sum_take hx')
      obtain ⟨b1, b2⟩ := HSUM.out j
      obtain ⟨b3, b4⟩ := HSUM.out (j + 1)
      rw [HST.out] at b3 b4
      obtain ⟨SJ, hSJ⟩ : ∃ SJ, sumN (l.take j) = SJ := ⟨_, rfl⟩
      rw [hSJ] at HST b1 b2 b3 b4
      rw [hSJ]
      obtain ⟨f, en, k, t⟩ := x
      simp only at c0 c1 c2 c3 HST b3 b4
      have HA0 : Hid (Below wr.heap.size wr (wr.alloc (.cells #[.int .i64 f, .int .i64 en, .int .i64 k, .int .i64 t] 39))) := (Below.refl _ _).alloc (Nat.le_refl _) _
      clear hcc hx' hln hSJ
      go_wp2_with fail
      go_roundw
      case rel => exact ⟨j + 1, by omega, by go_num, by rw [HST.out], HB.out.trans (HA0.out.mono HB.out.size)⟩
      case measure => simp [intOf]; omega
    · obtain rfl : j = n := by omega
      have hfull : l.take j = l := by rw [← HN.out]; exact List.take_length
      rw [hfull]
      go_wp2_with fail
      go_ret
      exact ⟨rfl, HB.out⟩
set_option maxHeartbeats 4000000 in
set_option maxRecDepth 100000 in
theorem tcount_any (w : World) (F : List Nat) (p : Nat) (T : Tree) (ht : TrAt w F p T) (hok : T.Ok) (hc : Chk T.flat) :
    Calls Tryz.prog 17 #[.pointer (some ⟨p, 0, none⟩)] w fun x w' => x = .returned (.int .i64 (sumN T.flat)) ∧ Below w.heap.size w w' := by
  have HA := Lib.hid (all_any w F p T ht hok hc)
  have HC : Hid (∀ wq v, ExtsAt wq v T.flat → Calls Tryz.prog 43 #[v] wq fun x w' => x = .returned (.int .i64 (sumN T.flat)) ∧ Below wq.heap.size wq w') := fun wq v h => count_any _ v wq h hc
  obtain ⟨L, hL⟩ : ∃ L, T.flat = L := ⟨_, rfl⟩
  rw [hL] at HA HC ⊢
  clear ht hok hc hL
  go_enter Tryz.func17, Tryz.ntmps17
  go_wp2_with fail
  with_reducible refine HA.out.mono ?_
  rintro e w5 ⟨v', rfl, z2, z3⟩
  have HX := Lib.hid (ExtsAt.own z2).1
  have HB := Lib.hid z3
  clear z2 z3
  go_wp2_with fail
  with_reducible refine (HC.out _ _ HX.out).mono ?_
  rintro e w6 ⟨rfl, hb6⟩
  have HB6 := Lib.hid (bel_tr HB.out hb6)
  clear hb6
  go_wp2_with fail
  go_ret
  exact ⟨rfl, HB6.out⟩
end Go.Proofs.YtneammhkgmkkfaaGreat.tr
