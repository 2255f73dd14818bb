/- The walks of 'few' and 'made' of layer 3. -/
import Derived.Test.YtkkfolbidclonaaDoorErM
import Derived.BigQuiet
import Derived.Deep.QuietTactic
import Derived.Deep.RegionHeld3
namespace Go.Proofs.YtkkfolbidclonaaDoor.er
open Go.RowKit
set_option linter.unusedVariables false

/-- A part: kind, code, place, what was done. -/
abbrev Pt := Int × Int × Int × ByteArray
def Parts (w : World) (b off : Nat) (ps : List Pt) : Prop := ∀ (i : Nat) (s : Pt), ps[i]? = some s → w.cell? ⟨b, off + i * 4, none⟩ = some (.int .i64 s.1) ∧ w.cell? ⟨b, off + i * 4 + 1, none⟩ = some (.int .i64 s.2.1) ∧
  w.cell? ⟨b, off + i * 4 + 2, none⟩ = some (.int .i64 s.2.2.1) ∧ w.cell? ⟨b, off + i * 4 + 3, none⟩ = some (.string s.2.2.2)
theorem Parts.below {w w' : World} {b off : Nat} {ps : List Pt} (h : Parts w b off ps) (hb : Below w.heap.size w w') : Parts w' b off ps := fun i s hs => by
  obtain ⟨h1, h2, h3, h4⟩ := h i s hs
  exact ⟨below_c hb h1, below_c hb h2, below_c hb h3, below_c hb h4⟩

/-! ### few -/
set_option maxHeartbeats 2000000 in
set_option maxRecDepth 100000 in
theorem few_nil (A : Option Addr) (cap : Nat) (w : World) : Calls Tryd.prog 9 #[.slice A 0 cap] w fun e w' => e = .returned (.bool true) ∧ w = w' := by
  go_enter Tryd.func9, Tryd.ntmps9
  go_wp2
  refine wp_loop_rounds 1 ?_
  rw [rounds_succ]
  go_wp2
  go_ret
  exact ⟨rfl, rfl⟩
def SomeB (w : World) (e : Ending) (w' : World) : Prop := ∃ b, e = .returned (.bool b) ∧ w = w'
set_option maxHeartbeats 2000000 in
set_option maxRecDepth 100000 in
theorem few_some (b off n cap : Nat) (ps : List Pt) (w : World) (hl : ps.length = n) (hm : n ≤ maxLen) (hp : Parts w b off ps) :
    Calls Tryd.prog 9 #[.slice (some ⟨b, off, none⟩) n cap] w (SomeB w) := by
  unfold maxLen at hm
  have HP := Lib.hid hp
  have HL := Lib.hid hl
  clear hp hl
  go_enter Tryd.func9, Tryd.ntmps9
  go_wp2
  go_loop [3, 4] (fun c i => ∃ (k m : Nat), k ≤ n ∧ k ≤ 30 ∧ m ≤ k ∧ i = .int .i64 k ∧ c = .int .i64 m) (fun _ i => 30 - (intOf i).toNat)
  case atStart => exact ⟨0, 0, by omega, by omega, by omega, rfl, rfl⟩
  case round =>
    obtain ⟨k, m, hk, hk30, hmk, rfl, rfl⟩ := hrel
    by_cases hlt : k < n ∧ k < 30
    · obtain ⟨hl1, hl2⟩ := hlt
      obtain ⟨s, hs⟩ : ∃ s, ps[k]? = some s := ⟨ps[k]'(by rw [HL.out]; exact hl1), List.getElem?_eq_getElem _⟩
      obtain ⟨c0, _⟩ := HP.out k s hs
      have hi0' : (0 : Int) ≤ (k : Int) := by omega
      have hi1 : (k : Int) < (n : Int) := by omega
      clear hs
      by_cases h2 : s.1 = 2
      · have hb2 : (s.1 == 2) = true := by simp [h2]
        have H2 := Lib.hid h2
        clear h2
        go_wp2
        go_round
        case rel => exact ⟨k + 1, m + 1, by omega, by omega, by omega, by go_num, by go_num⟩
        case measure => simp [intOf]; omega
      · have hb2 : (s.1 == 2) = false := by simp [h2]
        clear h2
        go_wp2
        go_round
        case rel => exact ⟨k + 1, m, by omega, by omega, by omega, by go_num, rfl⟩
        case measure => simp [intOf]; omega
    · by_cases hkn : k < n
      · have hk30' : 30 ≤ k := by omega
        go_wp2
        all_goals go_ret
        all_goals exact ⟨_, rfl, rfl⟩
      · have hkn' : n ≤ k := by omega
        go_wp2
        all_goals go_ret
        all_goals exact ⟨_, rfl, rfl⟩

/-! ### made -/
def MadePost (w : World) (m : Nat) (e : Ending) (w' : World) : Prop :=
  (m = 0 ∧ e = .returned (.tuple #[.nilIface, .slice none 0 0]) ∧ Below w.heap.size w w') ∨
  (0 < m ∧ ∃ (l : List Nd) (vs : List Value) (v : Value) (g cap : Nat), e = .returned (.tuple #[v, .slice (some ⟨g, 0, none⟩) m cap]) ∧ l.length = m ∧ Rep w' w'.heap.size l vs ∧ vs[m - 1]? = some v ∧ Nodes w' g l ∧ Below w.heap.size w w')

theorem JoinPost.two {w w' : World} {a b : Value} {e : Ending} (h : JoinPost w [a, b] e w') : ∃ bj gj cj, e = .returned (.iface 80 (.pointer (some ⟨bj, 0, none⟩))) ∧ w.heap.size ≤ bj ∧ w.heap.size ≤ gj ∧
    Whole w' bj 82 #[.slice (some ⟨gj, 0, none⟩) 2 cj] ∧ (∀ (j : Nat) (u : Value), [a, b][j]? = some u → w'.cell? ⟨gj, j, none⟩ = some u) ∧ Below w.heap.size w w' := by
  rcases h with ⟨h, _⟩ | ⟨_, bj, v, rfl, hb, hw, ho, hbl⟩
  · exact absurd h (by simp)
  · have ho2 := ho
    rcases ho.2 with ⟨rfl, h2⟩ | ⟨g, cap, cur, rfl, hge, _⟩
    · exact absurd h2 (by simp)
    · refine ⟨bj, g, cap, rfl, hb, hge, hw, fun j u hu => ?_, hbl⟩
      have := ho2.cells (g := g) rfl j u hu
      rw [show ((⟨g, 0, none⟩ : Addr).add j) = ⟨g, j, none⟩ from by cases j <;> simp [Addr.add]] at this
      exact this
theorem errs_two (t2 : TypeId) (y2 : Value) (t : TypeId) (y : Value) : Errs [.nilIface, .iface t2 y2, .iface t y] := fun u hu => by
  rcases List.mem_cons.1 hu with h | hu
  · exact .inl h
  · rcases List.mem_cons.1 hu with h | hu
    · exact .inr ⟨_, _, h⟩
    · exact .inr ⟨_, _, by simpa using hu⟩
theorem MadeSt.nodes {w : World} {k : Nat} {ve vn : Value} {wr : World} {l : List Nd} {vs : List Value} {p : List (Nd × Value)} (h : MadeSt w k ve vn wr l vs p) (hk : 0 < k) : ∃ g cap, vn = .slice (some ⟨g, 0, none⟩) k cap ∧ Nodes wr g l := by
  have ho := h.on
  rcases h.on.2 with ⟨_, h2⟩ | ⟨g, cap, cur, rfl, hge, _⟩
  · omega
  · refine ⟨g, cap, rfl, fun i n hn => ?_⟩
    rw [← h.pl, List.getElem?_map] at hn
    obtain ⟨x, hx, hxn⟩ := Option.map_eq_some_iff.1 hn
    obtain ⟨n', kv⟩ := x
    simp only at hxn
    subst hxn
    refine ⟨kv, h.kids _ (List.mem_of_getElem? hx), fun j u hu => ?_⟩
    have hj : j < 5 := by
      have := (List.getElem?_eq_some_iff.1 hu).1
      simpa [ndCells] using this
    have := ho.cells (g := g) rfl (i * 5 + j) u ((ndRow_at p i n' kv hx j hj).trans hu)
    rw [show ((⟨g, 0, none⟩ : Addr).add (i * 5 + j)) = ⟨g, i * 5 + j, none⟩ from by generalize i * 5 + j = m; cases m <;> simp [Addr.add]] at this
    exact this
set_option maxHeartbeats 2000000 in
set_option maxRecDepth 100000 in
theorem made_none (A : Option Addr) (cap : Nat) (w : World) : Calls Tryd.prog 11 #[.slice A 0 cap] w (MadePost w 0) := by
  go_enter Tryd.func11, Tryd.ntmps11
  go_wp2
  refine wp_loop_rounds 1 ?_
  rw [rounds_succ]
  go_wp2
  go_ret2
  exact .inl ⟨rfl, rfl, Below.refl _ _⟩

set_option maxHeartbeats 8000000 in
set_option maxRecDepth 100000 in
theorem made_some (b off n cap : Nat) (ps : List Pt) (w : World) (hl : ps.length = n) (h1 : 0 < n) (hm : n ≤ maxLen) (hp : Parts w b off ps) :
    Calls Tryd.prog 11 #[.slice (some ⟨b, off, none⟩) n cap] w (MadePost w (min n 30)) := by
  unfold maxLen at hm
  obtain ⟨i0, hi0, hz0, hz1, hz2⟩ := info_parts errInfo
  obtain ⟨j0, hj0, jz0, jz1, jz2⟩ := info_parts nodeInfo
  have HP := Lib.hid hp
  have HL := Lib.hid hl
  clear hp hl
  go_enter Tryd.func11, Tryd.ntmps11
  go_wp2
  go_loopw [4, 5, 6] (fun ve vn i wr => ∃ k : Nat, k ≤ n ∧ k ≤ 30 ∧ i = .int .i64 k ∧ ∃ (l : List Nd) (vs : List Value) (p : List (Nd × Value)), Hid (MadeSt w k ve vn wr l vs p)) (fun _ _ i _ => 30 - (intOf i).toNat)
  case atStart => exact ⟨0, Nat.zero_le _, by omega, rfl, [], [], [], ⟨Below.refl _ _, rfl, rfl, World.ownsRow_nil _ _ _ _, World.ownsRow_nil _ _ _ _, ⟨rfl, fun _ _ h => by simp at h, fun _ _ _ h => by simp at h⟩, fun _ h => by simp at h⟩⟩
  case round =>
    obtain ⟨k, hk, hk30, rfl, l, vs, p, ST⟩ := hrel
    obtain ⟨A, ce, hA⟩ := own_slice ST.out.oe
    obtain ⟨A', cn, hA'⟩ := own_slice ST.out.on
    subst hA hA'
    have hsz := ST.out.bel.size
    by_cases hlt : k < n ∧ k < 30
    · obtain ⟨hl1, hl2⟩ := hlt
      obtain ⟨s, hs⟩ : ∃ s, ps[k]? = some s := ⟨ps[k]'(by rw [HL.out]; exact hl1), List.getElem?_eq_getElem _⟩
      obtain ⟨c0, c1, c2, c3⟩ := (HP.out.below ST.out.bel) k s hs
      have hi0' : (0 : Int) ≤ (k : Int) := by omega
      have hi1 : (k : Int) < (n : Int) := by omega
      clear hs
      obtain ⟨kd, cd, at_, op⟩ := s
      simp only at c0 c1 c2 c3
      -- the part's own box, and what follows it
      have HBOX : Hid (∀ (wa w2 : World), Below (wr.heap.size + 1) (wr.alloc (.cells #[.int .i64 kd, .int .i64 cd, .int .i64 at_, .string op] 52)) wa → wa.grownBy w2 (Value.slice A k ce).ownBlock →
          w2.cell? ⟨wr.heap.size, 0, none⟩ = some (.int .i64 kd) ∧ w2.cell? ⟨wr.heap.size, 1, none⟩ = some (.int .i64 cd) ∧ w2.cell? ⟨wr.heap.size, 2, none⟩ = some (.int .i64 at_) ∧ w2.cell? ⟨wr.heap.size, 3, none⟩ = some (.string op) ∧ wr.heap.size < w2.heap.size) := fun wa w2 ha hg => by
        have hw : Whole (wr.alloc (.cells #[.int .i64 kd, .int .i64 cd, .int .i64 at_, .string op] 52)) wr.heap.size 52 #[.int .i64 kd, .int .i64 cd, .int .i64 at_, .string op] := Whole.new _ _ _
        have hw2 := (hw.below ha (by omega)).grown hg (fun e => by have := (ST.out.oe.lt _ e.symm).2; omega)
        exact ⟨hw2.cell 0, hw2.cell 1, hw2.cell 2, hw2.cell 3, hw2.lt⟩
      by_cases k1 : kd = 1
      · by_cases k0 : k = 0
        · -- a number after all
          have hb1 : (kd == 1) = true := by simp [k1]
          have hb2 : (kd == 2) = false := by simp [k1]
          have hb3 : (kd == 3) = false := by simp [k1]
          have hkz : (k : Int) ≤ 0 := by omega
          clear k1 k0
          have HA : Hid (Below wr.heap.size wr ((wr.alloc (.cells #[.int .i64 kd, .int .i64 cd, .int .i64 at_, .string op] 52)).alloc (.cells #[.iface 30 (.int .i64 cd)] 26))) := (((Below.refl _ _).alloc (Nat.le_refl _) _).alloc (by simp) _)
          have HAB : Hid (Below (wr.heap.size + 1) (wr.alloc (.cells #[.int .i64 kd, .int .i64 cd, .int .i64 at_, .string op] 52)) ((wr.alloc (.cells #[.int .i64 kd, .int .i64 cd, .int .i64 at_, .string op] 52)).alloc (.cells #[.iface 30 (.int .i64 cd)] 26))) := (Below.refl _ _).alloc (by simp) _
          have OWN1 : Hid (((wr.alloc (.cells #[.int .i64 kd, .int .i64 cd, .int .i64 at_, .string op] 52)).alloc (.cells #[.iface 30 (.int .i64 cd)] 26)).ownsRow w.heap.size 26 1 (.slice A k ce) k vs) := own_below ST.out.oe HA.out
          have ONA : Hid (((wr.alloc (.cells #[.int .i64 kd, .int .i64 cd, .int .i64 at_, .string op] 52)).alloc (.cells #[.iface 30 (.int .i64 cd)] 26)).ownsRow w.heap.size 41 5 (.slice A' k cn) k (ndRow p)) := own_below ST.out.on HA.out
          have HNEW : Hid (∀ (j : Nat) (u : Value), [Value.iface 30 (.int .i64 cd)][j]? = some u → ((wr.alloc (.cells #[.int .i64 kd, .int .i64 cd, .int .i64 at_, .string op] 52)).alloc (.cells #[.iface 30 (.int .i64 cd)] 26)).cell? ((⟨wr.heap.size + 1, 0, none⟩ : Addr).add j) = some u) := by
            have := cell_one_new' (wr.alloc (.cells #[.int .i64 kd, .int .i64 cd, .int .i64 at_, .string op] 52)) (.iface 30 (.int .i64 cd)) 26
            rw [World.size_alloc] at this
            exact this
          have HONE : Hid (∀ u ∈ [Value.iface 30 (.int .i64 cd)], u.oneCell' = true) := by show ∀ u ∈ _, _; simp [Value.oneCell']
          have HSZ : Hid (w.heap.size ≤ ((wr.alloc (.cells #[.int .i64 kd, .int .i64 cd, .int .i64 at_, .string op] 52)).alloc (.cells #[.iface 30 (.int .i64 cd)] 26)).heap.size) := by show _ ≤ _; simp only [World.size_alloc]; omega
          go_wp2_with (first | (at_builtin; refine wpList_append_own_at _ rfl (.tmp 25) (.tmp 29) 45 rfl w.heap.size 26 i0 .nilIface 1 16 Tryd.underlying45 hi0 hz0 hz1 hz2 rfl (by omega) (.slice A k ce) k vs rfl OWN1.out ⟨wr.heap.size + 1, 0, none⟩ 1 1 [.iface 30 (.int .i64 cd)] rfl rfl HNEW.out HONE.out (by simp only [maxLen]; omega) (by omega) HSZ.out ?_; intro ve2 w2 hoe hg2 _ hat2; obtain ⟨A2, c2, e2⟩ := own_slice hoe; subst e2; obtain ⟨d0, d1, d2, d3, d4⟩ := HBOX.out _ w2 HAB.out hg2; have HOE := Lib.hid hoe; have HG2 := Lib.hid hg2; have HAT2 := Lib.hid hat2; have ON2 := Lib.hid (ONA.out.kept hg2 (own_own_ne ONA.out OWN1.out (by decide))); have hs2 := hg2.size; clear hoe hg2 hat2) | (at_builtin; refine wpList_append_own_at _ rfl (.tmp 31) (.tmp 35) 27 rfl w.heap.size 41 j0 _ 5 64 Tryd.underlying27 hj0 jz0 jz1 jz2 rfl (by omega) (.slice A' k cn) k (ndRow p) rfl (ON2.out.alloc _) ⟨w2.heap.size, 0, none⟩ 1 1 (ndCells (ndCode cd) (.slice none 0 0)) rfl rfl (World.news_of_block (by first | exact heap_alloc_new _ _ | simpa using heap_alloc_new (w2.alloc (.cells #[.int .i64 ((k : Int) - 1)] 3)) _)) (by simp [Value.oneCell', ndCells]) (by simp only [maxLen]; omega) (by omega) (by simp only [World.size_alloc]; omega) ?_; intro vn2 w4 hon hg4 _ hat4; obtain ⟨A4, c4, e4⟩ := own_slice hon; subst e4; have HON := Lib.hid hon; have HG4 := Lib.hid hg4; have HAT4 := Lib.hid hat4; clear hon hg4 hat4))
          go_roundw
          case rel =>
            refine ⟨k + 1, by omega, by omega, by go_num, l ++ [ndCode cd], vs ++ [.iface 30 (.int .i64 cd)], p ++ [(ndCode cd, .slice none 0 0)], ?_⟩
            exact made_step ST.out HA.out HOE.out HG2.out HAT2.out ((Below.refl _ _).alloc (Nat.le_refl _) _) HON.out HG4.out HAT4.out (by simp) (.inl ⟨rfl, rfl, rfl⟩) (.inl ⟨rfl, rfl⟩)
          case measure => simp [intOf]; omega
        · have hb1 : (kd == 1) = true := by simp [k1]
          have hb2 : (kd == 2) = false := by simp [k1]
          have hb3 : (kd == 3) = false := by simp [k1]
          have hk1 : (0 : Int) ≤ (k : Int) - 1 := by omega
          have hk2 : (k : Int) - 1 < (k : Int) := by omega
          have hkp : 0 < k := by omega
          have hkq : (1 : Int) ≤ (k : Int) := by omega
          have hkc : (0 : Int) < (k : Int) := by omega
          have hkn : ((k : Int) - 1).toNat = k - 1 := by omega
          have hkw : IntKind.i64.wrap ((k : Int) - 1) = (k : Int) - 1 := by rw [IntKind.wrap_i64]; omega
          obtain ⟨x, hx⟩ : ∃ x, vs[k - 1]? = some x := ⟨vs[k - 1]'(by rw [ST.out.rep.len, ST.out.len]; omega), List.getElem?_eq_getElem _⟩
          obtain ⟨t, y, hxy⟩ := (ST.out.rep.toRep (fun b h => h.1)).iface hx
          subst hxy
          obtain ⟨g, hg⟩ : ∃ g, A = some ⟨g, 0, none⟩ := by
            rcases ST.out.oe.2 with ⟨h1, h2⟩ | ⟨g, cap, cur, h1, _⟩
            · omega
            · injection h1 with h1 _ _; exact ⟨g, h1⟩
          subst hg
          have ce1 : wr.cell? ⟨g, k - 1, none⟩ = some (.iface t y) := by
            have := ST.out.oe.cells (g := g) rfl (k - 1) _ hx
            rw [show ((⟨g, 0, none⟩ : Addr).add (k - 1)) = ⟨g, k - 1, none⟩ from by simp [Addr.add]; omega] at this
            exact this
          have HX := Lib.hid hx
          have HA : Hid (Below wr.heap.size wr (((wr.alloc (.cells #[.int .i64 kd, .int .i64 cd, .int .i64 at_, .string op] 52)).alloc (.cells #[.string op, .int .i64 at_, .iface t y] 59)).alloc (.cells #[Value.iface 56 (.pointer (some ⟨wr.heap.size + 1, 0, none⟩))] 26)).drew) := (((((Below.refl _ _).alloc (Nat.le_refl _) _).alloc (by simp) _).alloc (by simp <;> omega) _).drew)
          have HAB : Hid (Below (wr.heap.size + 1) (wr.alloc (.cells #[.int .i64 kd, .int .i64 cd, .int .i64 at_, .string op] 52)) (((wr.alloc (.cells #[.int .i64 kd, .int .i64 cd, .int .i64 at_, .string op] 52)).alloc (.cells #[.string op, .int .i64 at_, .iface t y] 59)).alloc (.cells #[Value.iface 56 (.pointer (some ⟨wr.heap.size + 1, 0, none⟩))] 26)).drew) := (((Below.refl _ _).alloc (by simp) _).alloc (by simp <;> omega) _).drew
          have OWN1 : Hid ((((wr.alloc (.cells #[.int .i64 kd, .int .i64 cd, .int .i64 at_, .string op] 52)).alloc (.cells #[.string op, .int .i64 at_, .iface t y] 59)).alloc (.cells #[Value.iface 56 (.pointer (some ⟨wr.heap.size + 1, 0, none⟩))] 26)).drew.ownsRow w.heap.size 26 1 (.slice (some ⟨g, 0, none⟩) k ce) k vs) := own_below ST.out.oe HA.out
          have ONA : Hid ((((wr.alloc (.cells #[.int .i64 kd, .int .i64 cd, .int .i64 at_, .string op] 52)).alloc (.cells #[.string op, .int .i64 at_, .iface t y] 59)).alloc (.cells #[Value.iface 56 (.pointer (some ⟨wr.heap.size + 1, 0, none⟩))] 26)).drew.ownsRow w.heap.size 41 5 (.slice A' k cn) k (ndRow p)) := own_below ST.out.on HA.out
          have HNEW : Hid (∀ (j : Nat) (u : Value), [Value.iface 56 (.pointer (some ⟨wr.heap.size + 1, 0, none⟩))][j]? = some u → (((wr.alloc (.cells #[.int .i64 kd, .int .i64 cd, .int .i64 at_, .string op] 52)).alloc (.cells #[.string op, .int .i64 at_, .iface t y] 59)).alloc (.cells #[Value.iface 56 (.pointer (some ⟨wr.heap.size + 1, 0, none⟩))] 26)).drew.cell? ((⟨wr.heap.size + 2, 0, none⟩ : Addr).add j) = some u) := by
            have := cell_one_new' (((wr.alloc (.cells #[.int .i64 kd, .int .i64 cd, .int .i64 at_, .string op] 52)).alloc (.cells #[.string op, .int .i64 at_, .iface t y] 59))) (Value.iface 56 (.pointer (some ⟨wr.heap.size + 1, 0, none⟩))) 26
            simp only [World.size_alloc, World.size_drew] at this
            exact this
          have HONE : Hid (∀ u ∈ [Value.iface 56 (.pointer (some ⟨wr.heap.size + 1, 0, none⟩))], u.oneCell' = true) := by show ∀ u ∈ _, _; simp [Value.oneCell']
          have HSZ : Hid (w.heap.size ≤ (((wr.alloc (.cells #[.int .i64 kd, .int .i64 cd, .int .i64 at_, .string op] 52)).alloc (.cells #[.string op, .int .i64 at_, .iface t y] 59)).alloc (.cells #[Value.iface 56 (.pointer (some ⟨wr.heap.size + 1, 0, none⟩))] 26)).drew.heap.size) := by show _ ≤ _; simp only [World.size_alloc, World.size_drew]; omega
          have HKEEP : Hid (∀ w2 : World, (∀ (x : Addr) (u : Value), (((wr.alloc (.cells #[.int .i64 kd, .int .i64 cd, .int .i64 at_, .string op] 52)).alloc (.cells #[.string op, .int .i64 at_, .iface t y] 59)).alloc (.cells #[Value.iface 56 (.pointer (some ⟨wr.heap.size + 1, 0, none⟩))] 26)).drew.cell? x = some u → (∀ g', (Value.slice (some ⟨g, 0, none⟩) k ce).ownBlock = some g' → x.block = g' → x.off < k * 1) → w2.cell? x = some u) → w2.cell? ⟨g, k - 1, none⟩ = some (.iface t y)) := fun w2 h => h _ _ (below_c HA.out ce1) (fun _ _ _ => by simp; omega)
          have HK : Hid (∀ w' : World, Below (wr.heap.size + 1) (wr.alloc (.cells #[.int .i64 kd, .int .i64 cd, .int .i64 at_, .string op] 52)) w' → (w'.cell? ⟨wr.heap.size, 2, none⟩ = some (.int .i64 at_) ∧ w'.cell? ⟨wr.heap.size, 3, none⟩ = some (.string op) ∧ w'.cell? ⟨g, k - 1, none⟩ = some (.iface t y))) := fun w' h =>
            have hw := (Whole.new wr 52 #[.int .i64 kd, .int .i64 cd, .int .i64 at_, .string op]).below h (by omega)
            ⟨hw.cell 2, hw.cell 3, (h.cell (by show g < _; have : g < wr.heap.size := World.block_lt_of_cell? _ _ ce1; omega)).trans (by rw [World.cell?_alloc_lt _ _ _ (World.block_lt_of_cell? _ _ ce1)]; exact ce1)⟩
          have hgr : g < wr.heap.size := World.block_lt_of_cell? _ _ ce1
          clear hx k1 k0
          go_wp2_with fail
          go_region_held3 (fun w' => w'.cell? ⟨wr.heap.size, 2, none⟩ = some (.int .i64 at_) ∧ w'.cell? ⟨wr.heap.size, 3, none⟩ = some (.string op) ∧ w'.cell? ⟨g, k - 1, none⟩ = some (.iface t y)) (first | exact ⟨d2, d3, q⟩ | exact HK.out _ (by repeat (first | exact Below.refl _ _ | refine Below.drew ?_ | refine Below.alloc ?_ (by first | omega | (simp <;> omega)) _)))
            (first | (go_at_call 16; refine (wrap_err _ _ _ _ _).mono ?_; rintro e w' ⟨rfl, rfl⟩) | (refine step_append_keeps _ (by rfl) (.tmp 45) (.tmp 56) 45 (by rfl) w.heap.size 26 i0 .nilIface 1 16 Tryd.underlying45 hi0 hz0 hz1 hz2 (by rfl) (by omega) (.slice (some ⟨g, 0, none⟩) k ce) k vs (by rfl) OWN1.out ⟨wr.heap.size + 2, 0, none⟩ 1 1 [Value.iface 56 (.pointer (some ⟨wr.heap.size + 1, 0, none⟩))] (by rfl) (by rfl) HNEW.out HONE.out (by simp only [maxLen]; omega) (by omega) HSZ.out ?_; intro ve2 w2 hoe hg2 hat2 hkp; obtain ⟨A2, c2, e2⟩ := own_slice hoe; subst e2; obtain ⟨d0, d1, d2, d3, d4⟩ := HBOX.out _ w2 HAB.out hg2; have q := HKEEP.out w2 hkp; have HOE := Lib.hid hoe; have HG2 := Lib.hid hg2; have HAT2 := Lib.hid hat2; have ON2 := Lib.hid (ONA.out.kept hg2 (own_own_ne ONA.out OWN1.out (by decide))); have hs2 := hg2.size; clear hoe hg2 hat2 hkp))
          go_wp2_with ((at_builtin; refine wpList_append_own_at _ rfl (.tmp 58) (.tmp 67) 27 rfl w.heap.size 41 j0 _ 5 64 Tryd.underlying27 hj0 jz0 jz1 jz2 rfl (by omega) (.slice A' k cn) k (ndRow p) rfl ((ON2.out.alloc _).alloc _) ⟨w2.heap.size + 1, 0, none⟩ 1 1 (ndCells ⟨1, 0, op, at_, [k - 1]⟩ (.slice (some ⟨w2.heap.size, 0, none⟩) 1 1)) rfl rfl (World.news_of_block (by first | exact heap_alloc_new _ _ | simpa using heap_alloc_new (w2.alloc (.cells #[.int .i64 ((k : Int) - 1)] 3)) _)) (by simp [Value.oneCell', ndCells]) (by simp only [maxLen]; omega) (by omega) (by simp only [World.size_alloc]; omega) ?_; intro vn2 w4 hon hg4 _ hat4; obtain ⟨A4, c4, e4⟩ := own_slice hon; subst e4; have HON := Lib.hid hon; have HG4 := Lib.hid hg4; have HAT4 := Lib.hid hat4; clear hon hg4 hat4))
          go_roundw
          case rel =>
            refine ⟨k + 1, by omega, by omega, by go_num, l ++ [⟨1, 0, op, at_, [k - 1]⟩], vs ++ [Value.iface 56 (.pointer (some ⟨wr.heap.size + 1, 0, none⟩))], p ++ [(⟨1, 0, op, at_, [k - 1]⟩, .slice (some ⟨w2.heap.size, 0, none⟩) 1 1)], ?_⟩
            have hW3 := ((Whole.new (wr.alloc (.cells #[.int .i64 kd, .int .i64 cd, .int .i64 at_, .string op] 52)) 59 #[.string op, .int .i64 at_, .iface t y]).alloc (.cells #[Value.iface 56 (.pointer (some ⟨wr.heap.size + 1, 0, none⟩))] 26))
            simp only [World.size_alloc] at hW3
            have hk' : ((k : Int) - 1) = ((k - 1 : Nat) : Int) := by omega
            refine made_step ST.out HA.out HOE.out HG2.out HAT2.out (((Below.refl _ _).alloc (Nat.le_refl _) _).alloc (by simp) _) HON.out HG4.out HAT4.out (by simp; omega) (.inr (.inl ⟨rfl, wr.heap.size + 1, k - 1, .iface t y, ?c1, rfl, HX.out, rfl, hW3⟩)) (.inr ⟨w2.heap.size, rfl, ?c3⟩)
            case c1 => exact ⟨by simp, fun e => by have := (ST.out.oe.lt _ e.symm).2; omega, fun e => by have := (ST.out.on.lt _ e.symm).2; omega⟩
            case c3 =>
              rw [show ((([k - 1] : List Nat).map (fun (k : Nat) => Value.int .i64 (k : Int))).toArray) = #[.int .i64 ((k : Int) - 1)] from by simp [hk']]
              exact (Whole.new w2 3 #[.int .i64 ((k : Int) - 1)]).alloc _
          case measure => simp [intOf]; omega
      by_cases k2 : kd = 2
      · by_cases k0 : k ≤ 1
        · -- a number after all
          have hb1 : (kd == 1) = false := by simp [k1]
          have hb2 : (kd == 2) = true := by simp [k2]
          have hb3 : (kd == 3) = false := by simp [k2]
          have hkz : (k : Int) ≤ 1 := by omega
          clear k1 k2 k0
          have HA : Hid (Below wr.heap.size wr ((wr.alloc (.cells #[.int .i64 kd, .int .i64 cd, .int .i64 at_, .string op] 52)).alloc (.cells #[.iface 30 (.int .i64 cd)] 26))) := (((Below.refl _ _).alloc (Nat.le_refl _) _).alloc (by simp) _)
          have HAB : Hid (Below (wr.heap.size + 1) (wr.alloc (.cells #[.int .i64 kd, .int .i64 cd, .int .i64 at_, .string op] 52)) ((wr.alloc (.cells #[.int .i64 kd, .int .i64 cd, .int .i64 at_, .string op] 52)).alloc (.cells #[.iface 30 (.int .i64 cd)] 26))) := (Below.refl _ _).alloc (by simp) _
          have OWN1 : Hid (((wr.alloc (.cells #[.int .i64 kd, .int .i64 cd, .int .i64 at_, .string op] 52)).alloc (.cells #[.iface 30 (.int .i64 cd)] 26)).ownsRow w.heap.size 26 1 (.slice A k ce) k vs) := own_below ST.out.oe HA.out
          have ONA : Hid (((wr.alloc (.cells #[.int .i64 kd, .int .i64 cd, .int .i64 at_, .string op] 52)).alloc (.cells #[.iface 30 (.int .i64 cd)] 26)).ownsRow w.heap.size 41 5 (.slice A' k cn) k (ndRow p)) := own_below ST.out.on HA.out
          have HNEW : Hid (∀ (j : Nat) (u : Value), [Value.iface 30 (.int .i64 cd)][j]? = some u → ((wr.alloc (.cells #[.int .i64 kd, .int .i64 cd, .int .i64 at_, .string op] 52)).alloc (.cells #[.iface 30 (.int .i64 cd)] 26)).cell? ((⟨wr.heap.size + 1, 0, none⟩ : Addr).add j) = some u) := by
            have := cell_one_new' (wr.alloc (.cells #[.int .i64 kd, .int .i64 cd, .int .i64 at_, .string op] 52)) (.iface 30 (.int .i64 cd)) 26
            rw [World.size_alloc] at this
            exact this
          have HONE : Hid (∀ u ∈ [Value.iface 30 (.int .i64 cd)], u.oneCell' = true) := by show ∀ u ∈ _, _; simp [Value.oneCell']
          have HSZ : Hid (w.heap.size ≤ ((wr.alloc (.cells #[.int .i64 kd, .int .i64 cd, .int .i64 at_, .string op] 52)).alloc (.cells #[.iface 30 (.int .i64 cd)] 26)).heap.size) := by show _ ≤ _; simp only [World.size_alloc]; omega
          go_wp2_with (first | (at_builtin; refine wpList_append_own_at _ rfl (.tmp 25) (.tmp 29) 45 rfl w.heap.size 26 i0 .nilIface 1 16 Tryd.underlying45 hi0 hz0 hz1 hz2 rfl (by omega) (.slice A k ce) k vs rfl OWN1.out ⟨wr.heap.size + 1, 0, none⟩ 1 1 [.iface 30 (.int .i64 cd)] rfl rfl HNEW.out HONE.out (by simp only [maxLen]; omega) (by omega) HSZ.out ?_; intro ve2 w2 hoe hg2 _ hat2; obtain ⟨A2, c2, e2⟩ := own_slice hoe; subst e2; obtain ⟨d0, d1, d2, d3, d4⟩ := HBOX.out _ w2 HAB.out hg2; have HOE := Lib.hid hoe; have HG2 := Lib.hid hg2; have HAT2 := Lib.hid hat2; have ON2 := Lib.hid (ONA.out.kept hg2 (own_own_ne ONA.out OWN1.out (by decide))); have hs2 := hg2.size; clear hoe hg2 hat2) | (at_builtin; refine wpList_append_own_at _ rfl (.tmp 31) (.tmp 35) 27 rfl w.heap.size 41 j0 _ 5 64 Tryd.underlying27 hj0 jz0 jz1 jz2 rfl (by omega) (.slice A' k cn) k (ndRow p) rfl (ON2.out.alloc _) ⟨w2.heap.size, 0, none⟩ 1 1 (ndCells (ndCode cd) (.slice none 0 0)) rfl rfl (World.news_of_block (by first | exact heap_alloc_new _ _ | simpa using heap_alloc_new (w2.alloc (.cells #[.int .i64 ((k : Int) - 1)] 3)) _)) (by simp [Value.oneCell', ndCells]) (by simp only [maxLen]; omega) (by omega) (by simp only [World.size_alloc]; omega) ?_; intro vn2 w4 hon hg4 _ hat4; obtain ⟨A4, c4, e4⟩ := own_slice hon; subst e4; have HON := Lib.hid hon; have HG4 := Lib.hid hg4; have HAT4 := Lib.hid hat4; clear hon hg4 hat4))
          go_roundw
          case rel =>
            refine ⟨k + 1, by omega, by omega, by go_num, l ++ [ndCode cd], vs ++ [.iface 30 (.int .i64 cd)], p ++ [(ndCode cd, .slice none 0 0)], ?_⟩
            exact made_step ST.out HA.out HOE.out HG2.out HAT2.out ((Below.refl _ _).alloc (Nat.le_refl _) _) HON.out HG4.out HAT4.out (by simp) (.inl ⟨rfl, rfl, rfl⟩) (.inl ⟨rfl, rfl⟩)
          case measure => simp [intOf]; omega
        · have hb1 : (kd == 1) = false := by simp [k1]
          have hb2 : (kd == 2) = true := by simp [k2]
          have hb3 : (kd == 3) = false := by simp [k2]
          have hk1 : (0 : Int) ≤ (k : Int) - 1 := by omega
          have hk2 : (k : Int) - 1 < (k : Int) := by omega
          have hk3 : (0 : Int) ≤ (k : Int) - 2 := by omega
          have hk4 : (k : Int) - 2 < (k : Int) := by omega
          have hkc : (1 : Int) < (k : Int) := by omega
          have hkn : ((k : Int) - 1).toNat = k - 1 := by omega
          have hkm : ((k : Int) - 2).toNat = k - 2 := by omega
          have hkw : IntKind.i64.wrap ((k : Int) - 1) = (k : Int) - 1 := by rw [IntKind.wrap_i64]; omega
          have hkv : IntKind.i64.wrap ((k : Int) - 2) = (k : Int) - 2 := by rw [IntKind.wrap_i64]; omega
          have hkp : 0 < k := by omega
          have hkq : 1 < k := by omega
          have hkr : (2 : Int) ≤ (k : Int) := by omega
          have hks : (1 : Int) ≤ (k : Int) := by omega
          have hkt : 2 ≤ k := by omega
          obtain ⟨x, hx⟩ : ∃ x, vs[k - 1]? = some x := ⟨vs[k - 1]'(by rw [ST.out.rep.len, ST.out.len]; omega), List.getElem?_eq_getElem _⟩
          obtain ⟨t, y, hxy⟩ := (ST.out.rep.toRep (fun b h => h.1)).iface hx
          subst hxy
          obtain ⟨x2, hx2⟩ : ∃ x, vs[k - 2]? = some x := ⟨vs[k - 2]'(by rw [ST.out.rep.len, ST.out.len]; omega), List.getElem?_eq_getElem _⟩
          obtain ⟨t2, y2, hxy2⟩ := (ST.out.rep.toRep (fun b h => h.1)).iface hx2
          subst hxy2
          obtain ⟨g, hg⟩ : ∃ g, A = some ⟨g, 0, none⟩ := by
            rcases ST.out.oe.2 with ⟨h1, h2⟩ | ⟨g, cap, cur, h1, _⟩
            · omega
            · injection h1 with h1 _ _; exact ⟨g, h1⟩
          subst hg
          have ce1 : wr.cell? ⟨g, k - 1, none⟩ = some (.iface t y) := by
            have := ST.out.oe.cells (g := g) rfl (k - 1) _ hx
            rw [show ((⟨g, 0, none⟩ : Addr).add (k - 1)) = ⟨g, k - 1, none⟩ from by simp [Addr.add]; omega] at this
            exact this
          have ce2 : wr.cell? ⟨g, k - 2, none⟩ = some (.iface t2 y2) := by
            have := ST.out.oe.cells (g := g) rfl (k - 2) _ hx2
            rw [show ((⟨g, 0, none⟩ : Addr).add (k - 2)) = ⟨g, k - 2, none⟩ from by simp [Addr.add]; omega] at this
            exact this
          have HX := Lib.hid hx
          have HX2 := Lib.hid hx2
          have HC : Hid (Below wr.heap.size wr ((wr.alloc (.cells #[.int .i64 kd, .int .i64 cd, .int .i64 at_, .string op] 52)).alloc (.cells #[.nilIface, .iface t2 y2, .iface t y] 26)).drew) := (((Below.refl _ _).alloc (Nat.le_refl _) _).alloc (by simp) _).drew
          have HERRS : Hid (Errs [.nilIface, .iface t2 y2, .iface t y]) := Lib.hid (errs_two _ _ _ _)
          have HROW : Hid (∀ (j : Nat) (u : Value), [.nilIface, .iface t2 y2, .iface t y][j]? = some u → ((wr.alloc (.cells #[.int .i64 kd, .int .i64 cd, .int .i64 at_, .string op] 52)).alloc (.cells #[.nilIface, .iface t2 y2, .iface t y] 26)).drew.cell? ⟨wr.heap.size + 1, j, none⟩ = some u) := fun j u h => by
            have := (Whole.new (wr.alloc (.cells #[.int .i64 kd, .int .i64 cd, .int .i64 at_, .string op] 52)) 26 #[.nilIface, .iface t2 y2, .iface t y]).cell j
            simp only [World.size_alloc] at this
            exact this.trans (by simpa using h)
          have HK : Hid (∀ w' : World, Below wr.heap.size wr w' → (w'.cell? ⟨g, k - 2, none⟩ = some (.iface t2 y2) ∧ w'.cell? ⟨g, k - 1, none⟩ = some (.iface t y))) := fun w' h => ⟨below_c h ce2, below_c h ce1⟩
          have HKEEP0 : Hid (∀ wa : World, Below wr.heap.size wr wa → ∀ w' : World, (∀ (x : Addr) (u : Value), wa.cell? x = some u → (∀ g', (Value.slice (some ⟨g, 0, none⟩) k ce).ownBlock = some g' → x.block = g' → x.off < k * 1) → w'.cell? x = some u) → (w'.cell? ⟨g, k - 2, none⟩ = some (.iface t2 y2) ∧ w'.cell? ⟨g, k - 1, none⟩ = some (.iface t y))) := fun wa h0 w' h => ⟨h _ _ (below_c h0 ce2) (fun _ _ _ => by simp; omega), h _ _ (below_c h0 ce1) (fun _ _ _ => by simp; omega)⟩
          clear hx hx2 k2 k1 k0
          go_wp2_with fail
          go_region_held3 (fun w' => (w'.cell? ⟨g, k - 2, none⟩ = some (.iface t2 y2) ∧ w'.cell? ⟨g, k - 1, none⟩ = some (.iface t y))) (first | exact q | exact HK.out _ (by repeat (first | exact Below.refl _ _ | exact HBJ.out | refine Below.drew ?_ | refine Below.alloc ?_ (by first | omega | (simp <;> omega)) _)))
            (first | (go_at_call 18; refine (Join_any (wr.heap.size + 1) 3 3 [.nilIface, .iface t2 y2, .iface t y] _ rfl (by omega) HERRS.out HROW.out).mono ?_; intro e wJ hJ; obtain ⟨bj, gj, cj, rfl, hj1, hj2, hj3, hj4, hj5⟩ := JoinPost.two hJ; have HJ3 := Lib.hid hj3; have HJ4 := Lib.hid hj4; have HBJ := Lib.hid (HC.out.trans (hj5.mono (by simp <;> omega))); have hsJ := HBJ.out.size; simp only [World.size_alloc, World.size_drew] at hj1 hj2; have HA := Lib.hid (HBJ.out.alloc HBJ.out.size (.cells #[Value.iface 80 (.pointer (some ⟨bj, 0, none⟩))] 26)); have OWN1 := Lib.hid (own_below ST.out.oe HA.out); have ONA := Lib.hid (own_below ST.out.on HA.out); have HSZ : Hid (w.heap.size ≤ (wJ.alloc (.cells #[Value.iface 80 (.pointer (some ⟨bj, 0, none⟩))] 26)).heap.size) := Lib.hid (by simp only [World.size_alloc]; omega); have HONE : Hid (∀ u ∈ [Value.iface 80 (.pointer (some ⟨bj, 0, none⟩))], u.oneCell' = true) := Lib.hid (by simp [Value.oneCell']); have HKEEP := Lib.hid (HKEEP0.out (wJ.alloc (.cells #[Value.iface 80 (.pointer (some ⟨bj, 0, none⟩))] 26)) HA.out); clear hj3 hj4 hj5 hJ) | (refine step_append_keeps _ (by rfl) (.tmp 77) (.tmp 90) 45 (by rfl) w.heap.size 26 i0 .nilIface 1 16 Tryd.underlying45 hi0 hz0 hz1 hz2 (by rfl) (by omega) (.slice (some ⟨g, 0, none⟩) k ce) k vs (by rfl) OWN1.out ⟨wJ.heap.size, 0, none⟩ 1 1 [Value.iface 80 (.pointer (some ⟨bj, 0, none⟩))] (by rfl) (by rfl) (cell_one_new' wJ (Value.iface 80 (.pointer (some ⟨bj, 0, none⟩))) 26) HONE.out (by simp only [maxLen]; omega) (by omega) HSZ.out ?_; intro ve2 w2 hoe hg2 hat2 hkp; obtain ⟨A2, c2, e2⟩ := own_slice hoe; subst e2; have q := HKEEP.out w2 hkp; have HOE := Lib.hid hoe; have HG2 := Lib.hid hg2; have HAT2 := Lib.hid hat2; have ON2 := Lib.hid (ONA.out.kept hg2 (own_own_ne ONA.out OWN1.out (by decide))); have hs2 := hg2.size; simp only [World.size_alloc] at hs2; clear hoe hg2 hat2 hkp))
          go_wp2_with ((at_builtin; go_loud (refine wpList_append_own_at _ rfl (.tmp 92) (.tmp 99) 27 rfl w.heap.size 41 j0 _ 5 64 Tryd.underlying27 hj0 jz0 jz1 jz2 rfl (by omega) (.slice A' k cn) k (ndRow p) rfl ((ON2.out.alloc _).alloc _) ⟨w2.heap.size + 1, 0, none⟩ 1 1 (ndCells ⟨2, 0, ⟨#[]⟩, 0, [k - 2, k - 1]⟩ (.slice (some ⟨w2.heap.size, 0, none⟩) 2 2)) rfl rfl (World.news_of_block (by first | exact heap_alloc_new _ _ | simpa using heap_alloc_new (w2.alloc (.cells #[.int .i64 ((k : Int) - 2), .int .i64 ((k : Int) - 1)] 3)) _)) (by simp [Value.oneCell', ndCells]) (by simp only [maxLen]; omega) (by omega) (by simp only [World.size_alloc]; omega) ?_); intro vn2 w4 hon hg4 _ hat4; obtain ⟨A4, c4, e4⟩ := own_slice hon; subst e4; have HON := Lib.hid hon; have HG4 := Lib.hid hg4; have HAT4 := Lib.hid hat4; clear hon hg4 hat4))
          go_roundw
          case rel =>
            refine ⟨k + 1, by omega, by omega, by go_num, l ++ [⟨2, 0, ⟨#[]⟩, 0, [k - 2, k - 1]⟩], vs ++ [Value.iface 80 (.pointer (some ⟨bj, 0, none⟩))], p ++ [(⟨2, 0, ⟨#[]⟩, 0, [k - 2, k - 1]⟩, .slice (some ⟨w2.heap.size, 0, none⟩) 2 2)], ?_⟩
            have hk' : ((k : Int) - 1) = ((k - 1 : Nat) : Int) := by omega
            have hk'' : ((k : Int) - 2) = ((k - 2 : Nat) : Int) := by omega
            refine made_step ST.out HA.out HOE.out HG2.out HAT2.out (((Below.refl _ _).alloc (Nat.le_refl _) _).alloc (by simp) _) HON.out HG4.out HAT4.out (by simp; omega) (.inr (.inr (.inl ⟨rfl, bj, gj, cj, ?c1, ?c2, (by simp), rfl, (HJ3.out.alloc _), ?c4⟩))) (.inr ⟨w2.heap.size, rfl, ?c3⟩)
            case c1 => exact ⟨by have := HJ3.out.lt; simp; omega, fun e => by have := (ST.out.oe.lt _ e.symm).2; omega, fun e => by have := (ST.out.on.lt _ e.symm).2; omega⟩
            case c2 => exact ⟨by have : gj < wJ.heap.size := World.block_lt_of_cell? _ _ (HJ4.out 0 _ rfl); simp only [World.size_alloc]; omega, fun e => by have := (ST.out.oe.lt _ e.symm).2; omega, fun e => by have := (ST.out.on.lt _ e.symm).2; omega⟩
            case c4 =>
              intro j m hj
              have hlt0 : gj < wJ.heap.size := World.block_lt_of_cell? _ _ (HJ4.out 0 _ rfl)
              match j, hj with
              | 0, hj =>
                obtain rfl : k - 2 = m := by simpa using hj
                exact ⟨_, HX2.out, (World.cell?_alloc_lt _ _ _ hlt0).trans (HJ4.out 0 _ rfl)⟩
              | 1, hj =>
                obtain rfl : k - 1 = m := by simpa using hj
                exact ⟨_, HX.out, (World.cell?_alloc_lt _ _ _ hlt0).trans (HJ4.out 1 _ rfl)⟩
            case c3 =>
              rw [show ((([k - 2, k - 1] : List Nat).map (fun (k : Nat) => Value.int .i64 (k : Int))).toArray) = #[.int .i64 ((k : Int) - 2), .int .i64 ((k : Int) - 1)] from by simp [hk', hk'']]
              exact (Whole.new w2 3 #[.int .i64 ((k : Int) - 2), .int .i64 ((k : Int) - 1)]).alloc _
          case measure => simp [intOf]; omega
      by_cases k3 : kd = 3
      · have hb1 : (kd == 1) = false := by simp [k1]
        have hb2 : (kd == 2) = false := by simp [k2]
        have hb3 : (kd == 3) = true := by simp [k3]
        clear k1 k2 k3
        have HA : Hid (Below wr.heap.size wr (((wr.alloc (.cells #[.int .i64 kd, .int .i64 cd, .int .i64 at_, .string op] 52)).alloc (.cells #[.string ⟨#[120]⟩] 65)).alloc (.cells #[Value.iface 63 (.pointer (some ⟨wr.heap.size + 1, 0, none⟩))] 26))) := ((((Below.refl _ _).alloc (Nat.le_refl _) _).alloc (by simp) _).alloc (by simp <;> omega) _)
        have HAB : Hid (Below (wr.heap.size + 1) (wr.alloc (.cells #[.int .i64 kd, .int .i64 cd, .int .i64 at_, .string op] 52)) (((wr.alloc (.cells #[.int .i64 kd, .int .i64 cd, .int .i64 at_, .string op] 52)).alloc (.cells #[.string ⟨#[120]⟩] 65)).alloc (.cells #[Value.iface 63 (.pointer (some ⟨wr.heap.size + 1, 0, none⟩))] 26))) := ((Below.refl _ _).alloc (by simp) _).alloc (by simp <;> omega) _
        have OWN1 : Hid ((((wr.alloc (.cells #[.int .i64 kd, .int .i64 cd, .int .i64 at_, .string op] 52)).alloc (.cells #[.string ⟨#[120]⟩] 65)).alloc (.cells #[Value.iface 63 (.pointer (some ⟨wr.heap.size + 1, 0, none⟩))] 26)).ownsRow w.heap.size 26 1 (.slice A k ce) k vs) := own_below ST.out.oe HA.out
        have ONA : Hid ((((wr.alloc (.cells #[.int .i64 kd, .int .i64 cd, .int .i64 at_, .string op] 52)).alloc (.cells #[.string ⟨#[120]⟩] 65)).alloc (.cells #[Value.iface 63 (.pointer (some ⟨wr.heap.size + 1, 0, none⟩))] 26)).ownsRow w.heap.size 41 5 (.slice A' k cn) k (ndRow p)) := own_below ST.out.on HA.out
        have HNEW : Hid (∀ (j : Nat) (u : Value), [Value.iface 63 (.pointer (some ⟨wr.heap.size + 1, 0, none⟩))][j]? = some u → (((wr.alloc (.cells #[.int .i64 kd, .int .i64 cd, .int .i64 at_, .string op] 52)).alloc (.cells #[.string ⟨#[120]⟩] 65)).alloc (.cells #[Value.iface 63 (.pointer (some ⟨wr.heap.size + 1, 0, none⟩))] 26)).cell? ((⟨wr.heap.size + 2, 0, none⟩ : Addr).add j) = some u) := by
          have := cell_one_new' (((wr.alloc (.cells #[.int .i64 kd, .int .i64 cd, .int .i64 at_, .string op] 52)).alloc (.cells #[.string ⟨#[120]⟩] 65))) (Value.iface 63 (.pointer (some ⟨wr.heap.size + 1, 0, none⟩))) 26
          simp only [World.size_alloc, World.size_drew] at this
          exact this
        have HONE : Hid (∀ u ∈ [Value.iface 63 (.pointer (some ⟨wr.heap.size + 1, 0, none⟩))], u.oneCell' = true) := by show ∀ u ∈ _, _; simp [Value.oneCell']
        have HSZ : Hid (w.heap.size ≤ (((wr.alloc (.cells #[.int .i64 kd, .int .i64 cd, .int .i64 at_, .string op] 52)).alloc (.cells #[.string ⟨#[120]⟩] 65)).alloc (.cells #[Value.iface 63 (.pointer (some ⟨wr.heap.size + 1, 0, none⟩))] 26)).heap.size) := by show _ ≤ _; simp only [World.size_alloc, World.size_drew]; omega
        go_wp2_with (first | (go_at_call 20; refine (new_err _ _).mono ?_; rintro e w' ⟨rfl, rfl⟩) | (at_builtin; refine wpList_append_own_at _ rfl (.tmp 105) (.tmp 107) 45 rfl w.heap.size 26 i0 .nilIface 1 16 Tryd.underlying45 hi0 hz0 hz1 hz2 rfl (by omega) (.slice A k ce) k vs rfl OWN1.out ⟨wr.heap.size + 2, 0, none⟩ 1 1 [Value.iface 63 (.pointer (some ⟨wr.heap.size + 1, 0, none⟩))] rfl rfl HNEW.out HONE.out (by simp only [maxLen]; omega) (by omega) HSZ.out ?_; intro ve2 w2 hoe hg2 _ hat2; obtain ⟨A2, c2, e2⟩ := own_slice hoe; subst e2; obtain ⟨d0, d1, d2, d3, d4⟩ := HBOX.out _ w2 HAB.out hg2; have HOE := Lib.hid hoe; have HG2 := Lib.hid hg2; have HAT2 := Lib.hid hat2; have ON2 := Lib.hid (ONA.out.kept hg2 (own_own_ne ONA.out OWN1.out (by decide))); have hs2 := hg2.size; clear hoe hg2 hat2) | (at_builtin; refine wpList_append_own_at _ rfl (.tmp 109) (.tmp 111) 27 rfl w.heap.size 41 j0 _ 5 64 Tryd.underlying27 hj0 jz0 jz1 jz2 rfl (by omega) (.slice A' k cn) k (ndRow p) rfl (ON2.out.alloc _) ⟨w2.heap.size, 0, none⟩ 1 1 (ndCells ⟨3, 0, ByteArray.empty, 0, []⟩ (.slice none 0 0)) rfl rfl (World.news_of_block (by first | exact heap_alloc_new _ _ | simpa using heap_alloc_new (w2.alloc (.cells #[.int .i64 ((k : Int) - 1)] 3)) _)) (by simp [Value.oneCell', ndCells]) (by simp only [maxLen]; omega) (by omega) (by simp only [World.size_alloc]; omega) ?_; intro vn2 w4 hon hg4 _ hat4; obtain ⟨A4, c4, e4⟩ := own_slice hon; subst e4; have HON := Lib.hid hon; have HG4 := Lib.hid hg4; have HAT4 := Lib.hid hat4; clear hon hg4 hat4))
        go_roundw
        case rel =>
          refine ⟨k + 1, by omega, by omega, by go_num, l ++ [⟨3, 0, ByteArray.empty, 0, []⟩], vs ++ [Value.iface 63 (.pointer (some ⟨wr.heap.size + 1, 0, none⟩))], p ++ [(⟨3, 0, ByteArray.empty, 0, []⟩, .slice none 0 0)], ?_⟩
          exact made_step ST.out HA.out HOE.out HG2.out HAT2.out ((Below.refl _ _).alloc (Nat.le_refl _) _) HON.out HG4.out HAT4.out (by simp) (.inr (.inr (.inr ⟨rfl, rfl, _, rfl⟩))) (.inl ⟨rfl, rfl⟩)
        case measure => simp [intOf]; omega
      · -- a number
        have hb1 : (kd == 1) = false := by simp [k1]
        have hb2 : (kd == 2) = false := by simp [k2]
        have hb3 : (kd == 3) = false := by simp [k3]
        clear k1 k2 k3
        have HA : Hid (Below wr.heap.size wr ((wr.alloc (.cells #[.int .i64 kd, .int .i64 cd, .int .i64 at_, .string op] 52)).alloc (.cells #[.iface 30 (.int .i64 cd)] 26))) := (((Below.refl _ _).alloc (Nat.le_refl _) _).alloc (by simp) _)
        have HAB : Hid (Below (wr.heap.size + 1) (wr.alloc (.cells #[.int .i64 kd, .int .i64 cd, .int .i64 at_, .string op] 52)) ((wr.alloc (.cells #[.int .i64 kd, .int .i64 cd, .int .i64 at_, .string op] 52)).alloc (.cells #[.iface 30 (.int .i64 cd)] 26))) := (Below.refl _ _).alloc (by simp) _
        have OWN1 : Hid (((wr.alloc (.cells #[.int .i64 kd, .int .i64 cd, .int .i64 at_, .string op] 52)).alloc (.cells #[.iface 30 (.int .i64 cd)] 26)).ownsRow w.heap.size 26 1 (.slice A k ce) k vs) := own_below ST.out.oe HA.out
        have ONA : Hid (((wr.alloc (.cells #[.int .i64 kd, .int .i64 cd, .int .i64 at_, .string op] 52)).alloc (.cells #[.iface 30 (.int .i64 cd)] 26)).ownsRow w.heap.size 41 5 (.slice A' k cn) k (ndRow p)) := own_below ST.out.on HA.out
        have HNEW : Hid (∀ (j : Nat) (u : Value), [Value.iface 30 (.int .i64 cd)][j]? = some u → ((wr.alloc (.cells #[.int .i64 kd, .int .i64 cd, .int .i64 at_, .string op] 52)).alloc (.cells #[.iface 30 (.int .i64 cd)] 26)).cell? ((⟨wr.heap.size + 1, 0, none⟩ : Addr).add j) = some u) := by
          have := cell_one_new' (wr.alloc (.cells #[.int .i64 kd, .int .i64 cd, .int .i64 at_, .string op] 52)) (.iface 30 (.int .i64 cd)) 26
          rw [World.size_alloc] at this
          exact this
        have HONE : Hid (∀ u ∈ [Value.iface 30 (.int .i64 cd)], u.oneCell' = true) := by show ∀ u ∈ _, _; simp [Value.oneCell']
        have HSZ : Hid (w.heap.size ≤ ((wr.alloc (.cells #[.int .i64 kd, .int .i64 cd, .int .i64 at_, .string op] 52)).alloc (.cells #[.iface 30 (.int .i64 cd)] 26)).heap.size) := by show _ ≤ _; simp only [World.size_alloc]; omega
        go_wp2_with (first | (at_builtin; refine wpList_append_own_at _ rfl (.tmp 25) (.tmp 29) 45 rfl w.heap.size 26 i0 .nilIface 1 16 Tryd.underlying45 hi0 hz0 hz1 hz2 rfl (by omega) (.slice A k ce) k vs rfl OWN1.out ⟨wr.heap.size + 1, 0, none⟩ 1 1 [.iface 30 (.int .i64 cd)] rfl rfl HNEW.out HONE.out (by simp only [maxLen]; omega) (by omega) HSZ.out ?_; intro ve2 w2 hoe hg2 _ hat2; obtain ⟨A2, c2, e2⟩ := own_slice hoe; subst e2; obtain ⟨d0, d1, d2, d3, d4⟩ := HBOX.out _ w2 HAB.out hg2; have HOE := Lib.hid hoe; have HG2 := Lib.hid hg2; have HAT2 := Lib.hid hat2; have ON2 := Lib.hid (ONA.out.kept hg2 (own_own_ne ONA.out OWN1.out (by decide))); have hs2 := hg2.size; clear hoe hg2 hat2) | (at_builtin; refine wpList_append_own_at _ rfl (.tmp 31) (.tmp 35) 27 rfl w.heap.size 41 j0 _ 5 64 Tryd.underlying27 hj0 jz0 jz1 jz2 rfl (by omega) (.slice A' k cn) k (ndRow p) rfl (ON2.out.alloc _) ⟨w2.heap.size, 0, none⟩ 1 1 (ndCells (ndCode cd) (.slice none 0 0)) rfl rfl (World.news_of_block (by first | exact heap_alloc_new _ _ | simpa using heap_alloc_new (w2.alloc (.cells #[.int .i64 ((k : Int) - 1)] 3)) _)) (by simp [Value.oneCell', ndCells]) (by simp only [maxLen]; omega) (by omega) (by simp only [World.size_alloc]; omega) ?_; intro vn2 w4 hon hg4 _ hat4; obtain ⟨A4, c4, e4⟩ := own_slice hon; subst e4; have HON := Lib.hid hon; have HG4 := Lib.hid hg4; have HAT4 := Lib.hid hat4; clear hon hg4 hat4))
        go_roundw
        case rel =>
          refine ⟨k + 1, by omega, by omega, by go_num, l ++ [ndCode cd], vs ++ [.iface 30 (.int .i64 cd)], p ++ [(ndCode cd, .slice none 0 0)], ?_⟩
          exact made_step ST.out HA.out HOE.out HG2.out HAT2.out ((Below.refl _ _).alloc (Nat.le_refl _) _) HON.out HG4.out HAT4.out (by simp) (.inl ⟨rfl, rfl, rfl⟩) (.inl ⟨rfl, rfl⟩)
        case measure => simp [intOf]; omega
    · have hkm : min n 30 = k := by omega
      have hk0 : 0 < k := by omega
      have HK0 := Lib.hid hk0
      obtain ⟨gn, cn', hgn, NODES⟩ := ST.out.nodes hk0
      injection hgn with e1 e2 e3
      subst e1 e3
      obtain ⟨x, hx⟩ : ∃ x, vs[k - 1]? = some x := ⟨vs[k - 1]'(by rw [ST.out.rep.len, ST.out.len]; omega), List.getElem?_eq_getElem _⟩
      obtain ⟨g, hg⟩ : ∃ g, A = some ⟨g, 0, none⟩ := by
        rcases ST.out.oe.2 with ⟨h1, h2⟩ | ⟨g, cap, cur, h1, _⟩
        · omega
        · injection h1 with h1 _ _; exact ⟨g, h1⟩
      subst hg
      have ce1 : wr.cell? ⟨g, k - 1, none⟩ = some x := by
        have := ST.out.oe.cells (g := g) rfl (k - 1) _ hx
        rw [show ((⟨g, 0, none⟩ : Addr).add (k - 1)) = ⟨g, k - 1, none⟩ from by simp [Addr.add]; omega] at this
        exact this
      have hk1 : (0 : Int) ≤ (k : Int) - 1 := by omega
      have hk2 : (k : Int) - 1 < (k : Int) := by omega
      have hkn : ((k : Int) - 1).toNat = k - 1 := by omega
      have hkw : IntKind.i64.wrap ((k : Int) - 1) = (k : Int) - 1 := by rw [IntKind.wrap_i64]; omega
      have hks : (1 : Int) ≤ (k : Int) := by omega
      have hkz : ((k : Int) == 0) = false := by simp; omega
      have HX := Lib.hid hx
      have NS := Lib.hid NODES
      have HKM := Lib.hid hkm
      by_cases hkn' : k < n
      · have hk30' : 30 ≤ k := by omega
        clear hlt hx NODES hkm hk0
        go_wp2
        all_goals go_ret2
        all_goals (rw [HKM.out]; exact .inr ⟨HK0.out, l, vs, x, gn, _, rfl, ST.out.len, ST.out.rep.toRep (fun b h => h.1), HX.out, NS.out, ST.out.bel⟩)
      · have hkn'' : n ≤ k := by omega
        clear hlt hx NODES hkm hk0
        go_wp2
        all_goals go_ret2
        all_goals (rw [HKM.out]; exact .inr ⟨HK0.out, l, vs, x, gn, _, rfl, ST.out.len, ST.out.rep.toRep (fun b h => h.1), HX.out, NS.out, ST.out.bel⟩)
end Go.Proofs.YtkkfolbidclonaaDoor.er
