/- The walk of FaultJoins: errors joined. -/
import Derived.Test.YtkkfolbidclonaaDoorErH
import Derived.Test.YtkkfolbidclonaaDoorErI
namespace Go.Proofs.YtkkfolbidclonaaDoor.er
open Go.RowKit
set_option linter.unusedVariables false

/-! ### plain: numbers, each wrapped once, joined -/
abbrev Wr := Int × Int × Nat
def opJ : ByteArray := ⟨#[106]⟩
def L0 : Nat → List Wr → List Nd
  | _, [] => []
  | s, t :: r => ndCode t.1 :: ndStep opJ t.2.1 s :: L0 (s + 2) r
def V0 : List Wr → List Value
  | [] => []
  | t :: r => .iface 30 (.int .i64 t.1) :: .iface 56 (.pointer (some ⟨t.2.2, 0, none⟩)) :: V0 r
def kidsOf : Nat → List Wr → List Nat
  | _, [] => []
  | s, _ :: r => (s + 1) :: kidsOf (s + 2) r
def pf (t : Wr) : Value := .iface 56 (.pointer (some ⟨t.2.2, 0, none⟩))
def WholeWr (w : World) (t : Wr) : Prop := Whole w t.2.2 59 #[.string opJ, .int .i64 t.2.1, .iface 30 (.int .i64 t.1)]
theorem L0_len : ∀ (s : Nat) (cx : List Wr), (L0 s cx).length = cx.length * 2
  | _, [] => rfl
  | s, t :: r => by simp [L0, L0_len (s + 2) r]; omega
theorem V0_len : ∀ (cx : List Wr), (V0 cx).length = cx.length * 2
  | [] => rfl
  | t :: r => by simp [V0, V0_len r]; omega
theorem kidsOf_len : ∀ (s : Nat) (cx : List Wr), (kidsOf s cx).length = cx.length
  | _, [] => rfl
  | s, t :: r => by simp [kidsOf, kidsOf_len (s + 2) r]
theorem kidsOf_lt : ∀ (s : Nat) (cx : List Wr), ∀ k ∈ kidsOf s cx, k < s + cx.length * 2
  | _, [], k, h => by simp [kidsOf] at h
  | s, t :: r, k, h => by
    simp only [kidsOf, List.mem_cons] at h
    rcases h with rfl | h
    · simp only [List.length_cons]; omega
    · have := kidsOf_lt (s + 2) r k h; simp only [List.length_cons]; omega
theorem rep_L0 {w : World} {B : Nat} : ∀ (cx : List Wr) (l : List Nd) (vs : List Value), Rep w B l vs → (∀ t ∈ cx, t.2.2 < B ∧ WholeWr w t) → Rep w B (l ++ L0 l.length cx) (vs ++ V0 cx)
  | [], l, vs, h, _ => by simpa [L0, V0] using h
  | t :: r, l, vs, h, ht => by
    obtain ⟨tb, tw⟩ := ht t (by simp)
    have h1 := h.push (n := ndCode t.1) (v := .iface 30 (.int .i64 t.1)) (by simp) (.inl ⟨rfl, rfl, rfl⟩)
    have h2 := h1.push (n := ndStep opJ t.2.1 l.length) (v := .iface 56 (.pointer (some ⟨t.2.2, 0, none⟩))) (by simp)
      (.inr (.inl ⟨rfl, t.2.2, l.length, .iface 30 (.int .i64 t.1), tb, rfl, by rw [← h.len]; simp, rfl, tw⟩))
    have h3 := rep_L0 r _ _ h2 (fun u hu => ht u (by simp [hu]))
    simpa [L0, V0, List.append_assoc] using h3
theorem L0_at : ∀ (cx : List Wr) (s i : Nat) (t : Wr), cx[i]? = some t → (L0 s cx)[i * 2]? = some (ndCode t.1) ∧ (L0 s cx)[i * 2 + 1]? = some (ndStep opJ t.2.1 (s + i * 2))
  | [], _, _, _, h => by simp at h
  | t :: r, s, 0, u, h => by simp at h; subst h; simp [L0]
  | t :: r, s, i + 1, u, h => by
    have ih := L0_at r (s + 2) i u (by simpa using h)
    refine ⟨?_, ?_⟩
    · rw [show (i + 1) * 2 = i * 2 + 2 from by omega]; simpa [L0] using ih.1
    · rw [show (i + 1) * 2 + 1 = i * 2 + 1 + 2 from by omega, show s + (i + 1) * 2 = s + 2 + i * 2 from by omega]; simpa [L0] using ih.2
theorem V0_at : ∀ (cx : List Wr) (i : Nat) (t : Wr), cx[i]? = some t → (V0 cx)[i * 2 + 1]? = some (pf t)
  | [], _, _, h => by simp at h
  | t :: r, 0, u, h => by simp at h; subst h; simp [V0, pf]
  | t :: r, i + 1, u, h => by
    rw [show (i + 1) * 2 + 1 = i * 2 + 1 + 2 from by omega]
    simpa [V0] using V0_at r i u (by simpa using h)
theorem kidsOf_at : ∀ (cx : List Wr) (s i : Nat), i < cx.length → (kidsOf s cx)[i]? = some (s + i * 2 + 1)
  | [], _, _, h => by simp at h
  | t :: r, s, 0, _ => by simp [kidsOf]
  | t :: r, s, i + 1, h => by
    simp only [kidsOf, List.getElem?_cons_succ]
    rw [kidsOf_at r (s + 2) i (by simpa using h)]
    congr 1; omega
abbrev ndJoin (ks : List Nat) : Nd := ⟨2, 0, ByteArray.empty, 0, ks⟩
def LJ (cx : List Wr) : List Nd := L0 0 cx ++ [ndJoin (kidsOf 0 cx)]
theorem LJ_last (cx : List Wr) : (LJ cx)[cx.length * 2]? = some (ndJoin (kidsOf 0 cx)) := by
  unfold LJ; rw [List.getElem?_append_right (by rw [L0_len]; omega), L0_len]; simp
theorem LJ_at (cx : List Wr) (i : Nat) (t : Wr) (h : cx[i]? = some t) : (LJ cx)[i * 2]? = some (ndCode t.1) ∧ (LJ cx)[i * 2 + 1]? = some (ndStep opJ t.2.1 (i * 2)) := by
  have hi : i < cx.length := (List.getElem?_eq_some_iff.1 h).1
  have := L0_at cx 0 i t h
  unfold LJ
  rw [List.getElem?_append_left (by rw [L0_len]; omega), List.getElem?_append_left (by rw [L0_len]; omega)]
  simpa using this
theorem LJ_code {cx : List Wr} (hd : Down (LJ cx)) {t : Wr} {r : List Wr} (h : cx = t :: r) : codeO (LJ cx) (cx.length * 2) = some t.1 := by
  obtain ⟨a0, a1⟩ := LJ_at cx 0 t (by rw [h]; rfl)
  have c0 : codeO (LJ cx) 0 = some t.1 := by rw [codeO_eq hd (by simpa using a0)]; simp
  have c1 : codeO (LJ cx) 1 = some t.1 := by rw [codeO_eq hd (by simpa using a1)]; simp [c0]
  rw [codeO_eq hd (LJ_last cx)]
  subst h
  simp [kidsOf, c1]
theorem any_eq {α β : Type} (f : α → Bool) (g : β → Bool) : ∀ (l : List α) (m : List β), l.length = m.length → (∀ (i : Nat) (a : α) (b : β), l[i]? = some a → m[i]? = some b → f a = g b) → l.any f = m.any g
  | [], [], _, _ => rfl
  | [], _ :: _, h, _ => by simp at h
  | _ :: _, [], h, _ => by simp at h
  | a :: l, b :: m, h, hf => by
    rw [List.any_cons, List.any_cons, hf 0 a b rfl rfl, any_eq f g l m (by simpa using h) (fun i x y hx hy => hf (i + 1) x y (by simpa using hx) (by simpa using hy))]
theorem LJ_has {cx : List Wr} (hd : Down (LJ cx)) (q : Int) : hasO (LJ cx) q (cx.length * 2) = cx.any (fun t => t.1 == q) := by
  rw [hasO_eq hd q (LJ_last cx)]
  rw [if_neg (by show ¬ ((2 : Int) = 0); decide)]
  refine any_eq _ _ _ _ (kidsOf_len 0 cx) (fun i k t hk ht => ?_)
  have hi : i < cx.length := (List.getElem?_eq_some_iff.1 ht).1
  rw [kidsOf_at cx 0 i hi] at hk
  injection hk with hk
  obtain ⟨a0, a1⟩ := LJ_at cx i t ht
  have c0 : hasO (LJ cx) q (i * 2) = (t.1 == q) := by rw [hasO_eq hd q a0]; simp
  have c1 : hasO (LJ cx) q (i * 2 + 1) = (t.1 == q) := by rw [hasO_eq hd q a1]; simp [c0]
  rw [← hk, show 0 + i * 2 + 1 = i * 2 + 1 from by omega, c1]
theorem rep_join {w1 : World} {B base : Nat} (cx : List Wr) (hne : cx ≠ []) (hlen : cx.length ≤ 1000) (hW : ∀ t ∈ cx, t.2.2 < B ∧ WholeWr w1 t) (bj : Nat) (vj : Value)
    (hwh : Whole w1 bj 82 #[vj]) (hown : w1.ownsRow base 26 1 vj (cx.map pf).length (cx.map pf)) (hB : w1.heap.size ≤ B) :
    Rep w1 B (LJ cx) (V0 cx ++ [.iface 80 (.pointer (some ⟨bj, 0, none⟩))]) := by
  have h0 : Rep w1 B (L0 0 cx) (V0 cx) := by simpa using rep_L0 cx [] [] (Rep.nil w1 B) hW
  have hpos : 0 < (cx.map pf).length := by rw [List.length_map]; exact List.length_pos_iff.2 hne
  have hgl := hown.lt
  obtain ⟨g, c, rfl, _, hc⟩ := own_one hown hpos
  have hg : g < w1.heap.size := (hgl g rfl).2
  refine h0.push (n := ndJoin (kidsOf 0 cx)) (fun k hk => by have := kidsOf_lt 0 cx k hk; rw [L0_len]; omega) (.inr (.inr (.inl ⟨rfl, bj, g, c, by have := Whole.lt hwh; omega, by omega, by simpa [kidsOf_len] using hlen, rfl, ?_, ?_⟩)))
  · have := hwh
    rw [List.length_map] at this
    simpa [kidsOf_len, Whole] using this
  · intro j k hk
    have hj : j < cx.length := by have := (List.getElem?_eq_some_iff.1 hk).1; simpa [kidsOf_len] using this
    rw [show (ndJoin (kidsOf 0 cx)).kids = kidsOf 0 cx from rfl, kidsOf_at cx 0 j hj] at hk
    injection hk with hk
    have ht : cx[j]? = some cx[j] := List.getElem?_eq_getElem hj
    refine ⟨pf cx[j], ?_, hc j _ (by rw [List.getElem?_map, ht]; rfl)⟩
    rw [← hk, show 0 + j * 2 + 1 = j * 2 + 1 from by omega]
    exact V0_at cx j _ ht
theorem any_nonzero (cs : List Int) (q : Int) : (cs.filter (fun c => c != 0)).any (fun c => c == q) = cs.any (fun c => c == q && q != 0) := by
  induction cs with
  | nil => rfl
  | cons c r ih =>
    by_cases h0 : c = 0
    · subst h0
      by_cases hq : q = 0
      · subst hq; simp [List.filter_cons, ih]
      · simp [List.filter_cons, ih, Ne.symm hq]
    · have hc : (c != 0) = true := by simp [h0]
      rw [List.filter_cons, if_pos hc, List.any_cons, List.any_cons, ih]
      by_cases hq : c = q
      · subst hq; simp [h0]
      · have h : (c == q) = false := by simp [hq]
        rw [h]; rfl

def Ints (w : World) (b off : Nat) (cs : List Int) : Prop := ∀ (i : Nat) (c : Int), cs[i]? = some c → w.cell? ⟨b, off + i, none⟩ = some (.int .i64 c)
theorem Ints.below {w w' : World} {b off : Nat} {cs : List Int} (h : Ints w b off cs) (hb : Below w.heap.size w w') : Ints w' b off cs := fun i c hc => below_c hb (h i c hc)
theorem take_snoc_int (xs : List Int) (k : Nat) (x : Int) (h : xs[k]? = some x) : xs.take (k + 1) = xs.take k ++ [x] := by
  obtain ⟨hk, e⟩ := List.getElem?_eq_some_iff.1 h
  rw [List.take_succ_eq_append_getElem hk, e]
theorem WholeWr.grown {w w' : World} {t : Wr} {row : Option Nat} (h : WholeWr w t) (hb : w.grownBy w' row) (hg : some t.2.2 ≠ row) : WholeWr w' t := Whole.grown h hb hg

set_option maxHeartbeats 4000000 in
set_option maxRecDepth 100000 in
theorem joins_some (q : Int) (b off n cap : Nat) (cs : List Int) (w : World) (hg : LaidT w) (hl : cs.length = n) (h1 : 0 < n) (hm : n ≤ maxLen) (hcs : Ints w b off cs) :
    Calls Tryd.prog 6 #[.slice (some ⟨b, off, none⟩) n cap, .int .i64 q] w fun r w' => r = .returned (.bool true) ∧ Below w.heap.size w w' := by
  unfold maxLen at hm
  obtain ⟨i0, hi0, hz0, hz1, hz2⟩ := info_parts errInfo
  have HG := Lib.hid hg
  have HCS := Lib.hid hcs
  have HL := Lib.hid hl
  have h0 := hg.lt
  clear hg hcs hl
  go_enter Tryd.func6, Tryd.ntmps6
  go_wp2
  go_loopw [5, 6, 7, 8] (fun v sm f i wr => ∃ k : Nat, k ≤ n ∧ k ≤ 20 ∧ i = .int .i64 k ∧ Below w.heap.size w wr ∧ ∃ (xs : List Value) (cx : List Wr) (sb : Bool) (fi : Int), sm = .bool sb ∧ f = .int .i64 fi ∧ Hid (sb = true ↔ cx ≠ []) ∧ Hid (∀ t r, cx = t :: r → fi = t.1) ∧
    Hid (xs.filter isErr = cx.map pf ∧ cx.map (·.1) = (cs.take k).filter (fun c => c != 0) ∧ (∀ t ∈ cx, WholeWr wr t) ∧ Errs xs) ∧ Hid (wr.ownsRow w.heap.size 26 1 v k xs)) (fun _ _ _ i _ => 20 - (intOf i).toNat)
  case atStart => exact ⟨0, Nat.zero_le _, by omega, rfl, Below.refl _ _, [], [], false, 0, rfl, rfl, by show _ ↔ _; simp, fun t r h => by simp at h, ⟨rfl, by simp, by simp, fun x h => by simp at h⟩, World.ownsRow_nil _ _ _ _⟩
  case round =>
    obtain ⟨k, hk, hk20, rfl, hbel, xs, cx, sb, fi, rfl, rfl, HSB, HFI, HX, HOWN⟩ := hrel
    have HBEL := Lib.hid hbel
    have hsz := hbel.size
    have HCr := Lib.hid (HCS.out.below hbel)
    obtain ⟨A, c0, hA⟩ := own_slice HOWN.out
    subst hA
    clear hbel
    by_cases hlt : k < n ∧ k < 20
    · obtain ⟨hl1, hl2⟩ := hlt
      obtain ⟨c, hc⟩ : ∃ c, cs[k]? = some c := ⟨cs[k]'(by rw [HL.out]; exact hl1), List.getElem?_eq_getElem _⟩
      have hcell := HCr.out k c hc
      have HTK := Lib.hid (take_snoc_int cs k c hc)
      have hi0' : (0 : Int) ≤ (k : Int) := by omega
      have hi1 : (k : Int) < (n : Int) := by omega
      clear hc
      by_cases hc0 : c = 0
      · have hb0 : (c == 0) = true := by simp [hc0]
        have OWN1 : Hid ((wr.alloc (.cells #[.nilIface] 26)).ownsRow w.heap.size 26 1 (.slice A k c0) k xs) := HOWN.out.alloc _
        have HNEW : Hid (∀ (j : Nat) (u : Value), [Value.nilIface][j]? = some u → (wr.alloc (.cells #[.nilIface] 26)).cell? ((⟨wr.heap.size, 0, none⟩ : Addr).add j) = some u) := cell_one_new' _ _ _
        have HONE : Hid (∀ u ∈ [Value.nilIface], u.oneCell' = true) := by show ∀ u ∈ _, _; simp [Value.oneCell']
        have HSZ : Hid (w.heap.size ≤ (wr.alloc (.cells #[.nilIface] 26)).heap.size) := by show _ ≤ _; simp only [World.size_alloc]; omega
        have HC0 := Lib.hid hc0
        clear hc0
        go_wp2_with (at_builtin; go_must (refine wpList_append_own _ rfl (.tmp 27) (.tmp 28) 45 rfl w.heap.size 26 i0 .nilIface 1 16 Tryd.underlying45 hi0 hz0 hz1 hz2 rfl (by omega) (.slice A k c0) k xs rfl OWN1.out ⟨wr.heap.size, 0, none⟩ 1 1 [.nilIface] rfl rfl HNEW.out HONE.out (by simp only [maxLen]; omega) (by omega) HSZ.out ?_; intro v2 w2 hown2 hg2 _; have HO2 := Lib.hid hown2; have HG2 := Lib.hid hg2; clear hown2 hg2))
        go_roundw
        case rel =>
          refine ⟨k + 1, by omega, by omega, by go_num, HBEL.out.trans (below_append HOWN.out HG2.out hsz), xs ++ [.nilIface], cx, sb, fi, rfl, rfl, HSB, HFI, ⟨?_, ?_, ?_, ?_⟩, HO2⟩
          · rw [List.filter_append, HX.out.1]; simp [isErr, List.filter]
          · rw [HX.out.2.1, HTK.out, List.filter_append, HC0.out]; simp
          · exact fun t ht => WholeWr.grown (Whole.alloc (HX.out.2.2.1 t ht) _) HG2.out (own_ne OWN1.out (Whole.alloc (HX.out.2.2.1 t ht) _) (by decide))
          · intro x hx
            rcases List.mem_append.1 hx with hx | hx
            · exact HX.out.2.2.2 x hx
            · exact .inl (by simpa using hx)
        case measure => simp [intOf]; omega
      · have hb0 : (c == 0) = false := by simp [hc0]
        have OWN1 : Hid (((wr.alloc (.cells #[.string opJ, .int .i64 k, .iface 30 (.int .i64 c)] 59)).alloc (.cells #[pf (c, (k : Int), wr.heap.size)] 26)).ownsRow w.heap.size 26 1 (.slice A k c0) k xs) := (HOWN.out.alloc _).alloc _
        have HNEW : Hid (∀ (j : Nat) (u : Value), [pf (c, (k : Int), wr.heap.size)][j]? = some u → ((wr.alloc (.cells #[.string opJ, .int .i64 k, .iface 30 (.int .i64 c)] 59)).alloc (.cells #[pf (c, (k : Int), wr.heap.size)] 26)).cell? ((⟨wr.heap.size + 1, 0, none⟩ : Addr).add j) = some u) := by
          have := cell_one_new' (wr.alloc (.cells #[.string opJ, .int .i64 k, .iface 30 (.int .i64 c)] 59)) (pf (c, (k : Int), wr.heap.size)) 26
          rw [World.size_alloc] at this
          exact this
        have HONE : Hid (∀ u ∈ [pf (c, (k : Int), wr.heap.size)], u.oneCell' = true) := by show ∀ u ∈ _, _; simp [Value.oneCell', pf]
        have HSZ : Hid (w.heap.size ≤ ((wr.alloc (.cells #[.string opJ, .int .i64 k, .iface 30 (.int .i64 c)] 59)).alloc (.cells #[pf (c, (k : Int), wr.heap.size)] 26)).heap.size) := by show _ ≤ _; simp only [World.size_alloc]; omega
        have HC0 := Lib.hid hc0
        clear hc0
        cases sb with
        | false =>
          have hcx : Hid (cx = []) := by
            show cx = []
            have := HSB.out
            by_cases h : cx = []
            · exact h
            · exact absurd (this.2 h) (by simp)
          cases hkb : ((k : Int) == 0) with
          | false =>
            go_wp2_with (first | (go_at_call 16; refine (wrap_err _ _ _ _ _).mono ?_; rintro e w' ⟨rfl, rfl⟩) | (at_builtin; go_must (refine wpList_append_own _ rfl (.tmp 41) (.tmp 49) 45 rfl w.heap.size 26 i0 .nilIface 1 16 Tryd.underlying45 hi0 hz0 hz1 hz2 rfl (by omega) (.slice A k c0) k xs rfl OWN1.out ⟨wr.heap.size + 1, 0, none⟩ 1 1 [pf (c, (k : Int), wr.heap.size)] rfl rfl HNEW.out HONE.out (by simp only [maxLen]; omega) (by omega) HSZ.out ?_; intro v2 w2 hown2 hg2 _; have HO2 := Lib.hid hown2; have HG2 := Lib.hid hg2; clear hown2 hg2)))
            all_goals go_roundw
            all_goals first
              | (case rel =>
                  refine ⟨k + 1, by omega, by omega, by go_num, HBEL.out.trans (((Below.refl _ _).alloc hsz _).trans (below_append (HOWN.out.alloc _) HG2.out (by simp; omega))), xs ++ [pf (c, (k : Int), wr.heap.size)], cx ++ [(c, (k : Int), wr.heap.size)], true, c, rfl, rfl, by show _ ↔ _; simp, ?_, ⟨?_, ?_, ?_, ?_⟩, HO2⟩
                  · intro t r h
                    rw [hcx.out] at h
                    injection h with h _
                    rw [← h]
                  · rw [List.filter_append, HX.out.1]; simp [isErr, List.filter, pf]
                  · rw [List.map_append, HX.out.2.1, HTK.out, List.filter_append]; simp [HC0.out]
                  · intro t ht
                    rcases List.mem_append.1 ht with ht | ht
                    · exact WholeWr.grown (Whole.alloc (Whole.alloc (HX.out.2.2.1 t ht) _) _) HG2.out (own_ne OWN1.out (Whole.alloc (Whole.alloc (HX.out.2.2.1 t ht) _) _) (by decide))
                    · obtain rfl : t = (c, (k : Int), wr.heap.size) := by simpa using ht
                      exact WholeWr.grown (Whole.alloc (Whole.new wr 59 #[.string opJ, .int .i64 k, .iface 30 (.int .i64 c)]) _) HG2.out (own_ne OWN1.out (Whole.alloc (Whole.new wr 59 #[.string opJ, .int .i64 k, .iface 30 (.int .i64 c)]) _) (by decide))
                  · intro x hx
                    rcases List.mem_append.1 hx with hx | hx
                    · exact HX.out.2.2.2 x hx
                    · exact .inr ⟨_, _, by simpa [pf] using hx⟩)
              | (case measure => simp [intOf]; omega)
          | true =>
            go_wp2_with (first | (go_at_call 16; refine (wrap_err _ _ _ _ _).mono ?_; rintro e w' ⟨rfl, rfl⟩) | (at_builtin; go_must (refine wpList_append_own _ rfl (.tmp 41) (.tmp 49) 45 rfl w.heap.size 26 i0 .nilIface 1 16 Tryd.underlying45 hi0 hz0 hz1 hz2 rfl (by omega) (.slice A k c0) k xs rfl OWN1.out ⟨wr.heap.size + 1, 0, none⟩ 1 1 [pf (c, (k : Int), wr.heap.size)] rfl rfl HNEW.out HONE.out (by simp only [maxLen]; omega) (by omega) HSZ.out ?_; intro v2 w2 hown2 hg2 _; have HO2 := Lib.hid hown2; have HG2 := Lib.hid hg2; clear hown2 hg2)))
            all_goals go_roundw
            all_goals first
              | (case rel =>
                  refine ⟨k + 1, by omega, by omega, by go_num, HBEL.out.trans (((Below.refl _ _).alloc hsz _).trans (below_append (HOWN.out.alloc _) HG2.out (by simp; omega))), xs ++ [pf (c, (k : Int), wr.heap.size)], cx ++ [(c, (k : Int), wr.heap.size)], true, c, rfl, rfl, by show _ ↔ _; simp, ?_, ⟨?_, ?_, ?_, ?_⟩, HO2⟩
                  · intro t r h
                    rw [hcx.out] at h
                    injection h with h _
                    rw [← h]
                  · rw [List.filter_append, HX.out.1]; simp [isErr, List.filter, pf]
                  · rw [List.map_append, HX.out.2.1, HTK.out, List.filter_append]; simp [HC0.out]
                  · intro t ht
                    rcases List.mem_append.1 ht with ht | ht
                    · exact WholeWr.grown (Whole.alloc (Whole.alloc (HX.out.2.2.1 t ht) _) _) HG2.out (own_ne OWN1.out (Whole.alloc (Whole.alloc (HX.out.2.2.1 t ht) _) _) (by decide))
                    · obtain rfl : t = (c, (k : Int), wr.heap.size) := by simpa using ht
                      exact WholeWr.grown (Whole.alloc (Whole.new wr 59 #[.string opJ, .int .i64 k, .iface 30 (.int .i64 c)]) _) HG2.out (own_ne OWN1.out (Whole.alloc (Whole.new wr 59 #[.string opJ, .int .i64 k, .iface 30 (.int .i64 c)]) _) (by decide))
                  · intro x hx
                    rcases List.mem_append.1 hx with hx | hx
                    · exact HX.out.2.2.2 x hx
                    · exact .inr ⟨_, _, by simpa [pf] using hx⟩)
              | (case measure => simp [intOf]; omega)
        | true =>
          have hcx : Hid (cx ≠ []) := by
            show cx ≠ []
            have := HSB.out
            exact this.1 rfl
          have hk0 : ((k : Int) == 0) = false := by
            have : cx.length ≤ k := by
              have h1 := congrArg List.length HX.out.2.1
              rw [List.length_map] at h1
              rw [h1]
              exact Nat.le_trans (List.length_filter_le _ _) (List.length_take_le _ _)
            have h2 : 0 < cx.length := List.length_pos_iff.2 hcx.out
            simp; omega
          go_wp2_with (first | (go_at_call 16; refine (wrap_err _ _ _ _ _).mono ?_; rintro e w' ⟨rfl, rfl⟩) | (at_builtin; go_must (refine wpList_append_own _ rfl (.tmp 41) (.tmp 49) 45 rfl w.heap.size 26 i0 .nilIface 1 16 Tryd.underlying45 hi0 hz0 hz1 hz2 rfl (by omega) (.slice A k c0) k xs rfl OWN1.out ⟨wr.heap.size + 1, 0, none⟩ 1 1 [pf (c, (k : Int), wr.heap.size)] rfl rfl HNEW.out HONE.out (by simp only [maxLen]; omega) (by omega) HSZ.out ?_; intro v2 w2 hown2 hg2 _; have HO2 := Lib.hid hown2; have HG2 := Lib.hid hg2; clear hown2 hg2)))
          all_goals go_roundw
          all_goals first
            | (case rel =>
                refine ⟨k + 1, by omega, by omega, by go_num, HBEL.out.trans (((Below.refl _ _).alloc hsz _).trans (below_append (HOWN.out.alloc _) HG2.out (by simp; omega))), xs ++ [pf (c, (k : Int), wr.heap.size)], cx ++ [(c, (k : Int), wr.heap.size)], true, fi, rfl, rfl, by show _ ↔ _; simp, ?_, ⟨?_, ?_, ?_, ?_⟩, HO2⟩
                · intro t r h
                  cases hcx' : cx with
                  | nil => exact absurd hcx' hcx.out
                  | cons t' r' =>
                    rw [hcx'] at h
                    injection h with h _
                    rw [HFI.out t' r' hcx', h]
                · rw [List.filter_append, HX.out.1]; simp [isErr, List.filter, pf]
                · rw [List.map_append, HX.out.2.1, HTK.out, List.filter_append]; simp [HC0.out]
                · intro t ht
                  rcases List.mem_append.1 ht with ht | ht
                  · exact WholeWr.grown (Whole.alloc (Whole.alloc (HX.out.2.2.1 t ht) _) _) HG2.out (own_ne OWN1.out (Whole.alloc (Whole.alloc (HX.out.2.2.1 t ht) _) _) (by decide))
                  · obtain rfl : t = (c, (k : Int), wr.heap.size) := by simpa using ht
                    exact WholeWr.grown (Whole.alloc (Whole.new wr 59 #[.string opJ, .int .i64 k, .iface 30 (.int .i64 c)]) _) HG2.out (own_ne OWN1.out (Whole.alloc (Whole.new wr 59 #[.string opJ, .int .i64 k, .iface 30 (.int .i64 c)]) _) (by decide))
                · intro x hx
                  rcases List.mem_append.1 hx with hx | hx
                  · exact HX.out.2.2.2 x hx
                  · exact .inr ⟨_, _, by simpa [pf] using hx⟩)
            | (case measure => simp [intOf]; omega)
    · -- the errors stand
      by_cases hkn : k < n
      · have hk20' : k = 20 := by omega
        have hd1 : decide ((k : Int) < (n : Int)) = true := by simp; omega
        have hd2 : decide ((k : Int) < 20) = false := by simp; omega
        have hjx : ∀ j : Nat, j ≤ n → j ≤ 20 → ¬ (j < n ∧ j < 20) → j = k := by intro j _ _ _; omega
        have HJX := Lib.hid hjx
        clear hk20' hjx
        have hk1 : 0 < k := by omega
        obtain ⟨g, c', hA, hgb, hc⟩ := own_one HOWN.out hk1
        injection hA with hA _ hA3
        subst hA hA3
        have HLX : Hid (xs.length = k) := by have := HOWN.out.1; show _ = _; omega
        have HCX := Lib.hid hc
        have HGr := Lib.hid (HG.out.below HBEL.out h0)
        clear hc
        go_wp2_with fail
        refine (Join_any g k c0 xs _ HLX.out (by omega) HX.out.2.2.2 HCX.out).mono ?_
        rintro r w1 (⟨hy, rfl, rfl⟩ | ⟨hy, bj, vj, rfl, hj1, hj2, hj3, hj4⟩)
        · have hcx : cx = [] := by
            have := HX.out.1
            rw [hy] at this
            exact List.map_eq_nil_iff.1 this.symm
          have hsb : sb = false := by
            cases sb with
            | false => rfl
            | true => exact absurd hcx (HSB.out.1 rfl)
          subst hsb
          clear hcx hy
          go_wp2_with fail
          refine (awake_yes _ HGr.out).mono ?_
          rintro r w2 ⟨rfl, hb2⟩
          go_wp2_with fail
          go_ret
          exact ⟨rfl, HBEL.out.trans (hb2.mono hsz)⟩
        · have hcx : cx ≠ [] := by
            intro h
            have := HX.out.1
            rw [h] at this
            exact hy this
          have hsb : sb = true := HSB.out.2 hcx
          subst hsb
          have HJ4 := Lib.hid hj4
          have HJ2 := Lib.hid hj2
          have HJ3 := Lib.hid hj3
          have HCXN := Lib.hid hcx
          have hs1 := hj4.size
          have hbw1 : Below w.heap.size w w1 := HBEL.out.trans (hj4.mono hsz)
          have HBW1 := Lib.hid hbw1
          have HC1 := Lib.hid (HCS.out.below hbw1)
          have HG1 := Lib.hid (HG.out.below hbw1 h0)
          clear hcx hy hj2 hj3 hj4 hbw1
          go_wp2_with fail
          go_loopw [10, 11] (fun hv i wr' => w1 = wr' ∧ ∃ (j : Nat) (h : Bool), j ≤ n ∧ j ≤ 20 ∧ i = .int .i64 j ∧ hv = .bool h ∧ Hid (h = (cs.take j).any (fun c => c == q && q != 0))) (fun _ i _ => 20 - (intOf i).toNat)
          case atStart => exact ⟨rfl, 0, false, by omega, by omega, rfl, rfl, by show _ = _; simp⟩
          case round =>
            obtain ⟨rfl, j, h, hj, hj20, rfl, rfl, HH⟩ := hrel
            by_cases hlt2 : j < n ∧ j < 20
            · obtain ⟨hl1, hl2⟩ := hlt2
              obtain ⟨c, hc⟩ : ∃ c, cs[j]? = some c := ⟨cs[j]'(by rw [HL.out]; exact hl1), List.getElem?_eq_getElem _⟩
              have hcell := HC1.out j c hc
              have HTK := Lib.hid (take_snoc_int cs j c hc)
              have hi0' : (0 : Int) ≤ (j : Int) := by omega
              have hi1 : (j : Int) < (n : Int) := by omega
              have HH2 : Hid ((cs.take (j + 1)).any (fun c => c == q && q != 0) = (h || (c == q && q != 0))) := by show _ = _; rw [HTK.out, List.any_append, ← HH.out]; simp
              clear hc
              cases h with
              | true =>
                go_wp2_with fail
                go_roundw
                case rel => exact ⟨by first | rfl | trivial, j + 1, true, by omega, by omega, by go_num, rfl, by show _ = _; rw [HH2.out]; rfl⟩
                case measure => simp [intOf]; omega
              | false =>
                rcases Bool.eq_false_or_eq_true (c == q) with hcq | hcq
                · rcases Bool.eq_false_or_eq_true (q != 0) with hq0 | hq0
                  · have H3 : Hid ((false || (c == q && q != 0)) = true) := by show _ = _; rw [hcq, hq0]; rfl
                    go_wp2_with fail
                    go_roundw
                    case rel => exact ⟨by first | rfl | trivial, j + 1, true, by omega, by omega, by go_num, rfl, by show _ = _; rw [HH2.out, H3.out]⟩
                    case measure => simp [intOf]; omega
                  · have H3 : Hid ((false || (c == q && q != 0)) = false) := by show _ = _; rw [hcq, hq0]; rfl
                    go_wp2_with fail
                    go_roundw
                    case rel => exact ⟨by first | rfl | trivial, j + 1, false, by omega, by omega, by go_num, rfl, by show _ = _; rw [HH2.out, H3.out]⟩
                    case measure => simp [intOf]; omega
                · have H3 : Hid ((false || (c == q && q != 0)) = false) := by show _ = _; rw [hcq]; rfl
                  go_wp2_with fail
                  go_roundw
                  case rel => exact ⟨by first | rfl | trivial, j + 1, false, by omega, by omega, by go_num, rfl, by show _ = _; rw [HH2.out, H3.out]⟩
                  case measure => simp [intOf]; omega
            · have hjk : j = k := HJX.out j hj hj20 hlt2
              have hlc : cx.length ≤ k := by
                have h1 := congrArg List.length HX.out.2.1
                rw [List.length_map] at h1
                rw [h1]
                exact Nat.le_trans (List.length_filter_le _ _) (List.length_take_le _ _)
              have hbr : Below wr.heap.size wr w1 := HJ4.out
              have REPJ : Hid (Rep w1 w1.heap.size (LJ cx) (V0 cx ++ [.iface 80 (.pointer (some ⟨bj, 0, none⟩))])) := by
                have h3 := HJ3.out
                rw [HX.out.1] at h3
                exact rep_join cx HCXN.out (by omega) (fun t ht => ⟨Nat.lt_of_lt_of_le (Whole.lt (HX.out.2.2.1 t ht)) hs1, Whole.below (HX.out.2.2.1 t ht) hbr (Whole.lt (HX.out.2.2.1 t ht))⟩) bj vj HJ2.out h3 (Nat.le_refl _)
              have HVJ : Hid ((V0 cx ++ [Value.iface 80 (.pointer (some ⟨bj, 0, none⟩))])[cx.length * 2]? = some (.iface 80 (.pointer (some ⟨bj, 0, none⟩)))) := by
                show _ = _
                rw [List.getElem?_append_right (by rw [V0_len]; omega), V0_len]
                simp
              have HCODE : Hid (codeO (LJ cx) (cx.length * 2) = some fi) := by
                show _ = _
                cases hcc : cx with
                | nil => exact absurd hcc HCXN.out
                | cons t r =>
                  have hd := REPJ.out.down
                  rw [hcc] at hd
                  rw [LJ_code hd rfl, HFI.out t r hcc]
              have HHAS : Hid (hasO (LJ cx) q (cx.length * 2) = h) := by
                show _ = _
                rw [LJ_has REPJ.out.down, HH.out, hjk, ← any_nonzero, ← HX.out.2.1, List.any_map]
                rfl
              clear hjk hlc hbr
              go_wp2_with fail
              refine (awake_yes _ HG1.out).mono ?_
              rintro r w2 ⟨rfl, hb2⟩
              have HB2 := Lib.hid hb2
              have REP2 := Lib.hid (REPJ.out.below hb2)
              have HG2 := Lib.hid (HG1.out.below hb2 HG1.out.lt)
              have hs2 := hb2.size
              clear hb2
              go_wp2_with fail
              refine (code_err _ _ _ _ _ _ HVJ.out REP2.out hs2 HG2.out).mono ?_
              rw [HCODE.out]
              rintro r w3 ⟨rfl, hb3⟩
              have HB3 := Lib.hid hb3
              have REP3 := Lib.hid (REP2.out.below (hb3.mono hs2))
              have hs3 := hb3.size
              clear hb3
              go_wp2_with fail
              refine (has_err _ _ _ _ _ _ _ HVJ.out REP3.out).mono ?_
              rw [HHAS.out]
              rintro r w' ⟨rfl, rfl⟩
              go_wp2_with fail
              go_ret
              exact ⟨by simp, HBW1.out.trans ((HB2.out.mono HBW1.out.size).trans (HB3.out.mono (by have := HBW1.out.size; omega)))⟩
      · have hjx : ∀ j : Nat, j ≤ n → j ≤ 20 → ¬ (j < n ∧ j < 20) → j = k := by intro j _ _ _; omega
        have HJX := Lib.hid hjx
        have hd1 : decide ((k : Int) < (n : Int)) = false := by simp; omega
        clear hjx
        have hk1 : 0 < k := by omega
        obtain ⟨g, c', hA, hgb, hc⟩ := own_one HOWN.out hk1
        injection hA with hA _ hA3
        subst hA hA3
        have HLX : Hid (xs.length = k) := by have := HOWN.out.1; show _ = _; omega
        have HCX := Lib.hid hc
        have HGr := Lib.hid (HG.out.below HBEL.out h0)
        clear hc
        go_wp2_with fail
        refine (Join_any g k c0 xs _ HLX.out (by omega) HX.out.2.2.2 HCX.out).mono ?_
        rintro r w1 (⟨hy, rfl, rfl⟩ | ⟨hy, bj, vj, rfl, hj1, hj2, hj3, hj4⟩)
        · have hcx : cx = [] := by
            have := HX.out.1
            rw [hy] at this
            exact List.map_eq_nil_iff.1 this.symm
          have hsb : sb = false := by
            cases sb with
            | false => rfl
            | true => exact absurd hcx (HSB.out.1 rfl)
          subst hsb
          clear hcx hy
          go_wp2_with fail
          refine (awake_yes _ HGr.out).mono ?_
          rintro r w2 ⟨rfl, hb2⟩
          go_wp2_with fail
          go_ret
          exact ⟨rfl, HBEL.out.trans (hb2.mono hsz)⟩
        · have hcx : cx ≠ [] := by
            intro h
            have := HX.out.1
            rw [h] at this
            exact hy this
          have hsb : sb = true := HSB.out.2 hcx
          subst hsb
          have HJ4 := Lib.hid hj4
          have HJ2 := Lib.hid hj2
          have HJ3 := Lib.hid hj3
          have HCXN := Lib.hid hcx
          have hs1 := hj4.size
          have hbw1 : Below w.heap.size w w1 := HBEL.out.trans (hj4.mono hsz)
          have HBW1 := Lib.hid hbw1
          have HC1 := Lib.hid (HCS.out.below hbw1)
          have HG1 := Lib.hid (HG.out.below hbw1 h0)
          clear hcx hy hj2 hj3 hj4 hbw1
          go_wp2_with fail
          go_loopw [10, 11] (fun hv i wr' => w1 = wr' ∧ ∃ (j : Nat) (h : Bool), j ≤ n ∧ j ≤ 20 ∧ i = .int .i64 j ∧ hv = .bool h ∧ Hid (h = (cs.take j).any (fun c => c == q && q != 0))) (fun _ i _ => 20 - (intOf i).toNat)
          case atStart => exact ⟨rfl, 0, false, by omega, by omega, rfl, rfl, by show _ = _; simp⟩
          case round =>
            obtain ⟨rfl, j, h, hj, hj20, rfl, rfl, HH⟩ := hrel
            by_cases hlt2 : j < n ∧ j < 20
            · obtain ⟨hl1, hl2⟩ := hlt2
              obtain ⟨c, hc⟩ : ∃ c, cs[j]? = some c := ⟨cs[j]'(by rw [HL.out]; exact hl1), List.getElem?_eq_getElem _⟩
              have hcell := HC1.out j c hc
              have HTK := Lib.hid (take_snoc_int cs j c hc)
              have hi0' : (0 : Int) ≤ (j : Int) := by omega
              have hi1 : (j : Int) < (n : Int) := by omega
              have HH2 : Hid ((cs.take (j + 1)).any (fun c => c == q && q != 0) = (h || (c == q && q != 0))) := by show _ = _; rw [HTK.out, List.any_append, ← HH.out]; simp
              clear hc
              cases h with
              | true =>
                go_wp2_with fail
                go_roundw
                case rel => exact ⟨by first | rfl | trivial, j + 1, true, by omega, by omega, by go_num, rfl, by show _ = _; rw [HH2.out]; rfl⟩
                case measure => simp [intOf]; omega
              | false =>
                rcases Bool.eq_false_or_eq_true (c == q) with hcq | hcq
                · rcases Bool.eq_false_or_eq_true (q != 0) with hq0 | hq0
                  · have H3 : Hid ((false || (c == q && q != 0)) = true) := by show _ = _; rw [hcq, hq0]; rfl
                    go_wp2_with fail
                    go_roundw
                    case rel => exact ⟨by first | rfl | trivial, j + 1, true, by omega, by omega, by go_num, rfl, by show _ = _; rw [HH2.out, H3.out]⟩
                    case measure => simp [intOf]; omega
                  · have H3 : Hid ((false || (c == q && q != 0)) = false) := by show _ = _; rw [hcq, hq0]; rfl
                    go_wp2_with fail
                    go_roundw
                    case rel => exact ⟨by first | rfl | trivial, j + 1, false, by omega, by omega, by go_num, rfl, by show _ = _; rw [HH2.out, H3.out]⟩
                    case measure => simp [intOf]; omega
                · have H3 : Hid ((false || (c == q && q != 0)) = false) := by show _ = _; rw [hcq]; rfl
                  go_wp2_with fail
                  go_roundw
                  case rel => exact ⟨by first | rfl | trivial, j + 1, false, by omega, by omega, by go_num, rfl, by show _ = _; rw [HH2.out, H3.out]⟩
                  case measure => simp [intOf]; omega
            · have hjk : j = k := HJX.out j hj hj20 hlt2
              have hlc : cx.length ≤ k := by
                have h1 := congrArg List.length HX.out.2.1
                rw [List.length_map] at h1
                rw [h1]
                exact Nat.le_trans (List.length_filter_le _ _) (List.length_take_le _ _)
              have hbr : Below wr.heap.size wr w1 := HJ4.out
              have REPJ : Hid (Rep w1 w1.heap.size (LJ cx) (V0 cx ++ [.iface 80 (.pointer (some ⟨bj, 0, none⟩))])) := by
                have h3 := HJ3.out
                rw [HX.out.1] at h3
                exact rep_join cx HCXN.out (by omega) (fun t ht => ⟨Nat.lt_of_lt_of_le (Whole.lt (HX.out.2.2.1 t ht)) hs1, Whole.below (HX.out.2.2.1 t ht) hbr (Whole.lt (HX.out.2.2.1 t ht))⟩) bj vj HJ2.out h3 (Nat.le_refl _)
              have HVJ : Hid ((V0 cx ++ [Value.iface 80 (.pointer (some ⟨bj, 0, none⟩))])[cx.length * 2]? = some (.iface 80 (.pointer (some ⟨bj, 0, none⟩)))) := by
                show _ = _
                rw [List.getElem?_append_right (by rw [V0_len]; omega), V0_len]
                simp
              have HCODE : Hid (codeO (LJ cx) (cx.length * 2) = some fi) := by
                show _ = _
                cases hcc : cx with
                | nil => exact absurd hcc HCXN.out
                | cons t r =>
                  have hd := REPJ.out.down
                  rw [hcc] at hd
                  rw [LJ_code hd rfl, HFI.out t r hcc]
              have HHAS : Hid (hasO (LJ cx) q (cx.length * 2) = h) := by
                show _ = _
                rw [LJ_has REPJ.out.down, HH.out, hjk, ← any_nonzero, ← HX.out.2.1, List.any_map]
                rfl
              clear hjk hlc hbr
              go_wp2_with fail
              refine (awake_yes _ HG1.out).mono ?_
              rintro r w2 ⟨rfl, hb2⟩
              have HB2 := Lib.hid hb2
              have REP2 := Lib.hid (REPJ.out.below hb2)
              have HG2 := Lib.hid (HG1.out.below hb2 HG1.out.lt)
              have hs2 := hb2.size
              clear hb2
              go_wp2_with fail
              refine (code_err _ _ _ _ _ _ HVJ.out REP2.out hs2 HG2.out).mono ?_
              rw [HCODE.out]
              rintro r w3 ⟨rfl, hb3⟩
              have HB3 := Lib.hid hb3
              have REP3 := Lib.hid (REP2.out.below (hb3.mono hs2))
              have hs3 := hb3.size
              clear hb3
              go_wp2_with fail
              refine (has_err _ _ _ _ _ _ _ HVJ.out REP3.out).mono ?_
              rw [HHAS.out]
              rintro r w' ⟨rfl, rfl⟩
              go_wp2_with fail
              go_ret
              exact ⟨by simp, HBW1.out.trans ((HB2.out.mono HBW1.out.size).trans (HB3.out.mono (by have := HBW1.out.size; omega)))⟩

set_option maxHeartbeats 4000000 in
set_option maxRecDepth 100000 in
theorem joins_nil (q : Int) (A0 : Option Addr) (cap : Nat) (w : World) (hg : LaidT w) :
    Calls Tryd.prog 6 #[.slice A0 0 cap, .int .i64 q] w fun r w' => r = .returned (.bool true) ∧ Below w.heap.size w w' := by
  have HG := Lib.hid hg
  clear hg
  go_enter Tryd.func6, Tryd.ntmps6
  go_wp2
  refine wp_loop_rounds 1 ?_
  rw [rounds_succ]
  go_wp2_with fail
  refine (Join_nil _).mono ?_
  rintro r w' ⟨rfl, rfl⟩
  go_wp2_with fail
  refine (awake_yes _ HG.out).mono ?_
  rintro r w2 ⟨rfl, hb2⟩
  go_wp2_with fail
  go_ret
  exact ⟨rfl, hb2⟩
end Go.Proofs.YtkkfolbidclonaaDoor.er
