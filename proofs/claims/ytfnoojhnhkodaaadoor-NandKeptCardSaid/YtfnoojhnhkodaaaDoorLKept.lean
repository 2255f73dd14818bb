/- NandKept returns true for every list of texts and every list of acts; the variable errors.errorType is as the program lays it. -/
import Derived.Test.YtfnoojhnhkodaaaDoorNdX
import Derived.Test.YtfnoojhnhkodaaaDoorFlL
import Derived.Test.YtfnoojhnhkodaaaDoorTie
import Derived.Test.YtfnoojhnhkodaaaDoorCards
import Derived.SevenTiedAt
import Derived.SliceStrings
namespace Go.Proofs.YtfnoojhnhkodaaaDoor.nandKept
open Go.ChangeShapes Go.WideShapes Go.ChangeAt Go.RowKit Go.Joins Go.Deep
open Go.ChangeMaps (open_string shut_string)
open Go.Proofs.YtfnoojhnhkodaaaDoor.er Go.Proofs.YtfnoojhnhkodaaaDoor.nd
set_option linter.unusedVariables false

theorem handle_of_laid {W : World} (h : laidMetH Tryd.prog Rows.nandKeptRow.laid W) : LaidT W := by
  have h' : laidMet Tryd.prog [] W ∧ handlesMet Tryd.prog Rows.nandKeptRow.laid W := h
  obtain ⟨name, u, ty, e1, e2, e3, e4, e5⟩ := h'.2 _ (List.mem_singleton.2 rfl)
  have en : name = [101, 114, 114, 111, 114] := (Option.some.inj e1).symm
  subst en
  obtain rfl := Option.some.inj (gl_rt.symm.trans e2)
  have hm : ty ∈ (List.range 141).filter fun t => Tryd.prog.rowNamed t [101, 114, 114, 111, 114] := List.mem_filter.2 ⟨List.mem_range.2 (by rw [← gl_size]; exact e3), e4⟩
  rw [gl_one] at hm
  obtain rfl := List.mem_singleton.1 hm
  have hh : typeHandle Tryd.prog 25 = .pointer (some ⟨1, 25, none⟩) := by kernel_rfl
  rw [hh] at e5
  show W.cell? _ = _
  simpa using World.var?_cell gl_et e5 0
noncomputable def laidWorld (os : Os) : World :=
  let w0 := World.holding Tryd.prog os ⟨#[], #[], []⟩
  { w0 with heap := w0.heap.modify 0 fun
      | .cells _ t frozen => .cells #[.iface 94 (.agg #[.pointer (some ⟨1, 25, none⟩)])] t frozen
      | o => o }
theorem laidWorld_met (os : Os) (args : Array Value) : laidMetH Tryd.prog Rows.nandKeptRow.laid ((laidWorld os).forCall (fun _ _ => 0) ⟨#[], args, []⟩).memory :=
  laidMetH_of_parts (laidMet_nil _ _) (by kernel_rfl)

set_option maxRecDepth 100000 in
theorem lifted (os : Os) (started : os.Started) (H : Type) (enc : TypeId × Value → H) :
    ReturnsInHanded {} Tryd.checked os 5 .any (fun w args => (Rows.nandKeptSpec.pre enc Tryd.prog Tryd.f5 [] false w args ∧ laidMetH Tryd.prog Rows.nandKeptRow.laid w) ∧ sizedMet enc Tryd.prog Tryd.f5 (OpenSpec.ofChange Rows.nandKeptSpec) false w args)
      (Rows.nandKeptSpec.post enc Tryd.prog Tryd.f5 false true false false) := by
  refine returnsInHanded_of_change_and (C := Tryd.checked) (X := fun w _ => laidMetH Tryd.prog Rows.nandKeptRow.laid w) (fun _ _ _ hh h => h.of_heap hh) own started (by kernel_rfl) Tryd.func5
    (ChangeSpec.witness_at (enc := enc) (C := Tryd.checked) (os := os) (X := fun w _ => laidMetH Tryd.prog Rows.nandKeptRow.laid w) false (laidWorld os) #[.slice none 0 0, .slice none 0 0] 8 rfl (by kernel_rfl) (by kernel_rfl) (by kernel_rfl) (by kernel_rfl) (by kernel_rfl) (laidWorld_met os _)) ?_
  intro W base args ds gs before hval0 hW _ _ hL _
  have hval : ∀ (j : Nat) t v, Tryd.f5.params[j]? = some t → args[j]? = some v → Value.okWide Tryd.prog W .any base t v := hval0
  have hW' := hW
  obtain ⟨p, q, hA0, hV0, rfl, hfz, hnd⟩ := hW
  have hA : DataW.TrodAll enc Tryd.prog W 0 (fun _ => true) true Tryd.f5.params.toList args.toList ds p := hA0
  have hV : DataW.TrodVars enc Tryd.prog W (fun _ => true) [] gs q := hV0
  rw [Tryd.params5] at hA hval
  obtain ⟨v0, vs0, d0, ds0, p0, q0, hargs, rfl, rfl, h0, r0⟩ := trodAll_cons hA
  obtain ⟨v1, vs1, d1, ds1, p1, q1, rfl, rfl, rfl, h1, r1⟩ := trodAll_cons r0
  obtain ⟨rfl, rfl, rfl⟩ := trodAll_nil r1
  obtain rfl : args = #[v0, v1] := by cases args; simp_all
  have hg := handle_of_laid hL
  obtain ⟨rfl, rfl⟩ : gs = [] ∧ q = [] := by
    cases gs with
    | nil => exact ⟨rfl, hV⟩
    | cons g r => exact absurd hV (by intro h; cases h)
  have k0 := h0
  have lt0 : ∀ x ∈ p0, x.block < W.heap.size := by obtain ⟨m, hm⟩ := k0; exact DataW.trod_lt m _ _ _ hm
  have k1 := h1
  have lt1 : ∀ x ∈ p1, x.block < W.heap.size := by obtain ⟨m, hm⟩ := k1; exact DataW.trod_lt m _ _ _ hm
  obtain ⟨A0, len0, cap0, rfl⟩ := okWide_slice Tryd.underlying50 (hval 0 50 v0 rfl rfl)
  obtain ⟨fuel0, hf0⟩ := h0
  obtain ⟨A1, len1, cap1, rfl⟩ := okWide_slice Tryd.underlying22 (hval 1 22 v1 rfl rfl)
  obtain ⟨fuel1, hf1⟩ := h1
  have fin : ∀ (e : Ending) (W' : World), (e = .returned (.bool true) ∧ Below W.heap.size W W') → ∃ v, e = .returned v ∧ Rows.nandKeptSpec.post enc Tryd.prog Tryd.f5 false true false false W #[.slice A0 len0 cap0, .slice A1 len1 cap1] v W' := fun e W' ⟨he, bel⟩ => by
    subst he
    exact ⟨_, rfl, _, _, _, [], _, [], hW', trodAll_mk1 (shut_bool Tryd.underlying4 _), (trodAll_cons_mk (Below.trod laidOut (by kernel_rfl) (of_decide_eq_true (by kernel_rfl)) k0 bel lt0) (trodAll_cons_mk (Below.trod laidOut (by kernel_rfl) (of_decide_eq_true (by kernel_rfl)) k1 bel lt1) trodAll_mk0)), rfl, bel.frame _, fun h => by cases h⟩
  clear hA0 hval0
  have hmis : ∀ (n : Nat) (v : Value) (y : DataW H × List MemPlace), DataW.trod enc Tryd.prog W 0 (fun _ => true) true n 33 [v] = some y →
      ∃ (A : Option Addr) (c : Nat) (l : List Mis), v = .slice A l.length c ∧ l.length ≤ 9223372036854775807 ∧ (0 < l.length → ∃ b off, A = some ⟨b, off, none⟩ ∧ b < W.heap.size ∧ MisArg W b off l) := by
    intro n v y hv
    rcases open_slice_fields Tryd.underlying33 Tryd.underlying44 (by kernel_rfl) (by kernel_rfl) hv with ⟨hcs, _⟩ | ⟨a, l, c, m, D, Pl, hcs, _, hl, hm, hmm, _, hi⟩
    · simp at hcs
      subst hcs
      exact ⟨none, 0, [], rfl, by simp, by simp⟩
    · simp at hcs
      subst hcs
      obtain ⟨b, off, spot⟩ := a
      have hml : l ≤ m := by rw [hmm]; split <;> omega
      rcases Nat.eq_zero_or_pos l with h0 | h0
      · subst h0
        exact ⟨_, c, [], rfl, by simp, by simp⟩
      · have hspot : spot = none := by
          obtain ⟨ys, n, _, _, _, hfl⟩ := hi 0 (by omega)
          obtain ⟨v0, y0, c0, _, t0⟩ := hfl 0 _ rfl
          exact addr_spot (by simpa using c0)
        subst hspot
        have hb : b < W.heap.size := by
          obtain ⟨ys, n, _, _, _, hfl⟩ := hi 0 (by omega)
          obtain ⟨v0, y0, c0, _, t0⟩ := hfl 0 _ rfl
          rw [addr_add] at c0
          exact World.block_lt_of_cell? _ _ c0
        have hx : ∀ i, i < l → ∃ s : Mis, W.cell? ⟨b, off + i * 4, none⟩ = some (.int .i64 s.at_) ∧ W.cell? ⟨b, off + i * 4 + 1, none⟩ = some (.int .i64 s.kind) ∧ W.cell? ⟨b, off + i * 4 + 2, none⟩ = some (.int .i64 s.keep) ∧ W.cell? ⟨b, off + i * 4 + 3, none⟩ = some (.string s.junk) := by
          intro i hil
          obtain ⟨ys, n, _, _, _, hfl⟩ := hi i (by omega)
          obtain ⟨v0, y0, c0, _, t0⟩ := hfl 0 _ rfl
          obtain ⟨v1, y1, c1, _, t1⟩ := hfl 1 _ rfl
          obtain ⟨v2, y2, c2, _, t2⟩ := hfl 2 _ rfl
          obtain ⟨v3, y3, c3, _, t3⟩ := hfl 3 _ rfl
          obtain ⟨z0, u0, -, _⟩ := DataW.trod_int Tryd.underlying3 t0
          obtain ⟨z1, u1, -, _⟩ := DataW.trod_int Tryd.underlying3 t1
          obtain ⟨z2, u2, -, _⟩ := DataW.trod_int Tryd.underlying3 t2
          obtain ⟨s, u3, -, _⟩ := DataW.trod_string Tryd.underlying9 t3
          simp at u0 u1 u2 u3
          subst u0 u1 u2 u3
          refine ⟨⟨z0, z1, z2, s⟩, ?_, ?_, ?_, ?_⟩
          · have := c0
            rw [addr_add] at this
            simpa using this
          · have := c1
            rw [addr_add] at this
            simpa [Nat.add_assoc] using this
          · have := c2
            rw [addr_add] at this
            simpa [Nat.add_assoc] using this
          · have := c3
            rw [addr_add] at this
            simpa [Nat.add_assoc] using this
        obtain ⟨ss, hlen, hst⟩ := exists_list _ _ hx
        exact ⟨_, c, ss, by rw [hlen], by simp only [hlen]; unfold maxLen at hm; omega, fun _ => ⟨b, off, rfl, hb, hst⟩⟩
  have hacts : ∀ (f : Nat) (y : DataW H × List MemPlace) (A : Option Addr) (n c : Nat), DataW.trod enc Tryd.prog W 0 (fun _ => true) true f 22 (Value.slice A n c).cells.toList = some y →
      n = 0 ∨ ∃ (b off : Nat) (l : List ActD), A = some ⟨b, off, none⟩ ∧ l.length = n ∧ 0 < n ∧ n ≤ 9223372036854775807 ∧ ActArgs W b off l := by
    intro f y A n c hv
    rcases open_slice_fields Tryd.underlying22 Tryd.underlying35 (by kernel_rfl) (by kernel_rfl) hv with ⟨hcs, _⟩ | ⟨a, l, c', m, D, Pl, hcs, _, hl, hm, hmm, _, hi⟩
    · simp [Value.cells] at hcs
      exact .inl hcs.2.1
    · simp [Value.cells] at hcs
      obtain ⟨rfl, rfl, rfl⟩ := hcs
      obtain ⟨b, off, spot⟩ := a
      have hml : n ≤ m := by rw [hmm]; split <;> omega
      rcases Nat.eq_zero_or_pos n with h0 | h0
      · exact .inl h0
      · have hspot : spot = none := by
          obtain ⟨ys, n, _, _, _, hfl⟩ := hi 0 (by omega)
          obtain ⟨v0, y0, c0, _, t0⟩ := hfl 0 _ rfl
          exact addr_spot (by simpa using c0)
        subst hspot
        have hx : ∀ i, i < n → ∃ s : ActD, ActAt W b (off + i * 4) s := by
          intro i hil
          obtain ⟨ys, n, _, _, _, hfl⟩ := hi i (by omega)
          obtain ⟨v0, y0, c0, _, t0⟩ := hfl 0 _ rfl
          obtain ⟨v1, y1, c1, _, t1⟩ := hfl 1 _ rfl
          obtain ⟨v2, y2, c2, _, t2⟩ := hfl 2 _ rfl
          obtain ⟨v3, y3, c3, _, t3⟩ := hfl 3 _ rfl
          obtain ⟨z0, u0, -, _⟩ := DataW.trod_int Tryd.underlying3 t0
          obtain ⟨z1, u1, -, _⟩ := DataW.trod_int Tryd.underlying3 t1
          obtain ⟨s, u2, -, hs⟩ := DataW.trod_string Tryd.underlying9 t2
          obtain ⟨A3, c3', l3, u3, hl3, ha3⟩ := hmis _ _ _ t3
          simp at u0 u1 u2
          subst u0 u1 u2 u3
          refine ⟨⟨z0, z1, s, A3, c3', l3⟩, ?_, ?_, ?_, ?_, hl3, by unfold maxLen at hs; omega, ha3⟩
          · have := c0
            rw [addr_add] at this
            simpa using this
          · have := c1
            rw [addr_add] at this
            simpa [Nat.add_assoc] using this
          · have := c2
            rw [addr_add] at this
            simpa [Nat.add_assoc] using this
          · have := c3
            rw [addr_add] at this
            simpa [Nat.add_assoc] using this
        obtain ⟨ss, hlen, hst⟩ := exists_list _ _ hx
        exact .inr ⟨b, off, ss, rfl, hlen, h0, by unfold maxLen at hm; omega, hst⟩
  have htexts : ∀ (f : Nat) (y : DataW H × List MemPlace) (A : Option Addr) (n c : Nat), DataW.trod enc Tryd.prog W 0 (fun _ => true) true f 50 (Value.slice A n c).cells.toList = some y →
      n ≤ 9223372036854775807 ∧ ∃ l : List ByteArray, l.length = n ∧ TextArg W A l := by
    intro f y A n c hv
    rcases Go.ChangeShapes.open_strings Tryd.underlying50 Tryd.underlying9 (by kernel_rfl) hv with ⟨hcs, _⟩ | ⟨a, l, c', ss, hcs, _, hl, hm, hmm, _, hcell, _⟩
    · simp [Value.cells] at hcs
      obtain ⟨-, rfl, -⟩ := hcs
      exact ⟨by omega, [], rfl, fun h => by simp at h⟩
    · simp [Value.cells] at hcs
      obtain ⟨rfl, rfl, rfl⟩ := hcs
      obtain ⟨b, off, spot⟩ := a
      have hml : n ≤ ss.length := by rw [hmm]; split <;> omega
      refine ⟨by unfold maxLen at hm; omega, ss.take n, by simp; omega, fun h0 => ?_⟩
      rw [List.length_take] at h0
      have hspot : spot = none := addr_spot (hcell 0 (by omega))
      subst hspot
      refine ⟨b, off, rfl, fun j t hj => ?_⟩
      rw [List.getElem?_take] at hj
      split at hj
      · have h1 := hcell j (by omega)
        rw [addr_add, List.getD_eq_getElem?_getD, hj] at h1
        exact h1
      · simp at hj
  obtain ⟨hn0, ts, hl0, ht0⟩ := htexts _ _ _ _ _ hf0
  rcases hacts _ _ _ _ _ hf1 with rfl | ⟨b, off, l, rfl, hl, h1, hn, ha⟩
  · exact (kept_any _ _ _ _ _ 0 ts [] W hg hl0 rfl hn0 (by omega) ht0 (fun h => by simp at h)).mono fin
  · exact (kept_any _ _ _ _ _ _ ts l W hg hl0 hl hn0 hn ht0 (fun _ => ⟨b, off, rfl, ha⟩)).mono fin

theorem over : Rows.NandKeptSaid :=
  OpenClaim.holds_of_wide 5 Tryd.f5 rfl rfl rfl rfl rfl rfl rfl ⟨rfl, rfl, rfl, rfl, rfl⟩ rfl rfl rfl rfl rfl (by kernel_rfl) Tryd.func5 (by kernel_rfl)
    (of_decide_eq_true (by kernel_rfl)) (by unfold Func.isWrapper; rw [if_neg (of_decide_eq_false (by kernel_rfl))]; exact ⟨rfl, rfl⟩)
    (fun os started H enc _ => lifted os started H enc)
theorem proved : Rows.NandKeptCardSaid :=
  Claim7.holds_tied_plain_at .later [] [.handle] true (true, "d6fbbe43b1f5a82521e65555ce880f50890c9bbf2ec606dc708a79b904b32392") true
    over (fun _ h => by cases h) (by kernel_rfl) (fun _ h => by cases h) nandKept_row_tie rfl ⟨rfl, rfl⟩ (by kernel_rfl) rfl
    (fun f fn hf hfn => by
      obtain rfl : f = 5 := Option.some.inj ((show Tryd.prog.funcNamed "scoria/scorialaw04.NandKept" = some 5 by kernel_rfl).symm.trans hf) |>.symm
      obtain rfl : fn = Tryd.f5 := (Option.some.inj (Tryd.func5.symm.trans hfn)).symm
      exact ⟨by kernel_rfl, fun j t ht => by
        rw [Tryd.params5] at ht
        have hx : t ∈ [50, 22] := by
          have := List.mem_of_getElem? (l := [50, 22]) (i := j) (by simpa using ht)
          exact this
        simp only [List.mem_cons, List.not_mem_nil, or_false] at hx
        rcases hx with rfl | rfl
        · exact (show Tryd.prog.wantsStandIn 50 = false by kernel_rfl)
        · exact (show Tryd.prog.wantsStandIn 22 = false by kernel_rfl)⟩)
    (by kernel_rfl)
#print axioms proved
end Go.Proofs.YtfnoojhnhkodaaaDoor.nandKept
