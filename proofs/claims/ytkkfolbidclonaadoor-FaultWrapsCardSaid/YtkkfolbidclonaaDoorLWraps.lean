/- FaultWraps returns true for every list of parts, every step and every number; the variable errors.errorType is as the program lays it. -/
import Derived.Test.YtkkfolbidclonaaDoorErS
import Derived.Test.YtkkfolbidclonaaDoorErL
import Derived.Test.YtkkfolbidclonaaDoorTie
import Derived.Test.YtkkfolbidclonaaDoorCards
import Derived.SevenTiedAt
namespace Go.Proofs.YtkkfolbidclonaaDoor.faultWraps
open Go.ChangeShapes Go.WideShapes Go.ChangeAt Go.RowKit Go.Joins Go.Deep
open Go.ChangeMaps (open_string shut_string)
open Go.Proofs.YtkkfolbidclonaaDoor.er
set_option linter.unusedVariables false

theorem handle_of_laid {W : World} (h : laidMetH Tryd.prog Rows.faultWrapsRow.laid W) : LaidT W := by
  have h' : laidMet Tryd.prog [] W ∧ handlesMet Tryd.prog Rows.faultWrapsRow.laid W := h
  obtain ⟨name, u, ty, e1, e2, e3, e4, e5⟩ := h'.2 _ (List.mem_singleton.2 rfl)
  have en : name = [101, 114, 114, 111, 114] := (Option.some.inj e1).symm
  subst en
  obtain rfl := Option.some.inj (gl_rt.symm.trans e2)
  have hm : ty ∈ (List.range 128).filter fun t => Tryd.prog.rowNamed t [101, 114, 114, 111, 114] := List.mem_filter.2 ⟨List.mem_range.2 (by rw [← gl_size]; exact e3), e4⟩
  rw [gl_one] at hm
  obtain rfl := List.mem_singleton.1 hm
  have hh : typeHandle Tryd.prog 26 = .pointer (some ⟨1, 26, none⟩) := by kernel_rfl
  rw [hh] at e5
  show W.cell? _ = _
  simpa using World.var?_cell gl_et e5 0
noncomputable def laidWorld (os : Os) : World :=
  let w0 := World.holding Tryd.prog os ⟨#[], #[], []⟩
  { w0 with heap := w0.heap.modify 0 fun
      | .cells _ t frozen => .cells #[.iface 84 (.agg #[.pointer (some ⟨1, 26, none⟩)])] t frozen
      | o => o }
theorem laidWorld_met (os : Os) (args : Array Value) : laidMetH Tryd.prog Rows.faultWrapsRow.laid ((laidWorld os).forCall (fun _ _ => 0) ⟨#[], args, []⟩).memory :=
  laidMetH_of_parts (laidMet_nil _ _) (by kernel_rfl)

set_option maxRecDepth 100000 in
theorem lifted (os : Os) (started : os.Started) (H : Type) (enc : TypeId × Value → H) :
    ReturnsInHanded {} Tryd.checked os 8 .any (fun w args => (Rows.faultWrapsSpec.pre enc Tryd.prog Tryd.f8 [] false w args ∧ laidMetH Tryd.prog Rows.faultWrapsRow.laid w) ∧ sizedMet enc Tryd.prog Tryd.f8 (OpenSpec.ofChange Rows.faultWrapsSpec) false w args)
      (Rows.faultWrapsSpec.post enc Tryd.prog Tryd.f8 false true false false) := by
  refine returnsInHanded_of_change_and (C := Tryd.checked) (X := fun w _ => laidMetH Tryd.prog Rows.faultWrapsRow.laid w) (fun _ _ _ hh h => h.of_heap hh) own started (by kernel_rfl) Tryd.func8
    (ChangeSpec.witness_at (enc := enc) (C := Tryd.checked) (os := os) (X := fun w _ => laidMetH Tryd.prog Rows.faultWrapsRow.laid w) false (laidWorld os) #[.slice none 0 0, .agg #[.string ByteArray.empty, .int .i64 0], .int .i64 0] 8 rfl (by kernel_rfl) (by kernel_rfl) (by kernel_rfl) (by kernel_rfl) (by kernel_rfl) (laidWorld_met os _)) ?_
  intro W base args ds gs before hval0 hW _ _ hL _
  have hval : ∀ (j : Nat) t v, Tryd.f8.params[j]? = some t → args[j]? = some v → Value.okWide Tryd.prog W .any base t v := hval0
  have hW' := hW
  obtain ⟨p, q, hA0, hV0, rfl, hfz, hnd⟩ := hW
  have hA : DataW.TrodAll enc Tryd.prog W 0 (fun _ => true) true Tryd.f8.params.toList args.toList ds p := hA0
  have hV : DataW.TrodVars enc Tryd.prog W (fun _ => true) [] gs q := hV0
  rw [Tryd.params8] at hA hval
  obtain ⟨v0, vs0, d0, ds0, p0, q0, hargs, rfl, rfl, h0, r0⟩ := trodAll_cons hA
  obtain ⟨v1, vs1, d1, ds1, p1, q1, rfl, rfl, rfl, h1, r1⟩ := trodAll_cons r0
  obtain ⟨v2, vs2, d2, ds2, p2, q2, rfl, rfl, rfl, h2, r2⟩ := trodAll_cons r1
  obtain ⟨rfl, rfl, rfl⟩ := trodAll_nil r2
  obtain rfl : args = #[v0, v1, v2] := by cases args; simp_all
  have hg := handle_of_laid hL
  obtain ⟨rfl, rfl⟩ : gs = [] ∧ q = [] := by
    cases gs with
    | nil => exact ⟨rfl, hV⟩
    | cons g r => exact absurd hV (by intro h; cases h)
  have k0 := h0
  have lt0 : ∀ x ∈ p0, x.block < W.heap.size := by obtain ⟨m, hm⟩ := k0; exact DataW.trod_lt m _ _ _ hm
  have k1 := h1
  have lt1 : ∀ x ∈ p1, x.block < W.heap.size := by obtain ⟨m, hm⟩ := k1; exact DataW.trod_lt m _ _ _ hm
  have k2 := h2
  have lt2 : ∀ x ∈ p2, x.block < W.heap.size := by obtain ⟨m, hm⟩ := k2; exact DataW.trod_lt m _ _ _ hm
  obtain ⟨A0, len0, cap0, rfl⟩ := okWide_slice Tryd.underlying22 (hval 0 22 v0 rfl rfl)
  obtain ⟨fuel0, hf0⟩ := h0
  obtain ⟨c1, c1', y1, y1', m1, rfl, e1, f1, g1, g1'⟩ := open_agg2 Tryd.underlying39 (by kernel_rfl) (by kernel_rfl) (hval 1 39 v1 rfl rfl) h1
  obtain ⟨s1, u1, -, w1⟩ := DataW.trod_string Tryd.underlying9 g1
  obtain ⟨b1, u1', -, w1'⟩ := DataW.trod_int Tryd.underlying3 g1'
  simp at u1 u1'
  subst u1 u1'
  obtain ⟨a2, rfl, e2, f2, w2⟩ := open_int Tryd.underlying3 (hval 2 3 v2 rfl rfl) h2
  have fin : ∀ (e : Ending) (W' : World), (e = .returned (.bool true) ∧ Below W.heap.size W W') → ∃ v, e = .returned v ∧ Rows.faultWrapsSpec.post enc Tryd.prog Tryd.f8 false true false false W #[.slice A0 len0 cap0, .agg #[.string s1, .int .i64 b1], .int .i64 a2] v W' := fun e W' ⟨he, bel⟩ => by
    subst he
    exact ⟨_, rfl, _, _, _, [], _, [], hW', trodAll_mk1 (shut_bool Tryd.underlying4 _), (trodAll_cons_mk (Below.trod laidOut (by kernel_rfl) (of_decide_eq_true (by kernel_rfl)) k0 bel lt0) (trodAll_cons_mk (Below.trod laidOut (by kernel_rfl) (of_decide_eq_true (by kernel_rfl)) k1 bel lt1) (trodAll_cons_mk (Below.trod laidOut (by kernel_rfl) (of_decide_eq_true (by kernel_rfl)) k2 bel lt2) trodAll_mk0))), rfl, bel.frame _, fun h => by cases h⟩
  clear hA0 hval0
  rcases open_slice_fields Tryd.underlying22 Tryd.underlying52 (by kernel_rfl) (by kernel_rfl) hf0 with ⟨hcs, _⟩ | ⟨a, l, c, m, D, Pl, hcs, _, hl, hm, hmm, _, hi⟩
  · simp [Value.cells] at hcs
    obtain ⟨rfl, rfl, rfl⟩ := hcs
    exact (wraps_none _ _ s1 b1 a2 W hg).mono fin
  · simp [Value.cells] at hcs
    obtain ⟨rfl, rfl, rfl⟩ := hcs
    obtain ⟨b, off, spot⟩ := a
    have hml : len0 ≤ m := by rw [hmm]; split <;> omega
    rcases Nat.eq_zero_or_pos len0 with h0 | h0
    · subst h0
      exact (wraps_none _ _ s1 b1 a2 W hg).mono fin
    · have hspot : spot = none := by
        obtain ⟨ys, n, _, _, _, hfl⟩ := hi 0 (by omega)
        obtain ⟨v0, y0, c0, _, t0⟩ := hfl 0 _ rfl
        exact addr_spot (by simpa using c0)
      subst hspot
      have hx : ∀ i, i < len0 → ∃ s : Pt, W.cell? ⟨b, off + i * 4, none⟩ = some (.int .i64 s.1) ∧ W.cell? ⟨b, off + i * 4 + 1, none⟩ = some (.int .i64 s.2.1) ∧ W.cell? ⟨b, off + i * 4 + 2, none⟩ = some (.int .i64 s.2.2.1) ∧ W.cell? ⟨b, off + i * 4 + 3, none⟩ = some (.string s.2.2.2) := by
        intro i hil
        obtain ⟨ys, n, _, _, _, hfl⟩ := hi i (by omega)
        obtain ⟨v0, y0, c0, _, t0⟩ := hfl 0 _ rfl
        obtain ⟨v1, y1, c1, _, t1⟩ := hfl 1 _ rfl
        obtain ⟨v2, y2, c2, _, t2⟩ := hfl 2 _ rfl
        obtain ⟨v3, y3, c3, _, t3⟩ := hfl 3 _ rfl
        obtain ⟨z0, u0, -, _⟩ := DataW.trod_int Tryd.underlying3 t0
        obtain ⟨z1, u1, -, _⟩ := DataW.trod_int Tryd.underlying3 t1
        obtain ⟨z2, u2, -, _⟩ := DataW.trod_int Tryd.underlying3 t2
        obtain ⟨s, u3, -, _⟩ := DataW.trod_string Tryd.underlying9 t3
        simp at u0 u1 u2 u3
        subst u0 u1 u2 u3
        refine ⟨(z0, z1, z2, s), ?_, ?_, ?_, ?_⟩
        · have := c0
          rw [addr_add] at this
          simpa using this
        · have := c1
          rw [addr_add] at this
          simpa [Nat.add_assoc] using this
        · have := c2
          rw [addr_add] at this
          simpa [Nat.add_assoc] using this
        · have := c3
          rw [addr_add] at this
          simpa [Nat.add_assoc] using this
      obtain ⟨ss, hlen, hst⟩ := exists_list _ _ hx
      exact (wraps_some b off len0 cap0 ss s1 b1 a2 W hg hlen h0 (by omega) hst).mono fin

theorem over : Rows.FaultWrapsSaid :=
  OpenClaim.holds_of_wide 8 Tryd.f8 rfl rfl rfl rfl rfl rfl rfl ⟨rfl, rfl, rfl, rfl, rfl⟩ rfl rfl rfl rfl rfl (by kernel_rfl) Tryd.func8 (by kernel_rfl)
    (of_decide_eq_true (by kernel_rfl)) (by unfold Func.isWrapper; rw [if_neg (of_decide_eq_false (by kernel_rfl))]; exact ⟨rfl, rfl⟩)
    (fun os started H enc _ => lifted os started H enc)
theorem proved : Rows.FaultWrapsCardSaid :=
  Claim7.holds_tied_plain_at .later [] [.handle] true (true, "55e7c1c428a73c1ab7afa3d1ad3b380bbb7ee7fe48b14d7f2efc4252a3d1dbff") true
    over (fun _ h => by cases h) (by kernel_rfl) (fun _ h => by cases h) faultWraps_row_tie rfl ⟨rfl, rfl⟩ (by kernel_rfl) rfl
    (fun f fn hf hfn => by
      obtain rfl : f = 8 := Option.some.inj ((show Tryd.prog.funcNamed "scoria/scorialaw03.FaultWraps" = some 8 by kernel_rfl).symm.trans hf) |>.symm
      obtain rfl : fn = Tryd.f8 := (Option.some.inj (Tryd.func8.symm.trans hfn)).symm
      exact ⟨by kernel_rfl, fun j t ht => by
        rw [Tryd.params8] at ht
        have hx : t ∈ [22, 39, 3] := by
          have := List.mem_of_getElem? (l := [22, 39, 3]) (i := j) (by simpa using ht)
          exact this
        simp only [List.mem_cons, List.not_mem_nil, or_false] at hx
        rcases hx with rfl | rfl | rfl
        · exact (show Tryd.prog.wantsStandIn 22 = false by kernel_rfl)
        · exact (show Tryd.prog.wantsStandIn 39 = false by kernel_rfl)
        · exact (show Tryd.prog.wantsStandIn 3 = false by kernel_rfl)⟩)
    (by kernel_rfl)
#print axioms proved
end Go.Proofs.YtkkfolbidclonaaDoor.faultWraps
