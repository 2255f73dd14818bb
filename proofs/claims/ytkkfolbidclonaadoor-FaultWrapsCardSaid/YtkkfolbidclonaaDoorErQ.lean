/- FaultCodes, FaultHas of layer 3. -/
import Derived.Test.YtkkfolbidclonaaDoorErP
namespace Go.Proofs.YtkkfolbidclonaaDoor.er
open Go.RowKit
set_option linter.unusedVariables false

/-- What 'made' has made: j + 1 words and their nodes. -/
structure Made (w w' : World) (j : Nat) (l : List Nd) (vs : List Value) (t : TypeId) (y : Value) (g : Nat) : Prop where
  lt : j < 30
  len : l.length = j + 1
  rep : Rep w' w'.heap.size l vs
  val : vs[j]? = some (.iface t y)
  nodes : Nodes w' g l
  bel : Below w.heap.size w w'
  kids : ∀ x ∈ l, x.kids.length ≤ 1000
  step : ∀ (i : Nat) (nd : Nd), l[i]? = some nd → nd.kind = 1 → ∃ k, nd.kids = [k]
theorem Rep.kids_le {w : World} {B : Nat} {l : List Nd} {vs : List Value} (h : Rep w B l vs) : ∀ x ∈ l, x.kids.length ≤ 1000 := fun x hx => by
  obtain ⟨i, hi, e⟩ := List.getElem_of_mem hx
  have hn : l[i]? = some x := by rw [List.getElem?_eq_getElem hi, e]
  have hv : vs[i]? = some (vs[i]'(by rw [h.len]; exact hi)) := List.getElem?_eq_getElem _
  rcases h.node i x _ hn hv with ⟨_, h2, _⟩ | ⟨_, b, k, y, _, h2, _⟩ | ⟨_, b, g, c, _, _, h2, _⟩ | ⟨_, h2, _⟩
  · rw [h2]; simp
  · rw [h2]; simp
  · exact h2
  · rw [h2]; simp
theorem Rep.step1 {w : World} {B : Nat} {l : List Nd} {vs : List Value} (h : Rep w B l vs) : ∀ (i : Nat) (nd : Nd), l[i]? = some nd → nd.kind = 1 → ∃ k, nd.kids = [k] := fun i x hn hk => by
  have hi := (List.getElem?_eq_some_iff.1 hn).1
  have hv : vs[i]? = some (vs[i]'(by rw [h.len]; exact hi)) := List.getElem?_eq_getElem _
  rcases h.node i x _ hn hv with ⟨h1, _⟩ | ⟨_, b, k, y, _, h2, _⟩ | ⟨h1, _⟩ | ⟨h1, _⟩
  · omega
  · exact ⟨k, h2⟩
  · omega
  · omega
theorem MadePost.some {w : World} {m : Nat} {e : Ending} {w' : World} (h : MadePost w m e w') (h0 : 0 < m) (h30 : m ≤ 30) :
    ∃ j l vs t y g cap, e = .returned (.tuple #[.iface t y, .slice (some ⟨g, 0, none⟩) (j + 1) cap]) ∧ Made w w' j l vs t y g := by
  rcases h with ⟨h, _⟩ | ⟨_, l, vs, v, g, cap, rfl, hl, hr, hv, hn, hb⟩
  · omega
  · obtain ⟨j, rfl⟩ : ∃ j, m = j + 1 := ⟨m - 1, by omega⟩
    obtain ⟨t, y, rfl⟩ := hr.iface hv
    exact ⟨j, l, vs, t, y, g, cap, rfl, by omega, hl, hr, by simpa using hv, hn, hb, hr.kids_le, hr.step1⟩

theorem MadePost.none {w : World} {e : Ending} {w' : World} (h : MadePost w 0 e w') : e = .returned (.tuple #[.nilIface, .slice none 0 0]) ∧ Below w.heap.size w w' := by
  rcases h with ⟨_, h⟩ | ⟨h, _⟩
  · exact h
  · omega
/-! ### FaultCodes -/
set_option maxHeartbeats 2000000 in
set_option maxRecDepth 100000 in
theorem codes_none (A : Option Addr) (cap : Nat) (w : World) (hg : LaidT w) : Calls Tryd.prog 3 #[.slice A 0 cap] w fun r w' => r = .returned (.bool true) ∧ Below w.heap.size w w' := by
  have HG := Lib.hid hg
  clear hg
  go_enter Tryd.func3, Tryd.ntmps3
  go_wp2_with fail
  refine (few_nil A cap _).mono ?_
  rintro e w' ⟨rfl, rfl⟩
  go_wp2_with fail
  refine (made_none A cap _).mono ?_
  intro e w1 hmd
  obtain ⟨rfl, hb⟩ := hmd.none
  have HB := Lib.hid hb
  have HG1 := Lib.hid (HG.out.below hb HG.out.lt)
  have hs := hb.size
  clear hb
  go_wp2_with fail
  refine (awake_yes _ HG1.out).mono ?_
  rintro e w2 ⟨rfl, hb2⟩
  have HB2 := Lib.hid hb2
  clear hb2
  go_wp2_with fail
  refine (code_nil _).mono ?_
  rintro e w' ⟨rfl, rfl⟩
  go_wp2_with fail
  go_ret
  exact ⟨rfl, HB.out.trans (HB2.out.mono hs)⟩

set_option maxHeartbeats 2000000 in
set_option maxRecDepth 100000 in
theorem codes_some (b off n cap : Nat) (ps : List Pt) (w : World) (hg : LaidT w) (hl : ps.length = n) (h1 : 0 < n) (hm : n ≤ maxLen) (hp : Parts w b off ps) :
    Calls Tryd.prog 3 #[.slice (some ⟨b, off, none⟩) n cap] w fun r w' => r = .returned (.bool true) ∧ Below w.heap.size w w' := by
  have HG := Lib.hid hg
  have HP := Lib.hid hp
  have HL := Lib.hid hl
  have HM := Lib.hid hm
  clear hg hp hl hm
  go_enter Tryd.func3, Tryd.ntmps3
  go_wp2_with fail
  refine (few_some b off n cap ps _ HL.out HM.out HP.out).mono ?_
  rintro e w' ⟨q, rfl, rfl⟩
  cases q
  · go_wp2_with fail
    refine (awake_yes _ HG.out).mono ?_
    rintro e w2 ⟨rfl, hb2⟩
    have HB2 := Lib.hid hb2
    clear hb2
    go_wp2_with fail
    go_ret
    exact ⟨rfl, HB2.out⟩
  · go_wp2_with fail
    refine (made_some b off n cap ps _ HL.out h1 HM.out HP.out).mono ?_
    intro e w1 hmd
    obtain ⟨j, l, vs, t, y, g, c1, rfl, M0⟩ := hmd.some (by omega) (by omega)
    have M := Lib.hid M0
    have HG1 := Lib.hid (HG.out.below M0.bel HG.out.lt)
    have hs1 := M0.bel.size
    have hj := M0.lt
    have hkw : IntKind.i64.wrap ((j : Int) + 1 - 1) = (j : Int) := by rw [IntKind.wrap_i64]; omega
    clear hmd M0
    go_wp2_with fail
    refine (ref_code l g (j + 1) c1 M.out.rep.down M.out.len M.out.kids (by omega) j _ (by omega) M.out.nodes).mono ?_
    intro e w2 hh
    cases hco : codeO l j with
    | none =>
      rw [hco] at hh
      obtain ⟨rfl, hb2⟩ := hh
      have HCO := Lib.hid hco
      have HB2 := Lib.hid hb2
      have hs2 := hb2.size
      have HG2 := Lib.hid (HG1.out.below hb2 HG1.out.lt)
      clear hco hb2
      go_wp2_with fail
      refine (awake_yes _ HG2.out).mono ?_
      rintro e w3 ⟨rfl, hb3⟩
      have HB3 := Lib.hid hb3
      have hs3 := hb3.size
      have HG3 := Lib.hid (HG2.out.below hb3 HG2.out.lt)
      clear hb3
      go_wp2_with fail
      refine (code_err l vs j _ _ w1.heap.size M.out.val (M.out.rep.below (HB2.out.trans (HB3.out.mono hs2))) (by omega) HG3.out).mono ?_
      rw [HCO.out]
      rintro e w4 ⟨rfl, hb4⟩
      have HB4 := Lib.hid hb4
      clear hb4
      go_wp2_with fail
      go_ret
      exact ⟨rfl, M.out.bel.trans ((HB2.out.mono hs1).trans ((HB3.out.mono (by omega)).trans (HB4.out.mono (by omega))))⟩
    | some cc =>
      rw [hco] at hh
      obtain ⟨rfl, hb2⟩ := hh
      have HCO := Lib.hid hco
      have HB2 := Lib.hid hb2
      have hs2 := hb2.size
      have HG2 := Lib.hid (HG1.out.below hb2 HG1.out.lt)
      clear hco hb2
      go_wp2_with fail
      refine (awake_yes _ HG2.out).mono ?_
      rintro e w3 ⟨rfl, hb3⟩
      have HB3 := Lib.hid hb3
      have hs3 := hb3.size
      have HG3 := Lib.hid (HG2.out.below hb3 HG2.out.lt)
      clear hb3
      go_wp2_with fail
      refine (code_err l vs j _ _ w1.heap.size M.out.val (M.out.rep.below (HB2.out.trans (HB3.out.mono hs2))) (by omega) HG3.out).mono ?_
      rw [HCO.out]
      rintro e w4 ⟨rfl, hb4⟩
      have HB4 := Lib.hid hb4
      clear hb4
      go_wp2_with fail
      go_ret
      exact ⟨rfl, M.out.bel.trans ((HB2.out.mono hs1).trans ((HB3.out.mono (by omega)).trans (HB4.out.mono (by omega))))⟩

/-! ### FaultHas -/
set_option maxHeartbeats 2000000 in
set_option maxRecDepth 100000 in
theorem has_none (A : Option Addr) (cap : Nat) (q : Int) (w : World) (hg : LaidT w) : Calls Tryd.prog 7 #[.slice A 0 cap, .int .i64 q] w fun r w' => r = .returned (.bool true) ∧ Below w.heap.size w w' := by
  have HG := Lib.hid hg
  clear hg
  go_enter Tryd.func7, Tryd.ntmps7
  go_wp2_with fail
  refine (few_nil A cap _).mono ?_
  rintro e w' ⟨rfl, rfl⟩
  go_wp2_with fail
  refine (made_none A cap _).mono ?_
  intro e w1 hmd
  obtain ⟨rfl, hb⟩ := hmd.none
  have HB := Lib.hid hb
  have HG1 := Lib.hid (HG.out.below hb HG.out.lt)
  have hs := hb.size
  clear hb
  go_wp2_with fail
  refine (awake_yes _ HG1.out).mono ?_
  rintro e w2 ⟨rfl, hb2⟩
  have HB2 := Lib.hid hb2
  clear hb2
  go_wp2_with fail
  refine (has_nil q _).mono ?_
  rintro e w' ⟨rfl, rfl⟩
  generalize hqq : (q == 0) = bb at *
  cases bb
  · go_wp2_with fail
    go_ret
    exact ⟨rfl, HB.out.trans (HB2.out.mono hs)⟩
  · go_wp2_with fail
    go_ret
    exact ⟨rfl, HB.out.trans (HB2.out.mono hs)⟩

set_option maxHeartbeats 2000000 in
set_option maxRecDepth 100000 in
theorem has_some (b off n cap : Nat) (ps : List Pt) (q : Int) (w : World) (hg : LaidT w) (hl : ps.length = n) (h1 : 0 < n) (hm : n ≤ maxLen) (hp : Parts w b off ps) :
    Calls Tryd.prog 7 #[.slice (some ⟨b, off, none⟩) n cap, .int .i64 q] w fun r w' => r = .returned (.bool true) ∧ Below w.heap.size w w' := by
  have HG := Lib.hid hg
  have HP := Lib.hid hp
  have HL := Lib.hid hl
  have HM := Lib.hid hm
  clear hg hp hl hm
  go_enter Tryd.func7, Tryd.ntmps7
  go_wp2_with fail
  refine (few_some b off n cap ps _ HL.out HM.out HP.out).mono ?_
  rintro e w' ⟨q', rfl, rfl⟩
  cases q'
  · go_wp2_with fail
    refine (awake_yes _ HG.out).mono ?_
    rintro e w2 ⟨rfl, hb2⟩
    have HB2 := Lib.hid hb2
    clear hb2
    go_wp2_with fail
    go_ret
    exact ⟨rfl, HB2.out⟩
  · go_wp2_with fail
    refine (made_some b off n cap ps _ HL.out h1 HM.out HP.out).mono ?_
    intro e w1 hmd
    obtain ⟨j, l, vs, t, y, g, c1, rfl, M0⟩ := hmd.some (by omega) (by omega)
    have M := Lib.hid M0
    have HG1 := Lib.hid (HG.out.below M0.bel HG.out.lt)
    have hs1 := M0.bel.size
    have hj := M0.lt
    have hkw : IntKind.i64.wrap ((j : Int) + 1 - 1) = (j : Int) := by rw [IntKind.wrap_i64]; omega
    clear hmd M0
    go_wp2_with fail
    refine (awake_yes _ HG1.out).mono ?_
    rintro e w2 ⟨rfl, hb2⟩
    have HB2 := Lib.hid hb2
    have hs2 := hb2.size
    clear hb2
    go_wp2_with fail
    refine (has_err l vs q j _ _ w1.heap.size M.out.val (M.out.rep.below HB2.out)).mono ?_
    rintro e w' ⟨rfl, rfl⟩
    generalize hqq : hasO l q j = bb
    have HQ := Lib.hid hqq
    clear hqq
    go_wp2_with fail
    refine (ref_has l g (j + 1) c1 q M.out.rep.down M.out.len M.out.kids (by omega) j _ (by omega) (M.out.nodes.below HB2.out)).mono ?_
    rw [HQ.out]
    rintro e w3 ⟨rfl, hb3⟩
    have HB3 := Lib.hid hb3
    clear hb3
    go_wp2_with fail
    go_ret
    exact ⟨rfl, M.out.bel.trans ((HB2.out.mono hs1).trans (HB3.out.mono (by omega)))⟩
end Go.Proofs.YtkkfolbidclonaaDoor.er
