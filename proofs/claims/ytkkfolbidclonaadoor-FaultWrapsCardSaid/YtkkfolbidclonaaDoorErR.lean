/- FaultTrails of layer 3. -/
import Derived.Test.YtkkfolbidclonaaDoorErQ
namespace Go.Proofs.YtkkfolbidclonaaDoor.er
open Go.RowKit
set_option linter.unusedVariables false

theorem cells_at (l : List Nd) : ∀ (xs : List Nat) (i x : Nat) (n : Nd), xs[i]? = some x → l[x]? = some n → (stepCells l xs)[i * 2]? = some (.string n.op) ∧ (stepCells l xs)[i * 2 + 1]? = some (.int .i64 n.at_)
  | [], _, _, _, h, _ => by simp at h
  | y :: r, 0, x, n, h, hn => by
    simp at h
    subst h
    simp [stepCells, hn]
  | y :: r, i + 1, x, n, h, hn => by
    have ih := cells_at l r i x n (by simpa using h) hn
    have e : stepCells l (y :: r) = (match l[y]? with | some n => [.string n.op, .int .i64 n.at_] | none => [.string ByteArray.empty, .int .i64 0]) ++ stepCells l r := by rfl
    have e2 : (match l[y]? with | some n => [Value.string n.op, .int .i64 n.at_] | none => [.string ByteArray.empty, .int .i64 0]).length = 2 := by cases l[y]? <;> rfl
    rw [e, List.getElem?_append_right (by rw [e2]; omega), List.getElem?_append_right (by rw [e2]; omega), e2]
    rw [show (i + 1) * 2 - 2 = i * 2 from by omega, show (i + 1) * 2 + 1 - 2 = i * 2 + 1 from by omega]
    exact ih
theorem trailO_mem {l : List Nd} (hd : Down l) (hS : ∀ (i : Nat) (nd : Nd), l[i]? = some nd → nd.kind = 1 → ∃ k, nd.kids = [k]) : ∀ (i : Nat), (trailO l i).length ≤ i + 1 ∧ ∀ x ∈ trailO l i, x ≤ i ∧ ∃ nd, l[x]? = some nd := by
  intro i
  induction i using Nat.strongRecOn with
  | _ i ih =>
    cases ho : firstO l i with
    | none => rw [trailO_none ho]; simp
    | some x =>
      obtain ⟨hx, nd, hnd, hk⟩ := firstO_kind hd i x ho
      obtain ⟨k, hk2⟩ := hS x nd hnd hk
      have hkx : k < x := hd x nd hnd k (by rw [hk2]; simp)
      obtain ⟨h1, h2⟩ := ih k (by omega)
      rw [trailO_some hd ho hnd hk2]
      refine ⟨by simp; omega, fun z hz => ?_⟩
      rcases List.mem_cons.1 hz with rfl | hz
      · exact ⟨hx, nd, hnd⟩
      · obtain ⟨h3, h4⟩ := h2 z hz
        exact ⟨by omega, h4⟩
set_option maxHeartbeats 2000000 in
set_option maxRecDepth 100000 in
theorem trail_nil (w : World) : Calls Tryd.prog 14 #[.nilIface] w fun e w' => e = .returned (.slice none 0 0) ∧ Below w.heap.size w w' := by
  go_enter Tryd.func14, Tryd.ntmps14
  go_wp2
  refine wp_loop_rounds 1 ?_
  rw [rounds_succ]
  go_wp2
  go_ret
  exact ⟨rfl, (Below.refl _ _).alloc (Nat.le_refl _) _⟩
set_option maxHeartbeats 2000000 in
set_option maxRecDepth 100000 in
theorem trails_none (A : Option Addr) (cap : Nat) (w : World) (hg : LaidT w) : Calls Tryd.prog 4 #[.slice A 0 cap] w fun r w' => r = .returned (.bool true) ∧ Below w.heap.size w w' := by
  have HG := Lib.hid hg
  clear hg
  go_enter Tryd.func4, Tryd.ntmps4
  go_wp2_with fail
  refine (few_nil A cap _).mono ?_
  rintro e w' ⟨rfl, rfl⟩
  go_wp2_with fail
  refine (made_none A cap _).mono ?_
  intro e w1 hmd
  obtain ⟨rfl, hb⟩ := hmd.none
  have HB := Lib.hid hb
  have HG1 := Lib.hid (HG.out.below hb HG.out.lt)
  have hs := hb.size
  clear hb
  go_wp2_with fail
  refine (trail_nil _).mono ?_
  rintro e w2 ⟨rfl, hb2⟩
  have HB2 := Lib.hid hb2
  have HG2 := Lib.hid (HG1.out.below hb2 HG1.out.lt)
  have hs2 := hb2.size
  clear hb2
  go_wp2_with fail
  refine (awake_yes _ HG2.out).mono ?_
  rintro e w3 ⟨rfl, hb3⟩
  have HB3 := Lib.hid hb3
  clear hb3
  go_wp2_with fail
  go_ret
  exact ⟨rfl, HB.out.trans ((HB2.out.mono hs).trans (HB3.out.mono (by omega)))⟩

set_option maxHeartbeats 4000000 in
set_option maxRecDepth 100000 in
theorem trails_some (b off n cap : Nat) (ps : List Pt) (w : World) (hg : LaidT w) (hl : ps.length = n) (h1 : 0 < n) (hm : n ≤ maxLen) (hp : Parts w b off ps) :
    Calls Tryd.prog 4 #[.slice (some ⟨b, off, none⟩) n cap] w fun r w' => r = .returned (.bool true) ∧ Below w.heap.size w w' := by
  have HG := Lib.hid hg
  have HP := Lib.hid hp
  have HL := Lib.hid hl
  have HM := Lib.hid hm
  clear hg hp hl hm
  go_enter Tryd.func4, Tryd.ntmps4
  go_wp2_with fail
  refine (few_some b off n cap ps _ HL.out HM.out HP.out).mono ?_
  rintro e w' ⟨q, rfl, rfl⟩
  cases q
  · go_wp2_with fail
    refine (awake_yes _ HG.out).mono ?_
    rintro e w2 ⟨rfl, hb2⟩
    have HB2 := Lib.hid hb2
    clear hb2
    go_wp2_with fail
    go_ret
    exact ⟨rfl, HB2.out⟩
  · go_wp2_with fail
    refine (made_some b off n cap ps _ HL.out h1 HM.out HP.out).mono ?_
    intro e w1 hmd
    obtain ⟨j, l, vs, t, y, g, c1, rfl, M0⟩ := hmd.some (by omega) (by omega)
    have M := Lib.hid M0
    have HG1 := Lib.hid (HG.out.below M0.bel HG.out.lt)
    have hs1 := M0.bel.size
    have hj := M0.lt
    have hkw : IntKind.i64.wrap ((j : Int) + 1 - 1) = (j : Int) := by rw [IntKind.wrap_i64]; omega
    clear hmd M0
    go_wp2_with fail
    refine (trail_err l vs j _ _ w1.heap.size M.out.val M.out.rep (Nat.le_refl _) HG1.out (by omega)).mono ?_
    rintro e w2 ⟨s, rfl, hown, hb2⟩
    obtain ⟨A, c, rfl⟩ := own_slice hown
    have HO := Lib.hid hown
    have HB2 := Lib.hid hb2
    have hs2 := hb2.size
    clear hown hb2
    go_wp2_with fail
    refine (ref_trail l g (j + 1) c1 M.out.rep.down M.out.len M.out.kids M.out.step (by omega) j _ (by omega) (M.out.nodes.below HB2.out)).mono ?_
    rintro e w3 ⟨s', rfl, hown', hb3⟩
    obtain ⟨A', c', rfl⟩ := own_slice hown'
    have HO' := Lib.hid hown'
    have HB3 := Lib.hid hb3
    have HO3 := Lib.hid (own_below HO.out hb3)
    have hs3 := hb3.size
    have hbw : Hid (Below w.heap.size w w3) := M.out.bel.trans ((HB2.out.mono hs1).trans (hb3.mono (by omega)))
    have NS := Lib.hid ((M.out.nodes.below HB2.out).below hb3)
    have HG3 := Lib.hid (HG.out.below hbw.out HG.out.lt)
    obtain ⟨hlen, hmem⟩ := trailO_mem M.out.rep.down M.out.step j
    have HMEM := Lib.hid hmem
    clear hown' hb3 HO hmem
    generalize trailO l j = tr at *
    go_wp2_with fail
    go_loopw [7] (fun i wr => ∃ k : Nat, k ≤ tr.length ∧ i = .int .i64 k ∧ ∃ d, wr = w3.drewN d) (fun i _ => tr.length - (intOf i).toNat)
    case atStart => exact ⟨0, Nat.zero_le _, rfl, 0, rfl⟩
    case round =>
      obtain ⟨k, hk, rfl, d, rfl⟩ := hrel
      by_cases hlt : k < tr.length
      · obtain ⟨x, hx⟩ : ∃ x, tr[k]? = some x := ⟨tr[k], List.getElem?_eq_getElem hlt⟩
        obtain ⟨hxj, nd, hnd⟩ := HMEM.out x (List.mem_of_getElem? hx)
        obtain ⟨g1, c1', hA, _, hc⟩ := own_one HO3.out (by omega)
        injection hA with hA hA2 hA3
        subst hA hA3
        clear hA2
        obtain ⟨g2, c2', hA', _, hc'⟩ := own_one HO'.out (by omega)
        injection hA' with hA' hA2' hA3'
        subst hA' hA3'
        clear hA2'
        obtain ⟨e0, e1⟩ := cells_at l tr k x nd hx hnd
        have p0 := hc _ _ e0
        have p1 := hc _ _ e1
        have q0 : w3.cell? ⟨g2, k, none⟩ = some (.int .i64 (x : Int)) := hc' k _ (by simp [ints, hx])
        obtain ⟨kv, _, hcs⟩ := NS.out x nd hnd
        have r0 := hcs 2 _ rfl
        have r1 := hcs 3 _ rfl
        clear e0 e1 hc hc' hcs hnd hx
        generalize nd.op = op at *
        generalize nd.at_ = att at *
        have hk0 : (0 : Int) ≤ (k : Int) := by omega
        have hk1 : (k : Int) < (tr.length : Int) := by omega
        have hx0 : (0 : Int) ≤ (x : Int) := by omega
        have hx1 : (x : Int) < (j : Int) + 1 := by omega
        go_wp2_with fail
        go_quiet (fail)
        go_wp2
        go_roundw
        case rel => exact ⟨k + 1, by omega, by go_num, _, rfl⟩
        case measure => simp [intOf]; omega
      · obtain rfl : tr.length = k := by omega
        have HG4 : Hid (LaidT (w3.drewN d)) := HG3.out
        go_wp2_with (go_at_call 10; refine (awake_yes _ HG4.out).mono ?_; rintro r w4 ⟨rfl, hb4⟩)
        go_ret
        exact ⟨rfl, (below_drewN hbw.out d).trans (hb4.mono (by have := hbw.out.size; simpa using this))⟩
end Go.Proofs.YtkkfolbidclonaaDoor.er
