/- The page's example (awake) of layer 3; small trees; what the condition on errors.errorType gives. -/
import Derived.Test.YtkkfolbidclonaaDoorErF
import Derived.Test.YtkkfolbidclonaaDoorErG
namespace Go.Proofs.YtkkfolbidclonaaDoor.er
open Go.RowKit
set_option linter.unusedVariables false

abbrev ndCode (c : Int) : Nd := ⟨0, c, ByteArray.empty, 0, []⟩
abbrev ndStep (op : ByteArray) (k : Int) (i : Nat) : Nd := ⟨1, 0, op, k, [i]⟩
theorem rep_code (w : World) (B : Nat) (c : Int) : Rep w B [ndCode c] [.iface 30 (.int .i64 c)] :=
  (Rep.nil w B).push (n := ndCode c) (by simp) (.inl ⟨rfl, rfl, rfl⟩)
/-- One wrap more, around the node i. -/
theorem Rep.wrap {w : World} {B : Nat} {l : List Nd} {vs : List Value} (h : Rep w B l vs) (hB : B ≤ w.heap.size) (op : ByteArray) (k : Int) {i : Nat} {x : Value} (hx : vs[i]? = some x) :
    Rep (w.alloc (.cells #[.string op, .int .i64 k, x] 59)) (w.heap.size + 1) (l ++ [ndStep op k i]) (vs ++ [.iface 56 (.pointer (some ⟨w.heap.size, 0, none⟩))]) := by
  have hi : i < l.length := by rw [← h.len]; exact (List.getElem?_eq_some_iff.1 hx).1
  refine (h.keep (B' := w.heap.size + 1) (by omega) (fun j hj => Below.heap_alloc _ _ _ (by omega))).push (by simpa using hi) (.inr (.inl ⟨rfl, w.heap.size, i, x, by omega, rfl, hx, rfl, heap_alloc_new w _⟩))

theorem code_wrap1 (c : Int) (op : ByteArray) (k : Int) : codeO [ndCode c, ndStep op k 0] 1 = some c := by simp [codeO, codeF]
theorem has_wrap1 (c q : Int) (op : ByteArray) (k : Int) : hasO [ndCode c, ndStep op k 0] q 1 = (c == q) := by simp [hasO, hasF]
theorem trail_wrap1 (c : Int) (op : ByteArray) (k : Int) : trailO [ndCode c, ndStep op k 0] 1 = [1] := by simp [trailO, trailF, firstO, firstF]
theorem cells_wrap1 (c : Int) (op : ByteArray) (k : Int) : stepCells [ndCode c, ndStep op k 0] [1] = [.string op, .int .i64 k] := by simp [stepCells]

theorem own_one {w : World} {base : Nat} {e : TypeId} {size : Nat} {v : Value} {n : Nat} {xs : List Value} (h : w.ownsRow base e size v n xs) (hn : 0 < n) :
    ∃ g cap, v = .slice (some ⟨g, 0, none⟩) n cap ∧ base ≤ g ∧ ∀ j u, xs[j]? = some u → w.cell? ⟨g, j, none⟩ = some u := by
  rcases h.2 with ⟨_, h2⟩ | ⟨g, cap, cur, h1, h2, h3, h4, h5, h6, h7⟩
  · omega
  · subst h1
    refine ⟨g, cap, rfl, h2, fun j u hu => ?_⟩
    have := h.cells (g := g) rfl j u hu
    have e : (⟨g, 0, none⟩ : Addr).add j = ⟨g, j, none⟩ := by unfold Addr.add; split <;> simp_all
    rwa [e] at this

set_option maxHeartbeats 2000000 in
set_option maxRecDepth 100000 in
theorem awake_yes (w : World) (hg : LaidT w) : Calls Tryd.prog 10 #[] w fun e w' => e = .returned (.bool true) ∧ Below w.heap.size w w' := by
  have h0 := hg.lt
  have hb0 : Below w.heap.size w (w.alloc (.cells #[.string ⟨#[114, 101, 97, 100]⟩, .int .i64 7, .iface 30 (.int .i64 4)] 59)) := (Below.refl _ _).alloc (Nat.le_refl _) _
  have HG1 := Lib.hid (hg.below hb0 h0)
  have REP : Hid (Rep (w.alloc (.cells #[.string ⟨#[114, 101, 97, 100]⟩, .int .i64 7, .iface 30 (.int .i64 4)] 59)) (w.heap.size + 1) [ndCode 4, ndStep ⟨#[114, 101, 97, 100]⟩ 7 0] [.iface 30 (.int .i64 4), .iface 56 (.pointer (some ⟨w.heap.size, 0, none⟩))]) :=
    (rep_code w w.heap.size 4).wrap (Nat.le_refl _) ⟨#[114, 101, 97, 100]⟩ 7 (i := 0) rfl
  have HB0 := Lib.hid hb0
  have TR : Hid (∀ W, W = w.alloc (.cells #[.string ⟨#[114, 101, 97, 100]⟩, .int .i64 7, .iface 30 (.int .i64 4)] 59) →
      Calls Tryd.prog 14 #[.iface 56 (.pointer (some ⟨w.heap.size, 0, none⟩))] W fun e w' => ∃ g cap, e = .returned (.slice (some ⟨g, 0, none⟩) 1 cap) ∧ g < w'.heap.size ∧ w'.cell? ⟨g, 0, none⟩ = some (.string ⟨#[114, 101, 97, 100]⟩) ∧ w'.cell? ⟨g, 1, none⟩ = some (.int .i64 7) ∧ Below W.heap.size W w') := fun W hW => by
    subst hW
    refine (trail_err _ _ 1 _ _ (w.heap.size + 1) rfl REP.out (by simp) HG1.out (by omega)).mono ?_
    rintro e w' ⟨s, rfl, hown, hb⟩
    rw [trail_wrap1, cells_wrap1] at hown
    obtain ⟨g, cap, rfl, _, hc⟩ := own_one hown (by simp)
    exact ⟨g, cap, rfl, World.block_lt_of_cell? _ _ (hc 0 _ rfl), hc 0 _ rfl, hc 1 _ rfl, hb⟩
  clear hb0 hg
  go_enter Tryd.func10, Tryd.ntmps10
  go_wp2_with fail
  refine (wrap_err _ _ _ _ _).mono ?_
  rintro e w' ⟨rfl, rfl⟩
  go_wp2_with fail
  refine (TR.out _ rfl).mono ?_
  rintro e w2 ⟨g, cap, rfl, hgl, hc0, hc1, hb2⟩
  have REP2 := Lib.hid (REP.out.below (hb2.mono (by simp)))
  have HG2 := Lib.hid (HG1.out.below hb2 (by simp))
  have hs2 := hb2.size
  simp at hs2
  have HB2 := Lib.hid hb2
  clear hb2
  go_wp2_with fail
  refine (code_err _ _ 1 _ _ (w.heap.size + 1) rfl REP2.out hs2 HG2.out).mono ?_
  rw [code_wrap1]
  rintro e w3 ⟨rfl, hb3⟩
  have d0 := below_c hb3 hc0
  have d1 := below_c hb3 hc1
  have HB3 := Lib.hid hb3
  clear hb3 hc0 hc1
  go_wp2_with fail
  refine (code_nil _).mono ?_
  rintro e w' ⟨rfl, rfl⟩
  go_wp2_with fail
  go_ret
  have hs3 := HB3.out.size
  exact ⟨rfl, HB0.out.trans ((HB2.out.mono (by simp)).trans (HB3.out.mono (by omega)))⟩
end Go.Proofs.YtkkfolbidclonaaDoor.er
