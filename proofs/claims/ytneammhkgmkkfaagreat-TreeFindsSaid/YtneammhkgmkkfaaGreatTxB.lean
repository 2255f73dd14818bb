/- Rows whose block may be longer than they; nodes in a world. -/
import Derived.Test.YtneammhkgmkkfaaGreatTxA
import Derived.Laws.IdiomCopy
namespace Go.Proofs.YtneammhkgmkkfaaGreat.tr
open Go.RowKit Go.Proofs.YtneammhkgmkkfaaGreat.er
set_option linter.unusedVariables false
set_option linter.unusedSimpArgs false

/-- A row of so many cells an element, at a block's beginning; c: its capacity. -/
structure Row (w : World) (g c k : Nat) (t : TypeId) (xs : List Value) : Prop where
  blk : ∃ cs, Whole w g t cs ∧ c * k ≤ cs.size ∧ cs.toList.take xs.length = xs
  cap : c ≤ maxLen
  fit : xs.length ≤ c * k
theorem Row.lt {w : World} {g c k : Nat} {t : TypeId} {xs : List Value} (h : Row w g c k t xs) : g < w.heap.size := by
  obtain ⟨cs, hw, _⟩ := h.blk
  exact hw.lt
theorem Row.keep {F : Nat → Prop} {w w' : World} {g c k : Nat} {t : TypeId} {xs : List Value} (h : Row w g c k t xs) (hk : Keep F w w') (hF : ¬ F g) : Row w' g c k t xs := by
  obtain ⟨cs, hw, h1, h2⟩ := h.blk
  exact ⟨⟨cs, hw.keep hk hF, h1, h2⟩, h.cap, h.fit⟩
theorem Row.cell {w : World} {g c k : Nat} {t : TypeId} {xs : List Value} (h : Row w g c k t xs) {j : Nat} {v : Value} (hj : xs[j]? = some v) : w.cell? ⟨g, j, none⟩ = some v := by
  obtain ⟨cs, hw, h1, h2⟩ := h.blk
  rw [hw.cell]
  have hl : j < xs.length := (List.getElem?_eq_some_iff.1 hj).1
  rw [← h2] at hj
  rw [List.getElem?_take_of_lt hl] at hj
  simpa using hj
theorem Row.room {w : World} {g c k : Nat} {t : TypeId} {xs : List Value} (h : Row w g c k t xs) {j : Nat} (hj : j < c * k) : (w.cell? ⟨g, j, none⟩).isSome = true := by
  obtain ⟨cs, hw, h1, h2⟩ := h.blk
  rw [hw.cell]
  have : j < cs.size := by omega
  simp [this]
theorem Row.fz {w : World} {g c k : Nat} {t : TypeId} {xs : List Value} (h : Row w g c k t xs) (j : Nat) : w.frozen? ⟨g, j, none⟩ = false := by
  obtain ⟨cs, hw, h1, h2⟩ := h.blk
  exact hw.fz j
theorem Row.own {w : World} {B k n : Nat} {t : TypeId} {v : Value} {xs : List Value} (h : w.ownsRow B t k v n xs) (hn : 0 < n) : ∃ g c, v = .slice (some ⟨g, 0, none⟩) n c ∧ Row w g c k t xs ∧ B ≤ g := by
  obtain ⟨hl, h | ⟨g, cap, cur, h1, h2, h3, h4, h5, h6, h7⟩⟩ := h
  · omega
  · refine ⟨g, cap, h1, ⟨⟨cur, h3, by omega, by rw [hl]; exact h7⟩, h5, ?_⟩, h2⟩
    rw [hl]
    exact Nat.mul_le_mul_right k h4
/-- A node in a world: the blocks that are its own and its kids'. -/
def NdAt (w : World) : {h : Nat} → List Nat → Value → Nd h → Prop
  | 0, F, v, n => ∃ b g c, F = [b, g] ∧ v = .iface 134 (.pointer (some ⟨b, 0, none⟩)) ∧ Whole w b 138 #[.int .i64 (Nd.at_ n), .slice (some ⟨g, 0, none⟩) (Nd.l n).length c] ∧ Row w g c 4 39 (extCells (Nd.l n))
  | h + 1, F, v, n => ∃ b g c, ∃ ds : List (List Nat × Value × Nd h), F = b :: g :: ds.flatMap (fun d => d.1) ∧ v = .iface 81 (.pointer (some ⟨b, 0, none⟩)) ∧ Whole w b 85 #[.int .i64 (Nd.at_ n), .slice (some ⟨g, 0, none⟩) (Nd.ks n).length c] ∧ Nd.ks n = ds.map (fun d => d.2.2) ∧ Row w g c 1 78 (ds.map fun d => d.2.1) ∧ ∀ d ∈ ds, NdAt w d.1 d.2.1 d.2.2
theorem NdAt.keep {G : Nat → Prop} {w w' : World} (hk : Keep G w w') : ∀ {h : Nat} {F : List Nat} {v : Value} {n : Nd h}, NdAt w F v n → (∀ k ∈ F, ¬ G k) → NdAt w' F v n
  | 0, F, v, n, ⟨b, g, c, h1, h2, h3, h4⟩, hF => by
    subst h1
    exact ⟨b, g, c, rfl, h2, h3.keep hk (hF b (by simp)), h4.keep hk (hF g (by simp))⟩
  | h + 1, F, v, n, ⟨b, g, c, ds, h1, h2, h3, h4, h5, h6⟩, hF => by
    subst h1
    exact ⟨b, g, c, ds, rfl, h2, h3.keep hk (hF b (by simp)), h4, h5.keep hk (hF g (by simp)), fun d hd => NdAt.keep hk (h6 d hd) (fun k hm => hF k (by
      simp only [List.mem_cons, List.mem_flatMap]
      exact .inr (.inr ⟨d, hd, hm⟩)))⟩
theorem NdAt.lt {w : World} : ∀ {h : Nat} {F : List Nat} {v : Value} {n : Nd h}, NdAt w F v n → ∀ k ∈ F, k < w.heap.size
  | 0, F, v, n, ⟨b, g, c, h1, h2, h3, h4⟩, k, hk => by
    subst h1
    simp only [List.mem_cons, List.not_mem_nil, or_false] at hk
    rcases hk with rfl | rfl
    · exact h3.lt
    · exact h4.lt
  | h + 1, F, v, n, ⟨b, g, c, ds, h1, h2, h3, h4, h5, h6⟩, k, hk => by
    subst h1
    simp only [List.mem_cons, List.mem_flatMap] at hk
    rcases hk with rfl | rfl | ⟨d, hd, hm⟩
    · exact h3.lt
    · exact h5.lt
    · exact NdAt.lt (h6 d hd) k hm
/-- A node in a world, all of whose blocks are different ones. -/
structure NdIn (w : World) {h : Nat} (F : List Nat) (v : Value) (n : Nd h) : Prop where
  at_ : NdAt w F v n
  nd : F.Nodup
end Go.Proofs.YtneammhkgmkkfaaGreat.tr
