/- Cells laid into a block; copies of elements of some cells. -/
import Derived.Test.YtneammhkgmkkfaaGreatTyF
import Derived.Lib.AppendZerosOnto
import Derived.Lib.Overlaps
import Derived.Laws.IdiomCopy
import Derived.Laws.Externs
import Derived.Laws.NewBlocks
import Derived.Deep.AppendSrc
import Derived.Lib.SliceRun
namespace Go.Proofs.YtneammhkgmkkfaaGreat.tr
open Go.RowKit Go.Proofs.YtneammhkgmkkfaaGreat.er
set_option linter.unusedVariables false
set_option linter.unusedSimpArgs false

theorem run_copyK {P : Program} (w : World) (dT sT ty elem : TypeId) (i : TypeInfo) (k : Nat) (b o dLen dCap : Nat) (a : Addr) (sLen sCap : Nat) (m : Nat) (cs : List Value)
    (hu : P.underlying dT = some (.slice elem)) (hi : P.info? elem = some i) (hk : i.size = k) (hm : Nat.min sLen dLen = m) (hn : cs.length = m * k)
    (hsrc : ∀ j v, cs[j]? = some v → w.cell? (a.add j) = some v) (hc : ∀ j, j < cs.length → (w.cell? ⟨b, o + j, none⟩).isSome = true) (hf : ∀ j, j < cs.length → w.frozen? ⟨b, o + j, none⟩ = false) (h1 : ∀ v ∈ cs, v.oneCell' = true) :
    (Builtin.copy_ #[dT, sT] ty #[.slice (some ⟨b, o, none⟩) dLen dCap, .slice (some a) sLen sCap]).run P w = .ok (goInt m) (w.setCells b o cs) := by
  have hl := run_loadCells_list (P := P) w a cs hsrc
  have hst := run_storeCells_cells (P := P) b o cs 0 w (by simpa using hc) (by simpa using hf) h1
  simp [Builtin.copy_, run_underlying hu, Builtin.lenOf, Builtin.firstCells, sizeOf, typeInfo, hi, hk, hm, ← hn, hl, hst]
theorem wp_copyK {P : Program} (w : World) {o : Oper} {a : Act} {K : Act → World → Prop} {Q : Exit → Act → World → Prop} (d s : Operand) (t t' : TypeId)
    (ho : o.op = .call { callee := .builtin .copy, args := #[d, s], argTypes := #[t, t'] }) (v u : Value) (hd : a.eval d = v) (hs : a.eval s = u) {v' : Value} {w' : World}
    (hr : (Builtin.copy_ #[t, t'] o.type #[v, u]).run P w = .ok v' w') (h : K (a.put o.dst v') w') : o.wp P a w K Q := by
  unfold Oper.wp execOp
  simp only [ho, resolve, invoke, builtin, Sem.run_bind, Sem.run_pure, Result.andThen_ok, List.map_toArray, List.map_cons, List.map_nil, hd, hs, hr]
  exact h
theorem wpList_copyK {P : Program} (w : World) {ops : Array Oper} {rest : List Oper} {o : Oper} {a : Act} {Q : Exit → Act → World → Prop} (hgd : o.guard = none) (d s : Operand) (t t' : TypeId)
    (ho : o.op = .call { callee := .builtin .copy, args := #[d, s], argTypes := #[t, t'] }) (v u : Value) (hd : a.eval d = v) (hs : a.eval s = u) {v' : Value} {w' : World}
    (hr : (Builtin.copy_ #[t, t'] o.type #[v, u]).run P w = .ok v' w') (h : wpList P ops Q rest (a.put o.dst v') w') : wpList P ops Q (o :: rest) a w :=
  wpList_plain hgd fun _ hK => wp_copyK w d s t t' ho v u hd hs hr (hK _ _ h)
theorem step_copyK {P : Program} {ops : Array Oper} {o : Oper} {a : Act} {w : World} {K : Act → World → Prop} {Q : Exit → Act → World → Prop} {E : Prop}
    (hg : o.guard = none) (d x : Operand) (dT sT : TypeId) (hop : o.op = Op.call { callee := Callee.builtin Builtin.copy, args := #[d, x], argTypes := #[dT, sT] })
    (v u : Value) (hd : a.eval d = v) (hx : a.eval x = u) {v' : Value} {w' : World} (hr : (Builtin.copy_ #[dT, sT] o.type #[v, u]).run P w = .ok v' w') (hK : K (a.put o.dst v') w') :
    if Region.wanted o (yielded ops a.tmps) = true then Oper.wp P o a w K Q else E := by
  have hw : Region.wanted o (yielded ops a.tmps) = true := by simp [Region.wanted, hg]
  rw [if_pos hw]
  unfold Oper.wp
  simp [execOp, hop, resolve, invoke, builtin, hd, hx, hr, Result.andThen]
  exact hK
/-- A block into which cells have been laid. -/
structure LaidIn (cs : Array Value) (o : Nat) (vs : List Value) (cs' : Array Value) : Prop where
  size : cs'.size = cs.size
  front : ∀ j, j < o → cs'[j]? = cs[j]?
  mid : ∀ j, j < vs.length → o + j < cs.size → cs'[o + j]? = vs[j]?
  back : ∀ j, o + vs.length ≤ j → cs'[j]? = cs[j]?
theorem whole_setCells {g : Nat} {t : TypeId} : ∀ (vs : List Value) (o : Nat) (w : World) (cs : Array Value), Whole w g t cs → ∃ cs', Whole (w.setCells g o vs) g t cs' ∧ LaidIn cs o vs cs'
  | [], o, w, cs, h => ⟨cs, h, rfl, fun _ _ => rfl, fun j hj => by simp at hj, fun _ _ => rfl⟩
  | v :: r, o, w, cs, h => by
    obtain ⟨cs', h1, h2, h3, h4, h5⟩ := whole_setCells r (o + 1) (w.setCell ⟨g, o, none⟩ v) _ (h.set o v)
    rw [World.setCells]
    refine ⟨cs', h1, by rw [h2]; simp, fun j hj => ?_, fun j hj hl => ?_, fun j hj => ?_⟩
    · rw [h3 j (by omega), Array.getElem?_setIfInBounds_ne (by omega)]
    · cases j with
      | zero =>
        rw [h3 (o + 0) (by omega)]
        simp at hl
        simp [hl]
      | succ j =>
        have := h4 j (by simpa using hj) (by simp; omega)
        rw [show o + (j + 1) = o + 1 + j by omega, this]
        simp
    · rw [h5 j (by simp at hj ⊢; omega), Array.getElem?_setIfInBounds_ne (by simp at hj; omega)]
theorem keep_setCells {G : Nat → Prop} {g : Nat} : ∀ (vs : List Value) (o : Nat) (a w : World), Keep G a w → (G g ∨ a.heap.size ≤ g) → Keep G a (w.setCells g o vs)
  | [], o, a, w, h, _ => h
  | v :: r, o, a, w, h, hg => keep_setCells r (o + 1) a _ (h.setCell (p := ⟨g, o, none⟩) hg v) hg
theorem Row.of {w : World} {g c k : Nat} {t : TypeId} {xs : List Value} {cs : Array Value} (h : Whole w g t cs) (h1 : c * k ≤ cs.size) (h2 : c ≤ maxLen) (h3 : xs.length ≤ c * k) (h4 : ∀ j, j < xs.length → cs[j]? = xs[j]?) : Row w g c k t xs := by
  refine ⟨⟨cs, h, h1, ?_⟩, h2, h3⟩
  refine List.ext_getElem? fun j => ?_
  rw [List.getElem?_take]
  by_cases hj : j < xs.length
  · rw [if_pos hj, ← h4 j hj]; simp
  · rw [if_neg hj, List.getElem?_eq_none (by omega)]
/-- Cells laid between the two parts of a row. -/
theorem row_mid {cs cs1 cs2 : Array Value} {xs ys : List Value} {o : Nat} (ho : o ≤ xs.length) (h0 : cs.toList.take xs.length = xs) (h1 : LaidIn cs (o + ys.length) (xs.drop o) cs1) (h2 : LaidIn cs1 o ys cs2) (hs : xs.length + ys.length ≤ cs.size) :
    ∀ j, j < (xs.take o ++ ys ++ xs.drop o).length → cs2[j]? = (xs.take o ++ ys ++ xs.drop o)[j]? := by
  intro j hj
  have hto : (xs.take o).length = o := by rw [List.length_take]; omega
  have hdl : (xs.drop o).length = xs.length - o := List.length_drop
  by_cases a : j < o
  · rw [h2.front j a, h1.front j (by omega), List.append_assoc, List.getElem?_append_left (by omega), List.getElem?_take_of_lt a]
    have : (cs.toList.take xs.length)[j]? = xs[j]? := by rw [h0]
    rw [List.getElem?_take_of_lt (by omega)] at this
    simpa using this
  · by_cases b : j < o + ys.length
    · obtain ⟨d, rfl⟩ : ∃ d, j = o + d := ⟨j - o, by omega⟩
      rw [h2.mid d (by omega) (by rw [h1.size]; omega), List.append_assoc, List.getElem?_append_right (by omega), hto, List.getElem?_append_left (by omega)]
      congr 1; omega
    · obtain ⟨d, rfl⟩ : ∃ d, j = o + ys.length + d := ⟨j - (o + ys.length), by omega⟩
      have hd : d < (xs.drop o).length := by simp at hj; omega
      rw [h2.back _ (by omega), h1.mid d hd (by omega), List.getElem?_append_right (by rw [List.length_append, hto]; omega)]
      congr 1
      rw [List.length_append, hto]; omega
def InsRet (T : TypeId) (k g n : Nat) (ys : List Value) (w : World) (e : Ending) (w' : World) : Prop := ∃ g' c', e = .returned (.slice (some ⟨g', 0, none⟩) (n + 1) c') ∧ Row w' g' c' k T ys ∧ Keep (fun b => b = g) w w' ∧ (g' = g ∨ w.heap.size ≤ g')
/-- In place: what stood behind is laid anew, then what comes. -/
theorem ins_place {T : TypeId} {k g c n i : Nat} {xs ys : List Value} {w w1 : World} (h : Row w g c k T xs) (hn : xs.length = n * k) (hy : ys.length = 1 * k) (hi : i ≤ n) (hc : n + 1 ≤ c) (hw : w1.heap = w.heap ∧ w1.os = w.os ∧ w1.tape = w.tape ∧ w1.output = w.output) :
    InsRet T k g n (xs.take (i * k) ++ ys ++ xs.drop (i * k)) w (.returned (.slice (some ⟨g, 0, none⟩) (n + 1) c)) ((w1.setCells g ((i + 1) * k) (xs.drop (i * k))).setCells g (i * k) ys) := by
  obtain ⟨cs, hb, h1, h2⟩ := h.blk
  have hb1 : Whole w1 g T cs := by unfold Whole at hb ⊢; rw [hw.1]; exact hb
  obtain ⟨cs1, hb2, hl1⟩ := whole_setCells (xs.drop (i * k)) ((i + 1) * k) w1 cs hb1
  obtain ⟨cs2, hb3, hl2⟩ := whole_setCells ys (i * k) _ cs1 hb2
  have hik : i * k ≤ n * k := Nat.mul_le_mul_right k hi
  have hck : (n + 1) * k ≤ c * k := Nat.mul_le_mul_right k hc
  rw [Nat.add_mul] at hck
  have e1 : (i + 1) * k = i * k + ys.length := by rw [Nat.add_mul, hy]
  rw [e1] at hl1
  have hm := row_mid (o := i * k) (by omega) h2 hl1 hl2 (by omega)
  have hk1 : Keep (fun b => b = g) w w1 := ⟨hw.2.1, hw.2.2.1, hw.2.2.2, by rw [hw.1]; exact Nat.le_refl _, fun j _ _ => by rw [hw.1]⟩
  refine ⟨g, c, rfl, Row.of hb3 (by rw [hl2.size, hl1.size]; exact h1) h.cap ?_ hm, keep_setCells _ _ _ _ (keep_setCells _ _ _ _ hk1 (.inl rfl)) (.inl rfl), .inl rfl⟩
  simp only [List.length_append, List.length_take, List.length_drop]
  omega
end Go.Proofs.YtneammhkgmkkfaaGreat.tr
