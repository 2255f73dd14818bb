/- Slices that read as cells; appends onto a row of the call's own. -/
import Derived.Test.YtneammhkgmkkfaaGreatTxB
import Derived.Lib.AppendZeros
import Derived.Maps.AppendAt
import Derived.Lib.SliceRun
namespace Go.Proofs.YtneammhkgmkkfaaGreat.tr
open Go.RowKit Go.Proofs.YtneammhkgmkkfaaGreat.er
set_option linter.unusedVariables false
set_option linter.unusedSimpArgs false

/-- A slice of n elements of k cells each, nil or not, that reads as these cells. -/
def SlAt (w : World) (v : Value) (n k : Nat) (xs : List Value) : Prop :=
  xs.length = n * k ∧ ((v = .slice none 0 0 ∧ n = 0) ∨ ∃ g o c, v = .slice (some ⟨g, o, none⟩) n c ∧ ∀ j u, xs[j]? = some u → w.cell? ⟨g, o + j, none⟩ = some u)
theorem SlAt.keep {w w' : World} {v : Value} {n k : Nat} {xs : List Value} (h : SlAt w v n k xs) (hk : ∀ (a : Addr) u, w.cell? a = some u → w'.cell? a = some u) : SlAt w' v n k xs := by
  obtain ⟨h1, h2 | ⟨g, o, c, h2, h3⟩⟩ := h
  · exact ⟨h1, .inl h2⟩
  · exact ⟨h1, .inr ⟨g, o, c, h2, fun j u hj => hk _ _ (h3 j u hj)⟩⟩
theorem SlAt.below {w w' : World} {v : Value} {n k : Nat} {xs : List Value} (h : SlAt w v n k xs) (hb : Below w.heap.size w w') : SlAt w' v n k xs := h.keep fun a u ha => below_c hb ha
theorem SlAt.own {w : World} {B n k : Nat} {t : TypeId} {v : Value} {xs : List Value} (h : w.ownsRow B t k v n xs) : SlAt w v n k xs := by
  refine ⟨h.1, ?_⟩
  rcases h.2 with ⟨h1, h2⟩ | ⟨g, cap, cur, h1, h2, h3, h4, h5, h6, h7⟩
  · exact .inl ⟨h1, h2⟩
  · refine .inr ⟨g, 0, cap, h1, fun j u hj => ?_⟩
    rw [Nat.zero_add, cell_of_row w g j cur t (0, 0) h3]
    rw [← h7, List.getElem?_take] at hj
    split at hj
    · simpa using hj
    · cases hj
theorem SlAt.row {w : World} {g c n k : Nat} {t : TypeId} {xs : List Value} (h : Row w g c k t xs) (hn : xs.length = n * k) : SlAt w (.slice (some ⟨g, 0, none⟩) n c) n k xs :=
  ⟨hn, .inr ⟨g, 0, c, rfl, fun j u hj => by rw [Nat.zero_add]; exact h.cell hj⟩⟩
theorem SlAt.exts {w : World} {v : Value} {n : Nat} {l : List Ext} (h : SlAt w v n 4 (extCells l)) : ExtsAt w v l ∧ l.length = n := by
  obtain ⟨h1, h2⟩ := h
  have hn : l.length = n := by rw [extCells_len] at h1; omega
  subst hn
  refine ⟨?_, rfl⟩
  rcases h2 with ⟨rfl, h2⟩ | ⟨g, o, c, rfl, h3⟩
  · exact ⟨none, 0, by rw [h2], fun h0 => by omega⟩
  · refine ⟨_, c, rfl, fun _ => ⟨g, o, rfl, fun j e he => ?_⟩⟩
    obtain ⟨k0, k1, k2, k3⟩ := extCells_at l j e he
    exact ⟨h3 _ _ k0, by have := h3 _ _ k1; rwa [← Nat.add_assoc] at this, by have := h3 _ _ k2; rwa [← Nat.add_assoc] at this, by have := h3 _ _ k3; rwa [← Nat.add_assoc] at this⟩
/-- append onto a row of the call's own, from a slice that reads as cells. -/
theorem run_app {P : Program} (w : World) (base : Nat) (t ty e : TypeId) (i : TypeInfo) (z : Value) (size bytes : Nat) (ht : P.underlying t = some (.slice e)) (hi : P.info? e = some i) (hz : i.zero = some z)
    (hsize : i.size = size) (hby : i.bytes = bytes) (hzs : z.cells.size = size) (hsz : 0 < size) (v : Value) (n : Nat) (xs : List Value) (hown : w.ownsRow base e size v n xs)
    (y : Value) (m : Nat) (news : List Value) (hs : SlAt w y m size news) (h1 : ∀ u ∈ news, u.oneCell' = true) (h63 : n + m ≤ 100000000) (hbytes : bytes ≤ 64) (hbase : base ≤ w.heap.size) :
    ∃ v' w', (Builtin.append_ #[t, t] ty #[v, y]).run P w = .ok v' w' ∧ w'.ownsRow base e size v' (n + m) (xs ++ news) ∧ w.grownBy w' v.ownBlock := by
  obtain ⟨hl, ⟨rfl, rfl⟩ | ⟨g, o, c, rfl, hc⟩⟩ := hs
  · obtain rfl : news = [] := List.eq_nil_of_length_eq_zero (by simpa using hl)
    exact ⟨v, w, run_append_owned_none w base t ty e i size ht hi v n xs hown, by simpa using hown, World.grownBy.refl w _⟩
  · have hb : (n + m) * bytes ≤ 140737488355328 := by
      have := Nat.mul_le_mul h63 hbytes
      omega
    obtain ⟨v', w', h2, h3, h4, _⟩ := run_append_own (P := P) w base t ty e i z size bytes ht hi hz hsize hby hzs hsz v n xs hown ⟨g, o, none⟩ m c news hl (fun j u hj => by rw [Addr.add_lit]; exact hc j u hj) h1 (by unfold maxLen; omega) hb hbase
    exact ⟨v', w', h2, h3, h4⟩
/-- A part of a slice that reads as cells, from an element on. -/
theorem list_take_sum {α : Type} (f : α → Nat) (l : List α) (j : Nat) (x : α) (h : l[j]? = some x) : ((l.take (j + 1)).map f).sum = ((l.take j).map f).sum + f x := by
  have hj : j < l.length := (List.getElem?_eq_some_iff.1 h).1
  have he : l[j] = x := by rw [List.getElem?_eq_getElem hj] at h; injection h
  rw [List.take_succ_eq_append_getElem hj, he]
  simp
theorem list_take_flat {α β : Type} (f : α → List β) (l : List α) (j : Nat) (x : α) (h : l[j]? = some x) : (l.take (j + 1)).flatMap f = (l.take j).flatMap f ++ f x := by
  have hj : j < l.length := (List.getElem?_eq_some_iff.1 h).1
  have he : l[j] = x := by rw [List.getElem?_eq_getElem hj] at h; injection h
  rw [List.take_succ_eq_append_getElem hj, he]
  simp
theorem sum_take_le {α : Type} (f : α → Nat) : ∀ (l : List α) (j : Nat), ((l.take j).map f).sum ≤ (l.map f).sum
  | [], j => by simp
  | a :: l, 0 => by simp
  | a :: l, j + 1 => by
    have := sum_take_le f l j
    simp only [List.take_succ_cons, List.map_cons, List.sum_cons]
    omega
end Go.Proofs.YtneammhkgmkkfaaGreat.tr
