/- Errors as trees of nodes: what is inside of them (plain functions), and when values of a world stand for such trees. -/
import Derived.Test.YtkkfolbidclonaaDoorErA
import Derived.Below
import Derived.Laws.OwnMore
import Derived.Laws.AppendOwn
import Derived.Deep.Draws
namespace Go.Proofs.YtkkfolbidclonaaDoor.er
open Go.RowKit

/-! ### frames: only one block has turned -/
theorem only_drew {a w : World} {row : Option Nat} (h : a.grownBy w row) : a.grownBy w.drew row := ⟨h.os, h.tape, h.output, h.size, h.block⟩
theorem only_alloc {a w : World} {row : Option Nat} (h : a.grownBy w row) (o : Obj) : a.grownBy (w.alloc o) row :=
  ⟨h.os, h.tape, h.output, Nat.le_trans h.size (by simp), fun i hi hne => (Below.heap_alloc w o i (Nat.lt_of_lt_of_le hi h.size)).trans (h.block i hi hne)⟩
theorem only_setCell {a w : World} {g : Nat} (h : a.grownBy w (some g)) {p : Addr} (hp : p.block = g ∨ a.heap.size ≤ p.block) (u : Value) : a.grownBy (w.setCell p u) (some g) :=
  ⟨h.os, h.tape, h.output, by simpa [World.setCell] using h.size, fun i hi hne => (Below.heap_setCell w p u i (by
    rintro rfl
    rcases hp with hp | hp
    · exact hne (by rw [hp])
    · omega)).trans (h.block i hi hne)⟩
theorem only_of_below {a w : World} (h : Below a.heap.size a w) (row : Option Nat) : a.grownBy w row := ⟨h.os, h.tape, h.output, h.size, fun i hi _ => h.block i hi⟩
theorem only_trans {a b c : World} {row : Option Nat} (h : a.grownBy b row) (k : b.grownBy c row) : a.grownBy c row :=
  ⟨k.os.trans h.os, k.tape.trans h.tape, k.output.trans h.output, Nat.le_trans h.size k.size, fun i hi hne => (k.block i (Nat.lt_of_lt_of_le hi h.size) hne).trans (h.block i hi hne)⟩
/-- What turned lies from B on: so below B nothing has. -/
theorem below_of_only {a w : World} {B g : Nat} (h : a.grownBy w (some g)) (hB : B ≤ g) (hs : B ≤ a.heap.size) : Below B a w :=
  ⟨h.os, h.tape, h.output, h.size, fun k hk => h.block k (by omega) (fun e => by injection e; omega)⟩

theorem below_drewN {B : Nat} {a w : World} (h : Below B a w) (n : Nat) : Below B a (w.drewN n) := ⟨h.os, h.tape, h.output, h.size, h.block⟩
/-! ### a block of cells that is known whole -/
def Whole (w : World) (g : Nat) (t : TypeId) (cs : Array Value) : Prop := w.heap[g]? = some (.cells cs t (0, 0))
theorem Whole.lt {w : World} {g : Nat} {t : TypeId} {cs : Array Value} (h : Whole w g t cs) : g < w.heap.size := (Array.getElem?_eq_some_iff.1 h).1
theorem Whole.cell {w : World} {g : Nat} {t : TypeId} {cs : Array Value} (h : Whole w g t cs) (i : Nat) : w.cell? ⟨g, i, none⟩ = cs[i]? := cell_of_row w g i cs t (0, 0) h
theorem Whole.fz {w : World} {g : Nat} {t : TypeId} {cs : Array Value} (h : Whole w g t cs) (i : Nat) : w.frozen? ⟨g, i, none⟩ = false := by
  unfold Whole at h
  simp [World.frozen?, h]
theorem Whole.new (w : World) (t : TypeId) (cs : Array Value) : Whole (w.alloc (.cells cs t)) w.heap.size t cs := heap_alloc_new w _
theorem Whole.alloc {w : World} {g : Nat} {t : TypeId} {cs : Array Value} (h : Whole w g t cs) (o : Obj) : Whole (w.alloc o) g t cs := (Below.heap_alloc w o g h.lt).trans h
theorem Whole.set {w : World} {g : Nat} {t : TypeId} {cs : Array Value} (h : Whole w g t cs) (i : Nat) (u : Value) : Whole (w.setCell ⟨g, i, none⟩ u) g t (cs.setIfInBounds i u) := by
  unfold Whole at h ⊢
  simp [World.setCell, Array.getElem?_modify, h]
theorem Whole.far {w : World} {g : Nat} {t : TypeId} {cs : Array Value} (h : Whole w g t cs) {p : Addr} (hp : g ≠ p.block) (u : Value) : Whole (w.setCell p u) g t cs := (Below.heap_setCell w p u g hp).trans h
theorem Whole.grown {w w' : World} {g : Nat} {t : TypeId} {cs : Array Value} {row : Option Nat} (h : Whole w g t cs) (hb : w.grownBy w' row) (hg : some g ≠ row) : Whole w' g t cs := (hb.block g h.lt hg).trans h
theorem Whole.below {w w' : World} {g B : Nat} {t : TypeId} {cs : Array Value} (h : Whole w g t cs) (hb : Below B w w') (hg : g < B) : Whole w' g t cs := (hb.block g hg).trans h
/-- Rows of unlike element types share no block. -/
theorem own_ne {w : World} {base : Nat} {e : TypeId} {size n : Nat} {v : Value} {xs : List Value} {g : Nat} {t : TypeId} {cs : Array Value} (h : w.ownsRow base e size v n xs) (hg : Whole w g t cs) (hne : e ≠ t) : some g ≠ v.ownBlock := by
  rcases h.2 with ⟨rfl, _⟩ | ⟨g', cap, cur, rfl, _, hh, _⟩
  · simp [Value.ownBlock]
  · intro he
    have : g = g' := by simpa [Value.ownBlock] using he
    subst this
    unfold Whole at hg
    rw [hh] at hg
    injection hg with hg
    injection hg with _ ht
    exact hne ht

/-! ### plain: trees of errors, a node behind those that it is made of -/
structure Nd where
  kind : Int
  code : Int
  op : ByteArray
  at_ : Int
  kids : List Nat

def Down (l : List Nd) : Prop := ∀ (i : Nat) (n : Nd), l[i]? = some n → ∀ k ∈ n.kids, k < i

def codeF (l : List Nd) : Nat → Nat → Option Int
  | 0, _ => none
  | f + 1, i => match l[i]? with
    | none => none
    | some n => if n.kind = 0 then some n.code else n.kids.findSome? (codeF l f)
def firstF (l : List Nd) : Nat → Nat → Option Nat
  | 0, _ => none
  | f + 1, i => match l[i]? with
    | none => none
    | some n => if n.kind = 1 then some i else n.kids.findSome? (firstF l f)
def hasF (l : List Nd) (c : Int) : Nat → Nat → Bool
  | 0, _ => false
  | f + 1, i => match l[i]? with
    | none => false
    | some n => if n.kind = 0 then n.code == c else n.kids.any (hasF l c f)
def codeO (l : List Nd) (i : Nat) : Option Int := codeF l (i + 1) i
def firstO (l : List Nd) (i : Nat) : Option Nat := firstF l (i + 1) i
def hasO (l : List Nd) (c : Int) (i : Nat) : Bool := hasF l c (i + 1) i

theorem findSome_congr {α β : Type} {f g : α → Option β} : ∀ (l : List α), (∀ x ∈ l, f x = g x) → l.findSome? f = l.findSome? g
  | [], _ => rfl
  | x :: r, h => by
    rw [List.findSome?_cons, List.findSome?_cons, h x (by simp), findSome_congr r (fun y hy => h y (by simp [hy]))]
theorem any_congr {α : Type} {f g : α → Bool} : ∀ (l : List α), (∀ x ∈ l, f x = g x) → l.any f = l.any g
  | [], _ => rfl
  | x :: r, h => by
    rw [List.any_cons, List.any_cons, h x (by simp), any_congr r (fun y hy => h y (by simp [hy]))]

section
variable {l : List Nd}
theorem codeF_fuel (hd : Down l) : ∀ (f g i : Nat), i < f → i < g → codeF l f i = codeF l g i
  | 0, _, _, h, _ => by omega
  | _ + 1, 0, _, _, h => by omega
  | f + 1, g + 1, i, hf, hg => by
    unfold codeF
    cases hn : l[i]? with
    | none => rfl
    | some n =>
      simp only
      rw [findSome_congr n.kids (fun k hk => codeF_fuel hd f g k (by have := hd i n hn k hk; omega) (by have := hd i n hn k hk; omega))]
theorem firstF_fuel (hd : Down l) : ∀ (f g i : Nat), i < f → i < g → firstF l f i = firstF l g i
  | 0, _, _, h, _ => by omega
  | _ + 1, 0, _, _, h => by omega
  | f + 1, g + 1, i, hf, hg => by
    unfold firstF
    cases hn : l[i]? with
    | none => rfl
    | some n =>
      simp only
      rw [findSome_congr n.kids (fun k hk => firstF_fuel hd f g k (by have := hd i n hn k hk; omega) (by have := hd i n hn k hk; omega))]
theorem hasF_fuel (hd : Down l) (c : Int) : ∀ (f g i : Nat), i < f → i < g → hasF l c f i = hasF l c g i
  | 0, _, _, h, _ => by omega
  | _ + 1, 0, _, _, h => by omega
  | f + 1, g + 1, i, hf, hg => by
    unfold hasF
    cases hn : l[i]? with
    | none => rfl
    | some n =>
      simp only
      rw [any_congr n.kids (fun k hk => hasF_fuel hd c f g k (by have := hd i n hn k hk; omega) (by have := hd i n hn k hk; omega))]
theorem codeO_eq (hd : Down l) {i : Nat} {n : Nd} (hn : l[i]? = some n) : codeO l i = if n.kind = 0 then some n.code else n.kids.findSome? (codeO l) := by
  unfold codeO
  rw [codeF]
  simp only [hn]
  rw [findSome_congr n.kids (fun k hk => codeF_fuel hd i (k + 1) k (hd i n hn k hk) (by omega))]
theorem firstO_eq (hd : Down l) {i : Nat} {n : Nd} (hn : l[i]? = some n) : firstO l i = if n.kind = 1 then some i else n.kids.findSome? (firstO l) := by
  unfold firstO
  rw [firstF]
  simp only [hn]
  rw [findSome_congr n.kids (fun k hk => firstF_fuel hd i (k + 1) k (hd i n hn k hk) (by omega))]
theorem hasO_eq (hd : Down l) (c : Int) {i : Nat} {n : Nd} (hn : l[i]? = some n) : hasO l c i = if n.kind = 0 then n.code == c else n.kids.any (hasO l c) := by
  unfold hasO
  rw [hasF]
  simp only [hn]
  rw [any_congr n.kids (fun k hk => hasF_fuel hd c i (k + 1) k (hd i n hn k hk) (by omega))]
/-- The first step inside is a step, at or below the place where it was looked for. -/
theorem firstO_kind (hd : Down l) : ∀ (i x : Nat), firstO l i = some x → x ≤ i ∧ ∃ n, l[x]? = some n ∧ n.kind = 1 := by
  intro i
  induction i using Nat.strongRecOn with
  | _ i ih =>
    intro x hx
    cases hn : l[i]? with
    | none =>
      unfold firstO firstF at hx
      simp [hn] at hx
    | some n =>
      rw [firstO_eq hd hn] at hx
      by_cases hk : n.kind = 1
      · rw [if_pos hk] at hx
        injection hx with hx
        subst hx
        exact ⟨Nat.le_refl _, n, hn, hk⟩
      · rw [if_neg hk] at hx
        obtain ⟨k, hk, hkx⟩ := List.exists_of_findSome?_eq_some hx
        obtain ⟨h1, h2⟩ := ih k (hd i n hn k hk) x hkx
        exact ⟨by have := hd i n hn k hk; omega, h2⟩
end

theorem findSome_at {α β : Type} (f : α → Option β) : ∀ (l : List α) (j : Nat) (a : α) (c : β), l[j]? = some a → (∀ (j' : Nat) (a' : α), j' < j → l[j']? = some a' → f a' = none) → f a = some c → l.findSome? f = some c
  | [], _, _, _, h, _, _ => by simp at h
  | x :: r, 0, a, c, h, _, hc => by
    simp at h
    subst h
    rw [List.findSome?_cons, hc]
  | x :: r, j + 1, a, c, h, hn, hc => by
    rw [List.findSome?_cons, hn 0 x (by omega) (by simp)]
    exact findSome_at f r j a c (by simpa using h) (fun j' a' hj ha => hn (j' + 1) a' (by omega) (by simpa using ha)) hc
theorem findSome_none {α β : Type} (f : α → Option β) (l : List α) (hn : ∀ (j' : Nat) (a' : α), j' < l.length → l[j']? = some a' → f a' = none) : l.findSome? f = none := by
  rw [List.findSome?_eq_none_iff]
  intro x hx
  obtain ⟨j, hj, e⟩ := List.getElem_of_mem hx
  exact hn j x hj (by rw [List.getElem?_eq_getElem hj, e])
theorem any_at {α : Type} (f : α → Bool) (l : List α) (j : Nat) (a : α) (h : l[j]? = some a) (hc : f a = true) : l.any f = true :=
  List.any_eq_true.2 ⟨a, List.mem_of_getElem? h, hc⟩
theorem any_none {α : Type} (f : α → Bool) (l : List α) (hn : ∀ (j' : Nat) (a' : α), j' < l.length → l[j']? = some a' → f a' = false) : l.any f = false := by
  rw [List.any_eq_false]
  intro x hx
  obtain ⟨j, hj, e⟩ := List.getElem_of_mem hx
  simp [hn j x hj (by rw [List.getElem?_eq_getElem hj, e])]

/-! ### values that stand for such trees -/
def NodeAt (w : World) (B : Nat) (vs : List Value) (n : Nd) (v : Value) : Prop :=
  (n.kind = 0 ∧ n.kids = [] ∧ v = .iface 30 (.int .i64 n.code)) ∨
  (n.kind = 1 ∧ ∃ (b k : Nat) (x : Value), b < B ∧ n.kids = [k] ∧ vs[k]? = some x ∧ v = .iface 56 (.pointer (some ⟨b, 0, none⟩)) ∧ w.heap[b]? = some (.cells #[.string n.op, .int .i64 n.at_, x] 59 (0, 0))) ∨
  (n.kind = 2 ∧ ∃ (b g c : Nat), b < B ∧ g < B ∧ n.kids.length ≤ 1000 ∧ v = .iface 80 (.pointer (some ⟨b, 0, none⟩)) ∧ w.heap[b]? = some (.cells #[.slice (some ⟨g, 0, none⟩) n.kids.length c] 82 (0, 0)) ∧
    (∀ (j k : Nat), n.kids[j]? = some k → ∃ x, vs[k]? = some x ∧ w.cell? ⟨g, j, none⟩ = some x)) ∨
  (n.kind = 3 ∧ n.kids = [] ∧ ∃ a, v = .iface 63 (.pointer (some a)))

structure Rep (w : World) (B : Nat) (l : List Nd) (vs : List Value) : Prop where
  len : vs.length = l.length
  down : Down l
  node : ∀ (i : Nat) (n : Nd) (v : Value), l[i]? = some n → vs[i]? = some v → NodeAt w B vs n v

theorem NodeAt.keep {w w' : World} {B B' : Nat} {vs : List Value} {n : Nd} {v : Value} (h : NodeAt w B vs n v) (hB : B ≤ B') (hk : ∀ k, k < B → w'.heap[k]? = w.heap[k]?) : NodeAt w' B' vs n v := by
  rcases h with h | ⟨h1, b, k, x, hb, h2, h3, h4, h5⟩ | ⟨h1, b, g, c, hb, hg, hlen, h4, h5, h6⟩ | h
  · exact .inl h
  · exact .inr (.inl ⟨h1, b, k, x, by omega, h2, h3, h4, (hk b hb).trans h5⟩)
  · refine .inr (.inr (.inl ⟨h1, b, g, c, by omega, by omega, hlen, h4, (hk b hb).trans h5, fun j k hj => ?_⟩))
    obtain ⟨x, hx, hc⟩ := h6 j k hj
    exact ⟨x, hx, (World.cell?_of_block (w := w) (a := ⟨g, j, none⟩) (hk g hg)).trans hc⟩
  · exact .inr (.inr (.inr h))
theorem Rep.keep {w w' : World} {B B' : Nat} {l : List Nd} {vs : List Value} (h : Rep w B l vs) (hB : B ≤ B') (hk : ∀ k, k < B → w'.heap[k]? = w.heap[k]?) : Rep w' B' l vs :=
  ⟨h.len, h.down, fun i n v hn hv => (h.node i n v hn hv).keep hB hk⟩
theorem Rep.below {w w' : World} {B : Nat} {l : List Nd} {vs : List Value} (h : Rep w B l vs) (hb : Below B w w') : Rep w' B l vs := h.keep (Nat.le_refl _) hb.block
theorem Rep.mono {w : World} {B B' : Nat} {l : List Nd} {vs : List Value} (h : Rep w B l vs) (hB : B ≤ B') : Rep w B' l vs := h.keep hB (fun _ _ => rfl)
theorem Rep.drew {w : World} {B : Nat} {l : List Nd} {vs : List Value} (h : Rep w B l vs) : Rep w.drew B l vs := h.keep (Nat.le_refl _) (fun _ _ => rfl)
theorem Rep.at_ {w : World} {B : Nat} {l : List Nd} {vs : List Value} (h : Rep w B l vs) {i : Nat} {n : Nd} (hn : l[i]? = some n) : ∃ v, vs[i]? = some v ∧ NodeAt w B vs n v := by
  have hi : i < vs.length := by rw [h.len]; exact (List.getElem?_eq_some_iff.1 hn).1
  exact ⟨vs[i], List.getElem?_eq_getElem hi, h.node i n _ hn (List.getElem?_eq_getElem hi)⟩
theorem Rep.iface {w : World} {B : Nat} {l : List Nd} {vs : List Value} (h : Rep w B l vs) {i : Nat} {v : Value} (hv : vs[i]? = some v) : ∃ t x, v = .iface t x := by
  have hi : i < l.length := by rw [← h.len]; exact (List.getElem?_eq_some_iff.1 hv).1
  rcases h.node i l[i] v (List.getElem?_eq_getElem hi) hv with ⟨_, _, h⟩ | ⟨_, _, _, _, _, _, _, h4, _⟩ | ⟨_, _, _, _, _, _, _, h4, _⟩ | ⟨_, _, _, h⟩
  · exact ⟨_, _, h⟩
  · exact ⟨_, _, h4⟩
  · exact ⟨_, _, h4⟩
  · exact ⟨_, _, h⟩
theorem Rep.node? {w : World} {B : Nat} {l : List Nd} {vs : List Value} (h : Rep w B l vs) {i : Nat} {v : Value} (hv : vs[i]? = some v) : ∃ n, l[i]? = some n ∧ NodeAt w B vs n v := by
  have hi : i < l.length := by rw [← h.len]; exact (List.getElem?_eq_some_iff.1 hv).1
  exact ⟨l[i], List.getElem?_eq_getElem hi, h.node i l[i] v (List.getElem?_eq_getElem hi) hv⟩
/-- One node more. -/
theorem NodeAt.more {w : World} {B : Nat} {vs : List Value} {n : Nd} {v : Value} (h : NodeAt w B vs n v) (y : Value) : NodeAt w B (vs ++ [y]) n v := by
  have ap : ∀ {k : Nat} {x : Value}, vs[k]? = some x → (vs ++ [y])[k]? = some x := fun {k x} hx => by
    have hk : k < vs.length := (List.getElem?_eq_some_iff.1 hx).1
    rw [List.getElem?_append_left hk]; exact hx
  rcases h with h | ⟨h1, b, k, x, hb, h2, h3, h4, h5⟩ | ⟨h1, b, g, c, hb, hg, hlen, h4, h5, h6⟩ | h
  · exact .inl h
  · exact .inr (.inl ⟨h1, b, k, x, hb, h2, ap h3, h4, h5⟩)
  · refine .inr (.inr (.inl ⟨h1, b, g, c, hb, hg, hlen, h4, h5, fun j k hj => ?_⟩))
    obtain ⟨x, hx, hc⟩ := h6 j k hj
    exact ⟨x, ap hx, hc⟩
  · exact .inr (.inr (.inr h))
theorem Rep.push {w : World} {B : Nat} {l : List Nd} {vs : List Value} (h : Rep w B l vs) {n : Nd} {v : Value} (hk : ∀ k ∈ n.kids, k < l.length) (hv : NodeAt w B vs n v) : Rep w B (l ++ [n]) (vs ++ [v]) := by
  refine ⟨by simp [h.len], ?_, ?_⟩
  · intro i m hm k hkm
    rcases Nat.lt_or_ge i l.length with hi | hi
    · rw [List.getElem?_append_left hi] at hm
      exact h.down i m hm k hkm
    · have e : i = l.length := by
        have := (List.getElem?_eq_some_iff.1 hm).1
        simp at this
        omega
      subst e
      simp at hm
      subst hm
      exact hk k hkm
  · intro i m u hm hu
    rcases Nat.lt_or_ge i l.length with hi | hi
    · rw [List.getElem?_append_left hi] at hm
      rw [List.getElem?_append_left (by rw [h.len]; exact hi)] at hu
      exact (h.node i m u hm hu).more v
    · have e : i = l.length := by
        have := (List.getElem?_eq_some_iff.1 hm).1
        simp at this
        omega
      subst e
      simp at hm
      subst hm
      rw [← h.len] at hu
      simp at hu
      subst hu
      exact hv.more v
theorem Rep.nil (w : World) (B : Nat) : Rep w B [] [] := ⟨rfl, fun _ _ h => by simp at h, fun _ _ _ h => by simp at h⟩
end Go.Proofs.YtkkfolbidclonaaDoor.er
