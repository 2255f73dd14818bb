/- What 'made' of layer 3 has made: words, and what they keep. -/
import Derived.Test.YtkkfolbidclonaaDoorErH
import Derived.Test.YtkkfolbidclonaaDoorErI
import Derived.Test.YtkkfolbidclonaaDoorOwn
namespace Go.Proofs.YtkkfolbidclonaaDoor.er
open Go.RowKit
set_option linter.unusedVariables false

/-! ### trees of errors whose blocks lie in a set -/
def NodeS (w : World) (S : Nat → Prop) (vs : List Value) (n : Nd) (v : Value) : Prop :=
  (n.kind = 0 ∧ n.kids = [] ∧ v = .iface 30 (.int .i64 n.code)) ∨
  (n.kind = 1 ∧ ∃ (b k : Nat) (x : Value), S b ∧ n.kids = [k] ∧ vs[k]? = some x ∧ v = .iface 56 (.pointer (some ⟨b, 0, none⟩)) ∧ w.heap[b]? = some (.cells #[.string n.op, .int .i64 n.at_, x] 59 (0, 0))) ∨
  (n.kind = 2 ∧ ∃ (b g c : Nat), S b ∧ S g ∧ n.kids.length ≤ 1000 ∧ v = .iface 80 (.pointer (some ⟨b, 0, none⟩)) ∧ w.heap[b]? = some (.cells #[.slice (some ⟨g, 0, none⟩) n.kids.length c] 82 (0, 0)) ∧
    (∀ (j k : Nat), n.kids[j]? = some k → ∃ x, vs[k]? = some x ∧ w.cell? ⟨g, j, none⟩ = some x)) ∨
  (n.kind = 3 ∧ n.kids = [] ∧ ∃ a, v = .iface 63 (.pointer (some a)))
structure RepS (w : World) (S : Nat → Prop) (l : List Nd) (vs : List Value) : Prop where
  len : vs.length = l.length
  down : Down l
  node : ∀ (i : Nat) (n : Nd) (v : Value), l[i]? = some n → vs[i]? = some v → NodeS w S vs n v
theorem RepS.toRep {w : World} {S : Nat → Prop} {B : Nat} {l : List Nd} {vs : List Value} (h : RepS w S l vs) (hS : ∀ b, S b → b < B) : Rep w B l vs := by
  refine ⟨h.len, h.down, fun i n v hn hv => ?_⟩
  rcases h.node i n v hn hv with h | ⟨h1, b, k, x, hb, h2, h3, h4, h5⟩ | ⟨h1, b, g, c, hb, hg, hlen, h4, h5, h6⟩ | h
  · exact .inl h
  · exact .inr (.inl ⟨h1, b, k, x, hS b hb, h2, h3, h4, h5⟩)
  · exact .inr (.inr (.inl ⟨h1, b, g, c, hS b hb, hS g hg, hlen, h4, h5, h6⟩))
  · exact .inr (.inr (.inr h))
theorem NodeS.keep {w w' : World} {S S' : Nat → Prop} {vs : List Value} {n : Nd} {v : Value} (h : NodeS w S vs n v) (hS : ∀ b, S b → S' b) (hk : ∀ b, S b → w'.heap[b]? = w.heap[b]?) : NodeS w' S' vs n v := by
  rcases h with h | ⟨h1, b, k, x, hb, h2, h3, h4, h5⟩ | ⟨h1, b, g, c, hb, hg, hlen, h4, h5, h6⟩ | h
  · exact .inl h
  · exact .inr (.inl ⟨h1, b, k, x, hS b hb, h2, h3, h4, (hk b hb).trans h5⟩)
  · refine .inr (.inr (.inl ⟨h1, b, g, c, hS b hb, hS g hg, hlen, h4, (hk b hb).trans h5, fun j k hj => ?_⟩))
    obtain ⟨x, hx, hc⟩ := h6 j k hj
    exact ⟨x, hx, (World.cell?_of_block (w := w) (a := ⟨g, j, none⟩) (hk g hg)).trans hc⟩
  · exact .inr (.inr (.inr h))
theorem RepS.keep {w w' : World} {S S' : Nat → Prop} {l : List Nd} {vs : List Value} (h : RepS w S l vs) (hS : ∀ b, S b → S' b) (hk : ∀ b, S b → w'.heap[b]? = w.heap[b]?) : RepS w' S' l vs :=
  ⟨h.len, h.down, fun i n v hn hv => (h.node i n v hn hv).keep hS hk⟩
theorem NodeS.more {w : World} {S : Nat → Prop} {vs : List Value} {n : Nd} {v : Value} (h : NodeS w S vs n v) (y : Value) : NodeS w S (vs ++ [y]) n v := by
  have ap : ∀ {k : Nat} {x : Value}, vs[k]? = some x → (vs ++ [y])[k]? = some x := fun {k x} hx => by
    have hk : k < vs.length := (List.getElem?_eq_some_iff.1 hx).1
    rw [List.getElem?_append_left hk]; exact hx
  rcases h with h | ⟨h1, b, k, x, hb, h2, h3, h4, h5⟩ | ⟨h1, b, g, c, hb, hg, hlen, h4, h5, h6⟩ | h
  · exact .inl h
  · exact .inr (.inl ⟨h1, b, k, x, hb, h2, ap h3, h4, h5⟩)
  · refine .inr (.inr (.inl ⟨h1, b, g, c, hb, hg, hlen, h4, h5, fun j k hj => ?_⟩))
    obtain ⟨x, hx, hc⟩ := h6 j k hj
    exact ⟨x, ap hx, hc⟩
  · exact .inr (.inr (.inr h))
theorem RepS.push {w : World} {S : Nat → Prop} {l : List Nd} {vs : List Value} (h : RepS w S l vs) {n : Nd} {v : Value} (hk : ∀ k ∈ n.kids, k < l.length) (hv : NodeS w S vs n v) : RepS w S (l ++ [n]) (vs ++ [v]) := by
  refine ⟨by simp [h.len], ?_, ?_⟩
  · intro i m hm k hkm
    rcases Nat.lt_or_ge i l.length with hi | hi
    · rw [List.getElem?_append_left hi] at hm
      exact h.down i m hm k hkm
    · have e : i = l.length := by
        have := (List.getElem?_eq_some_iff.1 hm).1
        simp at this
        omega
      subst e
      simp at hm
      subst hm
      exact hk k hkm
  · intro i m u hm hu
    rcases Nat.lt_or_ge i l.length with hi | hi
    · rw [List.getElem?_append_left hi] at hm
      rw [List.getElem?_append_left (by rw [h.len]; exact hi)] at hu
      exact (h.node i m u hm hu).more v
    · have e : i = l.length := by
        have := (List.getElem?_eq_some_iff.1 hm).1
        simp at this
        omega
      subst e
      simp at hm
      subst hm
      rw [← h.len] at hu
      simp at hu
      subst hu
      exact hv.more v

/-! ### the reference's nodes in memory -/
def KidsV (w : World) (ks : List Nat) (v : Value) : Prop :=
  (ks = [] ∧ v = .slice none 0 0) ∨ ∃ h, v = .slice (some ⟨h, 0, none⟩) ks.length ks.length ∧ Whole w h 3 (ks.map (fun (k : Nat) => Value.int .i64 (k : Int))).toArray
def ndCells (n : Nd) (kv : Value) : List Value := [.int .i64 n.kind, .int .i64 n.code, .string n.op, .int .i64 n.at_, kv]
def ndRow (p : List (Nd × Value)) : List Value := p.flatMap fun x => ndCells x.1 x.2
theorem ndRow_len : ∀ p : List (Nd × Value), (ndRow p).length = p.length * 5
  | [] => rfl
  | x :: r => by
    have : ndRow (x :: r) = ndCells x.1 x.2 ++ ndRow r := rfl
    rw [this, List.length_append, ndRow_len r]
    simp [ndCells]; omega
theorem ndRow_snoc (p : List (Nd × Value)) (n : Nd) (kv : Value) : ndRow (p ++ [(n, kv)]) = ndRow p ++ ndCells n kv := by simp [ndRow]
theorem ndRow_at : ∀ (p : List (Nd × Value)) (i : Nat) (n : Nd) (kv : Value), p[i]? = some (n, kv) → ∀ j, j < 5 → (ndRow p)[i * 5 + j]? = (ndCells n kv)[j]?
  | [], _, _, _, h, _, _ => by simp at h
  | x :: r, 0, n, kv, h, j, hj => by
    simp at h
    subst h
    have : ndRow ((n, kv) :: r) = ndCells n kv ++ ndRow r := rfl
    rw [this, List.getElem?_append_left (by simp [ndCells]; omega)]
    simp
  | x :: r, i + 1, n, kv, h, j, hj => by
    have e : ndRow (x :: r) = ndCells x.1 x.2 ++ ndRow r := rfl
    rw [e, List.getElem?_append_right (by simp [ndCells]; omega)]
    rw [show (i + 1) * 5 + j - (ndCells x.1 x.2).length = i * 5 + j from by simp [ndCells]; omega]
    exact ndRow_at r i n kv (by simpa using h) j hj
/-- The nodes l stand in block g. -/
def Nodes (w : World) (g : Nat) (l : List Nd) : Prop := ∀ (i : Nat) (n : Nd), l[i]? = some n → ∃ kv, KidsV w n.kids kv ∧ ∀ j u, (ndCells n kv)[j]? = some u → w.cell? ⟨g, i * 5 + j, none⟩ = some u
theorem KidsV.below {w w' : World} {ks : List Nat} {v : Value} (h : KidsV w ks v) (hb : Below w.heap.size w w') : KidsV w' ks v := by
  rcases h with h | ⟨b, h1, h2⟩
  · exact .inl h
  · exact .inr ⟨b, h1, h2.below hb h2.lt⟩
theorem Nodes.below {w w' : World} {g : Nat} {l : List Nd} (h : Nodes w g l) (hb : Below w.heap.size w w') : Nodes w' g l := fun i n hn => by
  obtain ⟨kv, h1, h2⟩ := h i n hn
  exact ⟨kv, h1.below hb, fun j u hu => below_c hb (h2 j u hu)⟩
theorem KidsV.alloc {w : World} {ks : List Nat} {v : Value} (h : KidsV w ks v) (o : Obj) : KidsV (w.alloc o) ks v := by
  rcases h with h | ⟨b, h1, h2⟩
  · exact .inl h
  · exact .inr ⟨b, h1, h2.alloc o⟩
theorem KidsV.grown {w w' : World} {ks : List Nat} {v : Value} {base e size n : Nat} {u : Value} {xs : List Value} (h : KidsV w ks v) (hown : w.ownsRow base e size u n xs) (hg : w.grownBy w' u.ownBlock) (he : e ≠ 3) : KidsV w' ks v := by
  rcases h with h | ⟨b, h1, h2⟩
  · exact .inl h
  · exact .inr ⟨b, h1, h2.grown hg (own_ne hown h2 he)⟩
theorem nodeInfo : (Tryd.prog.info? 41).map (fun i => (i.zero, i.size, i.bytes)) = some (some (.agg #[.int .i64 0, .int .i64 0, .string ByteArray.empty, .int .i64 0, .slice none 0 0]), 5, 64) := by kernel_rfl

/-- The state of the loop in 'made': k errors and nodes so far. -/
structure MadeSt (w : World) (k : Nat) (ve vn : Value) (wr : World) (l : List Nd) (vs : List Value) (p : List (Nd × Value)) : Prop where
  bel : Below w.heap.size w wr
  pl : p.map (·.1) = l
  len : l.length = k
  oe : wr.ownsRow w.heap.size 26 1 ve k vs
  on : wr.ownsRow w.heap.size 41 5 vn k (ndRow p)
  rep : RepS wr (fun b => b < wr.heap.size ∧ some b ≠ ve.ownBlock ∧ some b ≠ vn.ownBlock) l vs
  kids : ∀ x ∈ p, KidsV wr x.1.kids x.2

theorem own_own_ne {w : World} {base base' e e' size size' n n' : Nat} {u v : Value} {xs ys : List Value} (h : w.ownsRow base e size u n xs) (h' : w.ownsRow base' e' size' v n' ys) (he : e ≠ e') : u.ownBlock = none ∨ u.ownBlock ≠ v.ownBlock := by
  rcases h.2 with ⟨rfl, _⟩ | ⟨g, cap, cur, rfl, _, hh, _⟩
  · exact .inl rfl
  · refine .inr (fun e2 => ?_)
    have := own_ne h' (g := g) (t := e) (cs := cur) hh (Ne.symm he)
    exact this (by rw [← e2]; rfl)
theorem below_grown {B : Nat} {w w' : World} {row : Option Nat} (hg : w.grownBy w' row) (hB : B ≤ w.heap.size) (hr : ∀ g, row = some g → B ≤ g) : Below B w w' :=
  ⟨hg.os, hg.tape, hg.output, hg.size, fun k hk => hg.block k (by omega) (fun e => by have := hr k e.symm; omega)⟩

theorem made_step {w wr wa w2 wb w4 : World} {k : Nat} {ve vn ve2 vn2 : Value} {l : List Nd} {vs : List Value} {p : List (Nd × Value)} {n : Nd} {x kv : Value}
    (st : MadeSt w k ve vn wr l vs p) (ha : Below wr.heap.size wr wa)
    (hoe : w2.ownsRow w.heap.size 26 1 ve2 (k + 1) (vs ++ [x])) (hg2 : wa.grownBy w2 ve.ownBlock) (hat2 : ve2.ownBlock = ve.ownBlock ∨ ve2.ownBlock = some wa.heap.size)
    (hb : Below w2.heap.size w2 wb)
    (hon : w4.ownsRow w.heap.size 41 5 vn2 (k + 1) (ndRow p ++ ndCells n kv)) (hg4 : wb.grownBy w4 vn.ownBlock) (hat4 : vn2.ownBlock = vn.ownBlock ∨ vn2.ownBlock = some wb.heap.size)
    (hk : ∀ j ∈ n.kids, j < k) (hnode : NodeS wa (fun b => b < wa.heap.size ∧ some b ≠ ve.ownBlock ∧ some b ≠ vn.ownBlock) vs n x) (hkv : KidsV wb n.kids kv) :
    MadeSt w (k + 1) ve2 vn2 w4 (l ++ [n]) (vs ++ [x]) (p ++ [(n, kv)]) := by
  have sa := ha.size
  have s2 := hg2.size
  have sb := hb.size
  have s4 := hg4.size
  have sw := st.bel.size
  have elt := st.oe.lt
  have nlt := st.on.lt
  have oea := own_below st.oe ha
  have ona := own_below st.on ha
  have on2 : w2.ownsRow w.heap.size 41 5 vn k (ndRow p) := ona.kept hg2 (own_own_ne ona oea (by decide))
  have onb := own_below on2 hb
  have r1 : RepS wa (fun b => b < wa.heap.size ∧ some b ≠ ve.ownBlock ∧ some b ≠ vn.ownBlock) l vs := st.rep.keep (fun b ⟨h1, h2, h3⟩ => ⟨by omega, h2, h3⟩) (fun b ⟨h1, _, _⟩ => ha.block b h1)
  have r2 := r1.push (by rw [st.len]; exact hk) hnode
  have r3 : RepS w2 (fun b => b < w2.heap.size ∧ some b ≠ ve2.ownBlock ∧ some b ≠ vn.ownBlock) (l ++ [n]) (vs ++ [x]) := r2.keep
    (fun b ⟨h1, h2, h3⟩ => ⟨by omega, by rcases hat2 with e | e <;> rw [e]; exact h2; intro e2; injection e2; omega, h3⟩) (fun b ⟨h1, h2, _⟩ => hg2.block b h1 h2)
  have r4 : RepS wb (fun b => b < wb.heap.size ∧ some b ≠ ve2.ownBlock ∧ some b ≠ vn.ownBlock) (l ++ [n]) (vs ++ [x]) := r3.keep (fun b ⟨h1, h2, h3⟩ => ⟨by omega, h2, h3⟩) (fun b ⟨h1, _, _⟩ => hb.block b h1)
  have r5 : RepS w4 (fun b => b < w4.heap.size ∧ some b ≠ ve2.ownBlock ∧ some b ≠ vn2.ownBlock) (l ++ [n]) (vs ++ [x]) := r4.keep
    (fun b ⟨h1, h2, h3⟩ => ⟨by omega, h2, by rcases hat4 with e | e <;> rw [e]; exact h3; intro e2; injection e2; omega⟩) (fun b ⟨h1, _, h3⟩ => hg4.block b h1 h3)
  have oeb := own_below hoe hb
  refine ⟨?_, by simp [st.pl], by simp [st.len], oeb.kept hg4 (own_own_ne oeb onb (by decide)), ?_, r5, ?_⟩
  · have b1 : Below w.heap.size wr wa := ha.mono sw
    have b2 : Below w.heap.size wa w2 := below_grown hg2 (by omega) (fun g e => (elt g e).1)
    have b3 : Below w.heap.size w2 wb := hb.mono (by omega)
    have b4 : Below w.heap.size wb w4 := below_grown hg4 (by omega) (fun g e => (nlt g e).1)
    exact (((st.bel.trans b1).trans b2).trans b3).trans b4
  · rw [ndRow_snoc]; exact hon
  · intro y hy
    rcases List.mem_append.1 hy with hy | hy
    · have k1 := ((((st.kids y hy).below ha).grown oea hg2 (by decide)).below hb).grown onb hg4 (by decide)
      exact k1
    · obtain rfl : y = (n, kv) := by simpa using hy
      exact hkv.grown onb hg4 (by decide)
end Go.Proofs.YtkkfolbidclonaaDoor.er
