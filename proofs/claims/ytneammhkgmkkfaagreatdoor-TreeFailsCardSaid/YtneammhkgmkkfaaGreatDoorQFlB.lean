/- A part of the proof. -/
import Derived.Test.YtneammhkgmkkfaaGreatDoorQFlA
import Derived.Below
import Derived.Deep.Draws
import Derived.Laws.AppendOwn
import Derived.Laws.OwnMore
import Derived.OwnWalk
set_option linter.unusedVariables false
set_option linter.unusedSimpArgs false
namespace Go.Proofs.YtneammhkgmkkfaaGreatDoor.er
open Go.RowKit
theorem only_alloc {a w : World} {row : Option Nat} (h : a.grownBy w row) (o : Obj) : a.grownBy (w.alloc o) row :=
  ⟨h.os,h.tape,h.output,Nat.le_trans h.size (by simp),fun i hi hne => (Below.heap_alloc w o i (Nat.lt_of_lt_of_le hi h.size)).trans (h.block i hi hne)⟩
theorem only_setCell {a w : World} {g : Nat} (h : a.grownBy w (some g)) {p : Addr} (hp : p.block = g ∨ a.heap.size ≤ p.block) (u : Value) : a.grownBy (w.setCell p u) (some g) :=
  ⟨h.os,h.tape,h.output,by simpa [World.setCell] using h.size,fun i hi hne => (Below.heap_setCell w p u i (by
    rintro rfl
    rcases hp with hp | hp
    · exact hne (by rw [hp])
    · omega)).trans (h.block i hi hne)⟩
theorem only_of_below {a w : World} (h : Below a.heap.size a w) (row : Option Nat) : a.grownBy w row := ⟨h.os,h.tape,h.output,h.size,fun i hi _ => h.block i hi⟩
theorem only_trans {a b c : World} {row : Option Nat} (h : a.grownBy b row) (k : b.grownBy c row) : a.grownBy c row :=
  ⟨k.os.trans h.os,k.tape.trans h.tape,k.output.trans h.output,Nat.le_trans h.size k.size,fun i hi hne => (k.block i (Nat.lt_of_lt_of_le hi h.size) hne).trans (h.block i hi hne)⟩
theorem below_of_only {a w : World} {B g : Nat} (h : a.grownBy w (some g)) (hB : B ≤ g) (hs : B ≤ a.heap.size) : Below B a w :=
  ⟨h.os,h.tape,h.output,h.size,fun k hk => h.block k (by omega) (fun e => by injection e; omega)⟩
theorem below_drewN {B : Nat} {a w : World} (h : Below B a w) (n : Nat) : Below B a (w.drewN n) := ⟨h.os,h.tape,h.output,h.size,h.block⟩
def Whole (w : World) (g : Nat) (t : TypeId) (cs : Array Value) : Prop := w.heap[g]? = some (.cells cs t (0,0))
theorem Whole.lt {w : World} {g : Nat} {t : TypeId} {cs : Array Value} (h : Whole w g t cs) : g < w.heap.size := (Array.getElem?_eq_some_iff.1 h).1
theorem Whole.cell {w : World} {g : Nat} {t : TypeId} {cs : Array Value} (h : Whole w g t cs) (i : Nat) : w.cell? ⟨g,i,none⟩ = cs[i]? := cell_of_row w g i cs t (0,0) h
theorem Whole.fz {w : World} {g : Nat} {t : TypeId} {cs : Array Value} (h : Whole w g t cs) (i : Nat) : w.frozen? ⟨g,i,none⟩ = false := by
  unfold Whole at h
  simp [World.frozen?,h]
theorem Whole.new (w : World) (t : TypeId) (cs : Array Value) : Whole (w.alloc (.cells cs t)) w.heap.size t cs := heap_alloc_new w _
theorem Whole.alloc {w : World} {g : Nat} {t : TypeId} {cs : Array Value} (h : Whole w g t cs) (o : Obj) : Whole (w.alloc o) g t cs := (Below.heap_alloc w o g h.lt).trans h
theorem Whole.set {w : World} {g : Nat} {t : TypeId} {cs : Array Value} (h : Whole w g t cs) (i : Nat) (u : Value) : Whole (w.setCell ⟨g,i,none⟩ u) g t (cs.setIfInBounds i u) := by
  unfold Whole at h ⊢
  simp [World.setCell,Array.getElem?_modify,h]
theorem Whole.far {w : World} {g : Nat} {t : TypeId} {cs : Array Value} (h : Whole w g t cs) {p : Addr} (hp : g ≠ p.block) (u : Value) : Whole (w.setCell p u) g t cs := (Below.heap_setCell w p u g hp).trans h
theorem Whole.grown {w w' : World} {g : Nat} {t : TypeId} {cs : Array Value} {row : Option Nat} (h : Whole w g t cs) (hb : w.grownBy w' row) (hg : some g ≠ row) : Whole w' g t cs := (hb.block g h.lt hg).trans h
theorem Whole.below {w w' : World} {g B : Nat} {t : TypeId} {cs : Array Value} (h : Whole w g t cs) (hb : Below B w w') (hg : g < B) : Whole w' g t cs := (hb.block g hg).trans h
theorem own_ne {w : World} {base : Nat} {e : TypeId} {size n : Nat} {v : Value} {xs : List Value} {g : Nat} {t : TypeId} {cs : Array Value} (h : w.ownsRow base e size v n xs) (hg : Whole w g t cs) (hne : e ≠ t) : some g ≠ v.ownBlock := by
  rcases h.2 with ⟨rfl,_⟩ | ⟨g',cap,cur,rfl,_,hh,_⟩
  · simp [Value.ownBlock]
  · intro he
    have : g = g' := by simpa [Value.ownBlock] using he
    subst this
    unfold Whole at hg
    rw [hh] at hg
    injection hg with hg
    injection hg with _ ht
    exact hne ht
theorem own_base {w : World} {base base' : Nat} {e : TypeId} {size : Nat} {v : Value} {n : Nat} {xs : List Value} (h : w.ownsRow base e size v n xs) (hb : base' ≤ base) : w.ownsRow base' e size v n xs := by
  refine ⟨h.1,?_⟩
  rcases h.2 with h2 | ⟨g,cap,cur,h1,h2,h3⟩
  · exact .inl h2
  · exact .inr ⟨g,cap,cur,h1,by omega,h3⟩
theorem own_slice {w : World} {base : Nat} {e : TypeId} {size : Nat} {v : Value} {n : Nat} {xs : List Value} (h : w.ownsRow base e size v n xs) : ∃ A c,v = .slice A n c := by
  rcases h.2 with ⟨h1,h2⟩ | ⟨g,cap,cur,h1,_⟩
  · exact ⟨none,0,by rw [h1,h2]⟩
  · exact ⟨_,_,h1⟩
theorem own_below {w w' : World} {base : Nat} {e : TypeId} {size : Nat} {v : Value} {n : Nat} {xs : List Value} (h : w.ownsRow base e size v n xs) (hb : Below w.heap.size w w') : w'.ownsRow base e size v n xs :=
  h.kept (only_of_below hb none) (by cases v.ownBlock <;> simp)
theorem below_append {wr w2 : World} {o : Obj} {base : Nat} {e : TypeId} {size : Nat} {v : Value} {n : Nat} {xs : List Value} (hown : wr.ownsRow base e size v n xs) (hg : (wr.alloc o).grownBy w2 v.ownBlock) (hb : base ≤ wr.heap.size) : Below base wr w2 :=
  ⟨hg.os,hg.tape,hg.output,Nat.le_trans (by simp) hg.size,fun i hi => (hg.block i (by simp; omega) (fun e => by have := (hown.lt i e.symm).1; omega)).trans (Below.heap_alloc _ _ _ (by omega))⟩
theorem cell_one_new' (w : World) (a : Value) (t : TypeId) : ∀ j u,[a][j]? = some u → (w.alloc (.cells #[a] t)).cell? ((⟨w.heap.size,0,none⟩ : Addr).add j) = some u := by
  intro j u hj
  match j,hj with
  | 0,hj => simp at hj; subst hj; simp [Addr.add]
theorem own_one {w : World} {base : Nat} {e : TypeId} {size : Nat} {v : Value} {n : Nat} {xs : List Value} (h : w.ownsRow base e size v n xs) (hn : 0 < n) :
    ∃ g cap,v = .slice (some ⟨g,0,none⟩) n cap ∧ base ≤ g ∧ ∀ j u,xs[j]? = some u → w.cell? ⟨g,j,none⟩ = some u := by
  rcases h.2 with ⟨_,h2⟩ | ⟨g,cap,cur,h1,h2,h3,h4,h5,h6,h7⟩
  · omega
  · subst h1
    refine ⟨g,cap,rfl,h2,fun j u hu => ?_⟩
    have := h.cells (g := g) rfl j u hu
    have e : (⟨g,0,none⟩ : Addr).add j = ⟨g,j,none⟩ := by unfold Addr.add; split <;> simp_all
    rwa [e] at this
theorem below_c {w w' : World} (h : Below w.heap.size w w') {a : Addr} {v : Value} (hc : w.cell? a = some v) : w'.cell? a = some v := (h.cell (World.block_lt_of_cell? _ _ hc)).trans hc
theorem below_f {w w' : World} (h : Below w.heap.size w w') {a : Addr} {v : Value} {b : Bool} (hc : w.cell? a = some v) (hf : w.frozen? a = b) : w'.frozen? a = b := (h.frozen (World.block_lt_of_cell? _ _ hc)).trans hf
structure Keep (F : Nat → Prop) (w w' : World) : Prop where
  os : w'.os = w.os
  tape : w'.tape = w.tape
  output : w'.output = w.output
  size : w.heap.size ≤ w'.heap.size
  block : ∀ k,k < w.heap.size → ¬ F k → w'.heap[k]? = w.heap[k]?
theorem Keep.refl (F : Nat → Prop) (w : World) : Keep F w w := ⟨rfl,rfl,rfl,Nat.le_refl _,fun _ _ _ => rfl⟩
theorem Keep.mono {F G : Nat → Prop} {w w' : World} (h : Keep F w w') (hF : ∀ k,k < w.heap.size → F k → G k) : Keep G w w' :=
  ⟨h.os,h.tape,h.output,h.size,fun k hk hn => h.block k hk (fun hf => hn (hF k hk hf))⟩
theorem Keep.trans {F G : Nat → Prop} {a b c : World} (h : Keep F a b) (k : Keep G b c) (hG : ∀ x,G x → F x ∨ a.heap.size ≤ x) : Keep F a c :=
  ⟨k.os.trans h.os,k.tape.trans h.tape,k.output.trans h.output,Nat.le_trans h.size k.size,fun i hi hn =>
    (k.block i (Nat.lt_of_lt_of_le hi h.size) (fun hg => (hG i hg).elim hn (fun h2 => by omega))).trans (h.block i hi hn)⟩
theorem Keep.below {F : Nat → Prop} {w w' : World} (h : Below w.heap.size w w') : Keep F w w' := ⟨h.os,h.tape,h.output,h.size,fun k hk _ => h.block k hk⟩
theorem Keep.toBelow {F : Nat → Prop} {B : Nat} {w w' : World} (h : Keep F w w') (hB : B ≤ w.heap.size) (hF : ∀ k,F k → B ≤ k) : Below B w w' :=
  ⟨h.os,h.tape,h.output,h.size,fun k hk => h.block k (by omega) (fun hf => by have := hF k hf; omega)⟩
theorem Keep.transBelow {F : Nat → Prop} {a b c : World} (h : Keep F a b) (k : Below b.heap.size b c) : Keep F a c :=
  h.trans (Keep.below (F := fun _ => False) k) (fun _ hf => hf.elim)
theorem Keep.drew {F : Nat → Prop} {a w : World} (h : Keep F a w) : Keep F a w.drew := ⟨h.os,h.tape,h.output,h.size,h.block⟩
theorem Keep.alloc {F : Nat → Prop} {a w : World} (h : Keep F a w) (o : Obj) : Keep F a (w.alloc o) :=
  ⟨h.os,h.tape,h.output,Nat.le_trans h.size (by simp),fun k hk hn => (Below.heap_alloc w o k (Nat.lt_of_lt_of_le hk h.size)).trans (h.block k hk hn)⟩
theorem Keep.setCell {F : Nat → Prop} {a w : World} (h : Keep F a w) {p : Addr} (hp : F p.block ∨ a.heap.size ≤ p.block) (u : Value) : Keep F a (w.setCell p u) :=
  ⟨h.os,h.tape,h.output,by simpa [World.setCell] using h.size,fun k hk hn => (Below.heap_setCell w p u k (by
    rintro rfl
    rcases hp with hp | hp
    · exact hn hp
    · omega)).trans (h.block k hk hn)⟩
theorem Keep.set1 (w : World) (p i : Nat) (u : Value) : Keep (fun k => k = p) w (w.setCell ⟨p,i,none⟩ u) := Keep.setCell (a := w) (p := ⟨p,i,none⟩) (Keep.refl (fun k => k = p) w) (.inl rfl) u
theorem Whole.new' (w : World) (t : TypeId) (cs : Array Value) (n : Nat) (h : w.heap.size = n) : Whole (w.alloc (.cells cs t)) n t cs := by subst h; exact Whole.new w t cs
theorem size_set (w : World) (a : Addr) (u : Value) : (w.setCell a u).heap.size = w.heap.size := by simp [World.setCell]
theorem Whole.set4 {w : World} {g : Nat} {t : TypeId} {a0 a1 a2 a3 : Value} (h : Whole w g t #[a0,a1,a2,a3]) (b0 b1 b2 b3 : Value) :
    Whole ((((w.setCell ⟨g,0,none⟩ b0).setCell ⟨g,1,none⟩ b1).setCell ⟨g,2,none⟩ b2).setCell ⟨g,3,none⟩ b3) g t #[b0,b1,b2,b3] := by
  simpa using (((h.set 0 b0).set 1 b1).set 2 b2).set 3 b3
theorem Keep.grown {F : Nat → Prop} {a w w' : World} {row : Option Nat} (h : Keep F a w) (hg : w.grownBy w' row) (hr : ∀ g,row = some g → F g ∨ a.heap.size ≤ g) : Keep F a w' :=
  ⟨hg.os.trans h.os,hg.tape.trans h.tape,hg.output.trans h.output,Nat.le_trans h.size hg.size,fun k hk hn => (hg.block k (Nat.lt_of_lt_of_le hk h.size) (fun e => by
    rcases hr k e.symm with hp | hp
    · exact hn hp
    · omega)).trans (h.block k hk hn)⟩
theorem Keep.heap {F : Nat → Prop} {w w' : World} (h : Keep F w w') {k : Nat} {o : Obj} (ho : w.heap[k]? = some o) (hF : ¬ F k) : w'.heap[k]? = some o :=
  (h.block k (Array.getElem?_eq_some_iff.1 ho).1 hF).trans ho
theorem Keep.cell {F : Nat → Prop} {w w' : World} (h : Keep F w w') {p : Addr} {v : Value} (hc : w.cell? p = some v) (hF : ¬ F p.block) : w'.cell? p = some v :=
  (World.cell?_of_block (h.block p.block (World.block_lt_of_cell? _ _ hc) hF)).trans hc
theorem Whole.keep {F : Nat → Prop} {w w' : World} {g : Nat} {t : TypeId} {cs : Array Value} (h : Whole w g t cs) (hb : Keep F w w') (hF : ¬ F g) : Whole w' g t cs := hb.heap h hF
theorem own_keep {F : Nat → Prop} {w w' : World} {base : Nat} {e : TypeId} {size : Nat} {v : Value} {n : Nat} {xs : List Value} (h : w.ownsRow base e size v n xs) (hb : Keep F w w') (hF : ∀ g,v.ownBlock = some g → ¬ F g) : w'.ownsRow base e size v n xs := by
  refine ⟨h.1,?_⟩
  rcases h.2 with h2 | ⟨g,cap,cur,hv,hg,hh,r⟩
  · exact .inl h2
  · exact .inr ⟨g,cap,cur,hv,hg,hb.heap hh (hF g (by rw [hv]; rfl)),r⟩
theorem own_cell {w : World} {base : Nat} {e : TypeId} {size : Nat} {A : Option Addr} {n cap : Nat} {xs : List Value} (h : w.ownsRow base e size (.slice A n cap) n xs) (hn : 0 < n) :
    ∃ g,A = some ⟨g,0,none⟩ ∧ base ≤ g ∧ g < w.heap.size ∧ n ≤ cap ∧ (∀ j u,xs[j]? = some u → w.cell? ⟨g,j,none⟩ = some u) ∧ ∀ j,w.frozen? ⟨g,j,none⟩ = false := by
  rcases h.2 with ⟨h1,h2⟩ | ⟨g,cap',cur,h1,h2,h3,h4,h5,h6,h7⟩
  · omega
  · injection h1 with hA hl hc
    subst hA hc
    refine ⟨g,rfl,h2,(Array.getElem?_eq_some_iff.1 h3).1,h4,fun j u hu => ?_,fun j => h.frozenAt j⟩
    have hj : j < n * size := by
      have := (List.getElem?_eq_some_iff.1 hu).1
      rw [h.1] at this
      exact this
    rw [h.cellAt j hj,hu]
theorem own_cap {w : World} {base : Nat} {e : TypeId} {size : Nat} {A : Option Addr} {n cap : Nat} {xs : List Value} (h : w.ownsRow base e size (.slice A n cap) n xs) : n ≤ cap ∧ cap ≤ maxLen := by
  rcases h.2 with ⟨h1,h2⟩ | ⟨g,cap',cur,h1,h2,h3,h4,h5,h6,h7⟩
  · injection h1 with hA hl hc
    subst hc h2
    exact ⟨Nat.le_refl _,Nat.zero_le _⟩
  · injection h1 with hA hl hc
    subst hc
    exact ⟨h4,h5⟩
structure Mv (F : Nat → Prop) (w : World) (F' : Nat → Prop) (w' : World) : Prop where
  keep : Keep F w w'
  sub : ∀ k,F' k → F k ∨ w.heap.size ≤ k
theorem Mv.refl (F : Nat → Prop) (w : World) : Mv F w F w := ⟨Keep.refl _ _,fun _ h => .inl h⟩
theorem Mv.trans {F G H : Nat → Prop} {a b c : World} (h : Mv F a G b) (k : Mv G b H c) : Mv F a H c :=
  ⟨h.keep.trans k.keep h.sub,fun x hx => (k.sub x hx).elim (h.sub x) (fun h2 => .inr (Nat.le_trans h.keep.size h2))⟩
theorem Mv.below {F : Nat → Prop} {w w' : World} (h : Below w.heap.size w w') : Mv F w F w' := ⟨Keep.below h,fun _ h => .inl h⟩
def ErrAt (w : World) : List Nat → List (ByteArray × Int) → Int → Value → Prop
  | [],[],c,v => v = .iface 35 (.int .i64 c)
  | b :: bs,s :: l,c,v => v = .iface 88 (.pointer (some ⟨b,0,none⟩)) ∧ ∃ x,Whole w b 91 #[.string s.1,.int .i64 s.2,x] ∧ ErrAt w bs l c x
  | _,_,_,_ => False
theorem ErrAt.keep {F : Nat → Prop} {w w' : World} (hk : Keep F w w') : ∀ {bs : List Nat} {l : List (ByteArray × Int)} {c : Int} {v : Value},ErrAt w bs l c v → (∀ b ∈ bs,¬ F b) → ErrAt w' bs l c v
  | [],[],_,_,h,_ => h
  | b :: bs,s :: l,c,v,⟨h1,x,h2,h3⟩,hF => ⟨h1,x,h2.keep hk (hF b (by simp)),ErrAt.keep hk h3 (fun b' hb => hF b' (by simp [hb]))⟩
  | [],_ :: _,_,_,h,_ => h.elim
  | _ :: _,[],_,_,h,_ => h.elim
theorem ErrAt.lt {w : World} : ∀ {bs : List Nat} {l : List (ByteArray × Int)} {c : Int} {v : Value},ErrAt w bs l c v → ∀ b ∈ bs,b < w.heap.size
  | [],_,_,_,_,_,hb => by simp at hb
  | b :: bs,s :: l,c,v,⟨h1,x,h2,h3⟩,b',hb => by
    rcases List.mem_cons.1 hb with rfl | hb
    · exact h2.lt
    · exact ErrAt.lt h3 b' hb
  | _ :: _,[],_,_,h,_,_ => h.elim
theorem ErrAt.iface {w : World} : ∀ {bs : List Nat} {l : List (ByteArray × Int)} {c : Int} {v : Value},ErrAt w bs l c v → ∃ t x,v = .iface t x
  | [],[],_,_,h => ⟨_,_,h⟩
  | b :: bs,s :: l,c,v,⟨h1,x,h2,h3⟩ => ⟨_,_,h1⟩
  | [],_ :: _,_,_,h => h.elim
  | _ :: _,[],_,_,h => h.elim
end Go.Proofs.YtneammhkgmkkfaaGreatDoor.er
