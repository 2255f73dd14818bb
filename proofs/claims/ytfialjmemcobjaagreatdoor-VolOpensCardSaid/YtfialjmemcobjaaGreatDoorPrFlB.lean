/- A part of the proof. -/
import Derived.Test.YtfialjmemcobjaaGreatDoorPrFlA
import Derived.Below
import Derived.Deep.Draws
import Derived.Laws.AppendOwn
import Derived.Laws.OwnMore
import Derived.OwnWalk
set_option linter.unusedVariables false
set_option linter.unusedSimpArgs false
namespace Go.Proofs.YtfialjmemcobjaaGreatDoor
namespace er
open Go.RowKit
theorem _root_.Go.Proofs.YtfialjmemcobjaaGreatDoor.Ql4 {p : Prop} (h : p) : Go.RowKit.Hid p := h
theorem Qzm {a w:World} {row:Option Nat} (h:a.grownBy w row) (o:Obj):a.grownBy (w.alloc o) row:=
 ⟨h.os,h.tape,h.output,Nat.le_trans h.size (by simp),fun i hi hne=>(Below.heap_alloc w o i (Nat.lt_of_lt_of_le hi h.size)).trans (h.block i hi hne)⟩
theorem Pm {a w:World} {g:Nat} (h:a.grownBy w (some g)) {p:Addr} (hp:p.block=g∨a.heap.size≤p.block) (u:Value):a.grownBy (w.setCell p u) (some g):=
 ⟨h.os,h.tape,h.output,by simpa [World.setCell] using h.size,fun i hi hne=>(Below.heap_setCell w p u i (by
  rintro rfl
  rcases hp with hp|hp
  ·exact hne (by rw [hp])
  ·omega)).trans (h.block i hi hne)⟩
theorem Jh {a w:World} (h:Below a.heap.size a w) (row:Option Nat):a.grownBy w row:=⟨h.os,h.tape,h.output,h.size,fun i hi _=>h.block i hi⟩
theorem Qzl {a b c:World} {row:Option Nat} (h:a.grownBy b row) (k:b.grownBy c row):a.grownBy c row:=
 ⟨k.os.trans h.os,k.tape.trans h.tape,k.output.trans h.output,Nat.le_trans h.size k.size,fun i hi hne=>(k.block i (Nat.lt_of_lt_of_le hi h.size) hne).trans (h.block i hi hne)⟩
theorem Ls {a w:World} {B g:Nat} (h:a.grownBy w (some g)) (hB:B≤g) (hs:B≤a.heap.size):Below B a w:=
 ⟨h.os,h.tape,h.output,h.size,fun k hk=>h.block k (by omega) (fun e=>by injection e;omega)⟩
theorem below_drewN {B:Nat} {a w:World} (h:Below B a w) (n:Nat):Below B a (w.drewN n):=⟨h.os,h.tape,h.output,h.size,h.block⟩
def Whole (w:World) (g:Nat) (t:TypeId) (cs:Array Value):Prop:=w.heap[g]? =some (.cells cs t (0,0))
theorem Whole.lt {w:World} {g:Nat} {t:TypeId} {cs:Array Value} (h:Whole w g t cs):g < w.heap.size:=(Array.getElem?_eq_some_iff.1 h).1
theorem Whole.cell {w:World} {g:Nat} {t:TypeId} {cs:Array Value} (h:Whole w g t cs) (i:Nat):w.cell? ⟨g,i,none⟩=cs[i]? :=cell_of_row w g i cs t (0,0) h
theorem Whole.fz {w:World} {g:Nat} {t:TypeId} {cs:Array Value} (h:Whole w g t cs) (i:Nat):w.frozen? ⟨g,i,none⟩=false:=by
 unfold Whole at h
 simp [World.frozen?,h]
theorem Whole.new (w:World) (t:TypeId) (cs:Array Value):Whole (w.alloc (.cells cs t)) w.heap.size t cs:=heap_alloc_new w _
theorem Whole.alloc {w:World} {g:Nat} {t:TypeId} {cs:Array Value} (h:Whole w g t cs) (o:Obj):Whole (w.alloc o) g t cs:=(Below.heap_alloc w o g h.lt).trans h
theorem Whole.set {w:World} {g:Nat} {t:TypeId} {cs:Array Value} (h:Whole w g t cs) (i:Nat) (u:Value):Whole (w.setCell ⟨g,i,none⟩ u) g t (cs.setIfInBounds i u):=by
 unfold Whole at h ⊢
 simp [World.setCell,Array.getElem?_modify,h]
theorem Whole.far {w:World} {g:Nat} {t:TypeId} {cs:Array Value} (h:Whole w g t cs) {p:Addr} (hp:g≠p.block) (u:Value):Whole (w.setCell p u) g t cs:=(Below.heap_setCell w p u g hp).trans h
theorem Whole.grown {w w':World} {g:Nat} {t:TypeId} {cs:Array Value} {row:Option Nat} (h:Whole w g t cs) (hb:w.grownBy w' row) (hg:some g≠row):Whole w' g t cs:=(hb.block g h.lt hg).trans h
theorem Whole.below {w w':World} {g B:Nat} {t:TypeId} {cs:Array Value} (h:Whole w g t cs) (hb:Below B w w') (hg:g < B):Whole w' g t cs:=(hb.block g hg).trans h
theorem own_ne {w:World} {base:Nat} {e:TypeId} {size n:Nat} {v:Value} {xs:List Value} {g:Nat} {t:TypeId} {cs:Array Value} (h:w.ownsRow base e size v n xs) (hg:Whole w g t cs) (hne:e≠t):some g≠v.ownBlock:=by
 rcases h.2 with ⟨rfl,_⟩|⟨g',cap,cur,rfl,_,hh,_⟩
 ·simp [Value.ownBlock]
 ·intro he
  have:g=g':=by simpa [Value.ownBlock] using he
  subst this
  unfold Whole at hg
  rw [hh] at hg
  injection hg with hg
  injection hg with _ ht
  exact hne ht
theorem Qs {w:World} {base base':Nat} {e:TypeId} {size:Nat} {v:Value} {n:Nat} {xs:List Value} (h:w.ownsRow base e size v n xs) (hb:base'≤base):w.ownsRow base' e size v n xs:=by
 refine ⟨h.1,?_⟩
 rcases h.2 with h2|⟨g,cap,cur,h1,h2,h3⟩
 ·exact .inl h2
 ·exact .inr ⟨g,cap,cur,h1,by omega,h3⟩
theorem Qk {w:World} {base:Nat} {e:TypeId} {size:Nat} {v:Value} {n:Nat} {xs:List Value} (h:w.ownsRow base e size v n xs):∃A c,v= .slice A n c:=by
 rcases h.2 with ⟨h1,h2⟩|⟨g,cap,cur,h1,_⟩
 ·exact ⟨none,0,by rw [h1,h2]⟩
 ·exact ⟨_,_,h1⟩
theorem own_below {w w':World} {base:Nat} {e:TypeId} {size:Nat} {v:Value} {n:Nat} {xs:List Value} (h:w.ownsRow base e size v n xs) (hb:Below w.heap.size w w'):w'.ownsRow base e size v n xs:=
 h.kept (Jh hb none) (by cases v.ownBlock <;> simp)
theorem Q4 {wr w2:World} {o:Obj} {base:Nat} {e:TypeId} {size:Nat} {v:Value} {n:Nat} {xs:List Value} (hown:wr.ownsRow base e size v n xs) (hg:(wr.alloc o).grownBy w2 v.ownBlock) (hb:base≤wr.heap.size):Below base wr w2:=
 ⟨hg.os,hg.tape,hg.output,Nat.le_trans (by simp) hg.size,fun i hi=>(hg.block i (by simp;omega) (fun e=>by have:=(hown.lt i e.symm).1;omega)).trans (Below.heap_alloc _ _ _ (by omega))⟩
theorem Zr (w:World) (a:Value) (t:TypeId):∀j u,[a][j]? =some u→(w.alloc (.cells #[a] t)).cell? ((⟨w.heap.size,0,none⟩:Addr).add j)=some u:=by
 intro j u hj
 match j,hj with
 |0,hj=>simp at hj;subst hj;simp [Addr.add]
theorem Qhr {w:World} {base:Nat} {e:TypeId} {size:Nat} {v:Value} {n:Nat} {xs:List Value} (h:w.ownsRow base e size v n xs) (hn:0 < n):
  ∃g cap,v= .slice (some ⟨g,0,none⟩) n cap∧base≤g∧∀j u,xs[j]? =some u→w.cell? ⟨g,j,none⟩=some u:=by
 rcases h.2 with ⟨_,h2⟩|⟨g,cap,cur,h1,h2,h3,h4,h5,h6,h7⟩
 ·omega
 ·subst h1
  refine ⟨g,cap,rfl,h2,fun j u hu=>?_⟩
  have:=h.cells (g:=g) rfl j u hu
  have e:(⟨g,0,none⟩:Addr).add j=⟨g,j,none⟩:=by unfold Addr.add;split <;> simp_all
  rwa [e] at this
theorem Qq {w w':World} (h:Below w.heap.size w w') {a:Addr} {v:Value} (hc:w.cell? a=some v):w'.cell? a=some v:=(h.cell (World.block_lt_of_cell? _ _ hc)).trans hc
theorem Rs {w w':World} (h:Below w.heap.size w w') {a:Addr} {v:Value} {b:Bool} (hc:w.cell? a=some v) (hf:w.frozen? a=b):w'.frozen? a=b:=(h.frozen (World.block_lt_of_cell? _ _ hc)).trans hf
structure Keep (F:Nat→Prop) (w w':World):Prop where
 os:w'.os=w.os
 tape:w'.tape=w.tape
 output:w'.output=w.output
 size:w.heap.size≤w'.heap.size
 block:∀k,k < w.heap.size→¬F k→w'.heap[k]? =w.heap[k]?
theorem Keep.refl (F:Nat→Prop) (w:World):Keep F w w:=⟨rfl,rfl,rfl,Nat.le_refl _,fun _ _ _=>rfl⟩
theorem Keep.mono {F G:Nat→Prop} {w w':World} (h:Keep F w w') (hF:∀k,k < w.heap.size→F k→G k):Keep G w w':=
 ⟨h.os,h.tape,h.output,h.size,fun k hk hn=>h.block k hk (fun hf=>hn (hF k hk hf))⟩
theorem Keep.trans {F G:Nat→Prop} {a b c:World} (h:Keep F a b) (k:Keep G b c) (hG:∀x,G x→F x∨a.heap.size≤x):Keep F a c:=
 ⟨k.os.trans h.os,k.tape.trans h.tape,k.output.trans h.output,Nat.le_trans h.size k.size,fun i hi hn=>
  (k.block i (Nat.lt_of_lt_of_le hi h.size) (fun hg=>(hG i hg).elim hn (fun h2=>by omega))).trans (h.block i hi hn)⟩
theorem Keep.below {F:Nat→Prop} {w w':World} (h:Below w.heap.size w w'):Keep F w w':=⟨h.os,h.tape,h.output,h.size,fun k hk _=>h.block k hk⟩
theorem Keep.toBelow {F:Nat→Prop} {B:Nat} {w w':World} (h:Keep F w w') (hB:B≤w.heap.size) (hF:∀k,F k→B≤k):Below B w w':=
 ⟨h.os,h.tape,h.output,h.size,fun k hk=>h.block k (by omega) (fun hf=>by have:=hF k hf;omega)⟩
theorem Keep.transBelow {F:Nat→Prop} {a b c:World} (h:Keep F a b) (k:Below b.heap.size b c):Keep F a c:=
 h.trans (Keep.below (F:=fun _=>False) k) (fun _ hf=>hf.elim)
theorem Keep.drew {F:Nat→Prop} {a w:World} (h:Keep F a w):Keep F a w.drew:=⟨h.os,h.tape,h.output,h.size,h.block⟩
theorem Keep.drewN {F:Nat→Prop} {a w:World} (h:Keep F a w) (n:Nat):Keep F a (w.drewN n):=⟨h.os,h.tape,h.output,h.size,h.block⟩
theorem Keep.alloc {F:Nat→Prop} {a w:World} (h:Keep F a w) (o:Obj):Keep F a (w.alloc o):=
 ⟨h.os,h.tape,h.output,Nat.le_trans h.size (by simp),fun k hk hn=>(Below.heap_alloc w o k (Nat.lt_of_lt_of_le hk h.size)).trans (h.block k hk hn)⟩
theorem Keep.setCell {F:Nat→Prop} {a w:World} (h:Keep F a w) {p:Addr} (hp:F p.block∨a.heap.size≤p.block) (u:Value):Keep F a (w.setCell p u):=
 ⟨h.os,h.tape,h.output,by simpa [World.setCell] using h.size,fun k hk hn=>(Below.heap_setCell w p u k (by
  rintro rfl
  rcases hp with hp|hp
  ·exact hn hp
  ·omega)).trans (h.block k hk hn)⟩
theorem Keep.set1 (w:World) (p i:Nat) (u:Value):Keep (fun k=>k=p) w (w.setCell ⟨p,i,none⟩ u):=Keep.setCell (a:=w) (p:=⟨p,i,none⟩) (Keep.refl (fun k=>k=p) w) (.inl rfl) u
theorem Whole.new' (w:World) (t:TypeId) (cs:Array Value) (n:Nat) (h:w.heap.size=n):Whole (w.alloc (.cells cs t)) n t cs:=by subst h;exact Whole.new w t cs
theorem size_set (w:World) (a:Addr) (u:Value):(w.setCell a u).heap.size=w.heap.size:=by simp [World.setCell]
theorem Whole.set4 {w:World} {g:Nat} {t:TypeId} {a0 a1 a2 a3:Value} (h:Whole w g t #[a0,a1,a2,a3]) (b0 b1 b2 b3:Value):
  Whole ((((w.setCell ⟨g,0,none⟩ b0).setCell ⟨g,1,none⟩ b1).setCell ⟨g,2,none⟩ b2).setCell ⟨g,3,none⟩ b3) g t #[b0,b1,b2,b3]:=by
 simpa using (((h.set 0 b0).set 1 b1).set 2 b2).set 3 b3
theorem Keep.set4 (w:World) (p:Nat) (b0 b1 b2 b3:Value):Keep (fun k=>k=p) w ((((w.setCell ⟨p,0,none⟩ b0).setCell ⟨p,1,none⟩ b1).setCell ⟨p,2,none⟩ b2).setCell ⟨p,3,none⟩ b3):=
 Keep.setCell (p:=⟨p,3,none⟩) (Keep.setCell (p:=⟨p,2,none⟩) (Keep.setCell (p:=⟨p,1,none⟩) (Keep.set1 w p 0 b0) (.inl rfl) b1) (.inl rfl) b2) (.inl rfl) b3
theorem Keep.grown {F:Nat→Prop} {a w w':World} {row:Option Nat} (h:Keep F a w) (hg:w.grownBy w' row) (hr:∀g,row=some g→F g∨a.heap.size≤g):Keep F a w':=
 ⟨hg.os.trans h.os,hg.tape.trans h.tape,hg.output.trans h.output,Nat.le_trans h.size hg.size,fun k hk hn=>(hg.block k (Nat.lt_of_lt_of_le hk h.size) (fun e=>by
  rcases hr k e.symm with hp|hp
  ·exact hn hp
  ·omega)).trans (h.block k hk hn)⟩
theorem Keep.heap {F:Nat→Prop} {w w':World} (h:Keep F w w') {k:Nat} {o:Obj} (ho:w.heap[k]? =some o) (hF:¬F k):w'.heap[k]? =some o:=
 (h.block k (Array.getElem?_eq_some_iff.1 ho).1 hF).trans ho
theorem Keep.cell {F:Nat→Prop} {w w':World} (h:Keep F w w') {p:Addr} {v:Value} (hc:w.cell? p=some v) (hF:¬F p.block):w'.cell? p=some v:=
 (World.cell?_of_block (h.block p.block (World.block_lt_of_cell? _ _ hc) hF)).trans hc
theorem Keep.fz {F:Nat→Prop} {w w':World} (h:Keep F w w') {p:Addr} {q:Bool} (hp:p.block < w.heap.size) (hc:w.frozen? p=q) (hF:¬F p.block):w'.frozen? p=q:=
 (World.frozen?_of_block (h.block p.block hp hF)).trans hc
theorem Whole.keep {F:Nat→Prop} {w w':World} {g:Nat} {t:TypeId} {cs:Array Value} (h:Whole w g t cs) (hb:Keep F w w') (hF:¬F g):Whole w' g t cs:=hb.heap h hF
theorem Qj {F:Nat→Prop} {w w':World} {base:Nat} {e:TypeId} {size:Nat} {v:Value} {n:Nat} {xs:List Value} (h:w.ownsRow base e size v n xs) (hb:Keep F w w') (hF:∀g,v.ownBlock=some g→¬F g):w'.ownsRow base e size v n xs:=by
 refine ⟨h.1,?_⟩
 rcases h.2 with h2|⟨g,cap,cur,hv,hg,hh,r⟩
 ·exact .inl h2
 ·exact .inr ⟨g,cap,cur,hv,hg,hb.heap hh (hF g (by rw [hv];rfl)),r⟩
theorem Qo {w:World} {base:Nat} {e:TypeId} {size:Nat} {A:Option Addr} {n cap:Nat} {xs:List Value} (h:w.ownsRow base e size (.slice A n cap) n xs) (hn:0 < n):
  ∃g,A=some ⟨g,0,none⟩∧base≤g∧g < w.heap.size∧n≤cap∧(∀j u,xs[j]? =some u→w.cell? ⟨g,j,none⟩=some u)∧∀j,w.frozen? ⟨g,j,none⟩=false:=by
 rcases h.2 with ⟨h1,h2⟩|⟨g,cap',cur,h1,h2,h3,h4,h5,h6,h7⟩
 ·omega
 ·injection h1 with hA hl hc
  subst hA hc
  refine ⟨g,rfl,h2,(Array.getElem?_eq_some_iff.1 h3).1,h4,fun j u hu=>?_,fun j=>h.frozenAt j⟩
  have hj:j < n * size:=by
   have:=(List.getElem?_eq_some_iff.1 hu).1
   rw [h.1] at this
   exact this
  rw [h.cellAt j hj,hu]
theorem Al {w:World} {base:Nat} {e:TypeId} {size:Nat} {A:Option Addr} {n cap:Nat} {xs:List Value} (h:w.ownsRow base e size (.slice A n cap) n xs):n≤cap∧cap≤maxLen:=by
 rcases h.2 with ⟨h1,h2⟩|⟨g,cap',cur,h1,h2,h3,h4,h5,h6,h7⟩
 ·injection h1 with hA hl hc
  subst hc h2
  exact ⟨Nat.le_refl _,Nat.zero_le _⟩
 ·injection h1 with hA hl hc
  subst hc
  exact ⟨h4,h5⟩
theorem Qd1 {w:World} {base:Nat} {e:TypeId} {size:Nat} {A:Option Addr} {m n cap:Nat} {xs:List Value} (h:w.ownsRow base e size (.slice A m cap) n xs):m=n:=by
 rcases h.2 with ⟨h1,h2⟩|⟨g,cap',cur,h1,_⟩
 ·injection h1 with hA hl hc
  omega
 ·injection h1
theorem Kn {w:World} {base:Nat} {e:TypeId} {size n:Nat} {v:Value} {xs:List Value} (h:w.ownsRow base e size v n xs) {g:Nat} (hg:v.ownBlock=some g):∃cs,w.heap[g]? =some (.cells cs e (0,0)):=by
 rcases h.2 with ⟨rfl,_⟩|⟨g',cap,cur,rfl,_,hh,_⟩
 ·simp [Value.ownBlock] at hg
 ·have:g'=g:=by simpa [Value.ownBlock] using hg
  subst this
  exact ⟨_,hh⟩
theorem Qyh {w:World} {base base':Nat} {e e':TypeId} {size size' n n':Nat} {v v':Value} {xs xs':List Value} (h:w.ownsRow base e size v n xs) (h':w.ownsRow base' e' size' v' n' xs') (hne:e≠e') {g:Nat} (hg:v.ownBlock=some g):v'.ownBlock≠some g:=by
 intro hg'
 obtain ⟨cs,h1⟩:=Kn h hg
 obtain ⟨cs',h2⟩:=Kn h' hg'
 rw [h1] at h2
 injection h2 with h2
 injection h2 with _ h2
 exact hne h2
theorem Xb {w:World} {g g':Nat} {t t':TypeId} {cs cs':Array Value} (h:Whole w g t cs) (h':Whole w g' t' cs') (hne:t≠t'):g≠g':=by
 rintro rfl
 unfold Whole at h h'
 rw [h] at h'
 injection h' with h2
 injection h2 with _ h2
 exact hne h2
structure Mv (F:Nat→Prop) (w:World) (F':Nat→Prop) (w':World):Prop where
 keep:Keep F w w'
 sub:∀k,F' k→F k∨w.heap.size≤k
theorem Mv.trans {F G H:Nat→Prop} {a b c:World} (h:Mv F a G b) (k:Mv G b H c):Mv F a H c:=
 ⟨h.keep.trans k.keep h.sub,fun x hx=>(k.sub x hx).elim (h.sub x) (fun h2=>.inr (Nat.le_trans h.keep.size h2))⟩
theorem Mv.below {F:Nat→Prop} {w w':World} (h:Below w.heap.size w w'):Mv F w F w':=⟨Keep.below h,fun _ h=>.inl h⟩
theorem Mv.toBelow {F F':Nat→Prop} {B:Nat} {w w':World} (h:Mv F w F' w') (hB:B≤w.heap.size) (hF:∀k,F k→B≤k):Below B w w'∧∀k,F' k→B≤k:=
 ⟨h.keep.toBelow hB hF,fun k hk=>(h.sub k hk).elim (hF k) (fun h2=>by omega)⟩
def ErrAt (w:World):List Nat→List (ByteArray×Int)→Int→Value→Prop
 |[],[],c,v=>v= .iface 28 (.int .i64 c)
 |b::bs,s::l,c,v=>v= .iface 183 (.pointer (some ⟨b,0,none⟩))∧∃x,Whole w b 187 #[.string s.1,.int .i64 s.2,x]∧ErrAt w bs l c x
 |_,_,_,_=>False
theorem ErrAt.keep {F:Nat→Prop} {w w':World} (hk:Keep F w w'):∀{bs:List Nat} {l:List (ByteArray×Int)} {c:Int} {v:Value},ErrAt w bs l c v→(∀b∈bs,¬F b)→ErrAt w' bs l c v
 |[],[],_,_,h,_=>h
 |b::bs,s::l,c,v,⟨h1,x,h2,h3⟩,hF=>⟨h1,x,h2.keep hk (hF b (by simp)),ErrAt.keep hk h3 (fun b' hb=>hF b' (by simp [hb]))⟩
 |[],_::_,_,_,h,_=>h.elim
 |_::_,[],_,_,h,_=>h.elim
theorem ErrAt.iface {w:World}:∀{bs:List Nat} {l:List (ByteArray×Int)} {c:Int} {v:Value},ErrAt w bs l c v→∃t x,v= .iface t x
 |[],[],_,_,h=>⟨_,_,h⟩
 |b::bs,s::l,c,v,⟨h1,x,h2,h3⟩=>⟨_,_,h1⟩
 |[],_::_,_,_,h=>h.elim
 |_::_,[],_,_,h=>h.elim
def Yt (w:World) (F:Nat→Prop) (l:List (ByteArray×Int)) (c:Int) (v:Value):Prop:=
 (c=0∧v= .nilIface)∨(c≠0∧∃bs,ErrAt w bs l c v∧∀b∈bs,¬F b)
def Xn (c:Int):Value:=if c=0 then .nilIface else .iface 28 (.int .i64 c)
end er
namespace pg
open Go.RowKit er
structure Page where
 kind:Int
 space:Int
 key:Int
 seq:Int
 body:ByteArray
def Page.val (p:Page):Value:= .agg #[.int .i64 p.kind,.int .i64 p.space,.int .i64 p.key,.int .i64 p.seq,.string p.body]
def inB (n most:Int):Bool:=decide (0≤n) && decide (n≤most)
theorem Yo (n m:Int) (w:World):
  Calls Tryz.prog 111 #[.int .i64 n,.int .i64 m] w fun e w'=>e= .returned (.bool (inB n m))∧w=w':=by
 go_enter Tryz.func111,Tryz.ntmps111
 by_cases h1:0≤n
 ·by_cases h8:n≤m
  ·go_wp2_with fail
   go_ret
   exact ⟨by simp [inB,h1,h8],rfl⟩
  ·have h8':m < n:=by omega
   go_wp2_with fail
   go_ret
   exact ⟨by simp [inB,h1];omega,rfl⟩
 ·have h1':n < 0:=by omega
  go_wp2_with fail
  go_ret
  exact ⟨by simp [inB];omega,rfl⟩
def Zj (p:Page):Bool:=decide (1≤p.kind) && decide (p.kind≤4) && inB p.space 65535 && inB p.key 4294967295 && inB p.seq 281474976710655 && decide (p.body.size≤100)
set_option maxHeartbeats 4000000 in
set_option maxRecDepth 100000 in
theorem O5 (p:Page) (w:World):
  Calls Tryz.prog 53 #[p.val] w fun e w'=>e= .returned (.bool (Zj p))∧Below w.heap.size w w':=by
 obtain ⟨k,s,y,q,b⟩:=p
 show Calls Tryz.prog 53 #[.agg #[.int .i64 k,.int .i64 s,.int .i64 y,.int .i64 q,.string b]] w _
 have hb1:Below w.heap.size w (w.alloc (.cells #[.int .i64 k,.int .i64 s,.int .i64 y,.int .i64 q,.string b] 32)):=(Below.refl _ _).alloc (Nat.le_refl _) _
 have HB1:=Ql4 hb1
 clear hb1
 by_cases h1:1≤k
 ·by_cases h2:k≤4
  ·cases h3:inB s 65535
   ·have H3:=Ql4 h3
    clear h3
    have H4:=H3
    have H5:=H3
    go_enter Tryz.func53,Tryz.ntmps53
    go_wp2_with (go_at_call 111;refine (Yo _ _ _).mono ?_;(first|rw [H3.out]|rw [H4.out]|rw [H5.out]);rintro e w' ⟨rfl,rfl⟩)
    go_ret
    exact ⟨by simp [Zj,h1,h2,H3.out],HB1.out⟩
   ·have H3:=Ql4 h3
    clear h3
    cases h4:inB y 4294967295
    ·have H4:=Ql4 h4
     clear h4
     have H5:=H4
     go_enter Tryz.func53,Tryz.ntmps53
     go_wp2_with (go_at_call 111;refine (Yo _ _ _).mono ?_;(first|rw [H3.out]|rw [H4.out]|rw [H5.out]);rintro e w' ⟨rfl,rfl⟩)
     go_ret
     exact ⟨by simp [Zj,h1,h2,H3.out,H4.out],HB1.out⟩
    ·have H4:=Ql4 h4
     clear h4
     cases h5:inB q 281474976710655
     ·have H5:=Ql4 h5
      clear h5
      go_enter Tryz.func53,Tryz.ntmps53
      go_wp2_with (go_at_call 111;refine (Yo _ _ _).mono ?_;(first|rw [H3.out]|rw [H4.out]|rw [H5.out]);rintro e w' ⟨rfl,rfl⟩)
      go_ret
      exact ⟨by simp [Zj,h1,h2,H3.out,H4.out,H5.out],HB1.out⟩
     ·have H5:=Ql4 h5
      clear h5
      by_cases h6:b.size≤100
      ·have h6':(b.size:Int)≤100:=by omega
       go_enter Tryz.func53,Tryz.ntmps53
       go_wp2_with (go_at_call 111;refine (Yo _ _ _).mono ?_;(first|rw [H3.out]|rw [H4.out]|rw [H5.out]);rintro e w' ⟨rfl,rfl⟩)
       go_ret
       exact ⟨by simp [Zj,h1,h2,H3.out,H4.out,H5.out,h6],HB1.out⟩
      ·have h6':(100:Int) < (b.size:Int):=by omega
       go_enter Tryz.func53,Tryz.ntmps53
       go_wp2_with (go_at_call 111;refine (Yo _ _ _).mono ?_;(first|rw [H3.out]|rw [H4.out]|rw [H5.out]);rintro e w' ⟨rfl,rfl⟩)
       go_ret
       exact ⟨by simp [Zj,h1,h2,H3.out,H4.out,H5.out];omega,HB1.out⟩
  ·have h2':4 < k:=by omega
   go_enter Tryz.func53,Tryz.ntmps53
   go_wp2_with fail
   go_ret
   exact ⟨by rw [show Zj ⟨k,s,y,q,b⟩=false from by unfold Zj;rw [decide_eq_false (show ¬k≤4 by omega)];simp];rfl,HB1.out⟩
 ·have h1':k < 1:=by omega
  go_enter Tryz.func53,Tryz.ntmps53
  go_wp2_with fail
  go_ret
  exact ⟨by rw [show Zj ⟨k,s,y,q,b⟩=false from by unfold Zj;rw [decide_eq_false (show ¬1≤k by omega)];simp];rfl,HB1.out⟩
end pg
namespace er
open Go.RowKit Go.Extern.Stop Go.Stop Go.Extern
theorem Y0 (op:ByteArray) (k:Int) (w:World):
  Calls Tryz.prog 57 #[.string op,.int .i64 k,.nilIface] w fun e w'=>e= .returned .nilIface∧w=w':=by
 go_enter Tryz.func57,Tryz.ntmps57
 go_wp2
 go_ret
 exact ⟨rfl,rfl⟩
theorem Y1 (op:ByteArray) (k:Int) (t:TypeId) (x:Value) (w:World):
  Calls Tryz.prog 57 #[.string op,.int .i64 k,.iface t x] w fun e w'=>
   e= .returned (.iface 183 (.pointer (some ⟨w.heap.size,0,none⟩)))∧w.alloc (.cells #[.string op,.int .i64 k,.iface t x] 187)=w':=by
 go_enter Tryz.func57,Tryz.ntmps57
 go_wp2
 go_ret
 exact ⟨rfl,rfl⟩
theorem Ao (b:Nat) (op:ByteArray) (k:Int) (x:Value) (w:World) (h:w.heap[b]? =some (.cells #[.string op,.int .i64 k,x] 187 (0,0))):
  Calls Tryz.prog 369 #[.pointer (some ⟨b,0,none⟩)] w fun e w'=>e= .returned x∧w=w':=by
 have hc:w.cell? ⟨b,2,none⟩=some x:=by rw [cell_of_row w b 2 _ _ _ h];rfl
 have hn:∀(w:World),(binOp .eql 183 (.pointer (some ⟨b,0,none⟩)) (.pointer none)).run Tryz.prog w= .ok (.bool false) w:=fun w=>by kernel_rfl
 clear h
 go_enter Tryz.func369,Tryz.ntmps369
 go_wp2
 go_ret
 exact ⟨rfl,rfl⟩
structure Qhm (w:World) (ta pa:Nat) (old:Int):Prop where
 cell:w.cell? ⟨ta,0,none⟩=some (.int .i64 old)
 fz:w.frozen? ⟨ta,0,none⟩=false
 ptr:w.cell? ⟨pa,0,none⟩=some (.pointer (some ⟨ta,0,none⟩))
def AsC (w:World) (ta:Nat) (c:Int) (e:Ending) (w':World):Prop:=
 e= .returned (.bool true)∧w'.cell? ⟨ta,0,none⟩=some (.int .i64 c)∧w.grownBy w' (some ta)
theorem ErrAt.below {w w':World} {bs:List Nat} {l:List (ByteArray×Int)} {c:Int} {v:Value} (h:ErrAt w bs l c v) (hb:Below w.heap.size w w'):ErrAt w' bs l c v:=
 ErrAt.keep (F:=fun _=>False) (Keep.below hb) h (fun _ _=>id)
set_option maxHeartbeats 2000000 in
set_option maxRecDepth 100000 in
theorem asC (bs:List Nat) (l:List (ByteArray×Int)) (c:Int) (v:Value) (w:World) (ta pa:Nat) (old:Int) (herr:ErrAt w bs l c v) (ht:Qhm w ta pa old):
  Calls Tryz.prog 153 #[v,.iface 135 (.pointer (some ⟨ta,0,none⟩)),.agg #[.pointer (some ⟨2,135,none⟩),.pointer (some ⟨pa,0,none⟩),.int .u64 150],.iface 310 (.agg #[.pointer (some ⟨2,28,none⟩)])] w (AsC w ta c):=by
 have ER:=Ql4 herr
 have TG:=Ql4 ht
 obtain ⟨tx,y,hv⟩:=herr.iface
 subst hv
 clear herr ht
 have x25:=@run_callFunc_extern Tryz.prog 150 _ (fun args=>ReflectliteValue.unpack (args.getD 0 (.tuple #[]))) Tryz.func150 (by kernel_rfl) (by kernel_rfl) (by kernel_rfl) (by kernel_rfl)
 have x29:=@run_callFunc_extern Tryz.prog 216 _ ReflectliteType.typeOf Tryz.func216 (by kernel_rfl) (by kernel_rfl) (by kernel_rfl) (by kernel_rfl)
 have x60 := @run_callFunc_extern Tryz.prog 377 _ (ReflectliteType.relation "AssignableTo" ReflectliteType.assignableTo) Tryz.func377 (by kernel_rfl) (by kernel_rfl) (by kernel_rfl) (by kernel_rfl)
 have x31 := @run_callFunc_extern Tryz.prog 217 _ (ReflectliteValue.method (ReflectliteValue.valueError "reflectlite.Value.Elem" 0) ReflectliteValue.elem) Tryz.func217 (by kernel_rfl) (by kernel_rfl) (by kernel_rfl) (by kernel_rfl)
 have x32:=@run_callFunc_extern Tryz.prog 218 _ ReflectliteValue.set Tryz.func218 (by kernel_rfl) (by kernel_rfl) (by kernel_rfl) (by kernel_rfl)
 have mAss:=I1
 go_enter Tryz.func153,Tryz.ntmps153
 go_wp2
 go_loopg [0] l.length (fun k s wr=>(∃bs' l',l'.length=k∧ErrAt w bs' l' c s)∧Below w.heap.size w wr∧wr.cell? ⟨w.heap.size,0,none⟩=some (.pointer (some ⟨2,135,none⟩))∧wr.cell? ⟨w.heap.size,1,none⟩=some (.pointer (some ⟨pa,0,none⟩))∧wr.cell? ⟨w.heap.size,2,none⟩=some (.int .u64 150))
 case atStart=>exact ⟨⟨bs,l,rfl,ER.out⟩,(Below.refl _ _).alloc (Nat.le_refl _) _,by simp,by simp,by simp⟩
 case round=>
  obtain ⟨⟨bs',l',hl,he⟩,hbel,c0,c1,c2⟩:=hrel
  cases l' with
  |nil=>
   cases bs' with
   |cons _ _=>exact he.elim
   |nil=>
    obtain rfl:_=_:=he
    have tq:=Qq hbel TG.out.cell
    have tf:=Rs hbel TG.out.cell TG.out.fz
    have tp:=Qq hbel TG.out.ptr
    have tlt:=World.block_lt_of_cell? _ _ tq
    have t1:=Qk3 (.int .i64 c)
    have t2:=Qag
    have t3:=Qet ⟨pa,0,none⟩ ⟨ta,0,none⟩ wr tp
    have t4:=Qgi c
    have t5:=Qld ⟨ta,0,none⟩ ⟨wr.heap.size,0,none⟩ c (.int .i64 old) (wr.alloc (.cells #[.int .i64 c] 28)) (by simp) (by rw [World.cell?_alloc_lt _ _ _ tlt];exact tq) (by rw [World.frozen?_alloc_old _ _ _ (Nat.ne_of_lt tlt)];exact tf)
    have HBEL:=Ql4 hbel
    clear hl hbel
    go_wp2
    go_ret
    refine ⟨rfl,?_,Qzm (Pm (Jh HBEL.out _) (.inl rfl) _) _⟩
    rw [World.cell?_alloc_lt _ _ _ (by simpa using tlt)]
    exact World.cell?_setCell_same _ _ _ tq
  |cons s l'=>
   cases bs' with
   |nil=>exact he.elim
   |cons b bs'=>
    obtain ⟨rfl,x,hwh,hx⟩:=he
    obtain ⟨tx,y,hxy⟩:=hx.iface
    subst hxy
    have HX:=Ql4 hx
    have HW:=Ql4 (hwh.below hbel hwh.lt)
    have t1:=Qgb (.pointer (some ⟨b,0,none⟩))
    have t2:=Qau
    have t3:=Qfv (.pointer (some ⟨b,0,none⟩))
    have t4:=Qih (.pointer (some ⟨b,0,none⟩))
    have t5:=Qk2 (.pointer (some ⟨b,0,none⟩))
    have HL:Hid (l'.length < gk):=by show _ < _;simp at hl;omega
    clear hx hwh hl
    go_wp2_with (go_at_call 369;refine (Ao _ _ _ _ _ HW.out).mono ?_;rintro e w' ⟨rfl,rfl⟩)
    go_roundg l'.length
    case measure=>exact HL.out
    case rel=>exact ⟨⟨bs',l',rfl,HX.out⟩,hbel,c0,c1,c2⟩
def LaidT (w:World):Prop:=w.cell? ⟨0,0,none⟩=some (.iface 310 (.agg #[.pointer (some ⟨2,34,none⟩)]))
theorem LaidT.below {B:Nat} {w w':World} (h:LaidT w) (hb:Below B w w') (hB:0 < B):LaidT w':=(hb.cell (p:=⟨0,0,none⟩) hB).trans h
theorem LaidT.lt {w:World} (h:LaidT w):0 < w.heap.size:=World.block_lt_of_cell? _ _ h
set_option maxHeartbeats 2000000 in
set_option maxRecDepth 100000 in
theorem Ql1 (bs:List Nat) (l:List (ByteArray×Int)) (c:Int) (v:Value) (w:World) (ta:Nat) (old:Int) (herr:ErrAt w bs l c v) (hta:w.cell? ⟨ta,0,none⟩=some (.int .i64 old)) (hfz:w.frozen? ⟨ta,0,none⟩=false) (hg:LaidT w):
  Calls Tryz.prog 78 #[v,.iface 135 (.pointer (some ⟨ta,0,none⟩))] w (AsC w ta c):=by
 have hlt:ta < w.heap.size:=World.block_lt_of_cell? _ _ hta
 have h0:=hg.lt
 obtain ⟨tx,y,hv⟩:=herr.iface
 subst hv
 have x25:=@run_callFunc_extern Tryz.prog 150 _ (fun args=>ReflectliteValue.unpack (args.getD 0 (.tuple #[]))) Tryz.func150 (by kernel_rfl) (by kernel_rfl) (by kernel_rfl) (by kernel_rfl)
 have x26 := @run_callFunc_extern Tryz.prog 151 _ (ReflectliteValue.methodAny (ReflectliteValue.valueError "reflectlite.Value.Type" 0) (fun t _ _ _ => ReflectliteType.toType t)) Tryz.func151 (by kernel_rfl) (by kernel_rfl) (by kernel_rfl) (by kernel_rfl)
 have x27 := @run_callFunc_extern Tryz.prog 152 _ (ReflectliteValue.method (ReflectliteValue.valueError "reflectlite.Value.IsNil" 0) ReflectliteValue.isNil) Tryz.func152 (by kernel_rfl) (by kernel_rfl) (by kernel_rfl) (by kernel_rfl)
 have x47:=@run_callFunc_extern Tryz.prog 363 _ (ReflectliteType.abiMethod fun t=>do pure (.int .u8 (←Rtype.kind t))) Tryz.func363 (by kernel_rfl) (by kernel_rfl) (by kernel_rfl) (by kernel_rfl)
 have x62:=@run_callFunc_extern Tryz.prog 379 _ (ReflectliteType.method ReflectliteType.elem) Tryz.func379 (by kernel_rfl) (by kernel_rfl) (by kernel_rfl) (by kernel_rfl)
 have x63 := @run_callFunc_extern Tryz.prog 380 _ (ReflectliteType.relation "Implements" ReflectliteType.implements_) Tryz.func380 (by kernel_rfl) (by kernel_rfl) (by kernel_rfl) (by kernel_rfl)
 have f1:=Qxm ⟨ta,0,none⟩
 have f2:=Qbs
 have f3:=Qzw
 have f4:=Qz0
 have f5:=Ef
 have f6:=Qcd
 have f7:=Qf6
 have f8:=Qcn
 have f9:=V3
 have n8:=Qeo ⟨w.heap.size,0,none⟩ ⟨ta,0,none⟩ ((w.alloc (.cells #[.pointer (some ⟨ta,0,none⟩)] 135)).alloc (.cells #[.pointer (some ⟨2,135,none⟩),.pointer (some ⟨w.heap.size,0,none⟩),.int .u64 150] 243)) (by simp)
 have hg2:((w.alloc (.cells #[.pointer (some ⟨ta,0,none⟩)] 135)).alloc (.cells #[.pointer (some ⟨2,135,none⟩),.pointer (some ⟨w.heap.size,0,none⟩),.int .u64 150] 243)).cell? ⟨0,0,none⟩=some (.iface 310 (.agg #[.pointer (some ⟨2,34,none⟩)])):=by
  rw [World.cell?_alloc_lt _ _ ⟨0,0,none⟩ (by simp),World.cell?_alloc_lt _ _ ⟨0,0,none⟩ h0];exact hg
 have hbw:Below w.heap.size w ((w.alloc (.cells #[.pointer (some ⟨ta,0,none⟩)] 135)).alloc (.cells #[.pointer (some ⟨2,135,none⟩),.pointer (some ⟨w.heap.size,0,none⟩),.int .u64 150] 243)):=((Below.refl _ _).alloc (Nat.le_refl _) _).alloc (by simp) _
 have ER2:=Ql4 (herr.below hbw)
 have TG:Hid (Qhm _ ta w.heap.size old):=⟨Qq hbw hta,Rs hbw hta hfz,by simp⟩
 have HBW:=Ql4 hbw
 clear hta hfz hg hbw herr
 go_enter Tryz.func78,Tryz.ntmps78
 go_wp2_with (go_at_call 153;refine (asC bs l c _ _ ta w.heap.size old ER2.out TG.out).mono ?_;intro e w' hh;obtain ⟨rfl,hq1,hq2⟩:=hh;have HQ1:=Ql4 hq1;have HQ2:=Ql4 hq2;clear hq1 hq2)
 go_ret
 exact ⟨rfl,HQ1.out,Qzl (Jh HBW.out _) HQ2.out⟩
set_option maxHeartbeats 1000000 in
theorem Qi8 (w:World):Calls Tryz.prog 25 #[.nilIface] w fun e w'=>e= .returned (.int .i64 0)∧w=w':=by
 go_enter Tryz.func25,Tryz.ntmps25
 go_wp2
 go_ret
 exact ⟨rfl,rfl⟩
set_option maxHeartbeats 1000000 in
theorem Qe3 (bs:List Nat) (l:List (ByteArray×Int)) (c:Int) (v:Value) (w:World) (herr:ErrAt w bs l c v) (hg:LaidT w):
  Calls Tryz.prog 25 #[v] w fun e w'=>e= .returned (.int .i64 c)∧Below w.heap.size w w':=by
 obtain ⟨tx,y,hv⟩:=herr.iface
 subst hv
 have hb0:Below w.heap.size w (w.alloc (.cells #[.int .i64 0] 28)):=(Below.refl _ _).alloc (Nat.le_refl _) _
 have ER:=Ql4 (herr.below hb0)
 have HG:=Ql4 (hg.below hb0 hg.lt)
 have HB0:=Ql4 hb0
 clear herr hg hb0
 go_enter Tryz.func25,Tryz.ntmps25
 go_wp2_with (go_at_call 78;refine (Ql1 bs l c _ _ w.heap.size 0 ER.out (by simp) (by simp) HG.out).mono ?_;intro e w' hh;obtain ⟨rfl,hq1,hq2⟩:=hh;have HQ2:=Ql4 hq2;clear hq2)
 go_ret
 exact ⟨rfl,HB0.out.trans (Ls HQ2.out (Nat.le_refl _) (by simp))⟩
end er
end Go.Proofs.YtfialjmemcobjaaGreatDoor
