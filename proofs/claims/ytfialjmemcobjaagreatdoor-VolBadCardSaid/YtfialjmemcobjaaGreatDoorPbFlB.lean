/- A part of the proof. -/
import Derived.Test.YtfialjmemcobjaaGreatDoorPbCo
import Derived.Test.YtfialjmemcobjaaGreatDoorPbFlA
import Derived.Below
import Derived.Deep.Draws
import Derived.Laws.AppendOwn
import Derived.Laws.OwnMore
import Derived.OwnWalk
set_option maxRecDepth 100000
set_option maxHeartbeats 16000000
set_option linter.unusedVariables false
set_option linter.unusedSimpArgs false
namespace Go.Proofs.YtfialjmemcobjaaGreatDoor
namespace er
open Go.RowKit
theorem _root_.Go.Proofs.YtfialjmemcobjaaGreatDoor.Q7h{p : Prop}(h : p) : Go.RowKit.Hid p := h
theorem Ve{a w:World}{row:Option Nat}(h:a.grownBy w row)(o:Obj):a.grownBy (w.alloc o) row:=
 ⟨h.os,h.tape,h.output,QqR h.size U,λi hi b=>(QuF w o i (QzB hi h.size)).trans (h.block i hi b)⟩
theorem Me{a w:World}{g:Nat}(h:a.grownBy w (some g)){p:Addr}(c:p.block=g\/a.heap.size<=p.block)(u:Value):a.grownBy (w.setCell p u) (some g):=
 ⟨h.os,h.tape,h.output,by simpa[World.setCell]using h.size,λi hi b=>(Below.heap_setCell w p u i (by
  rintro rfl;rcases c with c|c
  ·exact b (by rw[c])
  ·omega)).trans (h.block i hi b)⟩
theorem Je{a w:World}(h:Below a a w)(row:Option Nat):a.grownBy w row:=⟨h.os,h.tape,h.output,h.size,λi hi _=>h.block i hi⟩
theorem Md{a b c:World}{row:Option Nat}(h:a.grownBy b row)(k:b.grownBy c row):a.grownBy c row:=
 ⟨k.os.trans h.os,k.tape.trans h.tape,k.output.trans h.output,QqR h.size k.size,λi hi d=>(k.block i (QzB hi h.size) d).trans (h.block i hi d)⟩
theorem Tt{a w:World}{B g:Nat}(h:a.grownBy w (some g))(b:B<=g)(c:B<=a.heap.size):Below B a w:=
 ⟨h.os,h.tape,h.output,h.size,λk d=>h.block k O (λe=>by injection e;omega)⟩
theorem below_drewN{B:Nat}{a w:World}(h:Below B a w)(n:Nat):Below B a (w.drewN n):=⟨h.os,h.tape,h.output,h.size,h.block⟩
def Whole(w:World)(g:Nat)(t:TypeId)(cs:Array Value):Prop:=w.heap[g]? =some (.cells cs t (0,0))
theorem Whole.lt{w:World}{g:Nat}{t:TypeId}{cs:Array Value}(h:Whole w g t cs):g<w.heap.size:=(QyB.1 h).1
theorem Whole.cell{w:World}{g:Nat}{t:TypeId}{cs:Array Value}(h:Whole w g t cs)(i:Nat):w.cell? (g,i)=cs[i]? :=cell_of_row w g i cs t (0,0) h
theorem Whole.fz{w:World}{g:Nat}{t:TypeId}{cs:Array Value}(h:Whole w g t cs)(i:Nat):w.frozen? (g,i)=false:=by
 unfold Whole at h;simp[World.frozen?,h]
theorem Whole.new(w:World)(t:TypeId)(cs:Array Value):Whole (w.alloc (.cells cs t)) w.heap.size t cs:=QzY w _
theorem Whole.alloc{w:World}{g:Nat}{t:TypeId}{cs:Array Value}(h:Whole w g t cs)(o:Obj):Whole (w.alloc o) g t cs:=(QuF w o g h.lt).trans h
theorem Whole.set{w:World}{g:Nat}{t:TypeId}{cs:Array Value}(h:Whole w g t cs)(i:Nat)(u:Value):Whole (w.setCell (g,i) u) g t (cs.setIfInBounds i u):=by
 unfold Whole at h ⊢;simp[World.setCell,Array.getElem?_modify,h]
theorem Whole.far{w:World}{g:Nat}{t:TypeId}{cs:Array Value}(h:Whole w g t cs){p:Addr}(a:g≠p.block)(u:Value):Whole (w.setCell p u) g t cs:=(Below.heap_setCell w p u g a).trans h
theorem Whole.grown{w w':World}{g:Nat}{t:TypeId}{cs:Array Value}{row:Option Nat}(h:Whole w g t cs)(hb:w.grownBy w' row)(a:some g≠row):Whole w' g t cs:=(hb.block g h.lt a).trans h
theorem Whole.below{w w':World}{g B:Nat}{t:TypeId}{cs:Array Value}(h:Whole w g t cs)(hb:Below B w w')(a:g<B):Whole w' g t cs:=(hb.block g a).trans h
theorem own_ne{w:World}{base:Nat}{e:TypeId}{size n:Nat}{v:Value}{xs:List Value}{g:Nat}{t:TypeId}{cs:Array Value}(h:w.ownsRow base e size v n xs)(a:Whole w g t cs)(b:e≠t):some g≠v.ownBlock:=by
 rcases h.2 with⟨rfl,_⟩|⟨c,cap,d,rfl,_,f,_⟩
 ·simp[Value.ownBlock]
 ·intro i;have:g=c:=by simpa[Value.ownBlock]using i
  subst this;unfold Whole at a;rw[f]at a;injection a with a;injection a with _ j;exact b j
theorem Qr{w:World}{base a:Nat}{e:TypeId}{size:Nat}{v:Value}{n:Nat}{xs:List Value}(h:w.ownsRow base e size v n xs)(hb:a<=base):w.ownsRow a e size v n xs:=by
 refine⟨h.1,?_⟩;rcases h.2 with h2|⟨g,cap,b,h1,h2,h3⟩
 ·exact .inl h2
 ·exact .inr ⟨g,cap,b,h1,O,h3⟩
theorem Qk{w:World}{base:Nat}{e:TypeId}{size:Nat}{v:Value}{n:Nat}{xs:List Value}(h:w.ownsRow base e size v n xs):∃A c,v= .slice A n c:=by
 rcases h.2 with⟨h1,h2⟩|⟨g,cap,a,h1,_⟩
 ·exact⟨none,0,by rw[h1,h2]⟩
 ·exact⟨_,_,h1⟩
theorem own_below{w w':World}{base:Nat}{e:TypeId}{size:Nat}{v:Value}{n:Nat}{xs:List Value}(h:w.ownsRow base e size v n xs)(hb:Below w w w'):w'.ownsRow base e size v n xs:=
 h.kept (Je hb none) (by cases v.ownBlock<;>simp)
theorem Qy{wr w2:World}{o:Obj}{base:Nat}{e:TypeId}{size:Nat}{v:Value}{n:Nat}{xs:List Value}(a:wr.ownsRow base e size v n xs)(b:(wr.alloc o).grownBy w2 v.ownBlock)(hb:base<=wr.heap.size):Below base wr w2:=
 ⟨b.os,b.tape,b.output,QqR U b.size,λi hi=>(b.block i (by simp;omega) (λe=>by have:=(a.lt i e.symm).1;omega)).trans (QuF _ _ _ O)⟩
theorem Z4(w:World)(a:Value)(t:TypeId):∀j u,[a][j]? =some u->(w.alloc (.cells #[a] t)).cell? (((w,0):Addr).add j)=some u:=by
 intro j u b;match j,b with
 |0,b=>simp at b;subst b;simp[Addr.add]
theorem Q6a{w:World}{base:Nat}{e:TypeId}{size:Nat}{v:Value}{n:Nat}{xs:List Value}(h:w.ownsRow base e size v n xs)(c:0<n):
  ∃g cap,v= .slice (some ⟨g,0,none⟩) n cap/\base<=g/\∀j u,xs[j]? =some u->w.cell? ⟨g,j,none⟩=some u:=by
 rcases h.2 with⟨_,h2⟩|⟨g,cap,a,h1,h2,h3,h4,h5,d,f⟩
 ·omega
 ·subst h1;refine⟨g,cap,rfl,h2,λj u b=>?_⟩;have:=h.cells (g:=g) rfl j u b;have e:(⟨g,0,none⟩:Addr).add j=⟨g,j,none⟩:=by unfold Addr.add;split<;>simp_all
  rwa[e]at this
theorem Qq{w w':World}(h:Below w w w'){a:Addr}{v:Value}(b:w.cell? a=some v):w'.cell? a=some v:=(h.cell (QjA _ _ b)).trans b
theorem Yj{w w':World}(h:Below w w w'){a:Addr}{v:Value}{b:Bool}(c:w.cell? a=some v)(d:w.frozen? a=b):w'.frozen? a=b:=(h.frozen (QjA _ _ c)).trans d
structure Keep(F:Nat->Prop)(w w':World):Prop where
 os:w'.os=w.os
 tape:w'.tape=w.tape
 output:w'.output=w.output
 size:w.heap.size<=w'.heap.size
 block:∀k,k<w.heap.size->¬F k->w'.heap[k]? =w.heap[k]?
theorem Keep.refl(F:Nat->Prop)(w:World):Keep F w w:=⟨rfl,rfl,rfl,QqB _,λ_ _ _=>rfl⟩
theorem Keep.mono{F G:Nat->Prop}{w w':World}(h:Keep F w w')(b:∀k,k<w.heap.size->F k->G k):Keep G w w':=
 ⟨h.os,h.tape,h.output,h.size,λk a c=>h.block k a (λd=>c (b k a d))⟩
theorem Keep.trans{F G:Nat->Prop}{a b c:World}(h:Keep F a b)(k:Keep G b c)(e:∀x,G x->F x\/a.heap.size<=x):Keep F a c:=
 ⟨k.os.trans h.os,k.tape.trans h.tape,k.output.trans h.output,QqR h.size k.size,λi hi d=>
  (k.block i (QzB hi h.size) (λf=>(e i f).elim d (λh2=>O))).trans (h.block i hi d)⟩
theorem Keep.below{F:Nat->Prop}{w w':World}(h:Below w w w'):Keep F w w':=⟨h.os,h.tape,h.output,h.size,λk a _=>h.block k a⟩
theorem Keep.toBelow{F:Nat->Prop}{B:Nat}{w w':World}(h:Keep F w w')(c:B<=w.heap.size)(a:∀k,F k->B<=k):Below B w w':=
 ⟨h.os,h.tape,h.output,h.size,λk d=>h.block k O (λb=>by have:=a k b;omega)⟩
theorem Keep.transBelow{F:Nat->Prop}{a b c:World}(h:Keep F a b)(k:Below b b c):Keep F a c:=
 h.trans (Keep.below (F:=λ_=>False) k) (λ_ d=>d.elim)
theorem Keep.drew{F:Nat->Prop}{a w:World}(h:Keep F a w):Keep F a w.drew:=⟨h.os,h.tape,h.output,h.size,h.block⟩
theorem Keep.drewN{F:Nat->Prop}{a w:World}(h:Keep F a w)(n:Nat):Keep F a (w.drewN n):=⟨h.os,h.tape,h.output,h.size,h.block⟩
theorem Keep.alloc{F:Nat->Prop}{a w:World}(h:Keep F a w)(o:Obj):Keep F a (w.alloc o):=
 ⟨h.os,h.tape,h.output,QqR h.size U,λk b c=>(QuF w o k (QzB b h.size)).trans (h.block k b c)⟩
theorem Keep.setCell{F:Nat->Prop}{a w:World}(h:Keep F a w){p:Addr}(b:F p.block\/a.heap.size<=p.block)(u:Value):Keep F a (w.setCell p u):=
 ⟨h.os,h.tape,h.output,by simpa[World.setCell]using h.size,λk d c=>(Below.heap_setCell w p u k (by
  rintro rfl;rcases b with b|b
  ·exact c b
  ·omega)).trans (h.block k d c)⟩
theorem Keep.set1(w:World)(p i:Nat)(u:Value):Keep (λk=>k=p) w (w.setCell (p,i) u):=Keep.setCell (a:=w) (p:=(p,i)) (Keep.refl (λk=>k=p) w) (.inl rfl) u
theorem Whole.new'(w:World)(t:TypeId)(cs:Array Value)(n:Nat)(h:w.heap.size=n):Whole (w.alloc (.cells cs t)) n t cs:=by subst h;exact Whole.new w t cs
theorem size_set(w:World)(a:Addr)(u:Value):(w.setCell a u).heap.size=w.heap.size:=by simp[World.setCell]
theorem Whole.set4{w:World}{g:Nat}{t:TypeId}{a a1 a2 a3:Value}(h:Whole w g t #[a,a1,a2,a3])(b0 b1 b2 b3:Value):
  Whole ((((w.setCell (g,0) b0).setCell (g,1) b1).setCell (g,2) b2).setCell (g,3) b3) g t #[b0,b1,b2,b3]:=by
 simpa using(((h.set 0 b0).set 1 b1).set 2 b2).set 3 b3
theorem Keep.set4(w:World)(p:Nat)(b0 b1 b2 b3:Value):Keep (λk=>k=p) w ((((w.setCell (p,0) b0).setCell (p,1) b1).setCell (p,2) b2).setCell (p,3) b3):=
 Keep.setCell (p:=(p,3)) (Keep.setCell (p:=(p,2)) (Keep.setCell (p:=(p,1)) (Keep.set1 w p 0 b0) (.inl rfl) b1) (.inl rfl) b2) (.inl rfl) b3
theorem Keep.grown{F:Nat->Prop}{a w w':World}{row:Option Nat}(h:Keep F a w)(b:w.grownBy w' row)(i:∀g,row=some g->F g\/a.heap.size<=g):Keep F a w':=
 ⟨b.os.trans h.os,b.tape.trans h.tape,b.output.trans h.output,QqR h.size b.size,λk c d=>(b.block k (QzB c h.size) (λe=>by
  rcases i k e.symm with f|f
  ·exact d f
  ·omega)).trans (h.block k c d)⟩
theorem Keep.heap{F:Nat->Prop}{w w':World}(h:Keep F w w'){k:Nat}{o:Obj}(a:w.heap[k]? =some o)(b:¬F k):w'.heap[k]? =some o:=
 (h.block k (QyB.1 a).1 b).trans a
theorem Keep.cell{F:Nat->Prop}{w w':World}(h:Keep F w w'){p:Addr}{v:Value}(a:w.cell? p=some v)(b:¬F p.block):w'.cell? p=some v:=
 (World.cell?_of_block (h.block p.block (QjA _ _ a) b)).trans a
theorem Keep.fz{F:Nat->Prop}{w w':World}(h:Keep F w w'){p:Addr}{q:Bool}(a:p.block<w.heap.size)(b:w.frozen? p=q)(c:¬F p.block):w'.frozen? p=q:=
 (World.frozen?_of_block (h.block p.block a c)).trans b
theorem Whole.keep{F:Nat->Prop}{w w':World}{g:Nat}{t:TypeId}{cs:Array Value}(h:Whole w g t cs)(hb:Keep F w w')(a:¬F g):Whole w' g t cs:=hb.heap h a
theorem Qa{F:Nat->Prop}{w w':World}{base:Nat}{e:TypeId}{size:Nat}{v:Value}{n:Nat}{xs:List Value}(h:w.ownsRow base e size v n xs)(hb:Keep F w w')(c:∀g,v.ownBlock=some g->¬F g):w'.ownsRow base e size v n xs:=by
 refine⟨h.1,?_⟩;rcases h.2 with h2|⟨g,cap,a,b,d,f,r⟩
 ·exact .inl h2
 ·exact .inr ⟨g,cap,a,b,d,hb.heap f (c g (by rw[b];rfl)),r⟩
theorem Qx{w:World}{base:Nat}{e:TypeId}{size:Nat}{A:Option Addr}{n cap:Nat}{xs:List Value}(h:w.ownsRow base e size (.slice A n cap) n xs)(k:0<n):
  ∃g,A=some ⟨g,0,none⟩/\base<=g/\g<w.heap.size/\n<=cap/\(∀j u,xs[j]? =some u->w.cell? ⟨g,j,none⟩=some u)/\∀j,w.frozen? ⟨g,j,none⟩=false:=by
 rcases h.2 with⟨h1,h2⟩|⟨g,a,c,h1,h2,h3,h4,h5,l,m⟩
 ·omega
 ·injection h1 with d o f;subst d f;refine⟨g,rfl,h2,(QyB.1 h3).1,h4,λj u b=>?_,λj=>h.frozenAt j⟩;have i:j<n*size:=by
   have:=(QqD.1 b).1;rw[h.1]at this;exact this
  rw[h.cellAt j i,b]
theorem Sz{w:World}{base:Nat}{e:TypeId}{size:Nat}{A:Option Addr}{n cap:Nat}{xs:List Value}(h:w.ownsRow base e size (.slice A n cap) n xs):n<=cap/\cap<=maxLen:=by
 rcases h.2 with⟨h1,h2⟩|⟨g,b,c,h1,h2,h3,h4,h5,i,j⟩
 ·injection h1 with d f a;subst a h2;exact⟨QqB _,QqM _⟩
 ·injection h1 with d f a;subst a;exact⟨h4,h5⟩
theorem Q12{w:World}{base:Nat}{e:TypeId}{size:Nat}{A:Option Addr}{m n cap:Nat}{xs:List Value}(h:w.ownsRow base e size (.slice A m cap) n xs):m=n:=by
 rcases h.2 with⟨h1,h2⟩|⟨g,a,b,h1,_⟩
 ·injection h1 with c d f;omega
 ·injection h1
theorem Yr{w:World}{base:Nat}{e:TypeId}{size n:Nat}{v:Value}{xs:List Value}(h:w.ownsRow base e size v n xs){g:Nat}(a:v.ownBlock=some g):∃cs,w.heap[g]? =some (.cells cs e (0,0)):=by
 rcases h.2 with⟨rfl,_⟩|⟨b,cap,c,rfl,_,d,_⟩
 ·simp[Value.ownBlock]at a
 ·have:b=g:=by simpa[Value.ownBlock]using a
  subst this;exact⟨_,d⟩
theorem Qr0{w:World}{base a:Nat}{e i:TypeId}{size b n k:Nat}{v j:Value}{xs c:List Value}(h:w.ownsRow base e size v n xs)(l:w.ownsRow a i b j k c)(d:e≠i){g:Nat}(m:v.ownBlock=some g):j.ownBlock≠some g:=by
 intro f;obtain⟨cs,h1⟩:=Yr h m;obtain⟨cs',h2⟩:=Yr l f;rw[h1]at h2;injection h2 with h2;injection h2 with _ h2;exact d h2
theorem O3{w:World}{g c:Nat}{t t':TypeId}{cs cs':Array Value}(h:Whole w g t cs)(a:Whole w c t' cs')(b:t≠t'):g≠c:=by
 rintro rfl;unfold Whole at h a;rw[h]at a;injection a with h2;injection h2 with _ h2;exact b h2
structure Mv(F:Nat->Prop)(w:World)(F':Nat->Prop)(w':World):Prop where
 keep:Keep F w w'
 sub:∀k,F' k->F k\/w.heap.size<=k
theorem Mv.refl(F:Nat->Prop)(w:World):Mv F w F w:=⟨Keep.refl _ _,λ_ h=>.inl h⟩
theorem Mv.trans{F G H:Nat->Prop}{a b c:World}(h:Mv F a G b)(k:Mv G b H c):Mv F a H c:=
 ⟨h.keep.trans k.keep h.sub,λx d=>(k.sub x d).elim (h.sub x) (λh2=>.inr (QqR h.keep.size h2))⟩
theorem Mv.below{F:Nat->Prop}{w w':World}(h:Below w w w'):Mv F w F w':=⟨Keep.below h,λ_ h=>.inl h⟩
theorem Mv.toBelow{F F':Nat->Prop}{B:Nat}{w w':World}(h:Mv F w F' w')(b:B<=w.heap.size)(a:∀k,F k->B<=k):Below B w w'/\∀k,F' k->B<=k:=
 ⟨h.keep.toBelow b a,λk c=>(h.sub k c).elim (a k) (λh2=>O)⟩
def ErrAt(w:World):List Nat->List (ByteArray×Int)->Int->Value->Prop
 |[],[],c,v=>v= .iface 28 (I c)
 |b::bs,s::l,c,v=>v= .iface 183 (b,0)/\∃x,Whole w b 187 #[.string s.1,I s.2,x]/\ErrAt w bs l c x
 |_,_,_,_=>False
theorem ErrAt.keep{F:Nat->Prop}{w w':World}(d:Keep F w w'):∀{a:List Nat} {l:List (ByteArray×Int)} {c:Int} {v:Value},ErrAt w a l c v->(∀b∈a,¬F b)->ErrAt w' a l c v
 |[],[],_,_,h,_=>h
 |b::a,s::l,c,v,⟨h1,x,h2,h3⟩,hF=>⟨h1,x,h2.keep d (hF b U),ErrAt.keep d h3 (λb' hb=>hF b' (by simp[hb]))⟩
 |[],_::_,_,_,h,_=>h.elim
 |_::_,[],_,_,h,_=>h.elim
theorem ErrAt.lt{w:World}:∀{a:List Nat} {l:List (ByteArray×Int)} {c:Int} {v:Value},ErrAt w a l c v->∀b∈a,b<w.heap.size
 |[],_,_,_,_,_,hb=>by simp at hb
 |b::a,s::l,c,v,⟨h1,x,h2,h3⟩,b',hb=>by
  rcases QqF.1 hb with rfl|hb
  ·exact h2.lt
  ·exact ErrAt.lt h3 b' hb
 |_::_,[],_,_,h,_,_=>h.elim
theorem ErrAt.iface{w:World}:∀{a:List Nat} {l:List (ByteArray×Int)} {c:Int} {v:Value},ErrAt w a l c v->∃t x,v= .iface t x
 |[],[],_,_,h=>⟨_,_,h⟩
 |b::a,s::l,c,v,⟨h1,x,h2,h3⟩=>⟨_,_,h1⟩
 |[],_::_,_,_,h=>h.elim
 |_::_,[],_,_,h=>h.elim
def Cu(w:World)(F:Nat->Prop)(l:List (ByteArray×Int))(c:Int)(v:Value):Prop:=
 (c=0/\v= .nilIface)\/(c≠0/\∃bs,ErrAt w bs l c v/\∀b∈bs,¬F b)
def Yk(c:Int):Value:=if c=0 then .nilIface else .iface 28 (I c)
end er
namespace pg
open Go.RowKit er
structure Page where
 kind:Int
 space:Int
 key:Int
 seq:Int
 body:ByteArray
def Page.val(p:Page):Value:= .agg #[I p.kind,I p.space,I p.key,I p.seq,.string p.body]
def inB(n most:Int):Bool:=decide (0<=n)&&decide (n<=most)
theorem Yv(n m:Int)(w:World):
  C 111 #[I n,I m] w λe w'=>e= .returned (.bool (inB n m))/\w=w':=by
 go_in
 by_cases h1:0<=n
 ·by_cases a:n<=m
  ·go_wp2_with fail
   go_ret
   exact⟨by simp[inB,h1,a],rfl⟩
  ·go_wp2_with fail
   go_ret
   exact⟨by simp[inB,h1];omega,rfl⟩
 ·have b:n<0:=O;go_wp2_with fail
  go_ret
  exact⟨by simp[inB];omega,rfl⟩
def Jd(p:Page):Bool:=decide (1<=p.kind)&&decide (p.kind<=4)&&inB p.space 65535&&inB p.key 4294967295&&inB p.seq 281474976710655&&decide (p.body.size<=100)
theorem Ap(p:Page)(w:World):
  C 53 #[p.val] w λe w'=>e= .returned (.bool (Jd p))/\Below w w w':=by
 obtain⟨k,s,y,q,b⟩:=p;show C 53 #[.agg #[I k,I s,I y,I q,.string b]] w _;have g:Below w w (w.alloc (.cells #[I k,I s,I y,I q,.string b] 32)):=B0.alloc N0 _;have a:=Q7h g;clear g;by_cases h1:1<=k
 ·by_cases h2:k<=4
  ·cases h3:inB s 65535
   ·have c:=Q7h h3;clear h3;have d:=c;have f:=c;go_in
    go_wp2_with (go_at_call 111;refine(Yv _ _ _).mono ?_;(first|rw[c.o]|rw[d.o]|rw[f.o]);rintro e w' ⟨rfl,rfl⟩)
    go_ret
    exact⟨by simp[Jd,h1,h2,c.o],a.o⟩
   ·have c:=Q7h h3;clear h3;cases h4:inB y 4294967295
    ·have d:=Q7h h4;clear h4;have f:=d;go_in
     go_wp2_with (go_at_call 111;refine(Yv _ _ _).mono ?_;(first|rw[c.o]|rw[d.o]|rw[f.o]);rintro e w' ⟨rfl,rfl⟩)
     go_ret
     exact⟨by simp[Jd,h1,h2,c.o,d.o],a.o⟩
    ·have d:=Q7h h4;clear h4;cases h5:inB q 281474976710655
     ·have f:=Q7h h5;clear h5;go_in
      go_wp2_with (go_at_call 111;refine(Yv _ _ _).mono ?_;(first|rw[c.o]|rw[d.o]|rw[f.o]);rintro e w' ⟨rfl,rfl⟩)
      go_ret
      exact⟨by simp[Jd,h1,h2,c.o,d.o,f.o],a.o⟩
     ·have f:=Q7h h5;clear h5;by_cases i:b.size<=100
      ·have h:(b.size:Int)<=100:=O;go_in
       go_wp2_with (go_at_call 111;refine(Yv _ _ _).mono ?_;(first|rw[c.o]|rw[d.o]|rw[f.o]);rintro e w' ⟨rfl,rfl⟩)
       go_ret
       exact⟨by simp[Jd,h1,h2,c.o,d.o,f.o,i],a.o⟩
      ·have h:(100:Int)<(b.size:Int):=O;go_in
       go_wp2_with (go_at_call 111;refine(Yv _ _ _).mono ?_;(first|rw[c.o]|rw[d.o]|rw[f.o]);rintro e w' ⟨rfl,rfl⟩)
       go_ret
       exact⟨by simp[Jd,h1,h2,c.o,d.o,f.o];omega,a.o⟩
  ·have j:4<k:=O;go_in
   go_wp2_with fail
   go_ret
   exact⟨by rw[show Jd ⟨k,s,y,q,b⟩=false from by unfold Jd;rw[QyF (show ¬k<=4 by omega)];simp];rfl,a.o⟩
 ·have l:k<1:=O;go_in
  go_wp2_with fail
  go_ret
  exact⟨by rw[show Jd ⟨k,s,y,q,b⟩=false from by unfold Jd;rw[QyF (show ¬1<=k by omega)];simp];rfl,a.o⟩
end pg
namespace er
open Go.RowKit Go.Extern.Stop Go.Stop Go.Extern
theorem Ij(op:ByteArray)(k:Int)(w:World):
  C 57 #[.string op,I k,.nilIface] w λe w'=>e= .returned .nilIface/\w=w':=by
 go_in
 go_wp2
 go_ret
 exact⟨rfl,rfl⟩
theorem Dx(op:ByteArray)(k:Int)(t:TypeId)(x:Value)(w:World):
  C 57 #[.string op,I k,.iface t x] w λe w'=>
   e= .returned (.iface 183 (w,0))/\w.alloc (.cells #[.string op,I k,.iface t x] 187)=w':=by
 go_in
 go_wp2
 go_ret
 exact⟨rfl,rfl⟩
theorem Wz(b:Nat)(op:ByteArray)(k:Int)(x:Value)(w:World)(h:w.heap[b]? =some (.cells #[.string op,I k,x] 187 (0,0))):
  C 369 #[.pointer (some ⟨b,0,none⟩)] w λe w'=>e= .returned x/\w=w':=by
 have a:w.cell? ⟨b,2,none⟩=some x:=by rw[cell_of_row w b 2 _ _ _ h];rfl
 have c:∀(w:World),(binOp .eql 183 (.pointer (some ⟨b,0,none⟩)) (.pointer none)).run Tryz.prog w= .ok (.bool false) w:=λw=>J;clear h;go_enter Tryz.func369,Tryz.ntmps369
 go_wp2
 go_ret
 exact⟨rfl,rfl⟩
structure Q5q(w:World)(ta pa:Nat)(old:Int):Prop where
 cell:w.cell? (ta,0)=some (I old)
 fz:w.frozen? (ta,0)=false
 ptr:w.cell? (pa,0)=some (ta,0)
def AsC(w:World)(ta:Nat)(c:Int)(e:Ending)(w':World):Prop:=
 e= .returned (.bool true)/\w'.cell? (ta,0)=some (I c)/\w.grownBy w' (some ta)
theorem ErrAt.below{w w':World}{a:List Nat}{l:List (ByteArray×Int)}{c:Int}{v:Value}(h:ErrAt w a l c v)(hb:Below w w w'):ErrAt w' a l c v:=
 ErrAt.keep (F:=λ_=>False) (Keep.below hb) h (λ_ _=>id)
theorem asC(t:List Nat)(l:List (ByteArray×Int))(c:Int)(v:Value)(w:World)(ta pa:Nat)(old:Int)(f:ErrAt w t l c v)(u:Q5q w ta pa old):
  C 153 #[v,.iface 135 (ta,0),.agg #[(2,135),(pa,0),.int .u64 150],.iface 310 (.agg #[(2,28)])] w (AsC w ta c):=by
 have⟨F,j⟩:=Q2 f u;obtain⟨H,y,K⟩:=f.iface;subst K;clear f u;have L:=@QzV Tryz.prog 150 _ (λargs=>ReflectliteValue.unpack (args.getD 0 (.tuple #[]))) Tryz.func150 J J J J;have M:=@QzV Tryz.prog 216 _ ReflectliteType.typeOf Tryz.func216 J J J J;have N := @QzV Tryz.prog 377 _ (ReflectliteType.relation "AssignableTo" ReflectliteType.assignableTo) Tryz.func377 J J J J;have Q := @QzV Tryz.prog 217 _ (ReflectliteValue.method (ReflectliteValue.valueError "reflectlite.Value.Elem" 0) ReflectliteValue.elem) Tryz.func217 J J J J;have R:=@QzV Tryz.prog 218 _ ReflectliteValue.set Tryz.func218 J J J J;have z:=Oh;go_in
 go_wp2
 go_loopg [0] l.length (λk s wr=>(∃d l',l'.length=k/\ErrAt w d l' c s)/\Below w w wr/\wr.cell? (w,0)=some (2,135)/\wr.cell? (w,1)=some (pa,0)/\wr.cell? (w,2)=some (.int .u64 150))
 case atStart=>exact⟨⟨t,l,rfl,F.o⟩,B0.alloc N0 _,U,U,U⟩
 case round=>
  obtain⟨⟨d,l',n,m⟩,a,c0,c1,c2⟩:=hrel;cases l' with
  |nil=>
   cases d with
   |cons _ _=>exact m.elim
   |nil=>
    obtain rfl:_=_:=m;have p:=Qq a j.o.cell;have S:=Yj a j.o.cell j.o.fz;have T:=Qq a j.o.ptr;have g:=QjA _ _ p;have t1:=Qxb (I c);have t2:=Q0w;have V:=Q2r (pa,0) (ta,0) wr T;have W:=Qtp c;have t5:=Q7z (ta,0) (wr,0) c (I old) (wr.alloc (.cells #[I c] 28)) U (by rw[QkK _ _ _ g];exact p) (by rw[QgA _ _ _ (Nat.ne_of_lt g)];exact S);have i:=Q7h a;clear n a;go_wp2
    go_ret
    refine⟨rfl,?_,Ve (Me (Je i.o _) (.inl rfl) _) _⟩;rw[QkK _ _ _ (by simpa using g)];exact World.cell?_setCell_same _ _ _ p
  |cons s l'=>
   cases d with
   |nil=>exact m.elim
   |cons b d=>
    obtain⟨rfl,x,h,q⟩:=m;obtain⟨H,y,r⟩:=q.iface;subst r;have⟨X,Y⟩:=Q2 q (h.below a h.lt);have t1:=Qyb (b,0);have t2:=Q0v;have V:=Q5r (b,0);have W:=Qw3 (b,0);have t5:=Qlv (b,0);have Z:Hid (l'.length<gk):=by show _<_;simp at n;omega
    clear q h n;go_wp2_with (go_at_call 369;refine(Wz _ _ _ _ _ Y.o).mono ?_;rintro e w' ⟨rfl,rfl⟩)
    go_roundg l'.length
    case measure=>exact Z.o
    case rel=>exact⟨⟨d,l',rfl,X.o⟩,a,c0,c1,c2⟩
def LaidT(w:World):Prop:=w.cell? (0,0)=some (.iface 310 (.agg #[(2,34)]))
theorem LaidT.below{B:Nat}{w w':World}(h:LaidT w)(hb:Below B w w')(a:0<B):LaidT w':=(hb.cell (p:=⟨0,0,none⟩) a).trans h
theorem LaidT.lt{w:World}(h:LaidT w):0<w.heap.size:=QjA _ _ h
theorem Q6i(p:List Nat)(l:List (ByteArray×Int))(c:Int)(v:Value)(w:World)(ta:Nat)(old:Int)(a:ErrAt w p l c v)(d:w.cell? (ta,0)=some (I old))(f:w.frozen? (ta,0)=false)(i:LaidT w):
  C 78 #[v,.iface 135 (ta,0)] w (AsC w ta c):=by
 have q:=i.lt;obtain⟨N,y,r⟩:=a.iface;subst r;have s:=@QzV Tryz.prog 150 _ (λargs=>ReflectliteValue.unpack (args.getD 0 (.tuple #[]))) Tryz.func150 J J J J;have u := @QzV Tryz.prog 151 _ (ReflectliteValue.methodAny (ReflectliteValue.valueError "reflectlite.Value.Type" 0) (λt _ _ _ => ReflectliteType.toType t)) Tryz.func151 J J J J;have x := @QzV Tryz.prog 152 _ (ReflectliteValue.method (ReflectliteValue.valueError "reflectlite.Value.IsNil" 0) ReflectliteValue.isNil) Tryz.func152 J J J J;have z:=@QzV Tryz.prog 363 _ (ReflectliteType.abiMethod λt=>do pure (.int .u8 (<-Rtype.kind t))) Tryz.func363 J J J J;have F:=@QzV Tryz.prog 379 _ (ReflectliteType.method ReflectliteType.elem) Tryz.func379 J J J J;have H := @QzV Tryz.prog 380 _ (ReflectliteType.relation "Implements" ReflectliteType.implements_) Tryz.func380 J J J J;have Q:=Qom (ta,0);have R:=Qts;have S:=Mh;have T:=Ml;have V:=Gn;have f6:=Qwn;have W:=Q3l;have X:=Q0x;have Y:=Qjr;have Z:=Qne (w,0) (ta,0) ((w.alloc (.cells #[(ta,0)] 135)).alloc (.cells #[(2,135),(w,0),.int .u64 150] 243)) U;have K:((w.alloc (.cells #[(ta,0)] 135)).alloc (.cells #[(2,135),(w,0),.int .u64 150] 243)).cell? (0,0)=some (.iface 310 (.agg #[(2,34)])):=by
  rw[QkK _ _ ⟨0,0,none⟩ U,QkK _ _ ⟨0,0,none⟩ q];exact i
 have b:Below w.heap.size w ((w.alloc (.cells #[.pointer (some ⟨ta,0,none⟩)] 135)).alloc (.cells #[.pointer (some ⟨2,135,none⟩),.pointer (some ⟨w.heap.size,0,none⟩),.int .u64 150] 243)):=((QqA _ _).alloc (QqB _) _).alloc U _;have j:=Q7h (a.below b);have L:Hid (Q5q _ ta w.heap.size old):=⟨Qq b d,Yj b d f,U⟩;have k:=Q7h b;clear d f i b a;go_in
 go_wp2_with (go_at_call 153;refine(asC p l c _ _ ta w.heap.size old j.o L.o).mono ?_;intro e w' M;obtain⟨rfl,g,h⟩:=M;have⟨m,n⟩:=Q2 g h;clear g h)
 go_ret
 exact⟨rfl,m.o,Md (Je k.o _) n.o⟩
theorem Q0e(w:World):C 25 #[.nilIface] w λe w'=>e= .returned (I 0)/\w=w':=by
 go_in
 go_wp2
 go_ret
 exact⟨rfl,rfl⟩
theorem Qej(i:List Nat)(l:List (ByteArray×Int))(c:Int)(v:Value)(w:World)(a:ErrAt w i l c v)(f:LaidT w):
  C 25 #[v] w λe w'=>e= .returned (I c)/\Below w w w':=by
 obtain⟨q,y,j⟩:=a.iface;subst j;have b:Below w w (w.alloc (.cells #[I 0] 28)):=B0.alloc N0 _;have⟨k,m,g⟩:=Q3 (a.below b) (f.below b f.lt) b;clear a f b;go_in
 go_wp2_with (go_at_call 78;refine(Q6i i l c _ _ w.heap.size 0 k.o U U m.o).mono ?_;intro e w' n;obtain⟨rfl,p,d⟩:=n;have h:=Q7h d;clear d)
 go_ret
 exact⟨rfl,g.o.trans (Tt h.o N0 U)⟩
theorem Qye(t:Addr)(w:World):(ReflectliteValue.unpack (.iface 340 (.pointer (some t)))).run Tryz.prog w
  = .ok (.agg #[(2,340),(w,0),.int .u64 150]) (w.alloc (.cells #[.pointer (some t)] 340)):=J
theorem Qol(e:Addr)(w:World):(ReflectliteValue.unpack (.iface 183 (.pointer (some e)))).run Tryz.prog w
  = .ok (.agg #[(2,183),(w,0),.int .u64 150]) (w.alloc (.cells #[.pointer (some e)] 183)):=J
theorem Ql1(a : Addr)(w : World) : (ReflectliteValue.methodAny (ReflectliteValue.valueError "reflectlite.Value.Type" 0) (λt _ _ _ => ReflectliteType.toType t) #[.agg #[.pointer (some ⟨2, 340, none⟩), .pointer (some a), .int .u64 150]]).run Tryz.prog w
  = .ok (.iface 310 (.agg #[(2,340)])) w:=J
theorem Qno(w:World):((ReflectliteType.abiMethod λt=>(λa:Nat=>Value.int IntKind.u8 (a:Int)) <$> Rtype.kind t) #[(2,340)]).run Tryz.prog w= .ok (.int .u8 22) w:=J
theorem Qwm(w:World):((ReflectliteType.abiMethod λt=>(λa:Nat=>Value.int IntKind.u8 (a:Int)) <$> Rtype.kind t) #[(2,183)]).run Tryz.prog w= .ok (.int .u8 22) w:=J
theorem Qbr(a:Addr)(w:World):(ReflectliteValue.parts (.agg #[(2,340),.pointer (some a),.int .u64 150])).run Tryz.prog w= .ok (some (340,a,150)) w:=J
theorem Qci(a p:Addr)(W:World)(ha:W.cell? a=some (.pointer (some p))):
  (ReflectliteValue.method (ReflectliteValue.valueError "reflectlite.Value.IsNil" 0) ReflectliteValue.isNil #[.agg #[.pointer (some ⟨2, 340, none⟩), .pointer (some a), .int .u64 150]]).run Tryz.prog W = .ok (.bool false) W := by
 rw[rlm];simp only[Sem.run_bind,Qbr,Result.andThen];simp[ReflectliteValue.isNil,loadVar,isAgg,underlying,Tryz.underlying340,ha,Result.andThen]
theorem Qpq(w:World):(ReflectliteType.method ReflectliteType.elem #[.agg #[(2,340)]]).run Tryz.prog w= .ok (.iface 310 (.agg #[(2,183)])) w:=J
theorem Qq3(w : World) : (ReflectliteType.relation "Implements" ReflectliteType.implements_ #[.agg #[.pointer (some ⟨2, 183, none⟩)], .iface 310 (.agg #[.pointer (some ⟨2, 34, none⟩)])]).run Tryz.prog w = .ok (.bool true) w := by kernel_rfl
theorem Qfh(w : World) : (ReflectliteType.relation "AssignableTo" ReflectliteType.assignableTo #[.agg #[.pointer (some ⟨2, 28, none⟩)], .iface 310 (.agg #[.pointer (some ⟨2, 183, none⟩)])]).run Tryz.prog w = .ok (.bool false) w := by kernel_rfl
theorem Qff(w : World) : (ReflectliteType.relation "AssignableTo" ReflectliteType.assignableTo #[.agg #[.pointer (some ⟨2, 183, none⟩)], .iface 310 (.agg #[.pointer (some ⟨2, 183, none⟩)])]).run Tryz.prog w = .ok (.bool true) w := by kernel_rfl
theorem Qsw(w:World):(Rtype.elem? 340).run Tryz.prog w= .ok (some 183) w:=J
theorem Q7y(p:Addr)(w:World):(ReflectliteValue.mk 183 p ReflectliteValue.flagAddr).run Tryz.prog w= .ok (.agg #[(2,183),.pointer (some p),.int .u64 406]) w:=J
theorem Qc7(a p:Addr)(W:World)(ha:W.cell? a=some (.pointer (some p))):
  (ReflectliteValue.method (ReflectliteValue.valueError "reflectlite.Value.Elem" 0) ReflectliteValue.elem #[.agg #[.pointer (some ⟨2, 340, none⟩), .pointer (some a), .int .u64 150]]).run Tryz.prog W
   = .ok (.agg #[(2,183),.pointer (some p),.int .u64 406]) W:=by
 rw[rlm];simp only[Sem.run_bind,Qbr,Result.andThen];simp[ReflectliteValue.elem,loadVar,isAgg,underlying,Tryz.underlying340,ha,Result.andThen,Qsw,Q7y]
theorem Qvv(a:Addr)(w:World):(ReflectliteValue.parts (.agg #[(2,183),.pointer (some a),.int .u64 406])).run Tryz.prog w= .ok (some (183,a,406)) w:=J
theorem Q1w(a:Addr)(w:World):(ReflectliteValue.parts (.agg #[(2,183),.pointer (some a),.int .u64 150])).run Tryz.prog w= .ok (some (183,a,150)) w:=J
theorem Q0o(w:World):(Rtype.directlyAssignable 183 183).run Tryz.prog w= .ok true w:=J
theorem Q3a(ta b e:Addr)(old:Value)(W:World)(hb:W.cell? b=some (.pointer (some e)))(a:W.cell? ta=some old)(c:W.frozen? ta=false):
  (ReflectliteValue.set #[.agg #[(2,183),.pointer (some ta),.int .u64 406],.agg #[(2,183),.pointer (some b),.int .u64 150]]).run Tryz.prog W
   = .ok (.tuple #[]) (W.setCell ta (.pointer (some e))):=by
 rw[rls];simp only[Sem.run_bind,Qvv,Q1w,Result.andThen];simp[ReflectliteValue.flagAddr,loadVar,isAgg,underlying,Tryz.underlying183,hb,Result.andThen,Q0o,storeVar,Value.cells,storeCells,Addr.add];rw[run_store Tryz.prog W ta _ _ (by rfl)];simp[a,c]
structure Q3j(w:World)(ta pa:Nat)(old:Value):Prop where
 cell:w.cell? (ta,0)=some old
 fz:w.frozen? (ta,0)=false
 ptr:w.cell? (pa,0)=some (ta,0)
def AsP(w:World)(ta:Nat):List Nat->Ending->World->Prop
 |[],e,w'=>e= .returned (.bool false)/\Below w w w'
 |b::_,e,w'=>e= .returned (.bool true)/\(w'.cell? (ta,0)=some (b,0)/\w'.frozen? (ta,0)=false)/\w.grownBy w' (some ta)
theorem asP(h:List Nat)(l:List (ByteArray×Int))(c:Int)(v:Value)(w:World)(ta pa:Nat)(old:Value)(d:ErrAt w h l c v)(m:Q3j w ta pa old):
  C 153 #[v,.iface 340 (ta,0),.agg #[(2,340),(pa,0),.int .u64 150],.iface 310 (.agg #[(2,183)])] w (AsP w ta h):=by
 have g:=Q7h m;clear m;have q:=@QzV Tryz.prog 150 _ (λargs=>ReflectliteValue.unpack (args.getD 0 (.tuple #[]))) Tryz.func150 J J J J;have r:=@QzV Tryz.prog 216 _ ReflectliteType.typeOf Tryz.func216 J J J J;have t := @QzV Tryz.prog 377 _ (ReflectliteType.relation "AssignableTo" ReflectliteType.assignableTo) Tryz.func377 J J J J;have u := @QzV Tryz.prog 217 _ (ReflectliteValue.method (ReflectliteValue.valueError "reflectlite.Value.Elem" 0) ReflectliteValue.elem) Tryz.func217 J J J J;have y:=@QzV Tryz.prog 218 _ ReflectliteValue.set Tryz.func218 J J J J;have n:=Oh;have e:Below w.heap.size w (w.alloc (.cells #[.pointer (some ⟨2,340,none⟩),.pointer (some ⟨pa,0,none⟩),.int .u64 150] 243)):=(QqA _ _).alloc (QqB _) _;have z:=Qq e g.out.cell;have F:=Yj e g.out.cell g.out.fz;have H:=Qq e g.out.ptr;cases l with
 |nil=>
  cases h with
  |cons _ _=>exact d.elim
  |nil=>
   obtain rfl:_=_:=d;have t1:=Qxb (I c);have t2:=Qfh;have K:=Q3b (I c);have L:=Qv7 (I c);have t5:=Qhv (I c);go_in
   go_wp2
   go_loopg [0] 0 (λk s wr=>s= .iface 28 (I c)/\Below w w wr/\wr.cell? (w,0)=some (2,340)/\wr.cell? (w,1)=some (pa,0)/\wr.cell? (w,2)=some (.int .u64 150))
   case atStart=>exact⟨rfl,e,U,U,U⟩
   case round=>
    obtain⟨rfl,a,c0,c1,c2⟩:=hrel;go_wp2
    go_ret
    exact⟨rfl,a⟩
 |cons s l'=>
  cases h with
  |nil=>exact d.elim
  |cons b bs'=>
   obtain⟨rfl,x,i,M⟩:=d;have t1:=Qyb (b,0);have t2:=Qff;have L:=Qol (b,0);clear i M;go_in
   go_wp2
   go_loopg [0] 0 (λk s wr=>s= .iface 183 (b,0)/\Below w w wr/\wr.cell? (w,0)=some (2,340)/\wr.cell? (w,1)=some (pa,0)/\wr.cell? (w,2)=some (.int .u64 150))
   case atStart=>exact⟨rfl,e,U,U,U⟩
   case round=>
    obtain⟨rfl,a,c0,c1,c2⟩:=hrel;have j:=Qq a g.o.cell;have p:=Yj a g.o.cell g.o.fz;have N:=Qq a g.o.ptr;have f:=QjA _ _ j;have K:=Qc7 (pa,0) (ta,0) wr N;have t5:=Q3a (ta,0) (wr,0) (b,0) old (wr.alloc (.cells #[(b,0)] 183)) U (by rw[QkK _ _ _ f];exact j) (by rw[QgA _ _ _ (Nat.ne_of_lt f)];exact p);go_wp2
    go_ret
    refine⟨rfl,⟨?_,?_⟩,Ve (Me (Je a _) (.inl rfl) _) _⟩
    ·rw[QkK _ _ _ (by simpa using f)];exact World.cell?_setCell_same _ _ _ j
    ·rw[QgA _ _ _ (Nat.ne_of_lt (by simpa using f)),World.frozen?_setCell];exact p
theorem Q5y(m:List Nat)(l:List (ByteArray×Int))(c:Int)(v:Value)(w:World)(ta:Nat)(old:Value)(a:ErrAt w m l c v)(f:w.cell? ⟨ta,0,none⟩=some old)(g:w.frozen? ⟨ta,0,none⟩=false)(n:LaidT w):
  C 78 #[v,.iface 340 (.pointer (some ⟨ta,0,none⟩))] w (AsP w ta m):=by
 have u:ta<w.heap.size:=QjA _ _ f;have x:=n.lt;obtain⟨Q,y,o⟩:=a.iface;subst o;have z:=@QzV Tryz.prog 150 _ (λargs=>ReflectliteValue.unpack (args.getD 0 (.tuple #[]))) Tryz.func150 J J J J;have F := @QzV Tryz.prog 151 _ (ReflectliteValue.methodAny (ReflectliteValue.valueError "reflectlite.Value.Type" 0) (λt _ _ _ => ReflectliteType.toType t)) Tryz.func151 J J J J;have H := @QzV Tryz.prog 152 _ (ReflectliteValue.method (ReflectliteValue.valueError "reflectlite.Value.IsNil" 0) ReflectliteValue.isNil) Tryz.func152 J J J J;have K:=@QzV Tryz.prog 363 _ (ReflectliteType.abiMethod λt=>do pure (.int .u8 (<-Rtype.kind t))) Tryz.func363 J J J J;have L:=@QzV Tryz.prog 379 _ (ReflectliteType.method ReflectliteType.elem) Tryz.func379 J J J J;have M := @QzV Tryz.prog 380 _ (ReflectliteType.relation "Implements" ReflectliteType.implements_) Tryz.func380 J J J J;have R:=Qye ⟨ta,0,none⟩;have S:=Ql1;have T:=Mh;have V:=Ml;have W:=Gn;have f6:=Qno;have X:=Qwm;have Y:=Qpq;have Z:=Qq3;have A:=Qci ⟨w.heap.size,0,none⟩ ⟨ta,0,none⟩ ((w.alloc (.cells #[.pointer (some ⟨ta,0,none⟩)] 340)).alloc (.cells #[.pointer (some ⟨2,340,none⟩),.pointer (some ⟨w.heap.size,0,none⟩),.int .u64 150] 243)) U;have N:((w.alloc (.cells #[.pointer (some ⟨ta,0,none⟩)] 340)).alloc (.cells #[.pointer (some ⟨2,340,none⟩),.pointer (some ⟨w.heap.size,0,none⟩),.int .u64 150] 243)).cell? ⟨0,0,none⟩=some (.iface 310 (.agg #[.pointer (some ⟨2,34,none⟩)])):=by
  rw[QkK _ _ ⟨0,0,none⟩ U,QkK _ _ ⟨0,0,none⟩ x];exact n
 have d:Below w.heap.size w ((w.alloc (.cells #[.pointer (some ⟨ta,0,none⟩)] 340)).alloc (.cells #[.pointer (some ⟨2,340,none⟩),.pointer (some ⟨w.heap.size,0,none⟩),.int .u64 150] 243)):=((QqA _ _).alloc (QqB _) _).alloc U _;have h:=Q7h (a.below d);have s:Hid (Q3j _ ta w.heap.size old):=⟨Qq d f,Yj d f g,U⟩;have i:=Q7h d;clear f g n d a;cases m with
 |nil=>
  go_enter Tryz.func78,Tryz.ntmps78
  go_wp2_with (go_at_call 153;refine(asP [] l c _ _ ta w.heap.size old h.out s.out).mono ?_;intro e w' p;obtain⟨rfl,hb⟩:=p)
  go_ret
  exact⟨rfl,i.out.trans (hb.mono (by simp;omega))⟩
 |cons b bs'=>
  go_enter Tryz.func78,Tryz.ntmps78
  go_wp2_with (go_at_call 153;refine(asP (b::bs') l c _ _ ta w.heap.size old h.out s.out).mono ?_;intro e w' p;obtain⟨rfl,j,k⟩:=p;have q:=Q7h j;have r:=Q7h k;clear j k)
  go_ret
  exact⟨rfl,q.out,Md (Je i.out _) r.out⟩
end er
end Go.Proofs.YtfialjmemcobjaaGreatDoor
