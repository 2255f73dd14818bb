/- A part of the proof. -/
import Derived.Test.YtfialjmemcobjaaGreatDoorPbFlB
import Derived.BigQuiet
import Derived.Deep.QuietTactic
import Derived.Outline
import Derived.Deep.AppendLies
import Derived.Deep.DeepCutAuto
import Derived.Deep.DrawnRows
import Derived.Deep.RegionHeld3
import Derived.Deep.RegionLaw
import Derived.Maps.AppendAt
import Derived.Laws.CopyOwn
set_option maxRecDepth 100000
set_option maxHeartbeats 16000000
set_option linter.unusedVariables false
set_option linter.unusedSimpArgs false
namespace Go.Proofs.YtfialjmemcobjaaGreatDoor
namespace nd
open Go.RowKit er
structure Mis where
 at_:Int
 kind:Int
 keep:Int
 junk:ByteArray
structure Blk where
 pages:List ByteArray
 worn:Int
 bad:Bool
structure Nand where
 blocks:Nat
 per:Nat
 b:List Blk
 ops:Int
 plan:List Mis
 down:Bool
def Qqe:Mis:=⟨0,0,0,⟨#[]⟩⟩
def Qdn(m:Mis)(s:ByteArray):Nat:=(max (min m.keep s.size) 0).toNat
def Vt(t:ByteArray):ByteArray:=t.extract 0 (min t.size 128)
def spoilt(m:Mis)(s:ByteArray):ByteArray:=Vt (s.extract 0 (Qdn m s)++m.junk)
def Iy(l:List Mis)(k:Int):Option Nat:=l.findIdx? (λm=>m.at_==k)
def waits(l:List Mis)(k:Int):Mis:=(l.find? (λm=>m.at_==k)).getD Qqe
def Nand.count(s:Nand):Nand:={s with ops:=s.ops+1}
def Nand.blk(s:Nand)(i:Nat):Blk:=s.b.getD i ⟨[],0,false⟩
def Nand.setB(s:Nand)(i:Nat)(b:Blk):Nand:={s with b:=s.b.set i b}
def Nand.program(s:Nand)(page:Int)(t:ByteArray):Int×Nand:=
 if s.down then(9,s)
 else if ¬(0<=page/\page<s.blocks*s.per/\t.size<=128)then(1,s)
 else
  let i:=page.toNat/s.per;let b:=s.blk i;if b.bad then(41,s)
  else if page.toNat%s.per≠b.pages.length then(40,s)
  else
   let m:=waits s.plan (s.ops+1);if m.kind=1 then(9,{s.count.setB i {b with pages:=b.pages++[spoilt m t]}with down:=true})
   else if m.kind=2 then(41,s.count.setB i {b with pages:=b.pages++[spoilt m t],bad:=true})
   else(0,s.count.setB i {b with pages:=b.pages++[t]})
def Nand.read(s:Nand)(page:Int):Int×ByteArray:=
 if s.down then(9,⟨#[]⟩)
 else if ¬(0<=page/\page<s.blocks*s.per)then(1,⟨#[]⟩)
 else match(s.blk (page.toNat/s.per)).pages[page.toNat%s.per]? with
  |none=>(42,⟨#[]⟩)
  |some t=>(0,t)
def Nand.has(s:Nand)(i:Int):Bool:=decide (0<=i)&&decide (i<(s.blocks:Int))
def Nand.next(s:Nand)(i:Int):Int:=if s.has i then(s.blk i.toNat).pages.length else 0
def Nand.badB(s:Nand)(i:Int):Bool:=s.has i&&(s.blk i.toNat).bad
def Nand.wornB(s:Nand)(i:Int):Int:=if s.has i then(s.blk i.toNat).worn else 0
def Uc(blocks per:Nat):Nand:=⟨blocks,per,List.replicate blocks ⟨[],0,false⟩,0,[],false⟩
structure Nand.Ok(s:Nand):Prop where
 b0:16<=s.blocks
 b1:s.blocks<=64
 p0:8<=s.per
 p1:s.per<=32
 bl:s.b.length=s.blocks
 pl:∀(i:Nat) (b:Blk),s.b[i]? =some b->b.pages.length<=s.per/\0<=b.worn/\b.worn<=s.ops
 o0:0<=s.ops
 jk:∀m∈s.plan,m.junk.size<=140737488351232
def Oj(l:List Mis):List Value:=l.flatMap λm=>[I m.at_,I m.kind,I m.keep,.string m.junk]
theorem Cr:∀(l:List Mis) (j:Nat) (m:Mis),l[j]? =some m->
  (Oj l)[j*4]? =some (I m.at_)/\(Oj l)[j*4+1]? =some (I m.kind)/\(Oj l)[j*4+2]? =some (I m.keep)/\(Oj l)[j*4+3]? =some (.string m.junk)
 |[],_,_,h=>by simp at h
 |x::r,0,m,h=>by
  simp at h;subst h;simp[Oj]
 |x::r,j+1,m,h=>by
  have a:=Cr r j m (by simpa using h);have e:Oj (x::r)= I x.at_::I x.kind::I x.keep::.string x.junk::Oj r:=by simp[Oj]
  rw[e,show(j+1)*4=j*4+4 from by omega];simpa using a
def Z6:List Value->List Blk->List Value
 |v::vs,b::bs=>v::I b.worn::.bool b.bad::Z6 vs bs
 |_,_=>[]
theorem Ku:∀(vs:List Value) (a:List Blk) (j:Nat) (v:Value) (b:Blk),vs[j]? =some v->a[j]? =some b->
  (Z6 vs a)[j*3]? =some v/\(Z6 vs a)[j*3+1]? =some (I b.worn)/\(Z6 vs a)[j*3+2]? =some (.bool b.bad)
 |[],_,_,_,_,h,_=>by simp at h
 |_::_,[],_,_,_,_,h=>by simp at h
 |x::vs,y::a,0,v,b,h,h'=>by
  simp at h h';subst h h';simp[Z6]
 |x::vs,y::a,j+1,v,b,h,h'=>by
  have c:=Ku vs a j v b (by simpa using h) (by simpa using h');have e:Z6 (x::vs) (y::a)=x::I y.worn::.bool y.bad::Z6 vs a:=rfl;rw[e,show(j+1)*3=j*3+3 from by omega];simpa using c
theorem Qzc:∀(vs:List Value) (a:List Blk),vs.length=a.length->(Z6 vs a).length=a.length*3
 |[],[],_=>rfl
 |[],_::_,h=>by simp at h
 |_::_,[],h=>by simp at h
 |x::vs,y::a,h=>by
  have b:=Qzc vs a (by simpa using h);simp only[Z6,QzN,b];omega
structure NandIn(w:World)(F:Nat->Prop)(p:Nat)(s:Nand)(pb:Nat)(pv:Value)(vs:List Value):Prop where
 ok:s.Ok
 obj:Whole w p 164 #[I s.blocks,I s.per,.slice (some (pb,0)) s.blocks s.blocks,I s.ops,pv,.bool s.down]
 blk:Whole w pb 192 (Z6 vs s.b).toArray
 len:vs.length=s.b.length
 row:∀(i:Nat) (b:Blk) (v:Value),s.b[i]? =some b->vs[i]? =some v->w.ownsRow 0 9 1 v b.pages.length (b.pages.map .string)
 sep:∀(i j:Nat) (v u:Value) (g:Nat),i≠j->vs[i]? =some v->vs[j]? =some u->v.ownBlock=some g->u.ownBlock≠some g
 plan:w.ownsRow 0 78 4 pv s.plan.length (Oj s.plan)
 fp:F p
 fb:F pb
 fr:∀(i:Nat) (v:Value) (g:Nat),vs[i]? =some v->v.ownBlock=some g->F g
 fl:∀(g:Nat),pv.ownBlock=some g->F g
 lt:∀(g:Nat),F g->g<w.heap.size
def NandAt(w:World)(F:Nat->Prop)(p:Nat)(s:Nand):Prop:=∃pb pv vs,NandIn w F p s pb pv vs
theorem NandIn.keep{G F:Nat->Prop}{w w':World}{p:Nat}{s:Nand}{pb:Nat}{pv:Value}{vs:List Value}(h:NandIn w F p s pb pv vs)(a:Keep G w w')(d:∀k,F k->¬G k):NandIn w' F p s pb pv vs:=
 ⟨h.ok,h.obj.keep a (d _ h.fp),h.blk.keep a (d _ h.fb),h.len,λi b v hb e=>Qa (h.row i b v hb e) a (λg c=>d _ (h.fr i v g e c)),h.sep,Qa h.plan a (λg c=>d _ (h.fl g c)),h.fp,h.fb,h.fr,h.fl,λg c=>QzB (h.lt g c) a.size⟩
theorem NandAt.keep{G F:Nat->Prop}{w w':World}{p:Nat}{s:Nand}(h:NandAt w F p s)(a:Keep G w w')(b:∀k,F k->¬G k):NandAt w' F p s:=by
 obtain⟨pb,pv,vs,h⟩:=h;exact⟨pb,pv,vs,h.keep a b⟩
theorem NandAt.below{F:Nat->Prop}{w w':World}{p:Nat}{s:Nand}(h:NandAt w F p s)(hb:Below w w w'):NandAt w' F p s:=h.keep (G:=λ_=>False) (Keep.below hb) (λ_ _=>id)
theorem NandAt.ok{w:World}{F:Nat->Prop}{p:Nat}{s:Nand}(h:NandAt w F p s):s.Ok:=by
 obtain⟨pb,pv,vs,h⟩:=h;exact h.ok
end nd
end Go.Proofs.YtfialjmemcobjaaGreatDoor
namespace Go.Proofs.YtfialjmemcobjaaGreatDoor
namespace nd
open Go.RowKit er
theorem Yv(n a b:Int)(w:World):C 110 #[I n,I a,I b] w λe w'=>e= .returned (.bool (decide (a<=n)&&decide (n<=b)))/\w=w':=by
 by_cases h1:a<=n
 ·by_cases h2:n<=b;all_goals
   go_in
   go_wp2
   go_ret
   exact⟨by simp[h1,h2],rfl⟩
 ·go_in
  go_wp2
  go_ret
  exact⟨by simp[h1];omega,rfl⟩
def Ka(s:Nand)(q:Int):Bool:=decide (0<=q)&&decide (q<(s.blocks:Int)*s.per)
theorem Qbt(w:World)(F:Nat->Prop)(p:Nat)(s:Nand)(q:Int)(h:NandAt w F p s):
  C 119 #[(p,0),I q] w λe w'=>e= .returned (.bool (Ka s q))/\∃n,w'=w.drewN n:=by
 obtain⟨pb,pv,vs,h⟩:=h;have c0:=h.obj.cell 0;have c1:=h.obj.cell 1;have h1:=h.ok.b1;have h2:=h.ok.p1;have c:(s.blocks:Int)*s.per<=64*32:=by
  have:=QgS h1 h2;exact_mod_cast this
 have a:0<=(s.blocks:Int)*s.per:=by exact_mod_cast QqM _
 have d:IntKind.i64.wrap ((s.blocks:Int)*s.per)=(s.blocks:Int)*s.per:=by rw[QqN];omega
 unfold Ka;clear h;generalize s.blocks=bl at *;generalize s.per=pr at *;by_cases hq:0<=q
 ·have b:decide (0<=q)=true:=by simpa using hq
  go_in
  go_wp2_with fail
  go_quiet (fail)
  go_wp2
  go_ret
  exact⟨by simp[hq],_,rfl⟩
 ·have b:decide (0<=q)=false:=by simpa using hq
  go_in
  go_wp2_with fail
  go_quiet (fail)
  go_wp2
  go_ret
  exact⟨by simp[hq];omega,_,rfl⟩
theorem Qdu{a b:ByteArray}(h:a=b):Ending.returned (.string a)= .returned (.string b):=by rw[h]
theorem Qli(x:ByteArray)(k:Nat)(h:k=min x.size 128):x.extract 0 k=Vt x:=by subst h;rfl
theorem Qeq(x:ByteArray)(h:x.size<=128):x=Vt x:=by
 unfold Vt;rw[QuR h];simp
theorem Qhz(m:Mis)(t:ByteArray)(h:m.keep<=0):spoilt m t=Vt m.junk:=by
 unfold spoilt Qdn;rw[show(max (min m.keep (t.size:Int)) 0).toNat=0 from by omega];simp
theorem Qhk(m:Mis)(t:ByteArray)(k:Nat)(a:m.keep=k)(h:k<=t.size):spoilt m t=Vt (t.extract 0 k++m.junk):=by
 unfold spoilt Qdn;rw[show(max (min m.keep (t.size:Int)) 0).toNat=k from by omega]
theorem Qhj(m:Mis)(t:ByteArray)(h:(t.size:Int)<m.keep):spoilt m t=Vt (t++m.junk):=by
 unfold spoilt Qdn;rw[show(max (min m.keep (t.size:Int)) 0).toNat=t.size from by omega];simp
theorem L8(w:World)(m:Mis)(t:ByteArray)(h:t.size<=128)(f:m.junk.size<=140737488351232):
  C 121 #[.agg #[I m.at_,I m.kind,I m.keep,.string m.junk],.string t] w λe w'=>e= .returned (.string (spoilt m t))/\Below w w w':=by
 have hb:Hid (Below w w (w.alloc (.cells #[I m.at_,I m.kind,I m.keep,.string m.junk] 78)).drew):=(B0.alloc N0 _).drew;obtain⟨c,mk,a,d⟩:=m;simp only at f hb ⊢;by_cases h1:a<0
 ·have b:=Q7h (Qhz ⟨c,mk,a,d⟩ t (by show a<=0;omega));have g:¬(t.size:Int)<a:=O;go_in
  go_wp2_with fail
  go_region
  all_goals go_wp2_with fail
  all_goals go_ret
  all_goals
   refine⟨Qdu ?_,hb.o⟩;rw[b.o];first|((with_reducible refine Qli _ _ ?_);(try simp);omega)|((with_reducible refine Qeq _ ?_);(try simp);omega)
 ·obtain⟨k,rfl⟩:=QyM (show 0<=a by omega);by_cases h2:(t.size:Int)<(k:Int)
  ·have b:=Q7h (Qhj ⟨c,mk,k,d⟩ t h2);go_in
   go_wp2_with fail
   go_region
   all_goals go_wp2_with fail
   all_goals go_ret
   all_goals
    refine⟨Qdu ?_,hb.o⟩;rw[b.o];first|((with_reducible refine Qli _ _ ?_);(try simp);omega)|((with_reducible refine Qeq _ ?_);(try simp);omega)
  ·have b:=Q7h (Qhk ⟨c,mk,k,d⟩ t k rfl O);have h3:(k:Int)<=(t.size:Int):=O;go_in
   go_wp2_with fail
   go_region
   all_goals go_wp2_with fail
   all_goals go_ret
   all_goals
    refine⟨Qdu ?_,hb.o⟩;rw[b.o];first|((with_reducible refine Qli _ _ ?_);(try simp);omega)|((with_reducible refine Qeq _ ?_);(try simp);omega)
theorem cnt1(m:Mis)(a p:Nat)(k:Int)(w:World)(hb:w.cell? (a,0)=some (p,0))(b:w.cell? (p,3)=some (I k)):
  C 187 #[.agg #[I m.at_,I m.kind,I m.keep,.string m.junk],(a,0)] w λe w'=>e= .returned (.bool (m.at_==k))/\Below w w w':=by
 have c:=QjA _ _ hb;have d:=QjA _ _ b;go_in
 go_wp2_with fail
 go_quiet (fail)
 go_wp2
 go_ret
 exact⟨rfl,below_drewN (B0.alloc N0 _) _⟩
def Qgk:Option Nat->Int|some i=>i|none=> -1
theorem Qet(l:List Mis)(k:Int)(j:Nat)(m:Mis)(a:l[j]? =some m)(c:(m.at_==k)=true)(d:∀(i:Nat) (x:Mis),i<j->l[i]? =some x->(x.at_==k)=false):Iy l k=some j:=by
 unfold Iy;rw[QkP];have b:j<l.length:=(QqD.1 a).1;refine⟨b,?_,λi hi=>?_⟩
 ·rw[QqC b]at a;injection a with a;rw[a];exact c
 ·have:=d i l[i] hi (QqC _);simp[this]
theorem Qa2(l:List Mis)(k:Int)(a:∀(i:Nat) (x:Mis),i<l.length->l[i]? =some x->(x.at_==k)=false):Iy l k=none:=by
 unfold Iy;rw[QjV];intro x b;obtain⟨i,hi,e⟩:=QxC b;exact a i x hi (by rw[QqC hi,e])
theorem Qes(l:List Mis)(k:Int):waits l k=match Iy l k with|some i=>(l[i]?).getD Qqe|none=>Qqe:=by
 unfold waits Iy;induction l with
 |nil=>rfl
 |cons x r ih=>
  rw[QgE,List.findIdx?_cons];cases h:(x.at_==k)
  ·simp only[ih,QuJ,QiA];cases List.findIdx? (λm:Mis=>m.at_==k) r<;>rfl
  ·simp
theorem Qaj(l:List Mis)(A:Option Addr)(cap:Nat)(t p:Nat)(k:Int)(w:World)(d:w.ownsRow 0 78 4 (.slice A l.length cap) l.length (Oj l))(hb:w.cell? (t,0)=some (p,0))(F:w.cell? (p,3)=some (I k)):
  C 186 #[.slice A l.length cap,.func (.func 187) #[] #[(t,0)]] w λe w'=>e= .returned (I (Qgk (Iy l k)))/\Below w w w':=by
 have n:=Sz d;have R:l.length<=9223372036854775807:=by have:=n.2;unfold maxLen at this;omega
 have⟨u,S,T⟩:=Q3 d hb F;clear d hb F n;go_in
 go_wp2_with fail
 go_loopw [8] (λi wr=>∃j:Nat,j<=l.length/\i= I j/\Below w w wr/\Hid (∀(i:Nat) (x:Mis),i<j->l[i]? =some x->(x.at_==k)=false)) (λi _=>l.length-(intOf i).toNat)
 case atStart=>exact⟨0,QqM _,rfl,QqA _ _,λi x h _=>O⟩
 case round=>
  obtain⟨j,Y,rfl,a,v⟩:=hrel;by_cases y:j<l.length
  ·obtain⟨m,z⟩:∃m,l[j]? =some m:=⟨l[j],QqC y⟩;obtain⟨g,rfl,V,W,X,b,_⟩:=Qx u.o O;obtain⟨H,K,L,M⟩:=Cr l j m z;have c0:=Qq a (b _ _ H);have c1:=Qq a (b _ _ K);have c2:=Qq a (b _ _ L);have c3:=Qq a (b _ _ M);have⟨q,r,c,N⟩:=Q4 (Qq a S.o) (Qq a T.o) a z;clear b H K L M a z;cases hq:(m.at_==k)
   ·have s:=Q7h hq;clear hq;go_wp2_with (go_at_call 187;refine(cnt1 m t p k _ q.o r.o).mono ?_;rintro e w2 ⟨rfl,f⟩;rw[s.o])
    go_roundw
    case rel=>exact⟨j+1,O,by go_num,c.o.trans (f.mono c.o.size),λi x hi Q=>by
     rcases QyH i j with h|h
     ·exact v.o i x h Q
     ·obtain rfl:i=j:=O;have:=N.o.symm.trans Q;injection this with this;subst this;exact s.o⟩
    case measure=>simp[intOf];omega
   ·have s:=Q7h hq;clear hq;go_wp2_with (go_at_call 187;refine(cnt1 m t p k _ q.o r.o).mono ?_;rintro e w2 ⟨rfl,f⟩;rw[s.o])
    go_ret
    rw[Qet l k j m N.o s.o v.o];exact⟨rfl,c.o.trans (f.mono c.o.size)⟩
  ·obtain rfl:l.length=j:=O;have c:=Q7h a;clear a;go_wp2
   go_ret
   rw[Qa2 l k v.o];exact⟨rfl,c.o⟩
def D8(m:Mis):Value:= .agg #[I m.at_,I m.kind,I m.keep,.string m.junk]
theorem NandIn.hide{w:World}{F:Nat->Prop}{p:Nat}{s:Nand}{pb:Nat}{pv:Value}{vs:List Value}(h:NandIn w F p s pb pv vs):
  w.cell? ⟨p,0,none⟩=some (I s.blocks)/\w.cell? ⟨p,1,none⟩=some (I s.per)/\w.cell? ⟨p,2,none⟩=some (.slice (some ⟨pb,0,none⟩) s.blocks s.blocks)/\w.cell? ⟨p,3,none⟩=some (I s.ops)/\
  w.cell? ⟨p,4,none⟩=some pv/\w.cell? ⟨p,5,none⟩=some (.bool s.down)/\p<w.heap.size/\∀i,w.frozen? ⟨p,i,none⟩=false:=
 ⟨h.obj.cell 0,h.obj.cell 1,h.obj.cell 2,h.obj.cell 3,h.obj.cell 4,h.obj.cell 5,h.obj.lt,h.obj.fz⟩
theorem NandIn.setObj{w:World}{F:Nat->Prop}{p:Nat}{s s':Nand}{pb:Nat}{pv:Value}{vs:List Value}(h:NandIn w F p s pb pv vs)(i:Nat)(u:Value)
  (m:(#[I s.blocks,I s.per,.slice (some (pb,0)) s.blocks s.blocks,I s.ops,pv,.bool s.down]:Array Value).setIfInBounds i u=
   #[I s'.blocks,I s'.per,.slice (some (pb,0)) s'.blocks s'.blocks,I s'.ops,pv,.bool s'.down]) (hb:s'.b=s.b) (n:s'.plan=s.plan) (c:s'.Ok):NandIn (w.setCell (p,i) u) F p s' pb pv vs:=by
 have d:=O3 h.blk h.obj D;have e:=Keep.set1 w p i u;have f:∀g,(∃cs,w.heap[g]? =some (.cells cs 9 (0,0)))->¬(g=p):=by
  rintro g ⟨cs,h1⟩ rfl;have h2:=h.obj;unfold Whole at h2;rw[h1]at h2;injection h2 with h2;injection h2 with _ h2;exact absurd h2 D
 refine⟨c,?_,?_,?_,?_,h.sep,?_,h.fp,h.fb,h.fr,h.fl,λg a=>by rw[size_set];exact h.lt g a⟩
 ·have:=h.obj.set i u;rw[m]at this;exact this
 ·rw[hb];exact h.blk.keep e d
 ·rw[hb];exact h.len
 ·intro j b v k l;rw[hb]at k;exact Qa (h.row j b v k l) e (λg a=>f g (Yr (h.row j b v k l) a))
 ·rw[n];refine Qa h.plan e (λg a=>?_);rintro rfl;obtain⟨cs,h1⟩:=Yr h.plan a;have h2:=h.obj;unfold Whole at h2;rw[h1]at h2;injection h2 with h2;injection h2 with _ h2;exact absurd h2 D
theorem Nand.Ok.count{s:Nand}(h:s.Ok):s.count.Ok:=
 ⟨h.b0,h.b1,h.p0,h.p1,h.bl,λi b hb=>⟨(h.pl i b hb).1,(h.pl i b hb).2.1,by have:=(h.pl i b hb).2.2;show b.worn<=s.ops+1;omega⟩,by have:=h.o0;show 0<=s.ops+1;omega,h.jk⟩
theorem NandIn.alloc{w:World}{F:Nat->Prop}{p:Nat}{s:Nand}{pb:Nat}{pv:Value}{vs:List Value}(h:NandIn w F p s pb pv vs)(o:Obj):NandIn (w.alloc o) F p s pb pv vs:=
 h.keep (G:=λ_=>False) ((Keep.refl _ _).alloc o) (λ_ _=>id)
theorem NandIn.below{w w':World}{F:Nat->Prop}{p:Nat}{s:Nand}{pb:Nat}{pv:Value}{vs:List Value}(h:NandIn w F p s pb pv vs)(hb:Below w w w'):NandIn w' F p s pb pv vs:=
 h.keep (G:=λ_=>False) (Keep.below hb) (λ_ _=>id)
theorem Ae(w:World)(F:Nat->Prop)(p:Nat)(s:Nand)(pb:Nat)(pv:Value)(vs:List Value)(h:NandIn w F p s pb pv vs)(ho:s.ops<=1000000000000000000):
  C 120 #[(p,0)] w λe w'=>e= .returned (D8 (waits s.plan (s.ops+1)))/\NandIn w' F p s.count pb pv vs/\Keep (λk=>k=p) w w':=by
 obtain⟨c0,c1,c2,c3,c4,c5,Z,t⟩:=h.hide;have f3:=t 3;have u:=Q7h h.lt;have o0:=h.ok.o0;have q:Hid (NandIn (((w.setCell (p,3) (I (s.ops+1))).alloc (.cells #[(p,0)] 23)).alloc (.cells #[I 0,I 0,I 0,.string ⟨#[]⟩] 78)) F p s.count pb pv vs):=
  ((h.setObj (s':=s.count) 3 _ rfl rfl rfl h.ok.count).alloc _).alloc _
 have B:Hid (Keep (λk=>k=p) w (((w.setCell (p,3) (I (s.ops+1))).alloc (.cells #[(p,0)] 23)).alloc (.cells #[I 0,I 0,I 0,.string ⟨#[]⟩] 78))):=
  ((Keep.set1 w p 3 _).alloc _).alloc _
 have R:Hid (Whole (((w.setCell (p,3) (I (s.ops+1))).alloc (.cells #[(p,0)] 23)).alloc (.cells #[I 0,I 0,I 0,.string ⟨#[]⟩] 78)) (w.heap.size+1) 78 #[I 0,I 0,I 0,.string ⟨#[]⟩]):=
  Whole.new' _ _ _ _ (by rw[QqW,size_set])
 have M:Hid (Whole (((w.setCell (p,3) (I (s.ops+1))).alloc (.cells #[(p,0)] 23)).alloc (.cells #[I 0,I 0,I 0,.string ⟨#[]⟩] 78)) w.heap.size 23 #[(p,0)]):=
  (Whole.new' _ _ _ _ (by rw[size_set])).alloc _
 obtain⟨A,cap,rfl⟩:=Qk h.plan;clear h t;go_enter Tryz.func120,Tryz.ntmps120
 go_wp2_with fail
 refine(Qaj s.plan A cap w.heap.size p (s.ops+1) _ q.o.plan (M.o.cell 0) (q.o.obj.cell 3)).mono ?_;rintro e w2 ⟨rfl,d⟩;have f:=Q7h (q.o.below d);have d0:=(M.o.below d M.o.lt).cell 0;have d4:=f.o.obj.cell 4;have b:=Q7h (R.o.below d R.o.lt);have g0:=b.o.cell 0;have g1:=b.o.cell 1;have g2:=b.o.cell 2;have g3:=b.o.cell 3;have z0:=b.o.fz 0;have z1:=b.o.fz 1;have z2:=b.o.fz 2;have z3:=b.o.fz 3;simp only[QyG,QgC,QyN]at g0 g1 g2 g3 d0 d4;have aa:w.heap.size+1<w2.heap.size:=b.o.lt;have y:=Q7h (B.o.transBelow d);have c:=Qes s.plan (s.ops+1);cases hq:Iy s.plan (s.ops+1)with
 |none=>
  rw[hq]at c;have r:=Q7h c;have i:Qgk none= -1:=rfl;rw[i];clear d c0 c1 c2 c3 c4 c5 hq c i;go_wp2_with fail
  have z:=Keep.set4 w2 (w.heap.size+1) (I 0) (I 0) (I 0) (.string ⟨#[]⟩);have l:=b.o.set4 (I 0) (I 0) (I 0) (.string ⟨#[]⟩);generalize((((w2.setCell (w.heap.size+1,0) (I 0)).setCell (w.heap.size+1,1) (I 0)).setCell (w.heap.size+1,2) (I 0)).setCell (w.heap.size+1,3) (.string ⟨#[]⟩))=W at *;have q0:=l.cell 0;have q1:=l.cell 1;have H:=l.cell 2;have K:=l.cell 3;simp only[QyG,QgC,QyN]at q0 q1 H K;refine QqG (v:=D8 Qqe) (by simp[results,Tryz.results120,go_sem,D8,Qqe,q0,q1,H,K]) rfl ⟨by rw[r.o],f.o.keep z (λk N he=>by have:=u.o k N;omega),y.o.trans z (λx hx=>.inr O)⟩
 |some j=>
  rw[hq]at c;obtain⟨m,L⟩:∃m,s.plan[j]? =some m:=by
   unfold Iy at hq;rw[QkP]at hq;obtain⟨hj,_⟩:=hq;exact⟨_,QqC hj⟩
  have ab:j<s.plan.length:=(QqD.1 L).1;simp only[L,QoN]at c;have r:=Q7h c;obtain⟨g,rfl,_,ac,Q,a,_⟩:=Qx f.o.plan (by show 0<s.plan.length;omega);obtain⟨S,T,V,X⟩:=Cr s.plan j m L;have k0:=a _ _ S;have k1:=a _ _ T;have k2:=a _ _ V;have k3:=a _ _ X;have n:=(Sz f.o.plan).2;have Y:s.plan.length<=9223372036854775807:=by unfold maxLen at n;change s.plan.length<=cap at Q;omega
  have i:Qgk (some j)=(j:Int):=rfl;rw[i];clear d c0 c1 c2 c3 c4 c5 hq c i L S T V X a n;go_wp2_with fail
  have z:=Keep.set4 w2 (w.heap.size+1) (I m.at_) (I m.kind) (I m.keep) (.string m.junk);have l:=b.o.set4 (I m.at_) (I m.kind) (I m.keep) (.string m.junk);generalize((((w2.setCell (w.heap.size+1,0) (I m.at_)).setCell (w.heap.size+1,1) (I m.kind)).setCell (w.heap.size+1,2) (I m.keep)).setCell (w.heap.size+1,3) (.string m.junk))=W at *;have q0:=l.cell 0;have q1:=l.cell 1;have H:=l.cell 2;have K:=l.cell 3;simp only[QyG,QgC,QyN]at q0 q1 H K;refine QqG (v:=D8 m) (by simp[results,Tryz.results120,go_sem,D8,q0,q1,H,K]) rfl ⟨by rw[r.o],f.o.keep z (λk N he=>by have:=u.o k N;omega),y.o.trans z (λx hx=>.inr O)⟩
def G5:Bool->Bool->Int|true,_=>9|false,false=>1|false,true=>0
theorem Xa(w:World)(F:Nat->Prop)(p:Nat)(s:Nand)(q:Int)(h:NandAt w F p s):
  C 179 #[(p,0),I q] w λe w'=>e= .returned (.bool (s.has q))/\w=w':=by
 obtain⟨pb,pv,vs,h⟩:=h;obtain⟨c0,c1,c2,c3,c4,c5,b,a⟩:=h.hide;have h1:=h.ok.b1;unfold Nand.has;clear h c1 c2 c3 c4 c5 a;generalize s.blocks=bl at *;have d:∀(w:World),(binOp .neq 23 (p,0) (.pointer none)).run Tryz.prog w= .ok (.bool true) w:=λw=>J;by_cases hq:0<=q
 ·have c:decide (0<=q)=true:=by simpa using hq
  go_enter Tryz.func179,Tryz.ntmps179
  go_wp2
  go_ret
  exact⟨by simp[hq],rfl⟩
 ·have c:decide (0<=q)=false:=by simpa using hq
  go_enter Tryz.func179,Tryz.ntmps179
  go_wp2
  go_ret
  exact⟨by simp[hq],rfl⟩
theorem Qud(w:World)(F:Nat->Prop)(p:Nat)(s:Nand)(q:Int)(t:ByteArray)(a b bt:Nat)(h:NandAt w F p s)(c:w.cell? (a,0)=some (p,0))(d:w.cell? (b,0)=some (I q))(f:w.cell? (bt,0)=some (.string t)):
  C 118 #[(a,0),(b,0),(bt,0)] w λe w'=>e= .returned (.bool (Ka s q&&decide (t.size<=128)))/\∃n,w'=w.drewN n:=by
 have H:=Q7h h;clear h;cases hq:Ka s q;all_goals
  have g:=Q7h hq;clear hq;go_in
  go_wp2_with (go_at_call 119;refine(Qbt _ F p s q H.o).mono ?_;rw[g.o];rintro e w' ⟨rfl,n,rfl⟩)
  go_ret
  exact⟨by simp;try omega,n,rfl⟩
theorem Yg(w:World)(F:Nat->Prop)(p:Nat)(s:Nand)(q:Int)(t:ByteArray)(a b bt:Nat)(h:NandAt w F p s)(c:w.cell? (a,0)=some (p,0))(d:w.cell? (b,0)=some (I q))(f:w.cell? (bt,0)=some (.string t)):
  C 117 #[(p,0),.func (.func 118) #[] #[(a,0),(b,0),(bt,0)]] w λe w'=>e= .returned (Yk (G5 s.down (Ka s q&&decide (t.size<=128))))/\∃n,w'=w.drewN n:=by
 have H:=Q7h h;obtain⟨pb,pv,vs,h⟩:=h;obtain⟨c0,c1,c2,c3,c4,c5,i,g⟩:=h.hide;have l:∀(w:World),(binOp .eql 23 (p,0) (.pointer none)).run Tryz.prog w= .ok (.bool false) w:=λw=>J;clear h c0 c1 c2 c3 c4 g;cases hd:s.down
 ·rw[hd]at c5;have j:=Q7h hd;clear hd;cases hq:(Ka s q&&decide (t.size<=128));all_goals
   have k:=Q7h hq;clear hq;go_enter Tryz.func117,Tryz.ntmps117
   go_wp2_with (go_at_call 118;refine(Qud _ F p s q t a b bt H.o c d f).mono ?_;rw[k.o];rintro e w' ⟨rfl,n,rfl⟩)
   go_ret
   exact⟨rfl,n,rfl⟩
 ·rw[hd]at c5;have j:=Q7h hd;clear hd;go_enter Tryz.func117,Tryz.ntmps117
  go_wp2_with fail
  go_ret
  exact⟨rfl,0,rfl⟩
theorem Qma(w:World)(F:Nat->Prop)(p:Nat)(s:Nand)(q:Int)(a b:Nat)(h:NandAt w F p s)(c:w.cell? (a,0)=some (p,0))(d:w.cell? (b,0)=some (I q)):
  C 308 #[(a,0),(b,0)] w λe w'=>e= .returned (.bool (Ka s q))/\∃n,w'=w.drewN n:=by
 have H:=Q7h h;clear h;go_in
 go_wp2_with (go_at_call 119;refine(Qbt _ F p s q H.o).mono ?_;rintro e w' ⟨rfl,n,rfl⟩)
 go_ret
 exact⟨rfl,n,rfl⟩
theorem Oe(w:World)(F:Nat->Prop)(p:Nat)(s:Nand)(q:Int)(a b:Nat)(h:NandAt w F p s)(c:w.cell? (a,0)=some (p,0))(d:w.cell? (b,0)=some (I q)):
  C 117 #[(p,0),.func (.func 308) #[] #[(a,0),(b,0)]] w λe w'=>e= .returned (Yk (G5 s.down (Ka s q)))/\∃n,w'=w.drewN n:=by
 have H:=Q7h h;obtain⟨pb,pv,vs,h⟩:=h;obtain⟨c0,c1,c2,c3,c4,c5,g,f⟩:=h.hide;have k:∀(w:World),(binOp .eql 23 (p,0) (.pointer none)).run Tryz.prog w= .ok (.bool false) w:=λw=>J;clear h c0 c1 c2 c3 c4 f;cases hd:s.down
 ·rw[hd]at c5;have i:=Q7h hd;clear hd;cases hq:(Ka s q);all_goals
   have j:=Q7h hq;clear hq;go_enter Tryz.func117,Tryz.ntmps117
   go_wp2_with (go_at_call 308;refine(Qma _ F p s q a b H.o c d).mono ?_;rw[j.o];rintro e w' ⟨rfl,n,rfl⟩)
   go_ret
   exact⟨rfl,n,rfl⟩
 ·rw[hd]at c5;have i:=Q7h hd;clear hd;go_enter Tryz.func117,Tryz.ntmps117
  go_wp2_with fail
  go_ret
  exact⟨rfl,0,rfl⟩
theorem Qxk:∀(vs:List Value) (a:List Blk) (i:Nat) (v:Value) (b b':Blk),vs.length=a.length->a[i]? =some b->b'.worn=b.worn->b'.bad=b.bad->
  (Z6 vs a).set (i*3) v=Z6 (vs.set i v) (a.set i b')
 |_,[],_,_,_,_,_,h,_,_=>by simp at h
 |[],_::_,_,_,_,_,h,_,_,_=>by simp at h
 |x::vs,y::a,0,v,b,b',h,h',hw,hb=>by
  simp at h';subst h';simp[Z6,hw,hb]
 |x::vs,y::a,i+1,v,b,b',h,h',hw,hb=>by
  have c:=Qxk vs a i v b b' (by simpa using h) (by simpa using h') hw hb;simp only[QuK,Z6,<-c];rw[show(i+1)*3=i*3+3 from by omega];simp[QuK]
theorem Vw:∀(vs:List Value) (a:List Blk) (i:Nat) (b:Blk) (x:Bool),vs.length=a.length->a[i]? =some b->
  (Z6 vs a).set (i*3+2) (.bool x)=Z6 vs (a.set i {b with bad:=x})
 |_,[],_,_,_,_,h=>by simp at h
 |[],_::_,_,_,_,h,_=>by simp at h
 |z::vs,y::a,0,b,x,h,h'=>by
  simp at h';subst h';simp[Z6]
 |z::vs,y::a,i+1,b,x,h,h'=>by
  have c:=Vw vs a i b x (by simpa using h) (by simpa using h');simp only[QuK,Z6,<-c];rw[show(i+1)*3=(i*3+2)+1 from by omega];simp[QuK]
theorem Nand.blk_at{s:Nand}(h:s.Ok){i:Nat}(hi:i<s.blocks):s.b[i]? =some (s.blk i):=by
 have:i<s.b.length:=by rw[h.bl];exact hi
 unfold Nand.blk;rw[QkH,QqC this];rfl
theorem Nand.setB_Ok{s:Nand}(h:s.Ok){i:Nat}{b:Blk}(d:b.pages.length<=s.per)(e:0<=b.worn)(h1:b.worn<=s.ops):(s.setB i b).Ok:=
 ⟨h.b0,h.b1,h.p0,h.p1,by simp[Nand.setB,h.bl],λj c a=>by
  simp only[Nand.setB,QuC]at a;split at a
  ·split at a
   ·injection a with a;subst a;exact⟨d,e,h1⟩
   ·simp at a
  ·exact h.pl j c a,h.o0,h.jk⟩
theorem NandIn.setBlk{w:World}{F:Nat->Prop}{p:Nat}{s:Nand}{pb:Nat}{pv:Value}{vs:List Value}(h:NandIn w F p s pb pv vs){i:Nat}{b b':Blk}(hb:s.b[i]? =some b)(o:b'.pages=b.pages)(k:Nat)(u:Value)
  (q:(Z6 vs s.b).set (i*3+k) u=Z6 vs (s.b.set i b')) (l:(s.setB i b').Ok):NandIn (w.setCell (pb,i*3+k) u) F p (s.setB i b') pb pv vs/\Keep (λk=>k=pb) w (w.setCell (pb,i*3+k) u):=by
 have m:p≠pb:=O3 h.obj h.blk D;have f:Keep (λk=>k=pb) w (w.setCell (pb,i*3+k) u):=Keep.set1 _ _ _ _;refine⟨⟨l,h.obj.keep f m,?_,by simpa[Nand.setB]using h.len,?_,h.sep,?_,h.fp,h.fb,h.fr,h.fl,λg d=>by rw[size_set];exact h.lt g d⟩,f⟩
 ·have:=h.blk.set (i*3+k) u;rw[List.setIfInBounds_toArray,q]at this;exact this
 ·intro j c v a e;have key:∀(c:Blk) (v:Value),s.b[j]? =some c->vs[j]? =some v->(w.setCell (pb,i*3+k) u).ownsRow 0 9 1 v c.pages.length (c.pages.map .string):=λc v a e=>
   Qa (h.row j c v a e) f (λg d=>by
    rintro rfl;obtain⟨cs,h1⟩:=Yr (h.row j c v a e) d;have h2:=h.blk;unfold Whole at h2;rw[h1]at h2;injection h2 with h2;injection h2 with _ h2;exact absurd h2 D)
  simp only[Nand.setB,QuC]at a;split at a
  ·rename_i n;subst n;split at a
   ·injection a with a;subst a;rw[o];exact key b v hb e
   ·simp at a
  ·exact key c v a e
 ·refine Qa h.plan f (λg d=>?_);rintro rfl;obtain⟨cs,h1⟩:=Yr h.plan d;have h2:=h.blk;unfold Whole at h2;rw[h1]at h2;injection h2 with h2;injection h2 with _ h2;exact absurd h2 D
theorem NandIn.newRow{w w2:World}{F:Nat->Prop}{p:Nat}{s:Nand}{pb:Nat}{pv:Value}{vs:List Value}(h:NandIn w F p s pb pv vs){i:Nat}{b b':Blk}{v m:Value}(hb:s.b[i]? =some b)(R:vs[i]? =some v)
  (hw:b'.worn=b.worn) (Y:b'.bad=b.bad) (S:Keep (λk=>v.ownBlock=some k) w w2) (y:w2.ownsRow 0 9 1 m b'.pages.length (b'.pages.map .string))
  (z:m.ownBlock=v.ownBlock\/∀g,m.ownBlock=some g->w.heap.size<=g) (ab:(s.setB i b').Ok):
  NandIn (w2.setCell (pb,i*3) m) (λk=>F k\/m.ownBlock=some k) p (s.setB i b') pb pv (vs.set i m)/\Mv F w (λk=>F k\/m.ownBlock=some k) (w2.setCell (pb,i*3) m):=by
 have ac:p≠pb:=O3 h.obj h.blk D;have Z:∀g,v.ownBlock=some g->F g:=λg d=>h.fr i v g R d;have A:∀{g:Nat} {cs:Array Value} {t:TypeId},Whole w g t cs->t≠9->¬(v.ownBlock=some g):=by
  intro g cs t d ht n;obtain⟨cs',h1⟩:=Yr (h.row i b v hb R) n;unfold Whole at d;rw[h1]at d;injection d with h2;injection h2 with _ h2;exact ht h2.symm
 have B:=h.obj.keep S (A h.obj D);have H:=h.blk.keep S (A h.blk D);have V:Keep (λk=>k=pb) w2 (w2.setCell (pb,i*3) m):=Keep.set1 _ _ _ _;have o:∀{g:Nat} {cs:Array Value},w2.heap[g]? =some (.cells cs 9 (0,0))->¬(g=pb):=by
  rintro g cs h1 rfl;have h2:=H;unfold Whole at h2;rw[h1]at h2;injection h2 with h2;injection h2 with _ h2;exact absurd h2 D
 have f:i<vs.length:=(QqD.1 R).1;have ad:Mv F w (λk=>F k\/m.ownBlock=some k) (w2.setCell (pb,i*3) m):=by
  refine⟨(S.mono (λg _ d=>Z g d)).trans V (λx hx=>.inl (hx▸h.fb)),λg d=>?_⟩;rcases d with d|d
  ·exact .inl d
  ·rcases z with K|K
   ·rw[K]at d;exact .inl (Z g d)
   ·exact .inr (K g d)
 refine⟨⟨ab,B.keep V ac,?_,by simp[Nand.setB,h.len],?_,?_,?_,.inl h.fp,.inl h.fb,?_,λg d=>.inl (h.fl g d),?_⟩,ad⟩
 ·have:=H.set (i*3) m;rw[List.setIfInBounds_toArray,Qxk vs s.b i m b b' h.len hb hw Y]at this;exact this
 ·intro j c u hj L;rcases QoK i j with q|q|q
  ·have M:s.b[j]? =some c:=by simpa[Nand.setB,QxD (Nat.ne_of_lt q)]using hj
   have l:vs[j]? =some u:=by simpa[QxD (Nat.ne_of_lt q)]using L
   have h1:=Qa (h.row j c u M l) S (λg d n=>h.sep i j v u g O R l n d);exact Qa h1 V (λg d=>by obtain⟨cs,h2⟩:=Yr h1 d;exact o h2)
  ·subst q;have M:b'=c:=by
    have ae:i<s.b.length:=by rw[<-h.len];exact f
    simpa[Nand.setB,ae]using hj
   have l:m=u:=by simpa[f]using L
   subst M l;exact Qa y V (λg d=>by obtain⟨cs,h2⟩:=Yr y d;exact o h2)
  ·have M:s.b[j]? =some c:=by simpa[Nand.setB,QxD (Nat.ne_of_gt q)]using hj
   have l:vs[j]? =some u:=by simpa[QxD (Nat.ne_of_gt q)]using L
   have h1:=Qa (h.row j c u M l) S (λg d n=>h.sep i j v u g O R l n d);exact Qa h1 V (λg d=>by obtain⟨cs,h2⟩:=Yr h1 d;exact o h2)
 ·-- no two rows share a block
  have aa:∀(j:Nat) (u:Value) (g:Nat),vs[j]? =some u->u.ownBlock=some g->g<w.heap.size:=λj u g L d=>h.lt g (h.fr j u g L d);intro j W u X g N L l d r;by_cases h1:i=j
  ·subst h1;have e:m=u:=by simpa[f]using L
   subst e;have Q:vs[W]? =some X:=by simpa[QxD N]using l
   rcases z with K|K
   ·rw[K]at d;exact h.sep i W v X g N R Q d r
   ·have:=K g d;have:=aa W X g Q r;omega
  ·have T:vs[j]? =some u:=by simpa[QxD h1]using L
   by_cases h2:i=W
   ·subst h2;have e:m=X:=by simpa[f]using l
    subst e;rcases z with K|K
    ·rw[K]at r;exact h.sep j i u v g N T R d r
    ·have:=K g r;have:=aa j u g T d;omega
   ·have Q:vs[W]? =some X:=by simpa[QxD h2]using l
    exact h.sep j W u X g N T Q d r
 ·have h1:=Qa h.plan S (λg d n=>Qr0 h.plan (h.row i b v hb R) D d n);exact Qa h1 V (λg d=>by
   rintro rfl;obtain⟨cs,h3⟩:=Yr h1 d;have h2:=H;unfold Whole at h2;rw[h3]at h2;injection h2 with h2;injection h2 with _ h2;exact absurd h2 D)
 ·intro j u g L d;by_cases h1:i=j
  ·subst h1;have e:m=u:=by simpa[f]using L
   subst e;exact .inr d
  ·exact .inl (h.fr j u g (by simpa[QxD h1]using L) d)
 ·intro g d;rw[size_set];rcases d with d|d
  ·exact QzB (h.lt g d) S.size
  ·exact(y.lt g d).2
end nd
end Go.Proofs.YtfialjmemcobjaaGreatDoor
namespace Go.Proofs.YtfialjmemcobjaaGreatDoor
namespace nd
open Go.RowKit er
attribute [local go_sem ↓] Go.wp_at_zero Go.wp_at_succ
def MvAt(w:World)(F:Nat->Prop)(p:Nat)(s':Nand)(w':World):Prop:=∃F',NandAt w' F' p s'/\Mv F w F' w'
theorem MvAt.same{w w':World}{F:Nat->Prop}{p:Nat}{s:Nand}(h:NandAt w F p s)(hb:Below w w w'):MvAt w F p s w':=⟨F,h.below hb,Mv.below hb⟩
theorem Nand.setB_setB(s:Nand)(i:Nat)(b b':Blk):(s.setB i b).setB i b'=s.setB i b':=by simp[Nand.setB]
theorem L6:(Tryz.prog.info? 9).map (λi=>(i.zero,i.size,i.bytes))=some (some (.string ⟨#[]⟩),1,16):=J
theorem Qyi{s:Nand}(h:s.Ok)(k:Int):(waits s.plan k).junk.size<=140737488351232:=by
 unfold waits;cases hf:s.plan.find? (λm=>m.at_==k)with
 |none=>exact QqM _
 |some m=>exact h.jk m (QjU hf)
theorem Qd4{c:Int}(h:c≠0):Yk c= .iface 28 (I c):=QqE h
theorem Pi(w:World)(F:Nat->Prop)(p:Nat)(s:Nand)(q:Int)(t:ByteArray)(h:NandAt w F p s)(ho:s.ops<=1000000000000000000)(bN:t.size<=9223372036854775807):
  C 58 #[(p,0),I q,.string t] w λe w'=>e= .returned (Yk (s.program q t).1)/\MvAt w F p (s.program q t).2 w':=by
 have B0:Hid (Below w.heap.size w (((w.alloc (.cells #[.pointer (some ⟨p,0,none⟩)] 23)).alloc (.cells #[I q] 3)).alloc (.cells #[.string t] 9))):=(((QqA _ _).alloc (QqB _) _).alloc U _).alloc (by simp;omega) _;have H1:=Q7h (h.below B0.o);have X0:Hid (Whole (((w.alloc (.cells #[.pointer (some ⟨p,0,none⟩)] 23)).alloc (.cells #[I q] 3)).alloc (.cells #[.string t] 9)) w.heap.size 23 #[.pointer (some ⟨p,0,none⟩)]):=((Whole.new _ _ _).alloc _).alloc _;have X1:Hid (Whole (((w.alloc (.cells #[.pointer (some ⟨p,0,none⟩)] 23)).alloc (.cells #[I q] 3)).alloc (.cells #[.string t] 9)) (w.heap.size+1) 3 #[I q]):=(Whole.new' _ _ _ _ U).alloc _;have X2:Hid (Whole (((w.alloc (.cells #[.pointer (some ⟨p,0,none⟩)] 23)).alloc (.cells #[I q] 3)).alloc (.cells #[.string t] 9)) (w.heap.size+2) 9 #[.string t]):=Whole.new' _ _ _ _ U;have H:=Q7h h;clear h;cases hd:s.down
 ·cases hq:(Ka s q&&decide (t.size<=128))
  ·have y:s.program q t=(1,s):=by
    unfold Nand.program;rw[hd,QqE D,QqH];unfold Ka at hq;simp at hq;intro⟨h1,h2,h3⟩;have:=hq h1 h2;omega
   have⟨L,HD,HQ⟩:=Q3 y hd hq;clear y hd hq;go_in
   go_wp2_with (go_at_call 117;refine(Yg _ F p s q t w.heap.size (w.heap.size+1) (w.heap.size+2) H1.o (X0.o.cell 0) (X1.o.cell 0) (X2.o.cell 0)).mono ?_;rw[HD.o,HQ.o];rintro e w' ⟨rfl,n,rfl⟩;rw[show Yk (G5 false false)= .iface 28 (I 1)from rfl])
   go_ret
   rw[L.o];exact⟨rfl,MvAt.same H.o (below_drewN B0.o _)⟩
  ·have T:0<=q/\q<(s.blocks:Int)*s.per/\t.size<=128:=by
    unfold Ka at hq;simp only[QzC,QzD]at hq;exact⟨hq.1.1,hq.1.2,hq.2⟩
   obtain⟨n,rfl⟩:=QyM T.1;have M:=H.o.ok;have ao:0<s.per:=by have:=M.p0;omega
   have ap:=M.p1;have aM:=M.b1;have aj:n<s.blocks*s.per:=by have:=T.2.1;exact_mod_cast this
   have aa:=T.2.2;have ak:=Nat.div_lt_of_lt_mul (by rw[Nat.mul_comm];exact aj);have hn:=QzB aj (by have:=QgS aM ap;omega);have hb:=Nand.blk_at M ak;have ag:=M.pl _ _ hb;have y:s.program n t=(let b:=s.blk (n/s.per);if b.bad then(41,s)else if n%s.per≠b.pages.length then(40,s)else
     let m:=waits s.plan (s.ops+1);if m.kind=1 then(9,{s.count.setB (n/s.per) {b with pages:=b.pages++[spoilt m t]}with down:=true})
     else if m.kind=2 then(41,s.count.setB (n/s.per) {b with pages:=b.pages++[spoilt m t],bad:=true})
     else(0,s.count.setB (n/s.per) {b with pages:=b.pages++[t]})):=by
    unfold Nand.program;rw[hd,QqE D,QqE (by intro h;exact h ⟨T.1,T.2.1,aa⟩)];rfl
   generalize bg:s.blk (n/s.per)=b at *;have⟨L,HD,HQ,aq,HB⟩:=Q5 y hd hq M hb;have bH:(0:Int)<=((n/s.per:Nat):Int):=QkD _;have bQ:IntKind.i64.wrap ((n:Int).tdiv (s.per:Int))=((n/s.per:Nat):Int):=by
    rw[<-Int.ofNat_tdiv,QqN];have:n/s.per<=n:=Nat.div_le_self _ _;omega
   clear y hd hq T bg M hb;go_in
   go_wp2_with fail
   refine(Yg _ F p s n t w.heap.size (w.heap.size+1) (w.heap.size+2) H1.o (X0.o.cell 0) (X1.o.cell 0) (X2.o.cell 0)).mono ?_;rw[HD.o,HQ.o];rintro e W ⟨rfl,nd,hW⟩;rw[show Yk (G5 false true)= .nilIface from rfl];have BW:Hid (Below w w W):=by subst hW;exact below_drewN B0.o _
   have x0:W.cell? (w,0)=some (p,0):=by subst hW;exact X0.o.cell 0
   have x1:W.cell? (w.heap.size+1,0)=some (I n):=by subst hW;exact X1.o.cell 0
   have x2:W.cell? (w.heap.size+2,0)=some (.string t):=by subst hW;exact X2.o.cell 0
   obtain⟨pb,pv,vs,V⟩:∃pb pv vs,NandIn W F p s pb pv vs:=by subst hW;exact H1.out.below (below_drewN (QqA _ _) nd)
   clear hW;have IN:=Q7h V;obtain⟨c0,c1,c2,c3,c4,c5,bR,bh⟩:=V.hide;obtain⟨v,hv⟩:∃v,vs[n/s.per]? =some v:=⟨vs[n/s.per]'(by rw[V.len,aq.o.bl];exact ak),QqC _⟩;obtain⟨e0,e1,e2⟩:=Ku vs s.b (n/s.per) v b hv HB.o;have k0:W.cell? (pb,n/s.per*3)=some v:=by rw[V.blk.cell];simpa using e0
   have k2:W.cell? (pb,n/s.per*3+2)=some (.bool b.bad):=by rw[V.blk.cell];simpa using e2
   have HV:=Q7h hv;clear hv e0 e1 e2 V c0 c3 c4 c5 bh;go_wp2_with fail
   go_quiet (fail)
   cases hbad:b.bad
   ·obtain⟨A,cap,bi⟩:=Qk (IN.o.row _ _ _ HB.o HV.o);subst bi;rw[hbad]at k2;have R:=Q7h hbad;clear hbad;by_cases N:n%s.per=b.pages.length
    ·have bS:(((n%s.per:Nat):Int) != (b.pages.length:Int))=false:=by
      rw[bne_eq_false_iff_eq];exact_mod_cast N
     have ar:=Q7h N;have aN:=Qyi aq.o (s.ops+1);have ab:Hid (s.program n t=(let m:=waits s.plan (s.ops+1)
       if m.kind=1 then(9,{s.count.setB (n/s.per) {b with pages:=b.pages++[spoilt m t]}with down:=true})
       else if m.kind=2 then(41,s.count.setB (n/s.per) {b with pages:=b.pages++[spoilt m t],bad:=true})
       else(0,s.count.setB (n/s.per) {b with pages:=b.pages++[t]}))):=by
      show _=_;rw[L.o];simp only[R.o,QuJ,QiA,QqE (show ¬(n%s.per≠b.pages.length)from λh=>h N)]
     clear N;go_wp2_with fail
     go_quiet (fail)
     go_wp2_with fail
     refine(Ae _ F p s pb pv vs (IN.out.below (below_drewN (QqA _ _) _)) ho).mono ?_;rintro e i ⟨rfl,ah,KP⟩;have KW:Hid (Keep (λk=>k=p) W i):=(Keep.below (below_drewN (QqA _ _) _)).trans KP (λx hx=>.inl hx);have np:∀k,w.heap.size<=k->¬(k=p):=λk hk e=>by have:=H.o;obtain⟨_,_,_,h⟩:=this;have:=h.obj.lt;omega
     have y0:=KW.o.cell x0 (np _ N0);have y2:=KW.o.cell x2 (np _ (by show w.heap.size<=w.heap.size+2;omega));have aQ:=Q7h ah;obtain⟨e0,e1,e2⟩:=Ku vs s.b (n/s.per) (.slice A b.pages.length cap) b HV.o HB.o;have m0:i.cell? (pb,n/s.per*3)=some (.slice A b.pages.length cap):=by exact(ah.blk.cell _).trans (by simpa[Nand.count]using e0)
     have bj:=ah.blk.lt;clear ah KP e0 e1 e2;generalize waits s.plan (s.ops+1)=m at *;unfold D8;have K3:Hid (Keep (λk=>(Value.slice A b.pages.length cap).ownBlock=some k) (i.alloc (.cells #[I m.at_,I m.kind,I m.keep,.string m.junk] 78)) (i.alloc (.cells #[I m.at_,I m.kind,I m.keep,.string m.junk] 78)).drew):=(Keep.refl _ _).drew;have X:Hid (NandIn (i.alloc (.cells #[I m.at_,I m.kind,I m.keep,.string m.junk] 78)) F p s.count pb pv vs):=aQ.out.alloc _;have ac:=Q7h (X.o.row _ _ _ HB.o HV.o);have aR:Hid (∀k,F k->k<w.heap.size):=by obtain⟨_,_,_,h⟩:=H.o;exact h.lt
     have HF:Hid (∀g,(Value.slice A b.pages.length cap).ownBlock=some g->F g):=λg S=>X.o.fr _ _ g HV.o S;have bK:w.heap.size+2<i.heap.size:=QjA _ _ y2;have WM:Hid (Whole (i.alloc (.cells #[I m.at_,I m.kind,I m.keep,.string m.junk] 78)) i.heap.size 78 #[I m.at_,I m.kind,I m.keep,.string m.junk]):=Whole.new _ _ _;have HK:Hid (∀w',Keep (λk=>(Value.slice A b.pages.length cap).ownBlock=some k) (i.alloc (.cells #[I m.at_,I m.kind,I m.keep,.string m.junk] 78)) w'->w'.cell? ⟨pb,n/s.per*3,none⟩=some (.slice A b.pages.length cap)/\w'.cell? ⟨w.heap.size+2,0,none⟩=some (.string t)/\w'.cell? ⟨i.heap.size,0,none⟩=some (I m.at_)/\w'.cell? ⟨i.heap.size,1,none⟩=some (I m.kind)/\w'.cell? ⟨i.heap.size,2,none⟩=some (I m.keep)/\w'.cell? ⟨i.heap.size,3,none⟩=some (.string m.junk)/\w'.frozen? ⟨pb,n/s.per*3,none⟩=false):=λw' hk=>by
      have far:∀k,w.heap.size<=k->¬((Value.slice A b.pages.length cap).ownBlock=some k):=λk hk h=>by have:=aR.out _ (HF.out k h);omega
      have hm:=WM.out.keep hk (far _ O);have al:¬((Value.slice A b.pages.length cap).ownBlock=some pb):=by
       intro h;obtain⟨cs,h1⟩:=Yr ac.o h;have h2:=X.o.blk;unfold Whole at h2;rw[h1]at h2;injection h2 with h2;injection h2 with _ h2;exact absurd h2 D
      refine⟨(hk.cell (v:= .slice A b.pages.length cap) (by rw[QkK _ _ _ bj];exact m0) al),hk.cell (by rw[QkK _ _ _ (QjA _ _ y2)];exact y2) (far _ (by show w.heap.size<=w.heap.size+2;omega)),hm.cell 0,hm.cell 1,hm.cell 2,hm.cell 3,hk.fz (by show pb<_;simp;omega) (X.out.blk.fz _) al⟩
     have bL:=ag.1;have aS:Hid (∀(j:Nat) (u:Value),[Value.string t][j]? =some u->((i.alloc (.cells #[I m.at_,I m.kind,I m.keep,.string m.junk] 78)).drew.alloc (.cells #[Value.string t] 9)).cell? ((⟨i.heap.size+1,0,none⟩:Addr).add j)=some u):=by
      have:=Z4 (i.alloc (.cells #[I m.at_,I m.kind,I m.keep,.string m.junk] 78)).drew (Value.string t) 9;simp only[QqW,World.size_drew]at this;exact this
     obtain⟨i0,au,av,aw,ax⟩:=QzX L6;have bM:=Sz ac.out;have ay:Hid (∀(x:ByteArray) (w4 w5:World) (g c:Nat),Keep (λk=>(Value.slice A b.pages.length cap).ownBlock=some k) (i.alloc (.cells #[I m.at_,I m.kind,I m.keep,.string m.junk] 78)) w4->
       w4.grownBy w5 (Value.slice A b.pages.length cap).ownBlock->w5.ownsRow 0 9 1 (.slice (some ⟨g,0,none⟩) (b.pages.length+1) c) (b.pages.length+1) (b.pages.map .string++[.string x])->((Value.slice A b.pages.length cap).ownBlock=some g\/w.heap.size<=g/\i.heap.size<g)->
       ∃(F':Nat->Prop) (Y:Value),NandIn (w5.setCell ⟨pb,n/s.per*3,none⟩ (.slice (some ⟨g,0,none⟩) (b.pages.length+1) c)) F' p (s.count.setB (n/s.per) {b with pages:=b.pages++[x]}) pb pv (vs.set (n/s.per) Y)/\Mv F w F' (w5.setCell ⟨pb,n/s.per*3,none⟩ (.slice (some ⟨g,0,none⟩) (b.pages.length+1) c))/\
        (w5.setCell ⟨pb,n/s.per*3,none⟩ (.slice (some ⟨g,0,none⟩) (b.pages.length+1) c)).cell? ⟨w.heap.size,0,none⟩=some (.pointer (some ⟨p,0,none⟩))):=λx w4 w5 g c h4 h5 aT S=>by
      have bm:Keep (λk=>(Value.slice A b.pages.length cap).ownBlock=some k) (i.alloc (.cells #[I m.at_,I m.kind,I m.keep,.string m.junk] 78)) w5:=h4.grown h5 (λg S=>.inl S);have am:b.pages.length+1=(b.pages++[x]).length:=U;have az:w5.ownsRow 0 9 1 (.slice (some ⟨g,0,none⟩) (b.pages.length+1) c) ({b with pages:=b.pages++[x]}:Blk).pages.length (({b with pages:=b.pages++[x]}:Blk).pages.map .string):=by
       show w5.ownsRow 0 _ 1 _ (b.pages++[x]).length ((b.pages++[x]).map .string);rw[<-am,QqY];exact aT
      have bn:(s.count.setB (n/s.per) {b with pages:=b.pages++[x]}).Ok:=Nand.setB_Ok aq.out.count (by show(b.pages++[x]).length<=s.per;rw[<-am,<-ar.out];exact Nat.mod_lt _ ao) ag.2.1 (by show b.worn<=s.ops+1;have:=ag.2.2;omega);obtain⟨r1,r2⟩:=X.out.newRow (b':={b with pages:=b.pages++[x]}) HB.out HV.out rfl rfl bm az (by
       rcases S with S|S
       ·exact .inl S.symm
       ·refine .inr (λg' bo=>?_);have:g=g':=by simpa[Value.ownBlock]using bo
        subst this;simp only[QqW];omega) bn
      have bp:Mv F w F (i.alloc (.cells #[I m.at_,I m.kind,I m.keep,.string m.junk] 78)):=⟨((Keep.below BW.out).trans (KW.out.mono (λk _ hk=>(hk▸X.out.fp:F k))) (λx hx=>.inl hx)).alloc _,λ_ h=>.inl h⟩;refine⟨_,_,r1,bp.trans r2,?_⟩;have q1:(i.alloc (.cells #[I m.at_,I m.kind,I m.keep,.string m.junk] 78)).cell? ⟨w.heap.size,0,none⟩=some (.pointer (some ⟨p,0,none⟩)):=by rw[QkK _ _ _ (QjA _ _ y0)];exact y0
      exact r2.keep.cell q1 (λhf=>by have:=aR.out _ hf;simp at this)
     clear ag;by_cases Z:m.kind=1
     ·have t1:(m.kind==1)=true:=by simp[Z]
      have ai:=Q7h Z;clear Z;go_wp2_with fail
      obtain⟨aV,aW,aX,aY,aZ,aA,aB⟩:=HK.out _ K3.out;go_cut [] (λw6=>∃(F':Nat->Prop) (Y:Value),NandIn w6 F' p (s.count.setB (n/s.per) {b with pages:=b.pages++[(spoilt m t)]}) pb pv (vs.set (n/s.per) Y)/\Mv F w F' w6/\w6.cell? ⟨w.heap.size,0,none⟩=some (.pointer (some ⟨p,0,none⟩)))
      case first=>
       go_region_law (first|(go_simp;go_at_call 121;refine(L8 _ m t aa aN).mono ?_;rintro e w4 ⟨rfl,r⟩;have K4:=Q7h (K3.out.transBelow r);obtain⟨aF,bq,br,bs,bu,bv,bx⟩:=HK.out _ K4.out;have aH:=r.size;simp only[World.size_drew,QqW]at aH;have qa:=λo=>(QkK w4 o ⟨pb,n/s.per*3,none⟩ (by show pb<_;omega)).trans aF;have R4:=Q7h (own_below ac.out (QxB ((QqA _ _).drew) r));clear r)|((refine step_append_lies _ (by rfl) (.tmp 59) (.tmp 63) 190 (by rfl) 0 9 i0 (.string ⟨#[]⟩) 1 16 Tryz.underlying190 au av aw ax (by rfl) O (.slice A b.pages.length cap) b.pages.length (b.pages.map .string) (by rfl) (R4.out.alloc _) ⟨w4.heap.size,0,none⟩ 1 1 [.string (spoilt m t)] (by rfl) (by rfl) (Z4 _ _ _) (by simp[Value.oneCell']) O (by unfold maxLen;omega) O (QqM _) (w4.heap.size+1) U ?_);(intro g c w5 d l f an;have K5:=Q7h ((K4.out.alloc (.cells #[.string (spoilt m t)] 9)).grown l (λg S=>.inl S));have ad:=Q7h d;obtain⟨a0,a4,a5,a6,a7,a8,a9⟩:=HK.out _ K5.out;have⟨ae,z⟩:=Q2 l f;clear d l f)))
       all_goals
        go_wp2_with fail
        go_meet
        exact ay.out (spoilt m t) _ _ g c (K4.out.alloc _) ae.out ad.out (by
         rcases z.out with h|h
         ·exact .inl h
         ·exact .inr O)
      case rest=>
       obtain⟨F',Y,a,K,r0⟩:=hcut;obtain⟨d0,d1,d2,d3,d4,d5,dp,dz⟩:=a.hide;have z5:=dz 5;have af:Hid (NandIn (wc.setCell ⟨p,5,none⟩ (.bool true)) F' p {s.count.setB (n/s.per) {b with pages:=b.pages++[spoilt m t]}with down:=true} pb pv (vs.set (n/s.per) Y)):=a.setObj 5 _ rfl rfl rfl ⟨a.ok.b0,a.ok.b1,a.ok.p0,a.ok.p1,a.ok.bl,a.ok.pl,a.ok.o0,a.ok.jk⟩;have aK:Hid (Mv F w F' (wc.setCell ⟨p,5,none⟩ (.bool true))):=K.trans ⟨(Keep.set1 _ _ _ _).mono (λk _ hk=>(hk▸a.fp:F' k)),λ_ h=>.inl h⟩;clear a K d0 d1 d2 d3 d4 dz;go_wp2_with fail
       go_ret
       rw[ab.out];simp only[ai.out,QyC];exact⟨rfl,F',⟨_,_,_,af.out⟩,aK.out⟩
     ·have t1:(m.kind==1)=false:=by simp[Z]
      have ai:=Q7h Z;clear Z;by_cases B:m.kind=2
      ·have t2:(m.kind==2)=true:=by simp[B]
       have aL:=Q7h B;clear B;go_wp2_with fail
       obtain⟨aV,aW,aX,aY,aZ,aA,aB⟩:=HK.out _ K3.out;go_cut [] (λw6=>∃(F':Nat->Prop) (Y:Value),NandIn w6 F' p (s.count.setB (n/s.per) {b with pages:=b.pages++[(spoilt m t)]}) pb pv (vs.set (n/s.per) Y)/\Mv F w F' w6/\w6.cell? ⟨w.heap.size,0,none⟩=some (.pointer (some ⟨p,0,none⟩)))
       case first=>
        go_region_law (first|(go_simp;go_at_call 121;refine(L8 _ m t aa aN).mono ?_;rintro e w4 ⟨rfl,r⟩;have K4:=Q7h (K3.out.transBelow r);obtain⟨aF,bq,br,bs,bu,bv,bx⟩:=HK.out _ K4.out;have aH:=r.size;simp only[World.size_drew,QqW]at aH;have qa:=λo=>(QkK w4 o ⟨pb,n/s.per*3,none⟩ (by show pb<_;omega)).trans aF;have R4:=Q7h (own_below ac.out (QxB ((QqA _ _).drew) r));clear r)|((refine step_append_lies _ (by rfl) (.tmp 77) (.tmp 81) 190 (by rfl) 0 9 i0 (.string ⟨#[]⟩) 1 16 Tryz.underlying190 au av aw ax (by rfl) O (.slice A b.pages.length cap) b.pages.length (b.pages.map .string) (by rfl) (R4.out.alloc _) ⟨w4.heap.size,0,none⟩ 1 1 [.string (spoilt m t)] (by rfl) (by rfl) (Z4 _ _ _) (by simp[Value.oneCell']) O (by unfold maxLen;omega) O (QqM _) (w4.heap.size+1) U ?_);(intro g c w5 d l f an;have K5:=Q7h ((K4.out.alloc (.cells #[.string (spoilt m t)] 9)).grown l (λg S=>.inl S));have ad:=Q7h d;obtain⟨a0,a4,a5,a6,a7,a8,a9⟩:=HK.out _ K5.out;have⟨ae,z⟩:=Q2 l f;clear d l f)))
        all_goals
         go_wp2_with fail
         go_meet
         exact ay.out (spoilt m t) _ _ g c (K4.out.alloc _) ae.out ad.out (by
          rcases z.out with h|h
          ·exact .inl h
          ·exact .inr O)
       case rest=>
        obtain⟨F',Y,a,K,r0⟩:=hcut;have bz:n/s.per<s.b.length:=(QqD.1 HB.out).1;have bF:n/s.per<vs.length:=(QqD.1 HV.out).1;have Q:(s.count.setB (n/s.per) {b with pages:=b.pages++[spoilt m t]}).b[n/s.per]? =some {b with pages:=b.pages++[spoilt m t]}:=by simp[Nand.setB,Nand.count,bz]
        have ba:(vs.set (n/s.per) Y)[n/s.per]? =some Y:=by simp[bF]
        obtain⟨_,_,g2⟩:=Ku _ _ _ _ _ ba Q;have r2:wc.cell? ⟨pb,n/s.per*3+2,none⟩=some (.bool b.bad):=(a.blk.cell _).trans (by simpa using g2);have z2:=a.blk.fz (n/s.per*3+2);obtain⟨af,bb⟩:=a.setBlk (b':={b with pages:=b.pages++[spoilt m t],bad:=true}) Q rfl 2 (.bool true) (Vw _ _ _ _ _ a.len Q) (Nand.setB_Ok a.ok (a.ok.pl _ _ Q).1 (a.ok.pl _ _ Q).2.1 (a.ok.pl _ _ Q).2.2);rw[Nand.setB_setB]at af;have bc:=Q7h af;have aK:Hid (Mv F w F' (wc.setCell ⟨pb,n/s.per*3+2,none⟩ (.bool true))):=K.trans ⟨bb.mono (λk _ hk=>(hk▸a.fb:F' k)),λ_ h=>.inl h⟩;clear a K af bb g2 Q ba;go_wp2_with fail
        go_ret
        rw[ab.out];simp only[QqE ai.out,QqH aL.out];exact⟨rfl,F',⟨_,_,_,bc.out⟩,aK.out⟩
      ·have t2:(m.kind==2)=false:=by simp[B]
       have aL:=Q7h B;clear B;go_wp2_with fail
       obtain⟨aV,aW,aX,aY,aZ,aA,aB⟩:=HK.out _ K3.out;go_cut [] (λw6=>∃(F':Nat->Prop) (Y:Value),NandIn w6 F' p (s.count.setB (n/s.per) {b with pages:=b.pages++[t]}) pb pv (vs.set (n/s.per) Y)/\Mv F w F' w6/\w6.cell? ⟨w.heap.size,0,none⟩=some (.pointer (some ⟨p,0,none⟩)))
       case first=>
        go_region_law (((refine step_append_lies _ (by rfl) (.tmp 93) (.tmp 95) 190 (by rfl) 0 9 i0 (.string ⟨#[]⟩) 1 16 Tryz.underlying190 au av aw ax (by rfl) O (.slice A b.pages.length cap) b.pages.length (b.pages.map .string) (by rfl) (ac.out.alloc _) ⟨(i.heap.size+1),0,none⟩ 1 1 [.string t] (by rfl) (by rfl) aS.out (by simp[Value.oneCell']) O (by unfold maxLen;omega) O (QqM _) ((i.heap.size+1)+1) U ?_);(intro g c w5 d l f an;have K5:=Q7h ((K3.out.alloc (.cells #[.string t] 9)).grown l (λg S=>.inl S));have ad:=Q7h d;obtain⟨a0,a4,a5,a6,a7,a8,a9⟩:=HK.out _ K5.out;have⟨ae,z⟩:=Q2 l f;clear d l f)))
        all_goals
         go_wp2_with fail
         go_meet
         exact ay.out t _ _ g c (K3.out.alloc _) ae.out ad.out (by
          rcases z.out with h|h
          ·exact .inl h
          ·exact .inr O)
       case rest=>
        obtain⟨F',Y,a,K,r0⟩:=hcut;have⟨be,bf⟩:=Q2 a K;clear a K;go_wp2_with fail
        go_ret
        rw[ab.out];simp only[QqE ai.out,QqE aL.out];exact⟨rfl,F',⟨_,_,_,be.out⟩,bf.out⟩

    ·have bT:(((n%s.per:Nat):Int) != (b.pages.length:Int))=true:=by
      rw[bne_iff_ne];intro h;exact N (by exact_mod_cast h)
     have ar:=Q7h N;clear N;go_wp2_with fail
     go_quiet (fail)
     go_wp2_with fail
     go_ret
     rw[L.out];simp only[R.out,QuJ,QiA,QqH (show n%s.per≠b.pages.length from ar.out)];exact⟨rfl,MvAt.same H.out (below_drewN BW.out _)⟩
   ·rw[hbad]at k2;have R:=Q7h hbad;clear hbad;go_wp2_with fail
    go_ret
    rw[L.out];simp only[R.out,QyC];exact⟨rfl,MvAt.same H.out (below_drewN BW.out _)⟩
 ·have y:s.program q t=(9,s):=by
   unfold Nand.program;rw[hd,QqH rfl]
  have⟨L,HD⟩:=Q2 y hd;clear y hd;go_enter Tryz.func58,Tryz.ntmps58
  go_wp2_with (go_at_call 117;refine(Yg _ F p s q t w.heap.size (w.heap.size+1) (w.heap.size+2) H1.out (X0.out.cell 0) (X1.out.cell 0) (X2.out.cell 0)).mono ?_;rw[HD.out];rintro e w' ⟨rfl,n,rfl⟩;rw[show Yk (G5 true (Ka s q&&decide (t.size<=128)))= .iface 28 (I 9)from rfl])
  go_ret
  rw[L.out];exact⟨rfl,MvAt.same H.out (below_drewN B0.out _)⟩
end nd
namespace nd
open Go.RowKit er
def Q5j(w:World)(F:Nat->Prop)(p:Nat)(s':Nand)(l:List (ByteArray×Int))(c:Int)(e:Ending)(w':World):Prop:=
 ∃v F',e= .returned v/\NandAt w' F' p s'/\Mv F w F' w'/\Cu w' F' l c v
theorem wrapped{w w1:World}{F F':Nat->Prop}{p:Nat}{s':Nand}(op:ByteArray)(k c:Int)(d:c≠0)(a:NandAt w1 F' p s')(e:Mv F w F' w1):
  NandAt (w1.alloc (.cells #[.string op,I k,.iface 28 (I c)] 187)) F' p s'/\Mv F w F' (w1.alloc (.cells #[.string op,I k,.iface 28 (I c)] 187))/\
   Cu (w1.alloc (.cells #[.string op,I k,.iface 28 (I c)] 187)) F' [(op,k)] c (.iface 183 (w1,0)):=by
 have hb:Below w1 w1 (w1.alloc (.cells #[.string op,I k,.iface 28 (I c)] 187)):=B0.alloc N0 _;refine⟨a.below hb,e.trans (Mv.below hb),.inr ⟨d,[w1.heap.size],⟨rfl,_,Whole.new _ _ _,rfl⟩,λb hb=>?_⟩⟩;obtain rfl:b=w1.heap.size:=by simpa using hb
 obtain⟨_,_,_,h⟩:=a;intro f;exact absurd (h.lt _ f) (Nat.lt_irrefl _)
theorem Qw2(p:Nat)(w:World):(binOp .eql 23 (p,0) (.pointer none)).run Tryz.prog w= .ok (.bool false) w:=J
theorem Qxg(w:World)(F:Nat->Prop)(p:Nat)(s:Nand)(q:Int)(t:ByteArray)(h:NandAt w F p s)(i:s.ops<=1000000000000000000)(b:t.size<=9223372036854775807):
  C 13 #[(p,0),I q,.string t] w (Q5j w F p (s.program q t).2 [(⟨#[112,114,111,103,114,97,109]⟩,q)] (s.program q t).1):=by
 have H:=Q7h h;clear h;by_cases a:(s.program q t).1=0
 ·have f:=Q7h a;have j:Yk (s.program q t).1= .nilIface:=by rw[a];rfl
  have g:=Q7h j;clear a j;go_in
  go_wp2_with fail
  refine(Pi _ F p s q t H.o i b).mono ?_;rw[g.o];rintro e w1 ⟨rfl,F',c,d⟩;have⟨k,l⟩:=Q2 c d;clear c d;go_wp2_with (go_at_call 57;refine(Ij _ _ _).mono ?_;rintro e w' ⟨rfl,rfl⟩)
  go_ret
  exact⟨_,F',rfl,k.o,l.o,.inl ⟨f.o,rfl⟩⟩
 ·have⟨f,g⟩:=Q2 a (Qd4 a);clear a;go_in
  go_wp2_with fail
  refine(Pi _ F p s q t H.o i b).mono ?_;rw[g.o];rintro e w1 ⟨rfl,F',c,d⟩;have W:=Q7h (wrapped ⟨#[112,114,111,103,114,97,109]⟩ q _ f.o c d);clear c d;go_wp2_with (go_at_call 57;refine(Dx _ _ _ _ _).mono ?_;rintro e w' ⟨rfl,rfl⟩)
  go_ret
  exact⟨_,F',rfl,W.o.1,W.o.2.1,W.o.2.2⟩
theorem Qyk(w:World)(F:Nat->Prop)(p:Nat)(s:Nand)(h:NandAt w F p s):C 257 #[(p,0)] w λe w'=>e= .returned (I s.ops)/\w=w':=by
 obtain⟨pb,pv,vs,h⟩:=h;obtain⟨c0,c1,c2,c3,c4,c5,b,a⟩:=h.hide;have c:=Qw2 p;clear h c0 c1 c2 c4 c5 a;go_in
 go_wp2
 go_ret
 exact⟨rfl,rfl⟩
theorem Qoy(w:World)(F:Nat->Prop)(p:Nat)(s:Nand)(h:NandAt w F p s):C 45 #[(p,0)] w λe w'=>e= .returned (.bool s.down)/\w=w':=by
 obtain⟨pb,pv,vs,h⟩:=h;obtain⟨c0,c1,c2,c3,c4,c5,b,a⟩:=h.hide;have c:=Qw2 p;clear h c0 c1 c2 c3 c4 a;go_in
 go_wp2
 go_ret
 exact⟨rfl,rfl⟩
theorem Ui(w:World)(F:Nat->Prop)(p:Nat)(s:Nand)(q:Int)(h:NandAt w F p s):C 189 #[(p,0),I q] w λe w'=>e= .returned (I (s.next q))/\∃n,w'=w.drewN n:=by
 have H:=Q7h h;obtain⟨pb,pv,vs,h⟩:=h;cases hq:s.has q
 ·have c:=Q7h hq;clear h hq;go_in
  go_wp2_with (go_at_call 179;refine(Xa _ F p s q H.o).mono ?_;rw[c.o];rintro e w' ⟨rfl,rfl⟩)
  go_ret
  exact⟨by simp[Nand.next,c.o],0,rfl⟩
 ·have a:=hq;unfold Nand.has at a;simp only[QzC,QzD]at a;obtain⟨n,rfl⟩:=QyM a.1;have d:n<s.blocks:=O;have hb:=Nand.blk_at h.ok d;obtain⟨c0,c1,c2,c3,c4,c5,j,f⟩:=h.hide;obtain⟨v,g⟩:∃v,vs[n]? =some v:=⟨vs[n]'(by rw[h.len,h.ok.bl];exact d),QqC _⟩;obtain⟨i,k,l⟩:=Ku vs s.b n v _ g hb;obtain⟨A,cap,rfl⟩:=Qk (h.row _ _ _ hb g);have t:w.cell? (pb,n*3)=some (.slice A (s.blk n).pages.length cap):=by rw[h.blk.cell];simpa using i
  have c:=Q7h hq;have m:(0:Int)<=(n:Int):=O;have r:(n:Int)<(s.blocks:Int):=O;clear h hq a hb i k l g c0 c1 c3 c4 c5 f;go_in
  go_wp2_with (go_at_call 179;refine(Xa _ F p s n H.o).mono ?_;rw[c.o];rintro e w' ⟨rfl,rfl⟩)
  go_ret
  exact⟨by simp[Nand.next,c.o],0,rfl⟩
theorem Qok(w:World)(F:Nat->Prop)(p:Nat)(s:Nand)(q:Int)(h:NandAt w F p s):C 108 #[(p,0),I q] w λe w'=>e= .returned (I (s.wornB q))/\∃n,w'=w.drewN n:=by
 have H:=Q7h h;obtain⟨pb,pv,vs,h⟩:=h;cases hq:s.has q
 ·have c:=Q7h hq;clear h hq;go_in
  go_wp2_with (go_at_call 179;refine(Xa _ F p s q H.o).mono ?_;rw[c.o];rintro e w' ⟨rfl,rfl⟩)
  go_ret
  exact⟨by simp[Nand.wornB,c.o],0,rfl⟩
 ·have a:=hq;unfold Nand.has at a;simp only[QzC,QzD]at a;obtain⟨n,rfl⟩:=QyM a.1;have d:n<s.blocks:=O;have hb:=Nand.blk_at h.ok d;obtain⟨c0,c1,c2,c3,c4,c5,j,f⟩:=h.hide;obtain⟨v,g⟩:∃v,vs[n]? =some v:=⟨vs[n]'(by rw[h.len,h.ok.bl];exact d),QqC _⟩;obtain⟨k,i,l⟩:=Ku vs s.b n v _ g hb;obtain⟨A,cap,rfl⟩:=Qk (h.row _ _ _ hb g);have t:w.cell? (pb,n*3+1)=some (I (s.blk n).worn):=by rw[h.blk.cell];simpa using i
  have c:=Q7h hq;have m:(0:Int)<=(n:Int):=O;have r:(n:Int)<(s.blocks:Int):=O;clear h hq a hb k i l g c0 c1 c3 c4 c5 f;go_in
  go_wp2_with (go_at_call 179;refine(Xa _ F p s n H.o).mono ?_;rw[c.o];rintro e w' ⟨rfl,rfl⟩)
  go_ret
  exact⟨by simp[Nand.wornB,c.o],0,rfl⟩
theorem Qp1(w:World)(F:Nat->Prop)(p:Nat)(s:Nand)(q:Int)(h:NandAt w F p s):C 188 #[(p,0),I q] w λe w'=>e= .returned (.bool (s.badB q))/\∃n,w'=w.drewN n:=by
 have H:=Q7h h;obtain⟨pb,pv,vs,h⟩:=h;cases hq:s.has q
 ·have c:=Q7h hq;clear h hq;go_in
  go_wp2_with (go_at_call 179;refine(Xa _ F p s q H.o).mono ?_;rw[c.o];rintro e w' ⟨rfl,rfl⟩)
  go_ret
  exact⟨by simp[Nand.badB,c.o],0,rfl⟩
 ·have a:=hq;unfold Nand.has at a;simp only[QzC,QzD]at a;obtain⟨n,rfl⟩:=QyM a.1;have d:n<s.blocks:=O;have hb:=Nand.blk_at h.ok d;obtain⟨c0,c1,c2,c3,c4,c5,j,f⟩:=h.hide;obtain⟨v,g⟩:∃v,vs[n]? =some v:=⟨vs[n]'(by rw[h.len,h.ok.bl];exact d),QqC _⟩;obtain⟨k,l,i⟩:=Ku vs s.b n v _ g hb;obtain⟨A,cap,rfl⟩:=Qk (h.row _ _ _ hb g);have t:w.cell? (pb,n*3+2)=some (.bool (s.blk n).bad):=by rw[h.blk.cell];simpa using i
  have c:=Q7h hq;have m:(0:Int)<=(n:Int):=O;have r:(n:Int)<(s.blocks:Int):=O;clear h hq a hb k l i g c0 c1 c3 c4 c5 f;go_in
  go_wp2_with (go_at_call 179;refine(Xa _ F p s n H.o).mono ?_;rw[c.o];rintro e w' ⟨rfl,rfl⟩)
  go_ret
  exact⟨by simp[Nand.badB,c.o],0,rfl⟩
end nd
end Go.Proofs.YtfialjmemcobjaaGreatDoor
namespace Go.Proofs.YtfialjmemcobjaaGreatDoor
namespace nd
open Go.RowKit er
theorem Xj(w:World)(F:Nat->Prop)(p:Nat)(s:Nand)(q:Int)(h:NandAt w F p s):
  C 284 #[(p,0),I q] w λe w'=>e= .returned (.tuple #[.string (s.read q).2,Yk (s.read q).1])/\Below w w w':=by
 have z:Hid (Below w w ((w.alloc (.cells #[(p,0)] 23)).alloc (.cells #[I q] 3))):=((QqA _ _).alloc (QqB _) _).alloc U _;have K:=Q7h (h.below z.o);have L:Hid (Whole ((w.alloc (.cells #[(p,0)] 23)).alloc (.cells #[I q] 3)) w.heap.size 23 #[(p,0)]):=(Whole.new _ _ _).alloc _;have M:Hid (Whole ((w.alloc (.cells #[(p,0)] 23)).alloc (.cells #[I q] 3)) (w.heap.size+1) 3 #[I q]):=Whole.new' _ _ _ _ U;have H:=Q7h h;clear h;cases hd:s.down
 ·cases hq:Ka s q
  ·have a:s.read q=(1,⟨#[]⟩):=by
    unfold Nand.read;rw[hd,QqE D,QqH];unfold Ka at hq;simp at hq;intro⟨h1,h2⟩;have:=hq h1;omega
   have⟨f,u,R⟩:=Q3 a hd hq;clear a hd hq;go_in
   go_wp2_with (go_at_call 117;refine(Oe _ F p s q w.heap.size (w.heap.size+1) K.o (L.o.cell 0) (M.o.cell 0)).mono ?_;rw[u.o,R.o];rintro e w' ⟨rfl,n,rfl⟩;rw[show Yk (G5 false false)= .iface 28 (I 1)from rfl])
   go_ret2
   rw[f.o];exact⟨rfl,below_drewN z.o _⟩
  ·have j:0<=q/\q<(s.blocks:Int)*s.per:=by
    unfold Ka at hq;simp only[QzC,QzD]at hq;exact hq
   obtain⟨n,rfl⟩:=QyM j.1;have c:=H.o.ok;have S:0<s.per:=by have:=c.p0;omega
   have m:=c.p1;have x:=c.b1;have l:n<s.blocks*s.per:=by have:=j.2;exact_mod_cast this
   have k:=Nat.div_lt_of_lt_mul (by rw[Nat.mul_comm];exact l);have hn:=QzB l (by have:=QgS x m;omega);have hb:=Nand.blk_at c k;have T:=c.pl _ _ hb;have a:s.read n=(match(s.blk (n/s.per)).pages[n%s.per]? with|none=>(42,⟨#[]⟩)|some t=>(0,t)):=by
    unfold Nand.read;rw[hd,QqE D,QqE (by intro h;exact h ⟨j.1,j.2⟩)];rfl
   generalize V:s.blk (n/s.per)=b at *;have⟨f,u,R,X,Y⟩:=Q5 a hd hq c hb;have ab:(0:Int)<=((n/s.per:Nat):Int):=QkD _;have ac:((n/s.per:Nat):Int)<(s.blocks:Int):=by exact_mod_cast k
   have ad:(0:Int)<=((n%s.per:Nat):Int):=QkD _;have ae:IntKind.i64.wrap ((n:Int).tdiv (s.per:Int))=((n/s.per:Nat):Int):=by
    rw[<-Int.ofNat_tdiv,QqN];have:n/s.per<=n:=Nat.div_le_self _ _;omega
   have af:IntKind.i64.wrap ((n:Int).tmod (s.per:Int))=((n%s.per:Nat):Int):=by
    rw[<-Int.ofNat_tmod,QqN];have:n%s.per<=n:=Nat.mod_le _ _;omega
   clear a hd hq j V c hb;go_in
   go_wp2_with fail
   refine(Oe _ F p s n w.heap.size (w.heap.size+1) K.o (L.o.cell 0) (M.o.cell 0)).mono ?_;rw[u.o,R.o];rintro e W ⟨rfl,nd,y⟩;rw[show Yk (G5 false true)= .nilIface from rfl];have BW:Hid (Below w w W):=by subst y;exact below_drewN z.o _
   have x0:W.cell? (w,0)=some (p,0):=by subst y;exact L.o.cell 0
   have x1:W.cell? (w.heap.size+1,0)=some (I n):=by subst y;exact M.o.cell 0
   obtain⟨pb,pv,vs,i⟩:∃pb pv vs,NandIn W F p s pb pv vs:=by subst y;exact K.o.below (below_drewN (QqA _ _) nd)
   clear y;obtain⟨c0,c1,c2,c3,c4,c5,ag,Z⟩:=i.hide;obtain⟨v,N⟩:∃v,vs[n/s.per]? =some v:=⟨vs[n/s.per]'(by rw[i.len,X.o.bl];exact k),QqC _⟩;obtain⟨e0,e1,e2⟩:=Ku vs s.b (n/s.per) v b N Y.o;obtain⟨A,cap,B⟩:=Qk (i.row _ _ _ Y.o N);subst B;have k0:W.cell? (pb,n/s.per*3)=some (.slice A b.pages.length cap):=by rw[i.blk.cell];simpa using e0
   have aa:=Q7h (i.row _ _ _ Y.o N);have Q:b.pages.length<=32:=by have:=T.1;omega
   clear N e0 e1 e2 i c0 c3 c4 c5 Z;cases hpg:b.pages[n%s.per]? with
   |none=>
    have ah:((b.pages.length:Nat):Int)<=((n%s.per:Nat):Int):=by
     have:=List.getElem?_eq_none_iff.1 hpg;exact_mod_cast this
    have r:=Q7h hpg;clear hpg;go_wp2_with fail
    go_quiet (fail)
    go_wp2_with fail
    go_ret2
    rw[f.o,r.o];exact⟨rfl,below_drewN BW.o _⟩
   |some t=>
    have ai:n%s.per<b.pages.length:=(QqD.1 hpg).1;obtain⟨g,rfl,aj,ak,al,d,_⟩:=Qx aa.o O;have kc:=d (n%s.per) (.string t) (by rw[QzF,hpg];rfl);have r:=Q7h hpg;clear hpg d;go_wp2_with fail
    go_quiet (fail)
    go_wp2_with fail
    go_ret2
    rw[f.o,r.o];exact⟨rfl,below_drewN BW.o _⟩
 ·have a:s.read q=(9,⟨#[]⟩):=by
   unfold Nand.read;rw[hd,QqH rfl]
  have⟨f,u⟩:=Q2 a hd;clear a hd;go_in
  go_wp2_with (go_at_call 117;refine(Oe _ F p s q w.heap.size (w.heap.size+1) K.o (L.o.cell 0) (M.o.cell 0)).mono ?_;rw[u.o];rintro e w' ⟨rfl,n,rfl⟩;rw[show Yk (G5 true (Ka s q))= .iface 28 (I 9)from rfl])
  go_ret2
  rw[f.o];exact⟨rfl,below_drewN z.o _⟩
end nd
namespace nd
open Go.RowKit er
attribute [local go_sem ↓] Go.wp_at_zero Go.wp_at_succ
def X4(w:World)(F:Nat->Prop)(p:Nat)(s:Nand)(l:List (ByteArray×Int))(r:Int×ByteArray)(e:Ending)(w':World):Prop:=
 ∃v,e= .returned (.tuple #[.string r.2,v])/\Below w w w'/\Cu w' F l r.1 v
theorem Qoj(w:World)(F:Nat->Prop)(p:Nat)(s:Nand)(q:Int)(h:NandAt w F p s):
  C 242 #[(p,0),I q] w (X4 w F p s [(⟨#[114,101,97,100]⟩,q)] (s.read q)):=by
 have H:=Q7h h;clear h;by_cases a:(s.read q).1=0
 ·have c:=Q7h a;have f:Yk (s.read q).1= .nilIface:=by rw[a];rfl
  have d:=Q7h f;clear a f;go_in
  go_wp2_with fail
  refine(Xj _ F p s q H.o).mono ?_;rw[d.o];rintro e w1 ⟨rfl,hb⟩;have b:=Q7h hb;clear hb;go_wp2_with (go_at_call 57;refine(Ij _ _ _).mono ?_;rintro e w' ⟨rfl,rfl⟩)
  go_ret2
  exact⟨_,rfl,b.o,.inl ⟨c.o,rfl⟩⟩
 ·have⟨c,d⟩:=Q2 a (Qd4 a);clear a;go_in
  go_wp2_with fail
  refine(Xj _ F p s q H.o).mono ?_;rw[d.o];rintro e w1 ⟨rfl,hb⟩;have b:=Q7h hb;have W:=Q7h (wrapped (F':=F) ⟨#[114,101,97,100]⟩ q _ c.o (H.o.below hb) (Mv.below hb));clear hb;go_wp2_with (go_at_call 57;refine(Dx _ _ _ _ _).mono ?_;rintro e w' ⟨rfl,rfl⟩)
  go_ret2
  exact⟨_,rfl,b.o.trans (B0.alloc b.o.size _),W.o.2.2⟩
theorem Qzw(w:World)(F:Nat->Prop)(p:Nat)(s:Nand)(h:NandAt w F p s):
  C 122 #[(p,0)] w λe w'=>e= .returned (.agg #[I s.blocks,I s.per])/\Below w w w':=by
 obtain⟨pb,pv,vs,h⟩:=h;obtain⟨c0,c1,c2,c3,c4,c5,b,a⟩:=h.hide;have c:=Qw2 p;clear h c2 c3 c4 c5 a;go_in
 go_wp2
 go_returns;refine⟨rfl,?_⟩
 exact B0.alloc N0 _
end nd
namespace nd
open Go.RowKit er
attribute [local go_sem ↓] Go.wp_at_zero Go.wp_at_succ
theorem Qas:(Tryz.prog.info? 192).map (λi=>(i.zero,i.size,i.bytes))=some (some (.agg #[.slice none 0 0,I 0,.bool false]),3,40):=J
theorem Qjn(n:Nat):(madeCells (Value.agg #[.slice none 0 0,I 0,.bool false]).cells (n*3)).toList=Z6 (List.replicate n (.slice none 0 0)) (List.replicate n ⟨[],0,false⟩):=by
 apply QyR;intro j;by_cases a:j<n*3
 ·have hi:j/3<n:=O;obtain⟨b,c,d⟩:=Ku (List.replicate n (Value.slice none 0 0)) (List.replicate n (⟨[],0,false⟩:Blk)) (j/3) (.slice none 0 0) ⟨[],0,false⟩ (by simp[hi]) (by simp[hi]);have e:(madeCells (Value.agg #[.slice none 0 0,I 0,.bool false]).cells (n*3)).toList[j]? =some ((Value.agg #[.slice none 0 0,I 0,.bool false]).cells[j%3]!):=by
   simp only[madeCells,Array.toList_map,Array.toList_range,QzF,QxV a,Option.map_some];rfl
  rw[e];have h3:j%3=0\/j%3=1\/j%3=2:=O;rcases h3 with h|h|h
  ·rw[h,show j=j/3*3 from O,b];rfl
  ·rw[h,show j=j/3*3+1 from O,c];rfl
  ·rw[h,show j=j/3*3+2 from O,d];rfl
 ·rw[QkY (by simp[madeCells];omega),QkY (by rw[Qzc _ _ U];simp;omega)]
theorem Qcs{w1 w2:World}{g n k:Nat}(e:16<=n)(f:n<=64)(h:8<=k)(l:k<=32)
  (hb:Whole w1 g 192 (Z6 (List.replicate n (.slice none 0 0)) (List.replicate n ⟨[],0,false⟩)).toArray)
  (h2:w2=w1.alloc (.cells #[I n,I k,.slice (some (g,0)) n n,I 0,.slice none 0 0,.bool false] 164)):
  NandIn w2 (λx=>x=g\/x=w1.heap.size) w1.heap.size (Uc n k) g (.slice none 0 0) (List.replicate n (.slice none 0 0)):=by
 subst h2;refine⟨⟨e,f,h,l,by simp[Uc],λi b hb=>?_,QxL _,λm p=>by simp[Uc]at p⟩,Whole.new _ _ _,hb.alloc _,by simp[Uc],λi b v hb a=>?_,λi j v u o _ a r c=>?_,World.ownsRow_nil _ _ _ _,.inr rfl,.inl rfl,λi v o a c=>?_,λo c=>?_,λx s=>?_⟩
 ·have:b=⟨[],0,false⟩:=by
   simp only[Uc]at hb;exact(QgF.1 (QqL hb)).2
  subst this;exact⟨QqM _,QxL _,QxL _⟩
 ·have q:b=⟨[],0,false⟩:=by
   simp only[Uc]at hb;exact(QgF.1 (QqL hb)).2
  have d:=(QgF.1 (QqL a)).2;subst q d;exact World.ownsRow_nil _ _ _ _
 ·have d:=(QgF.1 (QqL a)).2;subst d;simp[Value.ownBlock]at c
 ·have d:=(QgF.1 (QqL a)).2;subst d;simp[Value.ownBlock]at c
 ·simp[Value.ownBlock]at c
 ·simp only[QqW];have:=hb.lt;omega
def Qpt(w:World)(s:Nand)(e:Ending)(w':World):Prop:=
 ∃F p,e= .returned (.tuple #[(p,0),.nilIface])/\NandAt w' F p s/\Below w w w'/\∀k,F k->w.heap.size<=k
theorem Q1q(n k:Nat)(j:16<=n)(l:n<=64)(m:8<=k)(p:k<=32)(w:World):
  C 51 #[.agg #[I n,I k]] w (Qpt w (Uc n k)):=by
 have Z:((16:Int)<=(n:Int)):=O;have A:((n:Int)<=64):=O;have B:((8:Int)<=(k:Int)):=O;have i4:((k:Int)<=32):=O;obtain⟨R,q,r,s,t⟩:=QzX Qas;obtain⟨w1,S,u,c⟩:=run_make_full (P:=Tryz.prog) (w.alloc (.cells #[I n,I k] 74)).drew (w.heap.size+1) 162 192 R _ 3 Tryz.underlying162 q r s .i64 .i64 n (by rw[t];omega) (by unfold maxLen;omega) U;rw[Qjn]at u;have a:=Whole.grown (w:=(w.alloc (.cells #[I n,I k] 74)).drew) (Whole.new w _ _) c U;have d:Whole w1 (w.heap.size+1) 192 (Z6 (List.replicate n (.slice none 0 0)) (List.replicate n ⟨[],0,false⟩)).toArray:=by
  rcases u.2 with⟨h,_⟩|⟨g,cap,v,b,d,T,q1,V,N,W⟩
  ·injection h with h;cases h
  ·injection b with b h2 h3;injection b with b;injection b with b;have y:g=w.heap.size+1:=by rw[<-b];simp
   subst y;rw[<-h3]at N;clear q1 V h3 h2 b;have z:v.toList=Z6 (List.replicate n (.slice none 0 0)) (List.replicate n ⟨[],0,false⟩):=by
    rw[<-W,QkT];rw[Array.length_toList,N];exact QqB _
   show w1.heap[w.heap.size+1]? =_;rw[T,<-z]
 have f:Below w w w1:=((B0.alloc N0 _).drew).trans ⟨c.os,c.tape,c.output,c.size,λx X=>c.block x (by simp;omega) U⟩;have⟨F,i⟩:=Q2 d f;have b0:=a.cell 0;have b1:=a.cell 1;simp only[QyG,QgC,QyN]at b0 b1;have Q:=(Whole.new w 74 #[I n,I k]).cell 0;have a1:=(Whole.new w 74 #[I n,I k]).cell 1;have⟨Y,H⟩:=Q2 (And.intro Q a1) (And.intro b0 b1);have K:Hid (∀o,(w1.alloc o).cell? (w,0)=some (I n)/\(w1.alloc o).cell? (w,1)=some (I k)):=λo=>⟨(a.alloc o).cell 0,(a.alloc o).cell 1⟩;clear u c a d f Q a1 b0 b1;go_in
 go_wp2_with (go_at_call 110;refine(Yv _ _ _ _).mono ?_;rintro e w' ⟨rfl,rfl⟩)
 go_region_held3 (λw'=>w'.cell? (w,0)=some (I n)/\w'.cell? (w,1)=some (I k)) (first|exact Y.o|exact H.o|exact K.o _) (fail)
 go_wp2
 go_ret2
 have L:=Qcs j l m p F.o (w2:=w1.alloc (.cells #[I n,I k,.slice (some (w.heap.size+1,0)) n n,I 0,.slice none 0 0,.bool false] 164)) rfl;have M:=i.o.size;exact⟨_,_,rfl,⟨_,_,_,L⟩,i.o.trans (B0.alloc M _),λx X=>O⟩
end nd
namespace nd
open Go.RowKit er
def Nand.planned(s:Nand)(l:List Mis):Nand:={s with plan:=(l.filter λm=>decide (1<=m.at_)&&decide (m.at_<=1099511627776)).map λm=>{m with at_:=m.at_+s.ops}}
theorem Zqw(l:List Mis)(m:Mis):Oj (l++[m])=Oj l++[I m.at_,I m.kind,I m.keep,.string m.junk]:=by simp[Oj]
theorem Zzx{F:Nat->Prop}{p:Nat}(a:F p){w:World}(i:Nat)(u:Value):Mv F w F (w.setCell (p,i) u):=⟨(Keep.set1 _ _ _ _).mono (λk _ b=>(b▸a:F k)),λ_ h=>.inl h⟩
theorem NandIn.setPlan{w:World}{F:Nat->Prop}{p:Nat}{s s':Nand}{pb:Nat}{pv pv':Value}{vs:List Value}(h:NandIn w F p s pb pv vs)(u:Value)
  (l:(#[I s.blocks,I s.per,.slice (some (pb,0)) s.blocks s.blocks,I s.ops,pv,.bool s.down]:Array Value).setIfInBounds 4 u=
   #[I s'.blocks,I s'.per,.slice (some (pb,0)) s'.blocks s'.blocks,I s'.ops,pv',.bool s'.down]) (hb:s'.b=s.b)
  (a:(w.setCell (p,4) u).ownsRow 0 78 4 pv' s'.plan.length (Oj s'.plan)) (m:∀g,pv'.ownBlock=some g->F g) (c:s'.Ok):NandIn (w.setCell (p,4) u) F p s' pb pv' vs:=by
 have d:=O3 h.blk h.obj D;have i:=Keep.set1 w p 4 u;refine⟨c,?_,?_,?_,?_,h.sep,a,h.fp,h.fb,h.fr,m,λg e=>by rw[size_set];exact h.lt g e⟩
 ·have:=h.obj.set 4 u;rw[l]at this;exact this
 ·rw[hb];exact h.blk.keep i d
 ·rw[hb];exact h.len
 ·intro j b v f k;rw[hb]at f;refine Qa (h.row j b v f k) i (λg e=>?_);rintro rfl;obtain⟨cs,h1⟩:=Yr (h.row j b v f k) e;have h2:=h.obj;unfold Whole at h2;rw[h1]at h2;injection h2 with h2;injection h2 with _ h2;exact absurd h2 D
attribute [local go_sem ↓] Go.wp_at_zero Go.wp_at_succ
theorem Zq2:(Tryz.prog.info? 78).map (λi=>(i.zero,i.size,i.bytes))=some (some (.agg #[I 0,I 0,I 0,.string ⟨#[]⟩]),4,40):=J
def Zq6(w:World)(b off:Nat)(l:List Mis):Prop:=∀(j:Nat) (m:Mis),l[j]? =some m->
 w.cell? (b,off+j*4)=some (I m.at_)/\w.cell? (b,off+j*4+1)=some (I m.kind)/\w.cell? (b,off+j*4+2)=some (I m.keep)/\w.cell? (b,off+j*4+3)=some (.string m.junk)
def Zqp(m:Mis):Bool:=decide (1<=m.at_)&&decide (m.at_<=1099511627776)
theorem Zqr(s:Nand)(l:List Mis)(m:Mis)(h:Zqp m=false):s.planned (l++[m])=s.planned l:=by
 unfold Nand.planned;unfold Zqp at h;simp[QjZ,QkX,h]
theorem Zqs(s:Nand)(l:List Mis)(m:Mis)(h:Zqp m=true):s.planned (l++[m])={s with plan:=(s.planned l).plan++[{m with at_:=m.at_+s.ops}]}:=by
 unfold Nand.planned;unfold Zqp at h;simp only[QjZ,QkX,h,QyC,List.filter_nil,QqY,QzE,QjE]
theorem Zq1(s:Nand)(l:List Mis):(s.planned l).plan.length<=l.length:=by
 unfold Nand.planned;simp only[QqT];exact QkE _ _
theorem Zqt{s:Nand}(h:s.Ok)(l:List Mis)(b:∀m∈l,m.junk.size<=140737488351232):(s.planned l).Ok:=
 ⟨h.b0,h.b1,h.p0,h.p1,h.bl,h.pl,h.o0,λm a=>by
  simp only[Nand.planned,QqS,QzZ]at a;obtain⟨x,⟨c,_⟩,rfl⟩:=a;exact b x c⟩
theorem NandIn.newPlan{w w2:World}{F:Nat->Prop}{p:Nat}{s s':Nand}{pb:Nat}{pv pv':Value}{vs:List Value}(h:NandIn w F p s pb pv vs)
  (N:(#[I s.blocks,I s.per,.slice (some (pb,0)) s.blocks s.blocks,I s.ops,pv,.bool s.down]:Array Value).setIfInBounds 4 pv'=
   #[I s'.blocks,I s'.per,.slice (some (pb,0)) s'.blocks s'.blocks,I s'.ops,pv',.bool s'.down]) (hb:s'.b=s.b)
  (l:Keep (λk=>pv.ownBlock=some k) w w2) (c:w2.ownsRow 0 78 4 pv' s'.plan.length (Oj s'.plan))
  (m:pv'.ownBlock=pv.ownBlock\/∀g,pv'.ownBlock=some g->w.heap.size<=g) (y:s'.Ok):
  NandIn (w2.setCell (p,4) pv') (λk=>F k\/pv'.ownBlock=some k) p s' pb pv' vs/\Mv F w (λk=>F k\/pv'.ownBlock=some k) (w2.setCell (p,4) pv'):=by
 have z:pb≠p:=O3 h.blk h.obj D;have n:∀g,pv.ownBlock=some g->F g:=λg a=>h.fl g a;have o:∀{g:Nat} {cs:Array Value} {t:TypeId},Whole w g t cs->t≠78->¬(pv.ownBlock=some g):=by
  intro g cs t a H f;obtain⟨cs',h1⟩:=Yr h.plan f;unfold Whole at a;rw[h1]at a;injection a with h2;injection h2 with _ h2;exact H h2.symm
 have d:=h.obj.keep l (o h.obj D);have q:=h.blk.keep l (o h.blk D);have r:Keep (λk=>k=p) w2 (w2.setCell (p,4) pv'):=Keep.set1 _ _ _ _;have e:∀{g:Nat} {cs:Array Value} {t:TypeId},w2.heap[g]? =some (.cells cs t (0,0))->t≠164->¬(g=p):=by
  rintro g cs t h1 H rfl;have h2:=d;unfold Whole at h2;rw[h1]at h2;injection h2 with h2;injection h2 with _ h2;exact H h2
 have K:Mv F w (λk=>F k\/pv'.ownBlock=some k) (w2.setCell (p,4) pv'):=by
  refine⟨(l.mono (λg _ a=>n g a)).trans r (λx Q=>.inl (Q▸h.fp)),λg a=>?_⟩;rcases a with a|a
  ·exact .inl a
  ·rcases m with L|L
   ·rw[L]at a;exact .inl (n g a)
   ·exact .inr (L g a)
 refine⟨⟨y,?_,?_,?_,?_,h.sep,?_,.inl h.fp,.inl h.fb,λi v g u a=>.inl (h.fr i v g u a),λg a=>.inr a,?_⟩,K⟩
 ·have:=d.set 4 pv';rw[N]at this;exact this
 ·rw[hb];exact q.keep r z
 ·rw[hb];exact h.len
 ·intro j b v M u;rw[hb]at M;have h1:=Qa (h.row j b v M u) l (λg a f=>Qr0 (h.row j b v M u) h.plan D a f);exact Qa h1 r (λg a=>by obtain⟨cs,h2⟩:=Yr h1 a;exact e h2 D)
 ·exact Qa c r (λg a=>by obtain⟨cs,h2⟩:=Yr c a;exact e h2 D)
 ·intro g a;rw[size_set];rcases a with a|a
  ·exact QzB (h.lt g a) l.size
  ·exact(c.lt g a).2
theorem Zq4(w:World)(F:Nat->Prop)(p:Nat)(s:Nand)(h:NandAt w F p s)(ho:s.ops<=1000000000000000000)(b off cap n:Nat)(l:List Mis)(hl:l.length=n)(hn:n<=1000000)(ha:Zq6 w b off l)(hF:¬F b)(hj:∀m∈l,m.junk.size<=140737488351232):
  C 39 #[.pointer (some ⟨p,0,none⟩),.slice (some ⟨b,off,none⟩) n cap] w λe w'=>e= .returned (.tuple #[])/\MvAt w F p (s.planned l) w':=by
 have HA:=Q7h ha;have HJ:=Q7h hj;have HL:=Q7h hl;have t:=Q7h hF;have o0:=h.ok.o0;have Y:=h.ok;have ag:=Q7h Y;have Z:Hid (NandAt (w.setCell ⟨p,4,none⟩ (.slice none 0 0)) F p (s.planned [])/\Mv F w F (w.setCell ⟨p,4,none⟩ (.slice none 0 0))):=by
  obtain⟨pb,pv,vs,hi⟩:=h;exact⟨⟨pb,_,vs,hi.setPlan (s':=s.planned []) (pv':= .slice none 0 0) (.slice none 0 0) rfl rfl (World.ownsRow_nil _ _ _ _) (λg B=>by simp[Value.ownBlock]at B) (Zqt hi.ok [] U)⟩,Zzx hi.fp _ _⟩
 have d:w.cell? ⟨p,4,none⟩=some (.slice none 0 0)\/∃A n c,w.cell? ⟨p,4,none⟩=some (.slice A n c):=by
  obtain⟨pb,pv,vs,hi⟩:=h;obtain⟨A,c,e⟩:=Qk hi.plan;exact .inr ⟨A,_,c,by rw[hi.obj.cell,e];rfl⟩
 obtain⟨A0,n0,c0,c4⟩:∃A n c,w.cell? ⟨p,4,none⟩=some (.slice A n c):=by
  rcases d with h|h
  ·exact⟨_,_,_,h⟩
  ·exact h
 have f4:w.frozen? ⟨p,4,none⟩=false:=by obtain⟨_,_,_,hi⟩:=h;exact hi.obj.fz 4
 have hq:=Qw2 p;clear h ha hj hl hF d Y;go_enter Tryz.func39,Tryz.ntmps39
 go_wp2_with fail
 clear c4;go_loopw [13] (λi wr=>∃k:Nat,k<=n/\i= I k/\∃F',Hid (NandAt wr F' p (s.planned (l.take k)))/\Hid (Mv F w F' wr)) (λi _=>n-(intOf i).toNat)
 case atStart=>exact⟨0,QqM _,rfl,F,Z.out.1,Z.out.2⟩
 case round=>
  obtain⟨k,hk,rfl,F',HN,H⟩:=hrel;by_cases ah:k<n
  ·have R:k<l.length:=by rw[HL.out];exact ah
   obtain⟨m,S⟩:∃m,l[k]? =some m:=⟨l[k],QqC R⟩;have aa:l.take (k+1)=l.take k++[m]:=by
    rw[QkC R];rw[QqC R]at S;injection S with S;rw[S]
   obtain⟨q0,q1,q2,q3⟩:=HA.out k m S;have c0:=H.out.keep.cell q0 t.out;have c1:=H.out.keep.cell q1 t.out;have c2:=H.out.keep.cell q2 t.out;have c3:=H.out.keep.cell q3 t.out;have T:=Q7h aa;have aF:(0:Int)<=(k:Int):=O;have aH:(k:Int)<(n:Int):=O;have aK:=HJ.out m (QqL S);clear q0 q1 q2 q3 aa S;by_cases h1:1<=m.at_
   ·by_cases h2:m.at_<=1099511627776
    ·have f:Hid (Zqp m=true):=by show Zqp m=true;simp[Zqp,h1,h2]
     obtain⟨pb,pv,vs,a⟩:=HN.out;have IN:=Q7h a;obtain⟨A1,q,ai⟩:=Qk a.plan;subst ai;have d3:wr.cell? ⟨p,3,none⟩=some (I s.ops):=a.obj.cell 3;have d4:wr.cell? ⟨p,4,none⟩=some (.slice A1 (s.planned (l.take k)).plan.length q):=a.obj.cell 4;have aL:=a.obj.lt;have z4:=a.obj.fz 4;have aM:IntKind.i64.wrap (m.at_+s.ops)=m.at_+s.ops:=by rw[QqN];omega
     have au:(s.planned (l.take k)).plan.length<=1000000:=by have:=Zq1 s (l.take k);rw[QzJ]at this;omega
     have aj:=Q7h a.plan;clear a;go_wp2_with fail
     go_region
     go_wp2_with fail
     have WM:Whole (wr.alloc (.cells #[I (m.at_+s.ops),I m.kind,I m.keep,.string m.junk] 78)).drew wr.heap.size 78 #[I (m.at_+s.ops),I m.kind,I m.keep,.string m.junk]:=Whole.new wr _ _;have BW:Hid (Below wr.heap.size wr (wr.alloc (.cells #[I (m.at_+s.ops),I m.kind,I m.keep,.string m.junk] 78)).drew):=((QqA _ _).alloc (QqB _) _).drew;have v:wr.heap.size<(wr.alloc (.cells #[I (m.at_+s.ops),I m.kind,I m.keep,.string m.junk] 78)).drew.heap.size:=U;generalize(wr.alloc (.cells #[I (m.at_+s.ops),I m.kind,I m.keep,.string m.junk] 78)).drew=W2 at *;have y:=Q7h (IN.out.below BW.out);have e4:=Qq BW.out d4;have aN:=y.out.obj.fz 4;have ab:p<W2.heap.size:=O;have m0:=WM.cell 0;have m1:=WM.cell 1;have m2:=WM.cell 2;have m3:=WM.cell 3;simp only[QyG,QgC,QyN]at m0 m1 m2 m3;have K:=Q7h (own_below aj.out BW.out);obtain⟨i0,ak,al,am,an⟩:=QzX Zq2;have V:=Q7h (Zqs s (l.take k) m f.out);have z:=Q7h (Zqw (s.planned (l.take k)).plan {m with at_:=m.at_+s.ops});have aQ:=λo=>(QkK W2 o ⟨p,4,none⟩ ab).trans e4;have av:=λo=>(QkK W2 o ⟨wr.heap.size,0,none⟩ v).trans m0;have aw:=λo=>(QkK W2 o ⟨wr.heap.size,1,none⟩ v).trans m1;have ax:=λo=>(QkK W2 o ⟨wr.heap.size,2,none⟩ v).trans m2;have ay:=λo=>(QkK W2 o ⟨wr.heap.size,3,none⟩ v).trans m3;have ac:Hid (∀W:World,∀(j:Nat) (u:Value),([I (m.at_+s.ops),I m.kind,I m.keep,.string m.junk]:List Value)[j]? =some u->(W.alloc (.cells #[I (m.at_+s.ops),I m.kind,I m.keep,.string m.junk] 78)).cell? ((⟨W.heap.size,0,none⟩:Addr).add j)=some u):=λW j u hj=>by
      have hw:=Whole.new W 78 #[I (m.at_+s.ops),I m.kind,I m.keep,.string m.junk];rw[show(⟨W.heap.size,0,none⟩:Addr).add j=⟨W.heap.size,j,none⟩from by unfold Addr.add;split<;>simp_all,hw.cell j];simpa using hj
     have ao:Hid (∀(L:World) (o:Obj),(W2.alloc o).drew.grownBy L (Value.slice A1 (s.planned (l.take k)).plan.length q).ownBlock->L.cell? ⟨p,4,none⟩=some (.slice A1 (s.planned (l.take k)).plan.length q)/\L.frozen? ⟨p,4,none⟩=false):=λL o B=>by
      have hw:=Whole.grown (w:=(W2.alloc o).drew) (y.out.obj.alloc o) B (own_ne (K.out.alloc o) (y.out.obj.alloc o) D);exact⟨hw.cell 4,hw.fz 4⟩
     clear WM d3 d4;go_region_law ((refine step_append_lies _ (by rfl) (.tmp 37) (.tmp 39) 79 (by rfl) 0 78 i0 (.agg #[I 0,I 0,I 0,.string ⟨#[]⟩]) 4 40 Tryz.underlying79 ak al am an (by rfl) O (.slice A1 (s.planned (l.take k)).plan.length q) (s.planned (l.take k)).plan.length (Oj (s.planned (l.take k)).plan) (by rfl) (K.out.alloc _) ⟨W2.heap.size,0,none⟩ 1 1 [I (m.at_+s.ops),I m.kind,I m.keep,.string m.junk] (by rfl) (by rfl) (ac.out _) (by simp[Value.oneCell']) O (by unfold maxLen;omega) O (QqM _) (W2.heap.size+1) U ?_);(intro g ad L r X M az;obtain⟨q5,z5⟩:=ao.out L _ X;have ap:=Q7h r;have aq:=Q7h X;have ae:=Q7h M;clear r X M))
     all_goals
      have af:Keep (λx=>(Value.slice A1 (s.planned (l.take k)).plan.length q).ownBlock=some x) W2 L:=((Keep.refl _ _).alloc _).drew.grown aq.out (λg B=>.inl B);have N:=y.out.newPlan (s':=s.planned (l.take (k+1))) (pv':= .slice (some ⟨g,0,none⟩) ((s.planned (l.take k)).plan.length+1) ad) rfl rfl af (by
       rw[T.out,V.out];show L.ownsRow 0 _ 4 _ ((s.planned (l.take k)).plan++[_]).length (Oj ((s.planned (l.take k)).plan++[_]));rw[z.out,QqK];exact ap.out) (by
       rcases ae.out with h|h
       ·exact .inl h.symm
       ·refine .inr (λg' ar=>?_);have:g=g':=by simpa[Value.ownBlock]using ar
        subst this;omega) (Zqt ag.out _ (λx hx=>HJ.out x (QjF hx)))
      have Q:=Q7h N;clear N af;go_wp2_with fail
      go_roundw
      case rel=>exact⟨k+1,O,by go_num,_,⟨_,_,_,Q.out.1⟩,(H.out.trans (Mv.below BW.out)).trans Q.out.2⟩
      case measure=>simp[intOf];omega
    ·have f:Hid (Zqp m=false):=by show Zqp m=false;simp[Zqp];omega
     go_wp2_with fail
     go_roundw
     case rel=>exact⟨k+1,O,by go_num,F',by rw[T.out,Zqr _ _ _ f.out];exact HN.out.below ((QqA _ _).alloc (QqB _) _),H.out.trans (Mv.below ((QqA _ _).alloc (QqB _) _))⟩
     case measure=>simp[intOf];omega
   ·have f:Hid (Zqp m=false):=by show Zqp m=false;simp[Zqp];omega
    go_wp2_with fail
    go_roundw
    case rel=>exact⟨k+1,O,by go_num,F',by rw[T.out,Zqr _ _ _ f.out];exact HN.out.below ((QqA _ _).alloc (QqB _) _),H.out.trans (Mv.below ((QqA _ _).alloc (QqB _) _))⟩
    case measure=>simp[intOf];omega
  ·obtain rfl:k=n:=O;go_wp2_with fail
   go_end0
   have:l.take k=l:=QkT (by rw[HL.out];exact QqB _);rw[this]at HN;exact⟨rfl,F',HN.out,H.out⟩
end nd
end Go.Proofs.YtfialjmemcobjaaGreatDoor
