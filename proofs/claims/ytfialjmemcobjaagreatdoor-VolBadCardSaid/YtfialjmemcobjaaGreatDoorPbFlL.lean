/- A part of the proof. -/
import Derived.Test.YtfialjmemcobjaaGreatDoorPbFlB
import Derived.ChangeOld
import Derived.ChangeSame
import Derived.ChangeVars
import Derived.Deep.Fields
import Derived.Deep.Slices
import Derived.JoinedOf
import Derived.LaidHandle
import Derived.LaidLaws
import Derived.Lib.SmallJoins
import Derived.OpenShut
import Derived.ProofKit
import Derived.RowKit
import Derived.ShutString
import Derived.Stop.Joined
set_option maxRecDepth 100000
set_option maxHeartbeats 16000000
set_option linter.unusedVariables false
set_option linter.unusedSimpArgs false
namespace Go.Proofs.YtfialjmemcobjaaGreatDoor
namespace er
open Go.ChangeShapes Go.WideShapes Go.ChangeAt Go.RowKit Go.Joins Go.Deep
section
variable {H:Type} {enc:TypeId×Value→H} {P:Program} {w:World} {base:Nat} {spare:Nat→Bool} {held:Bool}
theorem Qqo{t e:TypeId}{fs:Array Field}{d:Nat}{cs:List Value}{x:DataW H×List MemPlace}(R:P.underlying t=some (.slice e))(S:P.underlying e=some (.struct fs))
  (g:oneCellFields P fs=true) (L:P.cellsOf e=fs.size) (h:DataW.trod enc P w base spare held d t cs=some x):
  (cs=[.slice none 0 0]/\x=(.nil,[]))\/
  ∃(a:Addr) (len cap m:Nat) (D:Nat->DataW H) (l:Nat->List MemPlace),cs=[.slice (some a) len cap]/\base<=a.block/\len<=cap/\cap<=maxLen/\m=(if spare a.block then cap else len)/\
   x=(.slice ((List.range len).map D) ((List.range (m-len)).map λj=>D (len+j)),MemPlace.row a (m*fs.size)++(List.range m).flatMap l)/\
   ∀i,i<m->∃(ys:List (DataW H×List MemPlace)) (n:Nat),D i= .agg (ys.map (·.1))/\l i=ys.flatMap (·.2)/\ys.length=fs.size/\
    ∀(j:Nat) (f:Field),fs[j]? =some f->∃(v:Value) (y:DataW H×List MemPlace),w.cell? (a.add (i*fs.size+j))=some v/\ys[j]? =some y/\DataW.trod enc P w base spare held n f.type [v]=some y:=by
 rcases open_slice R h with T|⟨a,len,cap,m,n,D,l,o,hb,V,W,p,M,hi⟩
 ·exact .inl T
 ·refine .inr ⟨a,len,cap,m,D,l,o,hb,V,W,p,by rw[L]at M;exact M,λi q=>?_⟩;obtain⟨cs',N,r⟩:=hi i q;rw[L]at N;obtain⟨ys,X,Y,s,Q,u,Z⟩:=DataW.trod_struct S r;obtain⟨_,A,z⟩:=World.cells?_some N;simp only[Prod.mk.injEq]at s;refine⟨ys,X,s.1,s.2,u,λj f F=>?_⟩;obtain⟨B,hk⟩:=hone_of g j f F;have K:j<fs.size:=(QyB.1 F).1;have b:=z j K;have hv:cs'[j]? =some (cs'[j]'O):=QqC O;have h1:=Z j f F;rw[B,hk]at h1;have c:(cs'.drop j).take 1=[cs'[j]'O]:=by
   rw[QkM O];rfl
  rw[c]at h1;have k:ys[j]? =some (ys[j]'O):=QqC O;refine⟨_,_,?_,k,h1.trans k⟩;rw[<-Go.Deep.add_add,b,hv]
end
theorem own:ownKnob Tryz.prog.godebug=none:=J
theorem laidOut:laidOutB Tryz.prog=true:=J
theorem Q57 : Tryz.prog.globalNamed "errors.errorType" = some 0 := by kernel_rfl
theorem Q56 : (Tryz.prog.cutTypes.find? (·.1 == "internal/reflectlite.rtype")).map (·.2) = some 310 := by kernel_rfl
theorem Q4t:((List.range 467).filter λt=>Tryz.prog.rowNamed t [101,114,114,111,114])=[34]:=J
theorem Q2c:Tryz.prog.types.size=467:=J
theorem Qtz{w:World}{b off:Nat}{s:Option Nat}{v:Value}(h:w.cell? ((⟨b,off,s⟩:Addr).add 0)=some v):s=none:=by
 have h1:=World.cell?_spot h;simpa[Addr.add]using h1
theorem addr_add(b off j:Nat):((b,off):Addr).add j=(b,off+j):=by unfold Addr.add;split<;>simp_all
theorem Qj0{α:Type}(P:Nat->α->Prop):∀n:Nat,(∀i,i<n->∃s,P i s)->∃l:List α,l.length=n/\∀(i:Nat) (s:α),l[i]? =some s->P i s
 |0,_=>⟨[],rfl,λi s h=>by simp at h⟩
 |n+1,h=>by
  obtain⟨l,b,c⟩:=Qj0 P n (λi hi=>h i O);obtain⟨s,d⟩:=h n O;refine⟨l++[s],by simp[b],λi u a=>?_⟩;rcases QyH i n with hi|hi
  ·rw[QzM O]at a;exact c i u a
  ·have e:i=n:=by
    have:=(QqD.1 a).1;simp[b]at this;omega
   subst e;rw[<-b]at a;simp at a;subst a;exact d
end er
namespace dc
open Go.RowKit er
structure Sec where
 at_:Int
 data:ByteArray
structure Spc where
 id:Int
 size:Int
 s:List Sec
structure Dv where
 cap:Int
 l:List Spc
def Q6x(w:World)(g o:Nat)(x:Sec):Prop:=w.cell? (g,o)=some (I x.at_)/\w.cell? (g,o+1)=some (.string x.data)
def SecsAt(w:World)(F:Nat->Prop)(v:Value)(l:List Sec):Prop:=∃A c,v= .slice A l.length c/\l.length<=100000/\(0<l.length->∃g o,A=some (g,o)/\F g/\∀(j:Nat) (x:Sec),l[j]? =some x->Q6x w g (o+j*2) x)
def Q08(w:World)(F:Nat->Prop)(g o:Nat)(x:Spc):Prop:=∃sv,w.cell? (g,o)=some (I x.id)/\w.cell? (g,o+1)=some (I x.size)/\w.cell? (g,o+2)=some sv/\SecsAt w F sv x.s
def SpcsAt(w:World)(F:Nat->Prop)(v:Value)(l:List Spc):Prop:=∃A c,v= .slice A l.length c/\l.length<=100000/\(0<l.length->∃g o,A=some (g,o)/\F g/\∀(j:Nat) (x:Spc),l[j]? =some x->Q08 w F g (o+j*3) x)
structure DvAt(w:World)(F:Nat->Prop)(v:Value)(r:Dv):Prop where
 row:∃lv,v= .agg #[I r.cap,lv]/\SpcsAt w F lv r.l
 lt:∀k,F k->k<w.heap.size
def gr(F:Nat->Prop)(w w':World):Nat->Prop:=λk=>F k\/(w.heap.size<=k/\k<w'.heap.size)
section
variable {w w':World} {F G:Nat→Prop} {v:Value}
theorem SecsAt.keep{l:List Sec}(h:SecsAt w F v l)(b:Keep G w w')(d:∀k,F k->¬G k):SecsAt w' F v l:=by
 obtain⟨A,c,rfl,f,h⟩:=h;refine⟨A,c,rfl,f,λi=>?_⟩;obtain⟨g,o,rfl,a,h1⟩:=h i;exact⟨g,o,rfl,a,λj x e=>⟨b.cell (h1 j x e).1 (d g a),b.cell (h1 j x e).2 (d g a)⟩⟩
theorem SpcsAt.keep{l:List Spc}(h:SpcsAt w F v l)(a:Keep G w w')(b:∀k,F k->¬G k):SpcsAt w' F v l:=by
 obtain⟨A,c,rfl,e,h⟩:=h;refine⟨A,c,rfl,e,λf=>?_⟩;obtain⟨g,o,rfl,d,h1⟩:=h f;refine⟨g,o,rfl,d,λj x i=>?_⟩;obtain⟨sv,a1,a2,a3,m⟩:=h1 j x i;exact⟨sv,a.cell a1 (b g d),a.cell a2 (b g d),a.cell a3 (b g d),m.keep a b⟩
theorem DvAt.keep{r:Dv}(h:DvAt w F v r)(b:Keep G w w')(c:∀k,F k->¬G k):DvAt w' F v r:=by
 obtain⟨lv,h1,h2⟩:=h.row;exact⟨⟨lv,h1,h2.keep b c⟩,λk a=>QzB (h.lt k a) b.size⟩
theorem SecsAt.below{l:List Sec}(h:SecsAt w F v l)(hb:Below w w w'):SecsAt w' F v l:=h.keep (G:=λ_=>False) (Keep.below hb) (λ_ _ h=>h)
theorem SpcsAt.below{l:List Spc}(h:SpcsAt w F v l)(hb:Below w w w'):SpcsAt w' F v l:=h.keep (G:=λ_=>False) (Keep.below hb) (λ_ _ h=>h)
theorem DvAt.below{r:Dv}(h:DvAt w F v r)(hb:Below w w w'):DvAt w' F v r:=h.keep (G:=λ_=>False) (Keep.below hb) (λ_ _ h=>h)
theorem SecsAt.mono{l:List Sec}(h:SecsAt w F v l)(a:∀k,F k->G k):SecsAt w G v l:=by
 obtain⟨A,c,rfl,b,h⟩:=h;refine⟨A,c,rfl,b,λd=>?_⟩;obtain⟨g,o,rfl,e,h1⟩:=h d;exact⟨g,o,rfl,a g e,h1⟩
theorem SpcsAt.mono{l:List Spc}(h:SpcsAt w F v l)(a:∀k,F k->G k):SpcsAt w G v l:=by
 obtain⟨A,c,rfl,b,h⟩:=h;refine⟨A,c,rfl,b,λd=>?_⟩;obtain⟨g,o,rfl,e,h1⟩:=h d;refine⟨g,o,rfl,a g e,λj x f=>?_⟩;obtain⟨sv,a1,a2,a3,i⟩:=h1 j x f;exact⟨sv,a1,a2,a3,i.mono a⟩
theorem Tn(a:∀k,F k->k<w.heap.size)(b:w.heap.size<=w'.heap.size):∀k,gr F w w' k->k<w'.heap.size:=by
 rintro k (h|⟨_,h⟩)
 ·exact QzB (a k h) b
 ·exact h
theorem Ak:∀k,F k->gr F w w' k:=λk h=>.inl h
theorem Q54{a:World}(h1:w.heap.size<=w'.heap.size)(h2:w'.heap.size<=a.heap.size):∀k,gr (gr F w w') w' a k->gr F w a k:=by
 rintro k ((h|⟨h3,h4⟩)|⟨h3,h4⟩)
 ·exact .inl h
 ·exact .inr ⟨h3,O⟩
 ·exact .inr ⟨O,h4⟩
theorem Qnv{a:World}(h2:w'.heap.size<=a.heap.size):∀k,gr F w w' k->gr F w a k:=by
 rintro k (h|⟨h3,h4⟩)
 ·exact .inl h
 ·exact .inr ⟨h3,O⟩
end
def Iq(l:List Spc)(id:Int):Option Nat:=l.findIdx? λx=>decide (x.id=id)
def Ug(r:Dv):Int:=r.cap-((r.l.map λx=>(x.s.length:Int)).sum)
def Zj(l:List Spc)(id:Int):List Spc:=l.filter λx=>decide (x.id≠id)
def Yc(s:Spc):List Spc->List Spc
 |[]=>[s]
 |x::r=>if s.id<x.id then s::x::r else x::Yc s r
def Z9(l:List Spc)(s:Spc):List Spc:=Yc s (Zj l s.id)
def Ou(s:Spc)(from_ to_:Int):Spc:={s with s:=s.s.filter λx=>decide (x.at_<from_) || decide (to_<=x.at_)}
def dIn(s:Spc)(from_ to_:Int):Int:=(s.s.length:Int)-((Ou s from_ to_).s.length:Int)
def Ti(from_:Int)(d:List ByteArray):List Sec:=(List.range d.length).map λ(i:Nat)=>⟨from_+(i:Int),d.getD i ⟨#[]⟩⟩
def Ic(s:Spc)(from_:Int)(d:List ByteArray):Spc:={s with s:=(Ou s from_ (from_+d.length)).s.takeWhile (λx=>decide (x.at_<from_))++Ti from_ d++(Ou s from_ (from_+d.length)).s.dropWhile (λx=>decide (x.at_<from_))}
def dOf(s:Spc)(a:Int):ByteArray:=match s.s.find? λx=>decide (x.at_=a)with|some x=>x.data|none=>⟨(List.replicate 32 (0:UInt8)).toArray⟩
end dc
end Go.Proofs.YtfialjmemcobjaaGreatDoor
