/- A part of the proof. -/
import Derived.Test.YtfialjmemcobjaaGreatDoorPbFlL
import Derived.Maps.RangeWalk
set_option maxRecDepth 100000
set_option maxHeartbeats 16000000
set_option linter.unusedVariables false
set_option linter.unusedSimpArgs false
namespace Go.Proofs.YtfialjmemcobjaaGreatDoor
namespace vo
open Go.RowKit Go.Maps er
def Qrv:Value→Option (DataW Unit×List MemPlace)
 |.pointer none=>some (.lit (.int .i64 (-1)),[])
 |.pointer (some ⟨b,0,none⟩)=>some (.lit (.int .i64 b),[])
 |_=>none
theorem Qua {v:Value} {b:Nat} {ps:List MemPlace} (h:Qrv v=some (.lit (.int .i64 b),ps)):v= .pointer (some ⟨b,0,none⟩):=by
 unfold Qrv at h
 split at h
 ·simp at h
 ·rename_i b'
  simp at h
  have:b'=b:=by omega
  rw [this]
 ·cases h
theorem Qid {v:Value} {ps:List MemPlace} (h:Qrv v=some (.lit (.int .i64 (-1)),ps)):v= .pointer none:=by
 unfold Qrv at h
 split at h
 ·rfl
 ·simp at h
 ·cases h
def ent (l:List (Int×Nat)):List (Lit×DataW Unit):=l.map fun x=>(.int .i64 x.1,.lit (.int .i64 x.2))
def I64(x:Int):Prop:= -9223372036854775808<=x/\x<=9223372036854775807
theorem I64.wf{x:Int}(h:I64 x):(Lit.int .i64 x).wf=true:=by
 simp[Lit.wf,IntKind.min,IntKind.max,IntKind.signed,IntKind.bits];exact h
theorem Qse{x:Int}(h:(Lit.int .i64 x).wf=true):I64 x:=by
 simp[Lit.wf,IntKind.min,IntKind.max,IntKind.signed,IntKind.bits]at h;exact h
def MapAt(w:World)(b:Nat)(l:List (Int×Nat)):Prop:=w.ownsMap Tryz.prog 3 Qrv b l.length (.map (ent l))/\l.Pairwise λx y=>x.1<y.1
theorem keyed:Keyed Tryz.prog 3:=int_keyed Tryz.underlying3
theorem Qi9 {x:Int} (h:I64 x):keyOf Tryz.prog 3 (.int .i64 x)=some (.int .i64 x):=keyOf_int_mk Tryz.underlying3 h.wf
theorem Qy5 (a x:Int):(Lit.int .i64 a).sameKey (.int .i64 x)=decide (a=x):=by simp [Lit.sameKey]
def Xx(l:List (Int×Nat))(x:Int):Option Nat:=(l.find? λy=>decide (y.1=x)).map (·.2)
theorem Qd6 (x:Int) (z:DataW Unit):∀l:List (Int×Nat),(DataW.map (ent l)).atKey (.int .i64 x) z=match Xx l x with|some p=>.lit (.int .i64 p)|none=>z
 |[]=>rfl
 |y::r=>by
  have a:=Qd6 x z r
  by_cases e:y.1=x
  ·simp [DataW.atKey,ent,Xx,List.find?_cons,Qy5,e]
  ·have h1:(DataW.map (ent (y::r))).atKey (.int .i64 x) z=(DataW.map (ent r)).atKey (.int .i64 x) z:=by simp [DataW.atKey,ent,List.find?_cons,Qy5,e]
   have h2:Xx (y::r) x=Xx r x:=by simp [Xx,List.find?_cons,e]
   rw [h1,h2,a]
theorem Qx4 (l:List (Int×Nat)) (x:Int):Maps.has (DataW.map (ent l)) (.int .i64 x)=(Xx l x).isSome:=by
 induction l with
 |nil=>rfl
 |cons y r ih=>
  unfold Xx
  show ((Lit.int .i64 y.1).sameKey _ || Maps.has (DataW.map (ent r)) _)=_
  rw [List.find?_cons,Qy5,ih]
  by_cases e:y.1=x
  ·simp [e]
  ·simp only [e,decide_false]
   rfl
def Td(l:List (Int×Nat))(x:Int)(p:Nat):List (Int×Nat):=l.filter (λy=>decide (y.1<x))++(x,p)::l.filter λy=>decide (x<y.1)
def Vb(l:List (Int×Nat))(x:Int):List (Int×Nat):=l.filter λy=>decide (y.1≠x)
theorem Qd5 (l:List (Int×Nat)) (x:Int):(DataW.map (ent l)).del (.int .i64 x)= .map (ent (Vb l x)):=by
 show DataW.map ((ent l).filter _)=_
 unfold ent Vb
 rw [List.filter_map]
 congr 3
 funext y
 simp [Lit.sameKey]
theorem Qnh (x:Int) (p:Nat):∀l:List (Int×Nat),l.Pairwise (fun x y=>x.1 < y.1)→DataW.insert (.int .i64 x,.lit (.int .i64 p)) (ent (Vb l x))=ent (Td l x p)
 |[],_=>rfl
 |y::r,h=>by
  obtain ⟨h1,h2⟩:=List.pairwise_cons.1 h
  have c:=Qnh x p r h2
  unfold Vb Td
  by_cases e:y.1=x
  ·have g:r.filter (fun y=>decide (y.1 < x))=[]:=by
    rw [List.filter_eq_nil_iff];intro a ha;have:=h1 a ha;simp;omega
   unfold Vb Td at c
   rw [List.filter_cons,List.filter_cons,List.filter_cons]
   simp only [e,ne_eq,not_true,decide_false,Bool.false_eq_true,if_false,Int.lt_irrefl]
   exact c
  ·by_cases b:y.1 < x
   ·unfold Vb Td at c
    rw [List.filter_cons,if_pos (by simpa using e),List.filter_cons,if_pos (by simpa using b),List.filter_cons,if_neg (by simp;omega)]
    show (if (Lit.int .i64 x).before (.int .i64 y.1) then _ else _)=_
    rw [if_neg (by simp [Lit.before];omega)]
    exact congrArg (_::·) c
   ·have g:r.filter (fun y=>decide (y.1 < x))=[]:=by
     rw [List.filter_eq_nil_iff];intro a ha;have:=h1 a ha;simp;omega
    have d:r.filter (fun y=>decide (x < y.1))=r:=by
     rw [List.filter_eq_self];intro a ha;have:=h1 a ha;simp;omega
    have f:r.filter (fun y=>decide (y.1≠x))=r:=by
     rw [List.filter_eq_self];intro a ha;have:=h1 a ha;simp;omega
    rw [List.filter_cons,if_pos (by simpa using e),List.filter_cons,if_neg (by simpa using b),List.filter_cons,if_pos (by simp;omega),g,d,f]
    show (if (Lit.int .i64 x).before (.int .i64 y.1) then _ else _)=_
    rw [if_pos (by simp [Lit.before];omega)]
    rfl
theorem Q2p (l:List (Int×Nat)) (x:Int) (p:Nat) (h:l.Pairwise (fun x y=>x.1 < y.1)):(DataW.map (ent l)).put (.int .i64 x) (.lit (.int .i64 p))= .map (ent (Td l x p)):=by
 have:=Qnh x p l h
 have b:=Qd5 l x
 show DataW.map (DataW.insert _ ((ent l).filter _))=_
 have a:(ent l).filter (fun p=>!p.1.sameKey (.int .i64 x))=ent (Vb l x):=by
  injection b
 rw [a,this]
theorem Qb4{l:List (Int×Nat)}(x:Int)(p:Nat)(h:l.Pairwise (λx y=>x.1<y.1)):(Td l x p).Pairwise λx y=>x.1<y.1:=by
 unfold Td;rw[QkA];refine⟨h.filter _,QzS.2 ⟨λa ha=>by simpa using(QzZ.1 ha).2,h.filter _⟩,λa ha b hb=>?_⟩;have h1:a.1<x:=by simpa using(QzZ.1 ha).2
 rcases QqF.1 hb with rfl|hb
 ·exact h1
 ·have h2:x<b.1:=by simpa using(QzZ.1 hb).2
  show a.1<b.1;omega
theorem tight{w:World}{k:TypeId}{R:Value->Option (DataW Unit×List MemPlace)}{b n:Nat}{l:List (Lit×DataW Unit)}(h:w.ownsMap Tryz.prog k R b n (.map l)):w.ownsMap Tryz.prog k R b l.length (.map l):=by
 obtain⟨d,a,hb,F,e,c⟩:=h;refine⟨d,a,hb,F,?_,c⟩;injection c with c;rw[c,length_sorted];simp
theorem Qzg(l:List (Int×Nat)):(ent l).length=l.length:=by simp[ent]
theorem MapAt.made(w:World):MapAt (w.alloc (.map #[] 0)) w.heap.size []:=⟨World.ownsMap_made _ _ _ _,List.Pairwise.nil⟩
theorem MapAt.lt{w:World}{b:Nat}{l:List (Int×Nat)}(h:MapAt w b l):b<w.heap.size:=h.1.lt
theorem MapAt.keep{F:Nat->Prop}{w w':World}{b:Nat}{l:List (Int×Nat)}(h:MapAt w b l)(d:Keep F w w')(e:¬F b):MapAt w' b l:=by
 have c:=h.lt;obtain⟨⟨f,a,hb,r⟩,h2⟩:=h;exact⟨⟨f,a,(d.block b c e).trans hb,r⟩,h2⟩
theorem MapAt.below{w w':World}{b:Nat}{l:List (Int×Nat)}(h:MapAt w b l)(hb:Below w w w'):MapAt w' b l:=h.keep (F:=λ_=>False) (Keep.below hb) (λh=>h)
section
variable {t e:TypeId} {w:World} {b:Nat} {l:List (Int×Nat)}
theorem MapAt.look (h:MapAt w b l) (a:Tryz.prog.underlying t=some (.map 3 e)) (hz:∀w,(zeroValue e).run Tryz.prog w= .ok (.pointer none) w) {x:Int} (c:I64 x) {p:Nat} (d:Xx l x=some p):
  (Instr.lookup t (.map (some b)) (.int .i64 x) false).run Tryz.prog w= .ok (.pointer (some ⟨p,0,none⟩)) w∧(Instr.lookup t (.map (some b)) (.int .i64 x) true).run Tryz.prog w= .ok (.tuple #[.pointer (some ⟨p,0,none⟩),.bool true]) w:=by
 obtain ⟨v,ps,h1,h2⟩:=h.1.lookup keyed a (hz w) (zd:= .lit (.int .i64 (-1))) (zp:=[]) rfl (Qi9 c)
 obtain ⟨g,f,h3,h4⟩:=h.1.look_ok keyed a (hz w) (zd:= .lit (.int .i64 (-1))) (zp:=[]) rfl (Qi9 c)
 rw [Qd6 _ _ l,d] at h2 h4
 rw [Qx4,d] at h3
 rw [Qua h2] at h1
 rw [Qua h4] at h3
 exact ⟨h1,h3⟩
theorem MapAt.look0 (h:MapAt w b l) (a:Tryz.prog.underlying t=some (.map 3 e)) (hz:∀w,(zeroValue e).run Tryz.prog w= .ok (.pointer none) w) {x:Int} (c:I64 x) (d:Xx l x=none):
  (Instr.lookup t (.map (some b)) (.int .i64 x) false).run Tryz.prog w= .ok (.pointer none) w∧(Instr.lookup t (.map (some b)) (.int .i64 x) true).run Tryz.prog w= .ok (.tuple #[.pointer none,.bool false]) w:=by
 obtain ⟨v,ps,h1,h2⟩:=h.1.lookup keyed a (hz w) (zd:= .lit (.int .i64 (-1))) (zp:=[]) rfl (Qi9 c)
 obtain ⟨g,f,h3,h4⟩:=h.1.look_ok keyed a (hz w) (zd:= .lit (.int .i64 (-1))) (zp:=[]) rfl (Qi9 c)
 rw [Qd6 _ _ l,d] at h2 h4
 rw [Qx4,d] at h3
 rw [Qid h2] at h1
 rw [Qid h4] at h3
 exact ⟨h1,h3⟩
theorem MapAt.len(h:MapAt w b l)(a:Tryz.prog.underlying t=some (.map 3 e))(ty:TypeId):(Builtin.len_ #[t] ty #[.map (some b)]).run Tryz.prog w= .ok (I l.length) w:=by
 have:=h.1.len a ty;rw[Maps.size_eq,Qzg]at this;exact this
theorem Qjo{w':World}(h:w.mapTurned w' b):Keep (λk=>k=b) w w':=by
 obtain⟨e,c,a,f,h1,rfl⟩:=h;exact⟨rfl,rfl,rfl,by simp[ChangeMaps.setBlock],λk g d=>ChangeMaps.heap_setBlock_other h1 _ d⟩
theorem MapAt.store (h:MapAt w b l) (a:Tryz.prog.underlying t=some (.map 3 e)) (i:l.length≤1000000) {x:Int} (f:I64 x) (p:Nat):
  ∃w',(Instr.mapUpdate t (.map (some b)) (.int .i64 x) (.pointer (some ⟨p,0,none⟩))).run Tryz.prog w= .ok () w'∧MapAt w' b (Td l x p)∧Keep (fun k=>k=b) w w'∧w'.heap.size=w.heap.size:=by
 obtain ⟨w',h1,h2,h3⟩:=h.1.store keyed a (show l.length < maxLen by simp only [maxLen];omega) (Qi9 f) (val:= .pointer (some ⟨p,0,none⟩)) (d:= .lit (.int .i64 p)) (ps:=[]) rfl
 rw [Q2p l x p h.2] at h2
 have h4:=tight h2
 rw [Qzg] at h4
 refine ⟨w',h1,⟨h4,Qb4 x p h.2⟩,Qjo h3,?_⟩
 obtain ⟨j,c,g,m,_,rfl⟩:=h3
 simp [ChangeMaps.setBlock]
theorem MapAt.drop(h:MapAt w b l)(a:Tryz.prog.underlying t=some (.map 3 e)){x:Int}(d:I64 x)(ty:TypeId):
  ∃w',(Builtin.delete_ #[t,3] ty #[.map (some b),I x]).run Tryz.prog w= .ok (.tuple #[]) w'/\MapAt w' b (Vb l x)/\Keep (λk=>k=b) w w'/\w'.heap.size=w.heap.size:=by
 obtain⟨w',h1,h2,h3⟩:=h.1.drop keyed a (Qi9 d) ty;rw[Qd5]at h2;have h4:=tight h2;rw[Qzg]at h4;refine⟨w',h1,⟨h4,h.2.filter _⟩,Qjo h3,?_⟩;obtain⟨g,c,f,i,_,rfl⟩:=h3;simp[ChangeMaps.setBlock]
end
end vo
namespace vo
open Go.RowKit Go.Maps er
def RngAt(w:World)(b r:Nat)(l rem:List (Int×Nat)):Prop:=
 (∃cnt,w.ranges Tryz.prog 3 Qrv b r l.length (.map (ent l)) (Maps.has (.map (ent rem))) cnt)/\l.Pairwise (λx y=>x.1<y.1)/\rem.Pairwise (λx y=>x.1<y.1)/\∀x∈rem,x∈l
theorem RngAt.keep{F:Nat->Prop}{w w':World}{b r:Nat}{l d:List (Int×Nat)}(h:RngAt w b r l d)(i:Keep F w w')(h1:¬F b)(h2:¬F r):RngAt w' b r l d:=by
 obtain⟨⟨f,g⟩,h3⟩:=h;have j:=g.owns.lt;have k:=g.lt;obtain⟨m,a,c,e,c0,q1,n,o,p,q,s⟩:=g;exact⟨⟨f,m,a,c,e,c0,(i.block b j h1).trans q1,n,o,p,(i.block r k h2).trans q,s⟩,h3⟩
theorem RngAt.left_keep{F:Nat->Prop}{w w':World}{b r:Nat}{l f:List (Int×Nat)}(h:RngAt w b r l f)(g:Keep F w w')(h1:¬F b)(h2:¬F r):w'.rangeLeft b r=w.rangeLeft b r:=by
 obtain⟨⟨i,e⟩,h3⟩:=h;have j:=e.owns.lt;have k:=e.lt;have m:=e.left_eq;obtain⟨n,a,c,d,c0,q1,o,p,q,s,t⟩:=e;rw[m];exact World.ranges.left_eq ⟨n,a,c,d,c0,(g.block b j h1).trans q1,o,p,q,(g.block r k h2).trans s,t⟩
theorem RngAt.start{w:World}{b:Nat}{l:List (Int×Nat)}{t e:TypeId}(h:MapAt w b l)(a:Tryz.prog.underlying t=some (.map 3 e)):
  ∃w',(Instr.range t (.map (some b))).run Tryz.prog w= .ok (w,0) w'/\RngAt w' b w.heap.size l l/\Below w w w'/\w'.heap.size=w.heap.size+1:=by
 obtain⟨w',h1,h2,h3,h4⟩:=h.1.range keyed a;exact⟨w',h1,⟨⟨_,h2⟩,h.2,h.2,λ_ h=>h⟩,⟨h3.os,h3.tape,h3.output,h3.size,λk c=>h3.block k c U⟩,h4⟩
theorem Qh9(l:List (Lit×DataW Unit))(a k:Lit):(Maps.has (.map l) k&&!k.sameKey a)=Maps.has ((DataW.map l).del a) k:=by
 show(l.any _&&_)=(l.filter _).any _;induction l with
 |nil=>rfl
 |cons y r ih=>
  rw[List.any_cons,QkX];cases h1:y.1.sameKey k
  ·rw[Bool.false_or];cases h2:y.1.sameKey a
   ·simp only[Bool.not_false,QyC,List.any_cons,h1,Bool.false_or];exact ih
   ·simp only[Bool.not_true,QuJ,QiA];exact ih
  ·have e:=WideAt.sameKey_eq h1;rw[<-e];cases h2:y.1.sameKey a
   ·rw[<-e]at h1;simp[h1]
   ·simp only[Bool.not_true,Bool.and_false,QuJ,QiA];rw[eq_comm,List.any_eq_false];intro z hz b;have c:=WideAt.sameKey_eq b;have:=(QzZ.1 hz).2;rw[c,h2]at this;cases this
theorem Qiv{l:List (Int×Nat)}{x:Int}{p:Nat}(h:Xx l x=some p):(x,p)∈l:=by
 unfold Xx at h;cases hf:l.find? (λy=>decide (y.1=x))with
 |none=>rw[hf]at h;cases h
 |some y=>
  rw[hf]at h;have h1:=QjU hf;have h2:=QuP hf;simp at h h2;rw[<-h,<-h2];exact h1
theorem Qqm{x:Int}{p:Nat}:∀{l:List (Int×Nat)},l.Pairwise (λx y=>x.1<y.1)->(x,p)∈l->Xx l x=some p
 |[],_,h=>by cases h
 |y::r,hs,h=>by
  obtain⟨h1,h2⟩:=QzS.1 hs;unfold Xx;rw[QgE];rcases QqF.1 h with e|h
  ·rw[<-e];simp
  ·have:=h1 _ h;have a:y.1≠x:=by have:y.1<x:=this;omega
   simp only[a,QoZ];exact Qqm h2 h
theorem RngAt.next {w:World} {b r:Nat} {l a:List (Int×Nat)} (h:RngAt w b r l a):
  (a=[]∧∀ty,(Instr.next (.pointer (some ⟨r,0,none⟩)) false ty).run Tryz.prog w= .ok (.tuple #[.bool false]) w)∨
  ∃x p w',(x,p)∈a∧I64 x∧(∀ty,(Instr.next (.pointer (some ⟨r,0,none⟩)) false ty).run Tryz.prog w= .ok (.tuple #[.bool true,.int .i64 x,.pointer (some ⟨p,0,none⟩)]) w')∧
   RngAt w' b r l (Vb a x)∧Keep (fun k=>k=r) w w'∧w'.heap.size=w.heap.size∧(Instr.entry (.pointer (some ⟨r,0,none⟩))).run Tryz.prog w'= .ok (.tuple #[.int .i64 x,.pointer (some ⟨p,0,none⟩)]) w'∧w'.rangeLeft b r < w.rangeLeft b r:=by
 obtain ⟨⟨s,h1⟩,h2,h3,h4⟩:=h
 have d:∀ty i:TypeId,(Instr.next (.pointer (some ⟨r,0,none⟩)) false ty).run Tryz.prog w=(Instr.next (.pointer (some ⟨r,0,none⟩)) false i).run Tryz.prog w:=fun _ _=>rfl
 rcases h1.next keyed 0 with ⟨_,t,u⟩|⟨key,v,X,y,w',f,F,n,H,K,L,o,M,g,N,j⟩
 ·refine .inl ⟨?_,fun ty=>(d ty 0).trans u⟩
  cases a with
  |nil=>rfl
  |cons y r=>
   have:=t (.int .i64 y.1)
   rw [Qx4] at this
   simp [Xx] at this
 ·obtain ⟨x,rfl,rfl,m⟩:=Maps.keyOf_int_inv Tryz.underlying3 F
  rw [Qx4] at n
  obtain ⟨p,Q⟩:=Option.isSome_iff_exists.1 n
  have q:=Qiv Q
  have R:=Qqm h2 (h4 _ q)
  have c:=K (.lit (.int .i64 (-1)))
  rw [Qd6 _ _ l,R] at c
  obtain ⟨Y,S⟩:=y
  have T:v= .pointer (some ⟨p,0,none⟩):=Qua (ps:=S) (by rw [H];simp only at c;rw [←c])
  subst T
  refine .inr ⟨x,p,w',q,Qse m,fun ty=>(d ty 0).trans L,⟨⟨f,?_⟩,h2,h3.filter _,fun z hz=>h4 z (List.mem_filter.1 hz).1⟩,⟨g.os,g.tape,g.output,g.size,fun k V W=>g.block k V (fun e=>W (by injection e))⟩,N,j,by rw [o.left_eq,h1.left_eq];exact M⟩
  have:(fun z=>Maps.has (DataW.map (ent a)) z && !z.sameKey (.int .i64 x))=Maps.has (.map (ent (Vb a x))):=by
   funext z
   rw [Qh9,Qd5]
  rw [←this]
  exact o
structure Acc where
 id:Int
 size:Int
 used:Int
def Lu(l:List Acc)(a:Acc):List Acc:=l.filter (λb=>decide (b.id<a.id))++a::l.filter λb=>decide (a.id<b.id)
def Qxa(l:List Acc)(id:Int):List Acc:=l.filter λa=>decide (a.id≠id)
def Om(l:List Acc)(id:Int)(f:Acc->Acc):List Acc:=l.map λa=>if a.id=id then f a else a
def tot(l:List Acc):Int:=(l.map (·.used)).sum
structure LOk(cap:Int)(l:List Acc):Prop where
 c0:0<=cap
 c1:cap<=1000000
 len:l.length<=8
 ids:∀a∈l,1<=a.id/\a.id<=65535/\0<=a.size/\a.size<=16777216/\0<=a.used
 sum:tot l<=cap
 up:l.Pairwise λa b=>a.id<b.id
abbrev LL:=List (Acc×Nat)
def key(L:LL):List (Int×Nat):=L.map λy=>(y.1.id,y.2)
def Zd(L:LL):List Acc:=L.map (·.1)
structure LedIn(w:World)(lb mb:Nat)(cap:Int)(L:LL):Prop where
 obj:Whole w lb 214 #[I cap,.map (some mb)]
 map:MapAt w mb (key L)
 acc:∀y∈L,Whole w y.2 223 #[I y.1.size,I y.1.used]
 nd:(L.map (·.2)).Nodup
 ok:LOk cap (Zd L)
def Q5w(lb mb:Nat)(L:LL):Nat->Prop:=λk=>k=lb\/k=mb\/∃y∈L,y.2=k
theorem LedIn.keep{F:Nat->Prop}{w w':World}{lb mb:Nat}{cap:Int}{L:LL}(h:LedIn w lb mb cap L)(a:Keep F w w')(b:∀k,Q5w lb mb L k->¬F k):LedIn w' lb mb cap L:=
 ⟨h.obj.keep a (b _ (.inl rfl)),h.map.keep a (b _ (.inr (.inl rfl))),λy c=>(h.acc y c).keep a (b _ (.inr (.inr ⟨y,c,rfl⟩))),h.nd,h.ok⟩
theorem LedIn.below{w w':World}{lb mb:Nat}{cap:Int}{L:LL}(h:LedIn w lb mb cap L)(hb:Below w w w'):LedIn w' lb mb cap L:=h.keep (F:=λ_=>False) (Keep.below hb) (λ_ _ h=>h)
theorem Qwr{L:LL}{id:Int}{p:Nat}(h:Xx (key L) id=some p):∃y∈L,y.1.id=id/\y.2=p:=by
 have:=Qiv h;obtain⟨y,a,e⟩:=QqS.1 this;injection e with b c;exact⟨y,a,b,c⟩
theorem LedIn.i64{w:World}{lb mb:Nat}{cap:Int}{L:LL}(h:LedIn w lb mb cap L):∀y∈L,I64 y.1.id:=λy a=>by
 have:=h.ok.ids y.1 (QqS.2 ⟨y,a,rfl⟩);unfold I64;omega
theorem X7(a:Acc)(l:List Acc):tot (a::l)=a.used+tot l:=by simp[tot]
theorem Qa7{l:List Acc}(h:∀a∈l,0<=a.used):0<=tot l:=by
 induction l with
 |nil=>simp[tot]
 |cons a r ih=>
  rw[X7];have:=h a U;have:=ih (λb hb=>h b (by simp[hb]));omega
theorem Gh{l:List Acc}(h:∀a∈l,0<=a.used):∀a∈l,a.used<=tot l:=by
 induction l with
 |nil=>simp
 |cons b r ih=>
  intro a ha;rw[X7];have c:=h b U;have h1:=Qa7 (l:=r) (λb hb=>h b (by simp[hb]));rcases QqF.1 ha with rfl|ha
  ·omega
  ·have:=ih (λb hb=>h b (by simp[hb])) a ha;omega
def Y1(L:LL)(id:Int)(f:Acc->Acc):LL:=L.map λy=>if y.1.id=id then(f y.1,y.2)else y
theorem Q02(L:LL)(id:Int)(f:Acc->Acc):Zd (Y1 L id f)=Om (Zd L) id f:=by
 unfold Zd Y1 Om;rw[QzR,QzR];congr 1;funext y;simp only[Function.comp];split<;>rfl
theorem Q2a(L:LL)(id:Int)(f:Acc->Acc)(b:∀a,(f a).id=a.id):key (Y1 L id f)=key L:=by
 unfold key Y1;rw[QzR];congr 1;funext y;simp only[Function.comp];split
 ·simp[b]
 ·rfl
theorem Q28(L:LL)(id:Int)(f:Acc->Acc):(Y1 L id f).map (·.2)=L.map (·.2):=by
 unfold Y1;rw[QzR];congr 1;funext y;simp only[Function.comp];split<;>rfl
theorem Q1o{L:LL}(g:(Zd L).Pairwise λa b=>a.id<b.id){y z:Acc×Nat}(f:y∈L)(hz:z∈L)(e:y.1.id=z.1.id):y=z:=by
 induction L with
 |nil=>cases f
 |cons x r ih=>
  obtain⟨h1,h2⟩:=QzS.1 (show(x.1::Zd r).Pairwise _ from g);rcases QqF.1 f with rfl|c<;>rcases QqF.1 hz with rfl|d
  ·rfl
  ·have:=h1 z.1 (QqS.2 ⟨z,d,rfl⟩);omega
  ·have:=h1 y.1 (QqS.2 ⟨y,c,rfl⟩);omega
  ·exact ih h2 c d
theorem Qtr{L:LL}(d:(L.map (·.2)).Nodup){y z:Acc×Nat}(c:y∈L)(hz:z∈L)(e:y.2=z.2):y=z:=by
 induction L with
 |nil=>cases c
 |cons x r ih=>
  obtain⟨h1,h2⟩:=QqP.1 (show(x.2::r.map (·.2)).Nodup from d);rcases QqF.1 c with rfl|a<;>rcases QqF.1 hz with rfl|b
  ·rfl
  ·exact absurd (QqS.2 ⟨z,b,e.symm⟩) h1
  ·exact absurd (QqS.2 ⟨y,a,e⟩) h1
  ·exact ih h2 a b
theorem LedIn.turn{w w':World}{lb mb:Nat}{cap:Int}{L:LL}(h:LedIn w lb mb cap L){y:Acc×Nat}(b:y∈L){f:Acc->Acc}(d:∀a,(f a).id=a.id)(g:Keep (λk=>k=y.2) w w')
  (l:Whole w' y.2 223 #[I (f y.1).size,I (f y.1).used]) (i:LOk cap (Om (Zd L) y.1.id f)):LedIn w' lb mb cap (Y1 L y.1.id f):=by
 have ha:=h.acc y b;refine⟨h.obj.keep g (O3 h.obj ha D),?_,λz hz=>?_,by rw[Q28];exact h.nd,by rw[Q02];exact i⟩
 ·rw[Q2a _ _ _ d];refine h.map.keep g (λe=>?_);obtain⟨n,c,hb,_⟩:=h.map.1;unfold Whole at ha;rw[<-e,hb]at ha;cases ha
 ·obtain⟨x,j,rfl⟩:=QqS.1 hz;by_cases e:x.1.id=y.1.id
  ·obtain rfl:=Q1o h.ok.up j b e;rw[QqH rfl];exact l
  ·rw[QqE e];exact(h.acc x j).keep g (λm=>e (by rw[Qtr h.nd j b m]))
end vo
end Go.Proofs.YtfialjmemcobjaaGreatDoor
