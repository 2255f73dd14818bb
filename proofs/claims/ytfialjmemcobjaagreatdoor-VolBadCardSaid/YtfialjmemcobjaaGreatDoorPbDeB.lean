/- A part of the proof. -/
import Derived.Test.YtfialjmemcobjaaGreatDoorPbDcK
import Derived.Test.YtfialjmemcobjaaGreatDoorPbVoP
import Derived.Test.YtfialjmemcobjaaGreatDoorPbVqF
set_option maxRecDepth 100000
set_option maxHeartbeats 16000000
set_option linter.unusedVariables false
set_option linter.unusedSimpArgs false
namespace Go.Proofs.YtfialjmemcobjaaGreatDoor
namespace pl
open Go.RowKit er tr st vo dc
def Q09(l:List Sec):Prop:=l.Pairwise λa b=>a.at_<b.at_
theorem Qqz:∀{l r:List Sec},Q09 l->Q09 r->(∀x,x∈l↔x∈r)->l=r
 |[],[],_,_,_=>rfl
 |[],b::r,_,_,h=>absurd ((h b).2 U) U
 |a::l,[],_,_,h=>absurd ((h a).1 U) U
 |a::l,b::r,h1,h2,h=>by
  have p1:=QzS.1 h1;have p2:=QzS.1 h2;have d:a=b:=by
   rcases QqF.1 ((h a).1 U)with e|e
   ·exact e
   ·rcases QqF.1 ((h b).2 U)with f|f
    ·exact f.symm
    ·have:=p1.1 b f;have:=p2.1 a e;omega
  subst d;have c:∀x,x∈l↔x∈r:=by
   intro x;constructor
   ·intro c;rcases QqF.1 ((h x).1 (by simp[c]))with rfl|e
    ·have:=p1.1 x c;omega
    ·exact e
   ·intro c;rcases QqF.1 ((h x).2 (by simp[c]))with rfl|e
    ·have:=p2.1 x c;omega
    ·exact e
  rw[Qqz p1.2 p2.2 c]
variable {α:Type} {P:Int→α} {z:α} {B:Int→ByteArray}
def Ns(P:Int->α)(z:α)(e:Ext)(a:Int):α:=if e.kind=2 then P (e.at_+(a-e.fr))else z
def Qy2(B:Int->ByteArray)(e:Ext):List Sec:=(List.range e.n.toNat).map λ(i:Nat)=>⟨e.fr+(i:Int),Ns B Zm e (e.fr+(i:Int))⟩
def exp(B:Int->ByteArray)(l:List Ext):List Sec:=l.flatMap (Qy2 B)
def Cov(P:Int->α)(z:α)(l:List Ext)(q:Int)(d:α):Prop:=∃e∈l,(e.fr<=q/\q<e.end_)/\d=Ns P z e q
theorem Qo5{e:Ext}{x:Sec}:x∈Qy2 B e↔(e.fr<=x.at_/\x.at_<e.end_)/\x.data=Ns B Zm e x.at_:=by
 obtain⟨a,d⟩:=x;unfold Qy2 Ext.end_;simp only[QqS,QuX,Sec.mk.injEq];constructor
 ·rintro⟨i,hi,rfl,rfl⟩;exact⟨O,rfl⟩
 ·rintro⟨h1,rfl⟩;refine⟨(a-e.fr).toNat,O,O,?_⟩;rw[show e.fr+(((a-e.fr).toNat:Nat):Int)=a by omega]
theorem U6{l:List Ext}{x:Sec}:x∈exp B l↔Cov B Zm l x.at_ x.data:=by
 unfold exp Cov;simp only[QqX,Qo5]
theorem U7:∀{l:List Ext},(∀e∈l,0<=e.n)->((exp B l).length:Int)=Zql l
 |[],_=>rfl
 |e::l,h=>by
  have a:=U7 (l:=l) (λx b=>h x (by simp[b]));have h1:=h e U;unfold exp at a ⊢;simp only[QqV,QqK,Zql,QzE,QxX]at a ⊢;have:(Qy2 B e).length=e.n.toNat:=by simp[Qy2]
  omega
theorem Ut{e:Ext}(h:Qb e=true):1<=e.n:=(Qg h).2.1
theorem Dq:∀{l:List Ext},Chk l->Q09 (exp B l)
 |[],_=>List.Pairwise.nil
 |e::l,h=>by
  have c:=Dq h.tail;have d:=QzS.1 h.ord;show List.Pairwise _ (Qy2 B e++exp B l);refine QkA.2 ⟨?_,c,λa ha b hb=>?_⟩
  ·unfold Qy2;refine QjP.2 (List.pairwise_lt_range.imp λ{a b} h=>?_);show e.fr+(a:Int)<e.fr+(b:Int);omega
  ·obtain⟨h1,_⟩:=Qo5.1 ha;obtain⟨y,f,h2,_⟩:=U6.1 hb;have:=(d.1 y f).1;omega
theorem Fq{l r:List Ext}{q:Int}{d:α}:Cov P z (l++r) q d↔Cov P z l q d\/Cov P z r q d:=by
 unfold Cov;simp only[QqJ,or_and_right,exists_or]
theorem C9{e:Ext}{q:Int}{d:α}:Cov P z [e] q d↔(e.fr<=q/\q<e.end_)/\d=Ns P z e q:=by
 unfold Cov;simp only[QzG,exists_eq_left]
theorem Q0d{out:List Ext}{e:Ext}{q:Int}{d:α}(c:∀a∈out,1<=a.n)(g:1<=e.n):(Cov P z (push out e) q d↔Cov P z (out++[e]) q d)/\∀a∈push out e,1<=a.n:=by
 rcases List.eq_nil_or_concat out with rfl|⟨k,a,rfl⟩
 ·exact⟨QoX,λa ha=>by rw[QzG.1 ha];exact g⟩
 ·have ha:=c a U;rw[List.concat_eq_append,Gm]at *;split
  ·rename_i i;obtain⟨t1,t2,h⟩:=(Cc a e).1 i;refine⟨?_,λy b=>?_⟩
   ·rw[Fq,Fq,Fq,or_assoc,C9,C9,C9];refine or_congr_right ?_;unfold Ext.end_ at *;simp only[Ns,t2];constructor
    ·rintro⟨h1,h2⟩;by_cases j:q<a.fr+a.n
     ·exact .inl ⟨⟨h1.1,j⟩,h2⟩
     ·refine .inr ⟨⟨O,O⟩,?_⟩;rw[h2];split
      ·rename_i f;rw[h,QqH f,t1];exact congrArg P O
      ·rfl
    ·rintro(⟨h1,h2⟩|⟨h1,h2⟩)
     ·exact⟨⟨h1.1,O⟩,h2⟩
     ·refine⟨⟨O,O⟩,?_⟩;rw[h2];split
      ·rename_i f;rw[h,QqH f,t1];exact congrArg P O
      ·rfl
   ·rcases QqJ.1 b with b|b
    ·exact c y (by simp[b])
    ·rw[QzG.1 b];show 1<=a.n+e.n;omega
  ·refine⟨QoX,λy b=>?_⟩;rcases QqJ.1 b with b|b
   ·exact c y b
   ·rw[QzG.1 b];exact g
theorem Qfy{q:Int}{d:α}:∀{l out:List Ext},(∀a∈out,1<=a.n)->(∀a∈l,1<=a.n)->(Cov P z (l.foldl push out) q d↔Cov P z (out++l) q d)
 |[],out,_,_=>by rw[QzT];exact QoX
 |e::l,out,ho,hl=>by
  obtain⟨h1,h2⟩:=Q0d (P:=P) (z:=z) (q:=q) (d:=d) ho (hl e U);rw[List.foldl_cons,Qfy h2 (λa ha=>hl a (by simp[ha])),Fq,h1,<-Fq,QqU];exact QoX
theorem Qfx{q:Int}{d:α}{l:List Ext}(b:∀a∈l,1<=a.n):Cov P z (tidy l) q d↔Cov P z l q d:=Qfy (out:=[]) U b
theorem Q4g{e p:Ext}{a b:Int}(h:partOf e a b=some p):1<=p.n:=by
 unfold partOf at h;split at h
 ·cases h
 ·injection h with h;rw[<-h];show 1<=min e.end_ b-max e.fr a;omega
theorem R7{l:List Ext}{a b:Int}:∀p∈parts l a b,1<=p.n:=by
 intro p c;obtain⟨e,_,d⟩:=Js c;exact Q4g d
theorem Lc{l:List Ext}{a b:Int}{q:Int}{d:α}:Cov P z (parts l a b) q d↔Cov P z l q d/\a<=q/\q<b:=by
 unfold Cov parts;simp only[List.mem_filterMap];constructor
 ·rintro⟨p,⟨e,f,c⟩,h1,h2⟩;unfold partOf at c;split at c
  ·cases c
  ·injection c with c;subst c;simp only[Ext.end_]at *;refine⟨⟨e,f,O,?_⟩,O,O⟩;rw[h2];unfold Ns;simp only;split
   ·exact congrArg P O
   ·rfl
 ·rintro⟨⟨e,f,h1,h2⟩,h3,h4⟩;simp only[Ext.end_]at h1;refine⟨⟨max e.fr a,min e.end_ b-max e.fr a,e.kind,if e.kind=2 then e.at_+max e.fr a-e.fr else 0⟩,⟨e,f,?_⟩,?_,?_⟩
  ·unfold partOf;rw[QqE (by simp only[Ext.end_];omega)]
  ·simp only[Ext.end_];omega
  ·rw[h2];unfold Ns;simp only;split
   ·exact congrArg P O
   ·rfl
theorem Qek{l:List Ext}(h:Chk l){q:Int}{d:α}(a:Cov P z l q d):0<=q/\q<16777216:=by
 obtain⟨e,b,h1,_⟩:=a;have:=Ec h b;omega
theorem Qpo{l:List Ext}{fr n:Int}(h:Chk l){q:Int}{d:α}:Cov P z (Eb l fr n) q d↔Cov P z l q d/\(q<fr\/fr+n<=q):=by
 unfold Eb;rw[Qfx (λa ha=>(QqJ.1 ha).elim (R7 a) (R7 a)),Fq,Lc,Lc];constructor
 ·rintro(⟨h1,h2⟩|⟨h1,h2⟩)
  ·exact⟨h1,.inl h2.2⟩
  ·exact⟨h1,.inr h2.1⟩
 ·rintro⟨h1,h2⟩;have:=Qek h h1;rcases h2 with h2|h2
  ·exact .inl ⟨h1,this.1,h2⟩
  ·exact .inr ⟨h1,h2,this.2⟩
theorem Rx{l:List Ext}{e:Ext}(h:Chk l)(b:1<=e.n){q:Int}{d:α}:Cov P z (Gw l e) q d↔(Cov P z l q d/\(q<e.fr\/e.end_<=q))\/Cov P z [e] q d:=by
 unfold Gw;rw[Qfx (λa ha=>?_),Fq,Fq,Lc,Lc]
 ·constructor
  ·rintro((⟨h1,h2⟩|h1)|⟨h1,h2⟩)
   ·exact .inl ⟨h1,.inl h2.2⟩
   ·exact .inr h1
   ·exact .inl ⟨h1,.inr h2.1⟩
  ·rintro(⟨h1,h2⟩|h1)
   ·have:=Qek h h1;rcases h2 with h2|h2
    ·exact .inl (.inl ⟨h1,this.1,h2⟩)
    ·exact .inr ⟨h1,h2,this.2⟩
   ·exact .inl (.inr h1)
 ·simp only[QqJ,QzG]at ha;rcases ha with(ha|rfl)|ha
  ·exact R7 a ha
  ·exact b
  ·exact R7 a ha
theorem Q2n{l:List Ext}{fr n:Int}(h:Chk l)(h1:0<=fr)(h2:0<=n)(h3:fr+n<=16777216):exp B (Eb l fr n)=(exp B l).filter λx=>decide (x.at_<fr) || decide (fr+n<=x.at_):=by
 refine Qqz (Dq (S9 h h1 h2 h3)) ((Dq h).filter _) λx=>?_;rw[U6,Qpo h,QzZ,U6];simp only[QuT,QzD]
theorem Qsr{l:List Ext}{a b:Int}(h:Chk l)(ha:0<=a)(hb:b<=16777216):exp B (parts l a b)=(exp B l).filter λx=>decide (a<=x.at_)&&decide (x.at_<b):=by
 refine Qqz (Dq (R9 h ha hb)) ((Dq h).filter _) λx=>?_;rw[U6,Lc,QzZ,U6];simp only[QzC,QzD]
theorem Qc1{α:Type}(p q:α->Bool):∀(l:List α),(∀x∈l,q x=!p x)->(l.filter p).length+(l.filter q).length=l.length
 |[],_=>rfl
 |x::l,h=>by
  have c:=Qc1 p q l (λy a=>h y (by simp[a]));have b:=h x U;rw[QkX,QkX,b];cases p x<;>simp<;>omega
theorem Qq2{l:List Ext}{a n id size:Int}(h:Chk l)(ha:0<=a)(c:0<=n)(hb:a+n<=16777216):dIn ⟨id,size,exp B l⟩ a (a+n)=Zql (parts l a (a+n)):=by
 rw[<-U7 (B:=B) (λe b=>by have:=R7 e b;omega),Qsr h ha hb];have:=Qc1 (λx:Sec=>decide (x.at_<a) || decide (a+n<=x.at_)) (λx=>decide (a<=x.at_)&&decide (x.at_<a+n)) (exp B l) (λx _=>by
  by_cases h1:x.at_<a<;>by_cases h2:a+n<=x.at_<;>simp[h1,h2]<;>omega)
 unfold dIn Ou;simp only;omega
theorem Qd9{l:List Ext}{a n id size:Int}(h:Chk l)(ha:0<=a)(b:0<=n)(hb:a+n<=16777216):Ou ⟨id,size,exp B l⟩ a (a+n)=⟨id,size,exp B (Eb l a n)⟩:=by
 rw[Q2n h ha b hb];rfl
theorem Qf6{α:Type}{p:α->Bool}:∀{l:List α} {x:α},x∈l.takeWhile p->p x=true
 |a::l,x,h=>by
  rw[List.takeWhile_cons]at h;split at h
  ·rename_i ha;rcases QqF.1 h with rfl|h
   ·exact ha
   ·exact Qf6 h
  ·cases h
theorem Qc8{f:Int}:∀{l:List Sec},Q09 l->∀x∈l.dropWhile (λx=>decide (x.at_<f)),f<=x.at_
 |[],_,x,b=>by cases b
 |a::l,h,x,b=>by
  rw[List.dropWhile_cons]at b;split at b
  ·exact Qc8 (QzS.1 h).2 x b
  ·rename_i c;have c:f<=a.at_:=by simpa using c
   rcases QqF.1 b with rfl|b
   ·exact c
   ·have:=(QzS.1 h).1 x b;omega
theorem Qqf{f:Int}{d:List ByteArray}{x:Sec}:x∈Ti f d↔∃i:Nat,i<d.length/\x.at_=f+(i:Int)/\x.data=d.getD i ⟨#[]⟩:=by
 obtain⟨a,t⟩:=x;unfold Ti;simp only[QqS,QuX,Sec.mk.injEq];constructor
 ·rintro⟨i,h1,rfl,rfl⟩;exact⟨i,h1,rfl,rfl⟩
 ·rintro⟨i,h1,rfl,rfl⟩;exact⟨i,h1,rfl,rfl⟩
theorem Qng{l l':List Ext}{f id size:Int}{d:List ByteArray}(h:Chk l)(o:Chk l')(q:∀x:Sec,Cov B Zm l' x.at_ x.data↔(Cov B Zm l x.at_ x.data/\(x.at_<f\/f+(d.length:Int)<=x.at_))\/x∈Ti f d):Ic ⟨id,size,exp B l⟩ f d=⟨id,size,exp B l'⟩:=by
 unfold Ic;simp only[Spc.mk.injEq,true_and];obtain⟨c,n⟩:=Zx ((Ou ⟨id,size,exp B l⟩ f (f+(d.length:Int))).s);have g:Q09 c:=by rw[<-n];exact(Dq h).filter _
 have j:∀x:Sec,x∈c↔Cov B Zm l x.at_ x.data/\(x.at_<f\/f+(d.length:Int)<=x.at_):=λx=>by
  rw[<-n,<-U6];unfold Ou;simp only[QzZ,QuT,QzD]
 rw[n];have k:=List.takeWhile_append_dropWhile (p:=λx:Sec=>decide (x.at_<f)) (l:=c);have m:=g;rw[<-k]at m;obtain⟨p1,p2,r⟩:=QkA.1 m;have e:∀x,x∈c↔x∈c.takeWhile (λx=>decide (x.at_<f))\/x∈c.dropWhile (λx=>decide (x.at_<f)):=λx=>by
  rw[<-QqJ,k]
 refine Qqz ?_ (Dq o) λx=>?_
 ·refine QkA.2 ⟨QkA.2 ⟨p1,?_,λa ha b hb=>?_⟩,p2,λa ha b hb=>?_⟩
  ·unfold Ti;refine QjP.2 (List.pairwise_lt_range.imp λ{a b} h=>?_);show f+(a:Int)<f+(b:Int);omega
  ·have h1:a.at_<f:=by simpa using Qf6 ha
   obtain⟨i,_,h2,_⟩:=Qqf.1 hb;omega
  ·have h2:=Qc8 g b hb;have h3:=((j b).1 ((e b).2 (.inr hb))).2;rcases QqJ.1 ha with ha|ha
   ·have h1:a.at_<f:=by simpa using Qf6 ha
    omega
   ·obtain⟨i,h4,h5,_⟩:=Qqf.1 ha;omega
 ·rw[U6,q,<-j,e,QqJ,QqJ];constructor
  ·rintro((h1|h1)|h1)
   ·exact .inl (.inl h1)
   ·exact .inr h1
   ·exact .inl (.inr h1)
  ·rintro((h1|h1)|h1)
   ·exact .inl (.inl h1)
   ·exact .inr h1
   ·exact .inl (.inr h1)
theorem Q0a{f:Int}{n:Nat}{x:Sec}:Cov B Zm [⟨f,(n:Int),1,0⟩] x.at_ x.data↔x∈Ti f (List.replicate n Zm):=by
 rw[C9,Qqf];simp only[Ext.end_,Ns,List.length_replicate];rw[QqE D];constructor
 ·rintro⟨h1,h2⟩;refine⟨(x.at_-f).toNat,O,O,?_⟩;rw[QkH,QuD,QqH O,h2];rfl
 ·rintro⟨i,h1,h2,h3⟩;refine⟨O,?_⟩;rw[h3,QkH,QuD,QqH h1];rfl
theorem Qeh{l:List Ext}{f id size:Int}{n:Nat}(h:Chk l)(b:0<=f)(h1:1<=n)(h2:f+(n:Int)<=16777216):Ic ⟨id,size,exp B l⟩ f (List.replicate n Zm)=⟨id,size,exp B (Gw l ⟨f,n,1,0⟩)⟩:=by
 have a:Qb ⟨f,n,1,0⟩=true:=Qup b (by show(1:Int)<=(n:Int);omega) h2 (.inl ⟨rfl,rfl⟩);refine Qng h (Bc h a) λx=>?_;rw[Rx h (Ut a),Q0a,List.length_replicate];rfl
theorem Qd2{l:List Ext}(h:Chk l){x y:Sec}(g:x∈exp B l)(k:y∈exp B l)(m:x.at_=y.at_):x=y:=by
 obtain⟨i,d,a⟩:=QkL.1 g;obtain⟨j,e,b⟩:=QkL.1 k;have f:=QkZ.1 (Dq (B:=B) h);rcases QoK i j with c|rfl|c
 ·have:=f i j d e c;rw[a,b]at this;omega
 ·exact a.symm.trans b
 ·have:=f j i e d c;rw[a,b]at this;omega
theorem Q4c{l:List Ext}{id size a:Int}(h:Chk l):dOf ⟨id,size,exp B l⟩ a=if(Zb l a).1=2 then B (Zb l a).2 else Zm:=by
 have key:∀e∈l,e.fr<=a->a<e.end_->(⟨a,Ns B Zm e a⟩:Sec)∈exp B l:=λe b h1 h2=>U6.2 ⟨e,b,⟨h1,h2⟩,rfl⟩;unfold dOf Zb;cases hf:l.find? (hasB a)with
 |some e=>
  have g:=QjU hf;have hb:=QuP hf;simp only[hasB,QzC,QzD]at hb;have d:=key e g hb.1 (by unfold Ext.end_;omega);cases hg:(exp B l).find? λx=>decide (x.at_=a)with
  |none=>exact absurd (QxA rfl) (QuN.1 hg _ d)
  |some y=>
   have c:=QjU hg;have ha:y.at_=a:=by simpa using QuP hg
   rw[Qd2 h c d ha];simp only[sayOf,Ns];by_cases f:e.kind=2
   ·simp only[QqH f];exact congrArg B O
   ·simp only[QqE f]
 |none=>
  have i:=QuN.1 hf;cases hg:(exp B l).find? λx=>decide (x.at_=a)with
  |none=>exact Ri
  |some y=>
   have c:=QjU hg;have ha:y.at_=a:=by simpa using QuP hg
   obtain⟨e,b,h1,_⟩:=U6.1 c;have:=i e b;simp only[hasB,QzC,QzD,Ext.end_]at this h1;omega
end pl
end Go.Proofs.YtfialjmemcobjaaGreatDoor
namespace Go.Proofs.YtfialjmemcobjaaGreatDoor
namespace pl
open Go.RowKit er tr st vo dc
variable {α:Type} {P:Int→α} {z:α} {B:Int→ByteArray}
def doc(B:Int->ByteArray)(s:Sp):Spc:=⟨s.id,s.size,exp B s.tr.flat⟩
def Xo(B:Int->ByteArray)(L:List Sp):List Spc:=L.map (doc B)
def Up(L:List Sp):Prop:=L.Pairwise λa b=>a.id<b.id
def Om(L:List Sp)(s:Sp):List Sp:=L.map λy=>if y.id=s.id then s else y
def Lu(L:List Sp)(s:Sp):List Sp:=L.filter (λy=>decide (y.id<s.id))++s::L.filter λy=>decide (s.id<y.id)
def Qxa(L:List Sp)(id:Int):List Sp:=L.filter λy=>decide (y.id≠id)
theorem Sw{L:List Sp}{s:Sp}(h:Up L)(b:s∈L):∃i,Iq (Xo B L) s.id=some i/\(Xo B L)[i]? =some (doc B s):=by
 obtain⟨i,hi,a⟩:=QkL.1 b;have c:(Xo B L)[i]? =some (doc B s):=by
  unfold Xo;rw[QzF,QqC hi,a];rfl
 refine⟨i,QkP.2 ⟨by simpa[Xo]using hi,?_,λj d=>?_⟩,c⟩
 ·simp only[Xo,List.getElem_map,a];exact QxA rfl
 ·have:=QkZ.1 h j i O hi d;simp only[Xo,List.getElem_map,doc];rw[a]at this;simp;omega
theorem Qk5{L:List Sp}{id:Int}(h:∀s∈L,s.id≠id):Iq (Xo B L) id=none:=by
 refine QjV.2 λx a=>?_;obtain⟨s,b,rfl⟩:=QqS.1 a;exact QyF (h s b)
theorem Hz{L:List Sp}{s:Sp}(h:Up L)(a:s∈L):Vx (Xo B L) s.id=doc B s:=by
 obtain⟨i,h1,h2⟩:=Sw (B:=B) h a;unfold Vx;rw[h1];simp only;rw[QkH,h2];rfl
theorem Qao{L:List Sp}{s:Sp}(h:Up L)(a:s∈L):0<=Ky (Xo B L) s.id:=by
 obtain⟨i,h1,_⟩:=Sw (B:=B) h a;unfold Ky;rw[h1];simp only;omega
theorem Qai{L:List Sp}{id:Int}(h:∀s∈L,s.id≠id):Ky (Xo B L) id= -1:=by
 unfold Ky;rw[Qk5 h]
theorem Qf1{L:List Sp}{s:Sp}(h:Up L)(a:s∈L)(f n:Int)(m:Bool):Qm (Xo B L) s.id f n m=Gt s.size f n m:=by
 obtain⟨i,h1,h2⟩:=Sw (B:=B) h a;unfold Qm Gt;rw[h1];simp only;rw[QkH,h2];rfl
theorem Qf2{L:List Sp}{id:Int}(h:∀s∈L,s.id≠id)(f n:Int)(m:Bool):Qm (Xo B L) id f n m=4:=by
 unfold Qm;rw[Qk5 h]
theorem Qjy(L:List Sp)(id:Int):Zj (Xo B L) id=Xo B (Qxa L id):=by
 unfold Zj Xo Qxa;rw[QxF];rfl
theorem Qmp{s:Sp}:∀{L:List Sp},Up L->Yc (doc B s) (Xo B (Qxa L s.id))=Xo B (Lu L s)
 |[],_=>rfl
 |a::L,h=>by
  have i:=Qmp (s:=s) (QzS.1 h).2;have h1:=(QzS.1 h).1;unfold Qxa Lu at i ⊢;rcases QgR a.id s.id with j|k|e
  ·rw[QxN (by simp;omega),QxN (by simp;omega),QjH (by simp;omega)];show(if s.id<a.id then _ else doc B a::Yc (doc B s) _)=_;rw[QqE O,show(List.map (doc B) (L.filter λy=>decide (y.id≠s.id)))=Xo B (L.filter λy=>decide (y.id≠s.id))from rfl,i];rfl
  ·have d:∀p:Sp->Bool,(∀y∈L,p y=true)->L.filter p=L:=λp f=>QjD.2 f;have g:L.filter (λy=>decide (y.id<s.id))=[]:=QjX.2 λy c=>by have:=h1 y c;simp;omega
   rw[QjH (by simp;omega),QjH (by simp;omega),QjH (by simp;omega),g,d _ (λy c=>by have:=h1 y c;simp;omega),d _ (λy c=>by have:=h1 y c;simp;omega)];cases L with
   |nil=>rfl
   |cons b r=>
    have:=h1 b U;show(if s.id<b.id then _ else _)=_;rw[QqH O];rfl
  ·have d:∀p:Sp->Bool,(∀y∈L,p y=true)->L.filter p=L:=λp f=>QjD.2 f;have g:L.filter (λy=>decide (y.id<s.id))=[]:=QjX.2 λy c=>by have:=h1 y c;simp;omega
   rw[QxN (by simp;omega),QjH (by simp;omega),QxN (by simp;omega),g,d _ (λy c=>by have:=h1 y c;simp;omega),d _ (λy c=>by have:=h1 y c;simp;omega)];show(if s.id<a.id then _ else _)=_;rw[QqH e];rfl
theorem Qqs{s:Sp}:∀{L:List Sp},Up L->(∃y∈L,y.id=s.id)->Lu L s=Om L s
 |[],_,⟨y,b,_⟩=>by cases b
 |a::L,h,hm=>by
  have h1:=(QzS.1 h).1;unfold Lu Om;rcases QgR a.id s.id with f|c|g
  ·have d:=Qqs (s:=s) (QzS.1 h).2 (by
    obtain⟨y,b,e⟩:=hm;rcases QqF.1 b with rfl|b
    ·omega
    ·exact⟨y,b,e⟩)
   unfold Lu Om at d;rw[QxN (by simp;omega),QjH (by simp;omega),QzE,QqE O,QjW,d]
  ·have i:L.filter (λy=>decide (y.id<s.id))=[]:=QjX.2 λy b=>by have:=h1 y b;simp;omega
   have j:L.filter (λy=>decide (s.id<y.id))=L:=QjD.2 λy b=>by have:=h1 y b;simp;omega
   rw[QjH (by simp;omega),QjH (by simp;omega),i,j,QzE,QqH c];refine congrArg (s::·) ?_;have:L.map (λy=>if y.id=s.id then s else y)=L.map id:=QkF λy b=>by
    have:=h1 y b;rw[QqE O];rfl
   rw[this,List.map_id]
  ·obtain⟨y,b,e⟩:=hm;rcases QqF.1 b with rfl|b
   ·omega
   ·have:=h1 y b;omega
theorem V6{L:List Sp}{s:Sp}(h:Up L):Z9 (Xo B L) (doc B s)=Xo B (Lu L s):=by
 unfold Z9;show Yc (doc B s) (Zj (Xo B L) s.id)=_;rw[Qjy];exact Qmp h
theorem Qcy{L:List Sp}(a:∀s∈L,Chk s.tr.flat/\s.used=Zql s.tr.flat):Ug ⟨10,Xo B L⟩=10-K9 L:=by
 unfold Ug K9 Xo;rw[QzR];refine congrArg (λl:List Int=>10-l.sum) (QkF λs b=>?_);show((exp B s.tr.flat).length:Int)=s.used;rw[(a s b).2];exact U7 λe c=>by have:=Ut ((a s b).1.one e c);omega
theorem Q0k{B':Int->ByteArray}{l:List Ext}(h:∀e∈l,e.kind=2->∀i:Nat,(i:Int)<e.n->B' (e.at_+i)=B (e.at_+i)):exp B' l=exp B l:=by
 unfold exp;induction l with
 |nil=>rfl
 |cons e l ih=>
  rw[QqV,QqV,ih λx b=>h x (by simp[b])];refine congrArg (· ++_) (QkF λi hi=>?_);have hi:=QuX.1 hi;unfold Ns;by_cases a:e.kind=2
  ·rw[QqH a,QqH a,show e.at_+(e.fr+(i:Int)-e.fr)=e.at_+(i:Int) by omega,h e U a i O]
  ·rw[QqE a,QqE a]
theorem Ph{l:List Ext}{f n:Int}{a:Int}(c:Chk l)(b:0<=f)(h1:f+1<=16777216)(ha:0<=a/\a<2048):Qb ⟨f,1,2,a⟩=true:=Qup b (by show(1:Int)<=1;omega) h1 (.inr ⟨rfl,ha.1,by show a+1<=2048;omega⟩)
def ovL(l:List Ext)(f:Int)(A:Nat->Int):Nat->List Ext
 |0=>l
 |j+1=>Gw (ovL l f A j) ⟨f+j,1,2,A j⟩
theorem Q8z {l:List Ext} {f:Int} {A:Nat→Int} (a:Chk l) (c:0≤f):∀(n:Nat),f+(n:Int)≤16777216→(∀j,j < n→0≤A j∧A j < 2048)→Chk (ovL l f A n)∧∀q d,Cov P z (ovL l f A n) q d↔(Cov P z l q d∧(q < f∨f+(n:Int)≤q))∨∃i:Nat,i < n∧q=f+(i:Int)∧d=P (A i)
 |0,_,_=>⟨a,fun q d=>by
  constructor
  ·intro h;exact .inl ⟨h,by omega⟩
  ·rintro (⟨h,_⟩|⟨i,h,_⟩)
   ·exact h
   ·omega⟩
 |n+1,h1,hA=>by
  obtain ⟨a2,a3⟩:=Q8z a c n (by omega) (fun j e=>hA j (by omega))
  have b:Qb ⟨f+(n:Int),1,2,A n⟩=true:=Ph (n:=0) a2 (by omega) (by omega) (hA n (by omega))
  refine ⟨Bc a2 b,fun q d=>?_⟩
  show Cov P z (Gw (ovL l f A n) ⟨f+(n:Int),1,2,A n⟩) q d↔_
  rw [Rx a2 (Ut b),a3,C9]
  simp only [Ext.end_,Ns]
  constructor
  ·rintro (⟨⟨h2,h3⟩|⟨i,h2,h3,h4⟩,h5⟩|⟨h2,h3⟩)
   ·exact .inl ⟨h2,by omega⟩
   ·exact .inr ⟨i,by omega,h3,h4⟩
   ·refine .inr ⟨n,by omega,by omega,?_⟩
    rw [h3]
    simp only [if_true]
    exact congrArg P (by omega)
  ·rintro (⟨h2,h3⟩|⟨i,h2,h3,h4⟩)
   ·exact .inl ⟨.inl ⟨h2,by omega⟩,by omega⟩
   ·by_cases hi:i < n
    ·exact .inl ⟨.inr ⟨i,hi,h3,h4⟩,by omega⟩
    ·obtain rfl:i=n:=by omega
     refine .inr ⟨by omega,?_⟩
     rw [h4]
     simp only [if_true]
     exact congrArg P (by omega)
theorem Qnu{s:Spc}{f:Int}{d:List ByteArray}:((Ic s f d).s.length:Int)=(s.s.length:Int)-dIn s f (f+(d.length:Int))+(d.length:Int):=by
 have h:=congrArg List.length (List.takeWhile_append_dropWhile (p:=λx:Sec=>decide (x.at_<f)) (l:=(Ou s f (f+(d.length:Int))).s));unfold Ic dIn Ti;simp only[QqK,QqT,List.length_range]at h ⊢;omega
theorem Qnx:∀{l:List Ext},Chk l->(l.length:Int)<=Zql l
 |[],_=>by simp[Zql]
 |e::l,h=>by
  have a:=Qnx h.tail;have:=Ut (h.one e U);simp only[Zql,QzE,QxX,QzN]at a ⊢;omega
theorem Q8e{l:List Ext}(h:Chk l):((exp B l).length:Int)=Zql l:=U7 λe a=>by have:=Ut (h.one e a);omega
theorem Q9q{l:List Ext}{f:Int}{m:Nat}(h:Chk l)(a:0<=f)(c:1<=m)(hb:f+(m:Int)<=16777216):Chk (Gw l ⟨f,m,1,0⟩)/\Zql (Gw l ⟨f,m,1,0⟩)=Zql l+((m:Int)-Zql (parts l f (f+m))):=by
 have e:Qb ⟨f,m,1,0⟩=true:=Qup a (by show(1:Int)<=(m:Int);omega) (by show f+(m:Int)<=16777216;omega) (.inl ⟨rfl,rfl⟩);have b:=Bc h e;have h1:=Qeh (B:=λ_=>Zm) (id:=0) (size:=0) h a c hb;have h2:=Qnu (s:=⟨0,0,exp (λ_=>Zm) l⟩) (f:=f) (d:=List.replicate m Zm);rw[h1,List.length_replicate,Qq2 h a O hb]at h2;have h3:=Q8e (B:=λ_=>Zm) h;have h4:=Q8e (B:=λ_=>Zm) b;simp only at h2;exact⟨b,O⟩
theorem Q8n{l:List Ext}{f:Int}{A:Nat->Int}{n:Nat}(h:Chk l)(c:0<=f)(h1:1<=n)(hb:f+(n:Int)<=16777216)(g:∀j,j<n->0<=A j/\A j<2048):Zql (ovL l f A n)=Zql l+((n:Int)-Zql (parts l f (f+n))):=by
 obtain⟨c1,c2⟩:=Q8z (P:=λ_:Int=>Zm) (z:=Zm) h c n hb g;obtain⟨d,k⟩:=Q9q h c h1 hb;have e:exp (λ_=>Zm) (ovL l f A n)=exp (λ_=>Zm) (Gw l ⟨f,n,1,0⟩):=Qqz (Dq c1) (Dq d) λx=>by
  rw[U6,U6,c2,Rx h (show 1<=(n:Int) by omega),C9];refine or_congr QoX ⟨?_,?_⟩
  ·rintro⟨i,q1,a,b⟩;exact⟨⟨by show f<=x.at_;omega,by show x.at_<f+(n:Int);omega⟩,b⟩
  ·rintro⟨⟨q1,a⟩,b⟩;have a:x.at_<f+(n:Int):=a;have q1:f<=x.at_:=q1;exact⟨(x.at_-f).toNat,O,O,b⟩
 rw[<-k,<-Q8e (B:=λ_=>Zm) c1,<-Q8e (B:=λ_=>Zm) d,e]
theorem Zqg{l:List Ext}{f:Int}{a:Int}(h:Chk l)(b:0<=f)(hb:f+1<=16777216)(ha:0<=a/\a<2048):Zql l<=Zql (Gw l ⟨f,1,2,a⟩):=by
 have h1:=Q8n (A:=λ_=>a) (n:=1) h b (QqB 1) hb (λ_ _=>ha);have h2:=(Li (T:= .one ⟨-1,l⟩) (f:=f) (n:=1) h b D hb).1;have e:ovL l f (λ_=>a) 1=Gw l ⟨f,1,2,a⟩:=by
  show Gw l ⟨f+((0:Nat):Int),1,2,a⟩=_;rw[show f+((0:Nat):Int)=f by omega]
 rw[e]at h1;have h2:0<=1-Zql (parts l f (f+1)):=h2;have h1:Zql (Gw l ⟨f,1,2,a⟩)=Zql l+(1-Zql (parts l f (f+1))):=h1;omega
theorem Q79{T:Tree}{f:Int}{A:Nat->Int}(a:T.Ok)(d:Chk T.flat)(g:0<=f):∀(n:Nat),f+(n:Int)<=16777216->(∀j,j<n->0<=A j/\A j<2048)->Zql (ovL T.flat f A n)<=10->(∀j,j<=n->Zql (ovL T.flat f A j)<=10)/\(Qn T f A n).flat=ovL T.flat f A n/\(Qn T f A n).Ok/\Kp T (Qn T f A n)
 |0,_,_,hs=>⟨λj b=>(by have e:j=0:=O;rw[e];exact hs),rfl,a,Kp.refl _⟩
 |n+1,h1,hA,hs=>by
  have a2:=(Q8z (P:=λ_:Int=>(0:Int)) (z:=0) (A:=A) d g n O (λj b=>hA j O)).1;have h:Qb ⟨f+(n:Int),1,2,A n⟩=true:=Ph (n:=0) a2 O O (hA n O);have m:=Zqg a2 (f:=f+(n:Int)) O O (hA n O);have i:Zql (Gw (ovL T.flat f A n) ⟨f+(n:Int),1,2,A n⟩)<=10:=hs;obtain⟨q1,c,k,l⟩:=Q79 a d g n O (λj b=>hA j O) O;have o:=Qnx (Bc a2 h);have t:=Qz6 k (by rw[c];exact a2) h (by rw[c];omega);rw[c]at t;refine⟨λj b=>?_,t.1,t.2,l.trans (Qj9 _ _ _)⟩;by_cases e:j=n+1
  ·subst e;exact hs
  ·exact q1 j O
end pl
namespace pl
open Go.RowKit er tr st vo nd pg ge dc
structure FineS(n:Nand)(s:Sp):Prop where
 id:1<=s.id/\s.id<=65535
 size:0<=s.size/\s.size<=16777216
 ok:s.tr.Ok
 chk:Chk s.tr.flat
 used:s.used=Zql s.tr.flat
 hold:Z8 n s.id s.size s.tr.flat=true
 gd:Gd (PgL n s.id) s.tr
 nd:s.tr.nfs.Nodup
structure Fine(n:Nand)(L:List Sp):Prop where
 up:Up L
 sp:∀s∈L,FineS n s
 cap:K9 L<=10
 len:L.length<=8
theorem Qnp{n b:Nand}(h:Gr n b){id size:Int}{l:List Ext}(a:Z8 n id size l=true):Z8 b id size l=true:=by
 unfold Z8 at a ⊢;rw[QxK]at a ⊢;intro e c;have h1:=a e c;unfold O9 at h1 ⊢;simp only[QzC,QuT,QzD]at h1 ⊢;refine⟨h1.1,h1.2.imp (λh=>h) λh2=>?_⟩;unfold Gx at h2 ⊢;rw[QxK]at h2 ⊢;exact λi hi=>h.std (h2 i hi)
theorem FineS.gr{n a:Nand}(h:Gr n a){s:Sp}(k:FineS n s):FineS a s:=⟨k.id,k.size,k.ok,k.chk,k.used,Qnp h k.hold,Zqy h k.gd,k.nd⟩
theorem Fine.gr{n a:Nand}(h:Gr n a){L:List Sp}(k:Fine n L):Fine a L:=⟨k.up,λs b=>(k.sp s b).gr h,k.cap,k.len⟩
theorem Qcn{n:Nand}{id size:Int}{l:List Ext}(h:Z8 n id size l=true):∀e∈l,e.end_<=size:=by
 intro e a;unfold Z8 at h;rw[QxK]at h;have:=h e a;unfold O9 at this;simp only[QzC,QzD]at this;exact this.1
theorem Qq5{n:Nand}{id size:Int}{l:List Ext}(h:Z8 n id size l=true){e:Ext}(a:e∈l)(b:e.kind=2){i:Int}(c:0<=i)(hi:i<e.n):Bg n id (e.fr+i) (e.at_+i)=true:=by
 unfold Z8 at h;rw[QxK]at h;have:=h e a;unfold O9 at this;simp only[QzC,QuT,QzD]at this;rcases this.2 with h2|h2
 ·exact absurd b h2
 ·have:=Mk n id e (k:=i.toNat) h2 O;rw[show((i.toNat:Nat):Int)=i by omega]at this;exact this
abbrev bd(n:Nand):Int->ByteArray:=λa=>(Qj n a).1.body
theorem Wp{n:Nand}{id b a:Int}(h:Bg n id b a=true):(Qj n a).2=0/\(Qj n a).1.kind=1/\(Qj n a).1.space=id/\(Qj n a).1.key=b/\(Qj n a).1.body.size=32:=by
 unfold Bg at h;simp only[QzC,QzD]at h;obtain⟨⟨⟨⟨h1,h2⟩,h3⟩,h4⟩,h5⟩:=h;refine⟨h1,h2,h3,h4,?_⟩;have:((Qj n a).1.body.size:Int)=32:=by simpa using h5
 omega
theorem Q40{n a:Nand}(h:Gr n a){s:Sp}(k:FineS n s):doc (bd a) s=doc (bd n) s:=by
 unfold doc;rw[Q0k (B:=bd n) (B':=bd a) λe b c i hi=>?_];have:=(Wp (Qq5 k.hold b c (i:=(i:Int)) O hi)).1;show(Qj a _).1.body=(Qj n _).1.body;rw[h _ this]
theorem Qza{n a:Nand}(h:Gr n a){L:List Sp}(k:Fine n L):Xo (bd a) L=Xo (bd n) L:=QkF λs b=>Q40 h (k.sp s b)
theorem Ls{n:Nand}{s:Sp}(k:FineS n s):0<=s.used/\(s.tr.flat.length:Int)<=s.used:=by
 have:=Qnx k.chk;rw[k.used];omega
theorem Wq{n:Nand}:∀{L:List Sp},(∀s∈L,FineS n s)->∀s∈L,s.used<=K9 L
 |a::L,h,s,b=>by
  have c:=Rn (L:=L) λs b=>(Ls (h s (by simp[b]))).1;have h1:=(Ls (h a U)).1;rw[Jq];rcases QqF.1 b with rfl|b
  ·omega
  ·have:=Wq (λs b=>h s (by simp[b])) s b;omega
theorem Q9l{n:Nand}:∀{L:List Sp},(∀s∈L,FineS n s)->∀{s:Sp},s∈L->s.used<=K9 L:=λh _ a=>Wq h _ a
theorem Vr:∀{l:List Ext},Chk l->((Zo l).length:Int)<=Zql l
 |[],_=>by simp[Zo,Zql]
 |e::l,h=>by
  have a:=Vr h.tail;have h1:=Ut (h.one e U);unfold Zo at a ⊢;rw[QqV,QqK];simp only[Zql,QzE,QxX]at a ⊢;have:(J7 e e.n.toNat).length<=e.n.toNat:=by
   unfold J7;split<;>simp
  omega
theorem Qdj(n:Nand):∀(k:Nat) (f:Fnd),f∈Ql n k->Qj n f.at_=(f.p,0)
 |0,f,h=>by simp[Ql]at h
 |k+1,f,h=>by
  rw[Ql]at h;split at h
  ·rename_i a;rcases QqJ.1 h with h|h
   ·exact Qdj n k f h
   ·rw[QzG.1 h];exact Prod.ext rfl a
  ·exact Qdj n k f h
abbrev fnd(n:Nand)(a:Int):Fnd:=⟨a,(Qj n a).1⟩
structure Rooted(n:Nand)(g:Int)(L:List Sp):Prop where
 g0:0<=g
 fine:Fine n L
 wr:∀s∈L,s.tr.fr=0
 all:∀a,(Qj n a).2=0->rt.Kw (fnd n a)=true->0<g/\rt.Fe (fnd n a)<=g
 non:g=0->L=[]
 has:0<g->∃a,(Qj n a).2=0/\rt.Kw (fnd n a)=true/\rt.Yf (Qj n a).1.body=some (g,L.map spS)/\∀b,(Qj n b).2=0->rt.Kw (fnd n b)=true->rt.Fe (fnd n b)=g->rt.Yf (Qj n b).1.body=some (g,L.map spS)
theorem Qrm{f:Fnd}(h:rt.Kw f=true):f.p.kind=4:=by
 unfold rt.Kw at h;simp only[QzC,QzD]at h;exact h.1.1.1
theorem Q3f{n:Nand}(hb:n.blocks=16)(g:n.per=16){s:Sp}(k:FineS n s)(h:s.tr.fr=0):Zqc n (spS s) s/\rt.spB (spS s)=true:=by
 have b:∀a∈s.tr.ats,a≠-1:=λa ha e=>by
  have:=QjX.1 (QjS h) a ha;simp[e]at this
 have d:s.tr.nfs=s.tr.ats:=QjD.2 λa ha=>by simpa using b a ha
 have f:=k.nd;have c:=Q89 hb g k.gd;rw[d]at f c;refine⟨⟨rfl,⟨λa ha=>by have:=c a ha;omega,f,k.gd⟩,k.ok,k.chk,k.hold,k.used⟩,?_⟩;have hi:=k.id;have hz:=k.size;unfold rt.spB spS;simp only[QzC,QzD];refine⟨by have:=(Q8g s.tr).2.2;omega,?_⟩;cases hT:s.tr with
 |no=>rfl
 |one x=>
  have:=c x.a (by rw[hT];simp[Tree.ats]);show(decide (0<=x.a)&&decide (x.a<=2047))=true;simp;omega
 |two a x y=>
  have:=c a (by rw[hT];simp[Tree.ats]);show(decide (0<=a)&&decide (a<=2047))=true;simp;omega
theorem Q9b{n:Nand}{s:Sp}(h:FineS n s)(a:s.used<=10):(Ik s.tr).length<=20:=by
 have h3:=Vr h.chk;have h4:=(Q8g s.tr).1;have:=h.used;unfold Ik;rw[QqK,vo.Xd];omega
theorem Y8{n:Nand}{s:Sp}(h:FineS n s)(a:s.used<=10):Small s.tr:=by
 have:=(Ls h).2;exact⟨O,by have:=Q9b h a;omega⟩
theorem Qko{n:Nand}:∀{L:List Sp},(∀s∈L,FineS n s/\s.used<=10)->(L.flatMap λs=>Ik s.tr).length<=20*L.length
 |[],_=>QqB _
 |s::L,h=>by
  have b:=Qko (L:=L) λy a=>h y (by simp[a]);have:=Q9b (h s U).1 (h s U).2;rw[QqV,QqK,QzN];omega
theorem Rooted.more{n c:Nand}(h:Gr n c)(e:NoRt n c){g:Int}{L:List Sp}(k:Rooted n g L):Rooted c g L:=by
 have old:∀a,(Qj c a).2=0->rt.Kw (fnd c a)=true->(Qj n a).2=0/\fnd c a=fnd n a:=λa h1 h2=>by
  by_cases d:(Qj n a).2=0
  ·exact⟨d,by unfold fnd;rw[h a d]⟩
  ·exact absurd (Qrm h2) (e a h1 d)
 refine⟨k.g0,k.fine.gr h,k.wr,λa h1 h2=>?_,k.non,λf=>?_⟩
 ·obtain⟨h3,h4⟩:=old a h1 h2;rw[h4]at h2 ⊢;exact k.all a h3 h2
 ·obtain⟨a,a1,a2,a3,i⟩:=k.has f;refine⟨a,by rw[h a a1];exact a1,by unfold fnd;rw[h a a1];exact a2,by rw[h a a1];exact a3,λb b1 b2 b3=>?_⟩;obtain⟨h3,h4⟩:=old b b1 b2;rw[h4]at b2 b3;rw[h b h3];exact i b h3 b2 b3
theorem newest{n:Nand}{g:Int}{L:List Sp}(k:Rooted n g L)(hb:n.blocks=16)(w:n.per=16){l:List Fnd}(h1:l.Perm (rt.Y9 (Ql n 256)))(h2:l.Pairwise rt.newer):(∀f,l.head? =some f->rt.Yf f.p.body=some (g,L.map spS))/\(l=[]->L=[]/\g=0):=by
 have b:∀f,f∈l↔f=fnd n f.at_/\(Qj n f.at_).2=0/\rt.Kw f=true:=by
  intro f;rw[h1.mem_iff];unfold rt.Y9;rw[QzZ];constructor
  ·rintro⟨i,j⟩;have h3:=Qdj _ _ _ i;exact⟨by unfold fnd;rw[h3],by rw[h3],j⟩
  ·rintro⟨e,h3,j⟩;refine⟨?_,j⟩;have o:=Da h3;rw[hb,w]at o;obtain⟨m,b⟩:∃m:Nat,f.at_=(m:Int):=⟨f.at_.toNat,O⟩;rw[e];unfold fnd;rw[b]at h3 ⊢;exact Qy3 n m _ (Prod.ext rfl h3) 256 O
 refine⟨λf i=>?_,λy=>?_⟩
 ·cases l with
  |nil=>cases i
  |cons x l=>
   obtain rfl:x=f:=by simpa using i
   obtain⟨c,s,t⟩:=(b x).1 U;obtain⟨z,F⟩:=k.all x.at_ s (by rw[<-c];exact t);obtain⟨a,a1,a2,a3,u⟩:=k.has z;have ha:rt.Fe (fnd n a)=g:=by unfold rt.Fe;rw[a3]
   rcases QqF.1 ((b (fnd n a)).2 ⟨rfl,a1,a2⟩)with h|h
   ·rw[<-h];exact a3
   ·have q:=(QzS.1 h2).1 _ h;have r:rt.Fe x=g:=by
     rw[<-c]at F;rcases q with H|⟨H,_⟩<;>omega
    have:=u x.at_ s (by rw[<-c];exact t) (by rw[<-c];exact r);rw[c];exact this
 ·subst y;have v:¬0<g:=λv=>by
   obtain⟨a,a1,a2,a3,u⟩:=k.has v;have:=(b (fnd n a)).2 ⟨rfl,a1,a2⟩;cases this
  have d:g=0:=by have:=k.g0;omega
  exact⟨k.non d,d⟩
theorem Q9k{n:Nand}{g:Int}{L:List Sp}(k:Rooted n g L)(hb:n.blocks=16)(b:n.per=16){l:List Fnd}(h1:l.Perm (rt.Y9 (Ql n 256)))(h2:l.Pairwise rt.newer)(f:Fnd)(h:l.head? =some f):Q80 (Ju n) f g L/\(∀s∈L,Small s.tr)/\(L.flatMap λs=>Ik s.tr).length<=100000:=by
 have c:∀s∈L,FineS n s/\s.used<=10:=λs a=>⟨k.fine.sp s a,QiJ (Wq k.fine.sp s a) k.fine.cap⟩;refine⟨⟨_,(newest k hb b h1 h2).1 f h,U,λj x s d a=>?_,?_,λs a=>(Ls (k.fine.sp s a)).1⟩,λs a=>Y8 (c s a).1 (c s a).2,?_⟩
 ·rw[QzF,a]at d;obtain rfl:spS s=x:=by simpa using d
  have e:=QqL a;exact(Q3f hb b (k.fine.sp s e) (k.wr s e)).1
 ·have i:Ye n.blocks n.per=10:=by rw[hb,b];exact Q0f
  show K9 L<=Ye n.blocks n.per;rw[i];exact k.fine.cap
 ·have:=Qko c;have:=k.fine.len;omega
theorem reopen{n:Nand}{g:Int}{L:List Sp}(k:Rooted n g L)(hb:n.blocks=16)(a:n.per=16){l:List Fnd}{X:XL}{V:Vo}(h1:l.Perm (rt.Y9 (Ql n 256)))(h2:l.Pairwise rt.newer)(d:Q5k (Ju n) (λ_=>g) (λ_=>L) l X V):X.map (·.1)=L/\V.l=L/\V.gen=g/\V.cap=10/\V.sure=true/\(∃vv,V.s={Ju n with valid:=vv})/\V.last.length<=100000:=by
 have b:Ye n.blocks n.per=10:=by rw[hb,a];exact Q0f
 rcases d with⟨f,P,e,c,h,rfl⟩|⟨rfl,rfl,rfl⟩
 ·refine⟨c,rfl,rfl,b,rfl,⟨_,rfl⟩,?_⟩;have:=(Q9k k hb a h1 h2 f e).2.2;show P.length<=_;rw[h.length_eq,Qbp,c];exact this
 ·obtain⟨rfl,rfl⟩:=(newest k hb a h1 h2).2 rfl;exact⟨rfl,rfl,rfl,b,rfl,⟨_,rfl⟩,QqM _⟩
end pl
namespace pl
open Go.RowKit er tr st vo nd pg dc
theorem La{n:Nand}{id size:Int}{l:List Ext}(c:∀e∈l,1<=e.n):Z8 n id size l=true↔∀q d,Cov some none l q d->q<size/\∀p,d=some p->Bg n id q p=true:=by
 constructor
 ·rintro h q d ⟨e,a,h1,h2⟩;have h3:=Qcn h e a;refine⟨O,λp f=>?_⟩;subst f;unfold Ns at h2;split at h2
  ·rename_i b;injection h2 with h2;have:=Qq5 h a b (i:=q-e.fr) O (by unfold Ext.end_ at h1;omega);rw[show e.fr+(q-e.fr)=q by omega,<-h2]at this;exact this
  ·cases h2
 ·intro h;unfold Z8;rw[QxK];intro e a;have g:=c e a;unfold O9;simp only[QzC,QuT,QzD];refine⟨?_,?_⟩
  ·have:=(h (e.end_-1) _ ⟨e,a,⟨by unfold Ext.end_;omega,O⟩,rfl⟩).1;omega
  ·by_cases b:e.kind=2
   ·refine .inr ?_;unfold Gx;rw[QxK];intro i hi;have hi:=QuX.1 hi;refine(h (e.fr+(i:Int)) _ ⟨e,a,⟨O,by unfold Ext.end_;omega⟩,rfl⟩).2 _ ?_;unfold Ns;rw[QqH b];exact congrArg some O
   ·exact .inl b
theorem Sn{n:Nand}{s s':Sp}(k:FineS n s)(b:s'.id=s.id)(hz:0<=s'.size/\s'.size<=16777216)(c:s'.tr.Ok)(f:Chk s'.tr.flat)(g:s'.used=Zql s'.tr.flat)(i:Gd (PgL n s.id) s'.tr)(j:s'.tr.nfs.Nodup)
  (l:∀q p,Cov some none s'.tr.flat q p->q<s'.size/\(Cov some none s.tr.flat q p\/∀a,p=some a->Bg n s.id q a=true)):FineS n s':=by
 refine⟨by rw[b];exact k.id,hz,c,f,g,?_,by rw[b];exact i,j⟩;rw[b];refine(La λe d=>Ut (f.one e d)).2 λq p h=>?_;obtain⟨h1,h2|h2⟩:=l q p h
 ·exact⟨h1,((La λe d=>Ut (k.chk.one e d)).1 k.hold q p h2).2⟩
 ·exact⟨h1,h2⟩
theorem Qwb(L:List Sp)(s:Sp):∀y∈Om L s,y=s\/y∈L:=by
 intro y a;obtain⟨z,hz,rfl⟩:=QqS.1 a;split
 ·exact .inl rfl
 ·exact .inr hz
theorem Q2u{L:List Sp}{s:Sp}(h:Up L):Up (Om L s):=by
 refine QjP.2 (h.imp λ{a b} c=>?_);have e:∀y:Sp,(if y.id=s.id then s else y).id=y.id:=λy=>by
  split
  ·rename_i d;exact d.symm
  ·rfl
 rw[e,e];exact c
theorem Aq{x s:Sp}:∀{L:List Sp},Up L->x∈L->s.id=x.id->K9 (Om L s)=K9 L-x.used+s.used
 |a::L,h,b,hid=>by
  have h1:=(QzS.1 h).1;unfold Om;rw[QzE,Jq,Jq];rcases QqF.1 b with rfl|b
  ·have:L.map (λy=>if y.id=s.id then s else y)=L.map id:=QkF λy d=>by
    have:=h1 y d;rw[QqE O];rfl
   rw[QqH hid.symm,this,List.map_id];omega
  ·have:=h1 x b;have c:=Aq (s:=s) (QzS.1 h).2 b hid;unfold Om at c;rw[QqE O,c];omega
theorem Rk{n:Nand}{L:List Sp}{x s:Sp}(k:Fine n L)(b:x∈L)(a:s.id=x.id)(c:FineS n s)(d:K9 L-x.used+s.used<=10):Fine n (Om L s):=
 ⟨Q2u k.up,λy f=>(Qwb L s y f).elim (λe=>e▸c) (k.sp y),by rw[Aq k.up b a];exact d,by unfold Om;rw[QqT];exact k.len⟩
theorem Qr9{L:List Sp}{s:Sp}(a:∀y∈L,y.id≠s.id):(Lu L s).Perm (s::L):=by
 unfold Lu;refine List.perm_middle.trans (.cons _ ?_);have:L.filter (λy=>decide (s.id<y.id))=L.filter (λy=>!decide (y.id<s.id)):=QgN λy b=>by
  have:=a y b;by_cases h1:y.id<s.id<;>by_cases h2:s.id<y.id<;>simp[h1,h2]<;>omega
 rw[this];exact QgB _ L
theorem Q2g{L:List Sp}{s:Sp}(h:Up L):Up (Lu L s):=by
 refine QkA.2 ⟨h.filter _,QzS.2 ⟨λy c=>by simpa using(QzZ.1 c).2,h.filter _⟩,λa ha b hb=>?_⟩;have h1:a.id<s.id:=by simpa using(QzZ.1 ha).2
 rcases QqF.1 hb with rfl|hb
 ·exact h1
 ·have h2:s.id<b.id:=by simpa using(QzZ.1 hb).2
  omega
theorem Qrx{L c:List Sp}(h:L.Perm c):K9 L=K9 c:=by
 induction h with
 |nil=>rfl
 |cons x _ ih=>rw[Jq,Jq,ih]
 |swap x y l=>simp only[Jq];omega
 |trans _ _ a b=>exact a.trans b
theorem Qw8{n:Nand}{L:List Sp}{s:Sp}(k:Fine n L)(c:∀y∈L,y.id≠s.id)(d:FineS n s)(e:s.used=0)(f:L.length<8):Fine n (Lu L s):=by
 have a:=Qr9 c;refine⟨Q2g k.up,λy b=>?_,?_,?_⟩
 ·rcases QqF.1 (a.mem_iff.1 b)with rfl|b
  ·exact d
  ·exact k.sp y b
 ·rw[Qrx a,Jq,e];have:=k.cap;omega
 ·rw[a.length_eq,QzN];omega
theorem Qew:∀{L:List Sp} (p:Sp->Bool),(∀s∈L,0<=s.used)->K9 (L.filter p)<=K9 L
 |[],_,_=>QxL _
 |a::L,p,h=>by
  have c:=Qew (L:=L) p λs b=>h s (by simp[b]);have h1:=h a U;rw[QkX];split
  ·rw[Jq,Jq];omega
  ·rw[Jq];omega
theorem Qw9{n:Nand}{L:List Sp}(k:Fine n L)(id:Int):Fine n (Qxa L id):=
 ⟨k.up.filter _,λy a=>k.sp y (QzZ.1 a).1,QiJ (Qew _ λs b=>(Ls (k.sp s b)).1) k.cap,QqR (QkE _ _) k.len⟩
structure Lw(k:Nat)(V:Vo)(r su:Dv):Prop where
 cap:V.cap=10
 fit:FitP V.s
 q0:0<=V.s.seq
 q1:V.s.seq<=64*(k:Int)
 ops:Q7t V.s<=64*(k:Int)+2
 sq:∀a,(Qj V.s.n a).2=0->(Qj V.s.n a).1.seq<V.s.seq
 fine:Fine V.s.n V.l
 r:r=⟨10,Xo (bd V.s.n) V.l⟩
 rt:∃L,Rooted V.s.n V.gen L/\su=⟨10,Xo (bd V.s.n) L⟩/\(V.sure=true->L=V.l)
 gen:V.gen<=(k:Int)
 last:V.last.length<=100000
theorem Lw.chg{k:Nat}{V a:Vo}{r su r':Dv}(h:Lw k V r su){s1:Sto}{j:Nat}(b:Grw V.s s1 j)(f:NoRt V.s.n s1.n)(v:j<=64)(d:∃l,a.s=s1.need l)(i:a.cap=V.cap)(g:a.gen=V.gen)(m:a.sure=false)(o:a.last=V.last)(p:Fine s1.n a.l)(q:r'=⟨10,Xo (bd s1.n) a.l⟩):Lw (k+1) a r' su:=by
 obtain⟨l,d⟩:=d;have c:a.s.n=s1.n:=by rw[d];rfl
 have hq:a.s.seq=s1.seq:=by rw[d];rfl
 have w:=h.q0;have h1:=h.q1;have h2:=h.ops;have h3:=h.gen;have x:=b.seq;have t:=b.ops;refine⟨i.trans h.cap,d▸Qgf b.fit l,by rw[hq];omega,by rw[hq];omega,by show a.s.n.ops+(Q7s a.s.n.plan a.s.n.ops:Int)<=_;rw[c];have y:s1.n.ops+(Q7s s1.n.plan s1.n.ops:Int)<=Q7t V.s+(j:Int):=t;omega,by rw[c,hq];exact b.sq h.sq,by rw[c];exact p,by rw[c];exact q,?_,by rw[g];omega,by rw[o];exact h.last⟩;obtain⟨L,q1,u,_⟩:=h.rt;exact⟨L,by rw[c,g];exact q1.more b.gr f,by rw[c,u,Qza b.gr q1.fine],λe=>by rw[m]at e;cases e⟩
theorem Lw.same{k:Nat}{V:Vo}{r su:Dv}(h:Lw k V r su):Lw (k+1) V r su:=by
 have h1:=h.q1;have h2:=h.ops;have h3:=h.gen;exact⟨h.cap,h.fit,h.q0,O,O,h.sq,h.fine,h.r,h.rt,O,h.last⟩
end pl
end Go.Proofs.YtfialjmemcobjaaGreatDoor
