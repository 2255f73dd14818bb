/- A part of the proof. -/
import Derived.RowKit
set_option maxRecDepth 100000
set_option maxHeartbeats 16000000
set_option linter.unusedVariables false
set_option linter.unusedSimpArgs false
namespace Go.Proofs.YtfialjmemcobjaaGreatDoor
namespace tr
structure Ext where
 fr:Int
 n:Int
 kind:Int
 at_:Int
deriving DecidableEq
def Ext.end_(e:Ext):Int:=e.fr+e.n
def Yp(fr n:Int):Bool:=decide (0<=fr)&&decide (0<=n)&&decide (fr<=16777216)&&decide (n<=16777216-fr)
def Qb(e:Ext):Bool:=Yp e.fr e.n&&decide (1<=e.n)&&(if e.kind=1 then decide (e.at_=0)else decide (e.kind=2)&&decide (0<=e.at_)&&decide (e.at_<=2048)&&decide (e.n<=2048-e.at_))
def Qh0(a:Ext)(n:Int):Ext:=⟨a.end_,n,a.kind,if a.kind=2 then a.at_+a.n else 0⟩
def tog(a b:Ext):Bool:=decide (Qh0 a b.n=b)
theorem Cc(a b:Ext):tog a b=true↔b.fr=a.end_/\b.kind=a.kind/\b.at_=if a.kind=2 then a.at_+a.n else 0:=by
 obtain⟨f,n,k,t⟩:=b;simp only[tog,Qh0,decide_eq_true_eq,Ext.mk.injEq,true_and];constructor
 ·rintro⟨h1,h2,h3⟩;exact⟨h1.symm,h2.symm,h3.symm⟩
 ·rintro⟨h1,h2,h3⟩;exact⟨h1.symm,h2.symm,h3.symm⟩
def partOf(e:Ext)(a b:Int):Option Ext:=
 if min e.end_ b<=max e.fr a then none else some ⟨max e.fr a,min e.end_ b-max e.fr a,e.kind,if e.kind=2 then e.at_+max e.fr a-e.fr else 0⟩
def parts(l:List Ext)(a b:Int):List Ext:=l.filterMap λe=>partOf e a b
def push(out:List Ext)(e:Ext):List Ext:=
 match out.getLast? with
 |some a=>if tog a e=true then out.dropLast++[{a with n:=a.n+e.n}]else out++[e]
 |none=>[e]
def tidy(l:List Ext):List Ext:=l.foldl push []
structure Chk(l:List Ext):Prop where
 one:∀e∈l,Qb e=true
 ord:l.Pairwise λa b=>a.end_<=b.fr/\tog a b=false
def Gw(l:List Ext)(e:Ext):List Ext:=tidy (parts l 0 e.fr++[e]++parts l e.end_ 16777216)
def Eb(l:List Ext)(fr n:Int):List Ext:=tidy (parts l 0 fr++parts l (fr+n) 16777216)
theorem Gm(out:List Ext)(a e:Ext):push (out++[a]) e=if tog a e=true then out++[{a with n:=a.n+e.n}]else out++[a]++[e]:=by
 simp[push]
theorem Qhh(out:List Ext)(e:Ext)(h:∀a,out.getLast? =some a->tog a e=false):push out e=out++[e]:=by
 unfold push;cases hl:out.getLast? with
 |none=>rw[List.getLast?_eq_none_iff.1 hl];rfl
 |some a=>simp[h a hl]
structure Like(a b:Ext):Prop where
 e:a.end_=b.end_
 k:a.kind=b.kind
 t:(if a.kind=2 then a.at_+a.n else 0)=(if b.kind=2 then b.at_+b.n else 0)
theorem Like.refl(a:Ext):Like a a:=⟨rfl,rfl,rfl⟩
theorem Like.tog{a b:Ext}(h:Like a b)(c:Ext):tog a c=tog b c:=by
 unfold tr.tog Qh0;rw[h.e,h.t,h.k]
theorem Qtw{a e:Ext}(h:tog a e=true):Like {a with n:=a.n+e.n} e:=by
 obtain⟨h1,h2,h3⟩:=(Cc a e).1 h;have b:e.fr=a.fr+a.n:=h1;refine⟨?_,h2.symm,?_⟩
 ·show a.fr+(a.n+e.n)=e.fr+e.n;omega
 ·show(if a.kind=2 then a.at_+(a.n+e.n)else 0)=(if e.kind=2 then e.at_+e.n else 0);rw[h2,h3];split<;>omega
theorem Qia(out:List Ext)(e:Ext):∃a,(push out e).getLast? =some a/\Like a e:=by
 unfold push;split
 ·rename_i a c;split
  ·rename_i b;exact⟨_,by simp,Qtw b⟩
  ·exact⟨e,by simp,Like.refl e⟩
 ·exact⟨e,rfl,Like.refl e⟩
theorem Qmr(out:List Ext)(e:Ext):push out e≠[]:=by
 obtain⟨a,h,_⟩:=Qia out e;intro h2;rw[h2]at h;simp at h
theorem push_append(L out:List Ext)(e:Ext)(h:out≠[]):push (L++out) e=L++push out e:=by
 obtain⟨o,a,rfl⟩:∃o a,out=o++[a]:=⟨out.dropLast,out.getLast h,(List.dropLast_concat_getLast h).symm⟩;rw[<-List.append_assoc,Gm,Gm];split<;>simp
theorem Qjw(L:List Ext):∀(l out:List Ext),out≠[]->l.foldl push (L++out)=L++l.foldl push out
 |[],_,_=>rfl
 |e::l,out,h=>by
  rw[List.foldl_cons,List.foldl_cons,push_append L out e h,Qjw L l _ (Qmr out e)]
theorem Qsf:∀(l out:List Ext) (e:Ext),(l++[e]).foldl push out≠[]/\∃a,((l++[e]).foldl push out).getLast? =some a/\Like a e:=by
 intro l out e;rw[List.foldl_append,List.foldl_cons,List.foldl_nil];exact⟨Qmr _ _,Qia _ _⟩
theorem Di(l r:List Ext)(h:∀a b,l.getLast? =some a->r.head? =some b->tog a b=false):tidy (l++r)=tidy l++tidy r:=by
 unfold tidy;rw[List.foldl_append];cases r with
 |nil=>simp
 |cons b r=>
  rw[List.foldl_cons,List.foldl_cons];have h1:push (l.foldl push []) b=l.foldl push []++[b]:=by
   apply Qhh;intro a ha;rcases List.eq_nil_or_concat l with rfl|⟨l',c,rfl⟩
   ·simp at ha
   ·rw[List.concat_eq_append]at ha h;obtain⟨_,f,d,e⟩:=Qsf l' [] c;rw[ha]at d;injection d with d;subst d;rw[e.tog];exact h c b (by simp) rfl
  rw[h1,show push [] b=[b]from rfl];exact Qjw _ r [b] (by simp)
theorem Qt0(e:Ext):tidy [e]=[e]:=rfl
theorem Chk.tail{a:Ext}{l:List Ext}(h:Chk (a::l)):Chk l:=⟨λe b=>h.one e (List.mem_cons_of_mem _ b),(List.pairwise_cons.1 h.ord).2⟩
theorem Chk.left{l r:List Ext}(h:Chk (l++r)):Chk l:=⟨λe a=>h.one e (List.mem_append_left _ a),(List.pairwise_append.1 h.ord).1⟩
theorem Chk.right{l r:List Ext}(h:Chk (l++r)):Chk r:=⟨λe a=>h.one e (List.mem_append_right _ a),(List.pairwise_append.1 h.ord).2.1⟩
theorem Zqv:∀(l:List Ext),Chk l->tidy l=l
 |[],_=>rfl
 |[e],_=>rfl
 |a::b::r,h=>by
  have:=Di [a] (b::r) (λx y c d=>by
   simp at c d;subst c d;exact((List.pairwise_cons.1 h.ord).1 b (by simp)).2)
  rw[show[a]++(b::r)=a::b::r from rfl,Zqv (b::r) h.tail,Qt0]at this;exact this
theorem Qg{e:Ext}(h:Qb e=true):0<=e.fr/\1<=e.n/\e.fr+e.n<=16777216/\((e.kind=1/\e.at_=0)\/(e.kind=2/\0<=e.at_/\e.at_+e.n<=2048)):=by
 unfold Qb Yp at h;simp only[Bool.and_eq_true,decide_eq_true_eq]at h;obtain⟨⟨⟨⟨⟨h1,h2⟩,h3⟩,h4⟩,h5⟩,a⟩:=h;split at a
 ·rename_i b;simp only[decide_eq_true_eq]at a;exact⟨h1,h5,by omega,.inl ⟨b,a⟩⟩
 ·simp only[Bool.and_eq_true,decide_eq_true_eq]at a;obtain⟨⟨⟨c,d⟩,f⟩,g⟩:=a;exact⟨h1,h5,by omega,.inr ⟨c,d,by omega⟩⟩
theorem Qup{e:Ext}(h1:0<=e.fr)(h2:1<=e.n)(h3:e.fr+e.n<=16777216)(h4:(e.kind=1/\e.at_=0)\/(e.kind=2/\0<=e.at_/\e.at_+e.n<=2048)):Qb e=true:=by
 unfold Qb Yp;simp only[Bool.and_eq_true,decide_eq_true_eq];refine⟨⟨⟨⟨⟨h1,by omega⟩,by omega⟩,by omega⟩,h2⟩,?_⟩;rcases h4 with⟨k,a⟩|⟨k,a,b⟩
 ·rw[if_pos k];simpa using a
 ·rw[if_neg (by omega)];simp only[Bool.and_eq_true,decide_eq_true_eq];exact⟨⟨⟨k,a⟩,by omega⟩,by omega⟩
theorem Qqi{a e:Ext}(ha:Qb a=true)(b:Qb e=true)(c:tog a e=true):Qb {a with n:=a.n+e.n}=true:=by
 obtain⟨a1,a2,a3,d⟩:=Qg ha;obtain⟨j,l,m,f⟩:=Qg b;obtain⟨t1,t2,g⟩:=(Cc a e).1 c;have i:e.fr=a.fr+a.n:=t1;refine Qup a1 (by show 1<=a.n+e.n;omega) (by show a.fr+(a.n+e.n)<=_;omega) ?_;rcases d with h|⟨k,h1,h2⟩
 ·exact .inl h
 ·refine .inr ⟨k,h1,?_⟩;rw[if_pos k]at g;rcases f with⟨o,_⟩|⟨_,_,h3⟩
  ·omega
  ·show a.at_+(a.n+e.n)<=2048;omega
theorem Wi{a b c:Ext}(h1:b.fr=c.fr)(h2:b.kind=c.kind)(h3:b.at_=c.at_):tog a b=tog a c:=by
 have:tog a b=true↔tog a c=true:=by rw[Cc,Cc,h1,h2,h3]
 cases h:tog a b<;>cases h':tog a c<;>simp_all
theorem Ah{a b:Ext}(h:b.fr≠a.end_):tog a b=false:=by
 cases ht:tog a b
 ·rfl
 ·exact absurd ((Cc a b).1 ht).1 h
theorem Qvm{out:List Ext}{e:Ext}(h:Chk out)(f:Qb e=true)(g:∀a∈out,a.end_<=e.fr):Chk (push out e)/\∀x∈push out e,x.end_<=e.end_:=by
 have l:=Qg f;rcases List.eq_nil_or_concat out with rfl|⟨o,a,rfl⟩
 ·exact⟨⟨λx d=>by simp[push]at d;rw[d];exact f,by simp[push]⟩,λx d=>by simp[push]at d;rw[d];exact Int.le_refl _⟩
 ·rw[List.concat_eq_append]at h g ⊢;rw[Gm];have i:=List.pairwise_append.1 h.ord;have ha:=h.one a (by simp);have m:=g a (by simp);split
  ·rename_i j;have h1:a.end_=a.fr+a.n:=rfl;have h2:e.end_=e.fr+e.n:=rfl;have h3:({a with n:=a.n+e.n}:Ext).end_=e.end_:=by
    have:=((Cc a e).1 j).1;show a.fr+(a.n+e.n)=_;omega
   refine⟨⟨λx d=>?_,List.pairwise_append.2 ⟨i.1,by simp,λx d y k=>?_⟩⟩,λx d=>?_⟩
   ·rcases List.mem_append.1 d with d|d
    ·exact h.one x (List.mem_append_left _ d)
    ·rw[List.mem_singleton.1 d];exact Qqi ha f j
   ·rw[List.mem_singleton.1 k];have:=i.2.2 x d a (by simp);exact⟨this.1,(Wi (b:={a with n:=a.n+e.n}) (c:=a) rfl rfl rfl).trans this.2⟩
   ·rcases List.mem_append.1 d with d|d
    ·have:=(i.2.2 x d a (by simp)).1;have:=(Qg ha).2.1;omega
    ·rw[List.mem_singleton.1 d,h3];exact Int.le_refl _
  ·rename_i j;refine⟨⟨λx d=>?_,List.pairwise_append.2 ⟨h.ord,by simp,λx d y k=>?_⟩⟩,λx d=>?_⟩
   ·rcases List.mem_append.1 d with d|d
    ·exact h.one x d
    ·rw[List.mem_singleton.1 d];exact f
   ·rw[List.mem_singleton.1 k];refine⟨g x d,?_⟩;rcases List.mem_append.1 d with d|d
    ·apply Ah;have h4:=(i.2.2 x d a (by simp)).1;have h5:=(Qg ha).2.1;have p:a.end_=a.fr+a.n:=rfl;omega
    ·rw[List.mem_singleton.1 d];simpa using j
   ·have h2:e.end_=e.fr+e.n:=rfl;rcases List.mem_append.1 d with d|d
    ·have:=g x d;omega
    ·rw[List.mem_singleton.1 d];exact Int.le_refl _
theorem Qc0:∀(l out:List Ext),Chk out->(∀e∈l,Qb e=true)->l.Pairwise (λa b=>a.end_<=b.fr)->(∀a∈out,∀e∈l,a.end_<=e.fr)->Chk (l.foldl push out)
 |[],_,h,_,_,_=>h
 |e::l,out,h,h1,h2,h3=>by
  rw[List.foldl_cons];obtain⟨f,g⟩:=Qvm h (h1 e (by simp)) (λa ha=>h3 a ha e (by simp));have d:=List.pairwise_cons.1 h2;exact Qc0 l _ f (λx c=>h1 x (by simp[c])) d.2 (λa ha x c=>by
   have:=g a ha;have:=d.1 x c;omega)
theorem Dk:Chk []:=⟨by simp,by simp⟩
theorem Ql6{l:List Ext}(h1:∀e∈l,Qb e=true)(h2:l.Pairwise λa b=>a.end_<=b.fr):Chk (tidy l):=Qc0 l [] Dk h1 h2 (by simp)
theorem Jy{e x:Ext}{a b:Int}(h:partOf e a b=some x)(c:Qb e=true)(ha:0<=a)(hb:b<=16777216):Qb x=true/\x.fr=max e.fr a/\x.end_=min e.end_ b/\x.kind=e.kind/\(x.at_=if e.kind=2 then e.at_+x.fr-e.fr else 0):=by
 unfold partOf at h;split at h
 ·exact absurd h (by simp)
 ·rename_i d;injection h with h;obtain⟨g,i,j,f⟩:=Qg c;have h2:e.end_=e.fr+e.n:=rfl;subst h;refine⟨Qup (by show 0<=max e.fr a;omega) (by show 1<=min e.end_ b-max e.fr a;omega) (by show max e.fr a+(min e.end_ b-max e.fr a)<=_;omega) ?_,rfl,by show max e.fr a+(min e.end_ b-max e.fr a)=_;omega,rfl,rfl⟩;rcases f with⟨k,h3⟩|⟨k,h3,h4⟩
  ·exact .inl ⟨k,by show(if e.kind=2 then _ else(0:Int))=0;rw[if_neg (by omega)]⟩
  ·refine .inr ⟨k,?_,?_⟩
   ·show 0<=(if e.kind=2 then e.at_+max e.fr a-e.fr else 0);rw[if_pos k];omega
   ·show(if e.kind=2 then e.at_+max e.fr a-e.fr else 0)+(min e.end_ b-max e.fr a)<=2048;rw[if_pos k];omega
theorem Mi{e:Ext}{a b:Int}(g:Qb e=true)(ha:a<=e.fr)(hb:e.end_<=b):partOf e a b=some e:=by
 obtain⟨i,j,l,c⟩:=Qg g;have h2:e.end_=e.fr+e.n:=rfl;unfold partOf;rw[if_neg (by omega)];obtain⟨f,n,k,t⟩:=e;simp only[Option.some.injEq,Ext.mk.injEq];simp only at ha c;have h:f+n<=b:=hb;refine⟨by omega,by show min (f+n) b-max f a=n;omega,trivial,?_⟩;rcases c with⟨d,h3⟩|⟨d,h3,h4⟩
 ·rw[if_neg (by omega)];exact h3.symm
 ·rw[if_pos d];omega
theorem Em{e:Ext}{a b:Int}(h:e.end_<=a\/b<=e.fr\/b<=a):partOf e a b=none:=by
 unfold partOf;rw[if_pos (by rcases h with h|h|h<;>omega)]
theorem Js{l:List Ext}{a b:Int}{x:Ext}(h:x∈parts l a b):∃e∈l,partOf e a b=some x:=by
 unfold parts at h;obtain⟨e,c,d⟩:=List.mem_filterMap.1 h;exact⟨e,c,d⟩
theorem Jf(l r:List Ext)(a b:Int):parts (l++r) a b=parts l a b++parts r a b:=by simp[parts]
theorem Sq{l:List Ext}{a b:Int}(h:∀e∈l,partOf e a b=some e):parts l a b=l:=by
 induction l with
 |nil=>rfl
 |cons e l ih=>
  unfold parts at ih ⊢;rw[List.filterMap_cons,h e (by simp),ih (λx c=>h x (by simp[c]))]
theorem Hl{l:List Ext}{a b:Int}(h:∀e∈l,partOf e a b=none):parts l a b=[]:=by
 induction l with
 |nil=>rfl
 |cons e l ih=>
  unfold parts at ih ⊢;rw[List.filterMap_cons,h e (by simp),ih (λx c=>h x (by simp[c]))]
theorem R6{l:List Ext}{a b:Int}(h:Chk l)(ha:0<=a)(hb:b<=16777216):(parts l a b).Pairwise λx y=>x.end_<=y.fr:=by
 unfold parts;refine List.Pairwise.filterMap _ ?_ (List.Pairwise.and_mem.1 h.ord);intro x y ⟨e,f,g,_⟩ i c j d;have k:=Jy c (h.one x e) ha hb;have m:=Jy d (h.one y f) ha hb;omega
theorem Bc{l:List Ext}{e:Ext}(h:Chk l)(f:Qb e=true):Chk (Gw l e):=by
 obtain⟨i,j,m,o⟩:=Qg f;have h2:e.end_=e.fr+e.n:=rfl;have c:∀x∈parts l 0 e.fr,Qb x=true/\x.end_<=e.fr:=λx a=>by
  obtain⟨y,b,d⟩:=Js a;have k:=Jy d (h.one y b) (Int.le_refl 0) (by omega);exact⟨k.1,by omega⟩
 have g:∀x∈parts l e.end_ 16777216,Qb x=true/\e.end_<=x.fr:=λx a=>by
  obtain⟨y,b,d⟩:=Js a;have k:=Jy d (h.one y b) (by omega) (Int.le_refl _);exact⟨k.1,by omega⟩
 unfold Gw;refine Ql6 (λx a=>?_) ?_
 ·simp only[List.mem_append,List.mem_singleton]at a;rcases a with(a|a)|a
  ·exact(c x a).1
  ·rw[a];exact f
  ·exact(g x a).1
 ·refine List.pairwise_append.2 ⟨List.pairwise_append.2 ⟨R6 h (Int.le_refl 0) (by omega),by simp,λx a y b=>?_⟩,R6 h (by omega) (Int.le_refl _),λx a y b=>?_⟩
  ·rw[List.mem_singleton.1 b];exact(c x a).2
  ·have:=(g y b).2;rcases List.mem_append.1 a with a|a
   ·have:=(c x a).2;omega
   ·rw[List.mem_singleton.1 a];exact this
theorem S9{l:List Ext}{fr n:Int}(h:Chk l)(h1:0<=fr)(h2:0<=n)(h3:fr+n<=16777216):Chk (Eb l fr n):=by
 have d:∀x∈parts l 0 fr,Qb x=true/\x.end_<=fr:=λx a=>by
  obtain⟨y,b,c⟩:=Js a;have k:=Jy c (h.one y b) (Int.le_refl 0) (by omega);exact⟨k.1,by omega⟩
 have e:∀x∈parts l (fr+n) 16777216,Qb x=true/\fr+n<=x.fr:=λx a=>by
  obtain⟨y,b,c⟩:=Js a;have k:=Jy c (h.one y b) (by omega) (Int.le_refl _);exact⟨k.1,by omega⟩
 unfold Eb;refine Ql6 (λx a=>?_) ?_
 ·rcases List.mem_append.1 a with a|a
  ·exact(d x a).1
  ·exact(e x a).1
 ·refine List.pairwise_append.2 ⟨R6 h (Int.le_refl 0) (by omega),R6 h (by omega) (Int.le_refl _),λx a y b=>?_⟩;have:=(d x a).2;have:=(e y b).2;omega
def Yt(lo hi:Int)(x:Ext):Bool:=decide (x.fr<=hi)&&decide (lo<=x.end_)
def Ki(l:List Ext)(lo hi:Int):List Ext:=l.filter (Yt lo hi)
def Nl(l:List Ext)(lo:Int):List Ext:=l.filter λx=>decide (x.end_<lo)
def D7(l:List Ext)(hi:Int):List Ext:=l.filter λx=>decide (hi<x.fr)
theorem G7{l:List Ext}(h:Chk l):l.Pairwise λa b=>a.fr<b.fr:=by
 refine List.Pairwise.imp ?_ (List.Pairwise.and_mem.1 h.ord);intro a b ⟨ha,_,c,_⟩;have:=(Qg (h.one a ha)).2.1;have h2:a.end_=a.fr+a.n:=rfl;omega
theorem Es{p:Ext->Bool}{l:List Ext}(h:∀x∈l,p x=false):l.filter p=[]:=by
 rw[List.filter_eq_nil_iff];intro x a;rw[h x a];decide
theorem filter_all{p:Ext->Bool}{l:List Ext}(h:∀x∈l,p x=true):l.filter p=l:=List.filter_eq_self.2 h
theorem three:∀{l:List Ext} {lo hi:Int},Chk l->lo<=hi->l=Nl l lo++Ki l lo hi++D7 l hi
 |[],_,_,_,_=>rfl
 |a::l,lo,hi,h,hh=>by
  have b:=three (lo:=lo) (hi:=hi) h.tail hh;have i:=(List.pairwise_cons.1 h.ord).1;have m:=(Qg (h.one a (by simp))).2.1;have o:a.end_=a.fr+a.n:=rfl;have g:∀x∈l,x.fr<x.end_:=λx c=>by
   have:=(Qg (h.one x (by simp[c]))).2.1;have h2:x.end_=x.fr+x.n:=rfl;omega
  unfold Nl Ki D7 at b ⊢;by_cases h1:a.end_<lo
  ·have f:decide (a.end_<lo)=true:=by simpa using h1
   have d:Yt lo hi a=false:=by unfold Yt;simp;omega
   have e:decide (hi<a.fr)=false:=by simp;omega
   simp only[List.filter_cons,f,d,e,Bool.false_eq_true,if_true,if_false,List.cons_append];rw[<-b]
  ·have j:l.filter (λx=>decide (x.end_<lo))=[]:=Es (λx c=>by
    have:=(i x c).1;have:=g x c;simp;omega)
   have f:decide (a.end_<lo)=false:=by simpa using h1
   by_cases h2:a.fr<=hi
   ·have d:Yt lo hi a=true:=by unfold Yt;simp;omega
    have e:decide (hi<a.fr)=false:=by simp;omega
    simp only[List.filter_cons,f,d,e,Bool.false_eq_true,if_true,if_false];rw[j]at b ⊢;simp only[List.nil_append,List.cons_append]at b ⊢;rw[<-b]
   ·have d:Yt lo hi a=false:=by unfold Yt;simp;omega
    have e:decide (hi<a.fr)=true:=by simp;omega
    have k:l.filter (Yt lo hi)=[]:=Es (λx c=>by
     have:=(i x c).1;unfold Yt;simp;omega)
    simp only[List.filter_cons,f,d,e,Bool.false_eq_true,if_true,if_false];rw[j,k]at b ⊢;simp only[List.nil_append]at b ⊢;rw[<-b]
theorem Ec{l:List Ext}(h:Chk l){x:Ext}(a:x∈l):0<=x.fr/\x.fr<x.end_/\x.end_<=16777216:=by
 have:=Qg (h.one x a);have h2:x.end_=x.fr+x.n:=rfl;omega
theorem Qks{l:List Ext}{lo hi:Int}(h:Chk l)(A:0<=lo)(W:lo<=hi)(B:hi<=16777216)(e:List Ext)(S:∀x∈e,Qb x=true/\x.fr=lo/\x.end_=hi):
  tidy (parts l 0 lo++e++parts l hi 16777216)=Nl l lo++tidy (parts (Ki l lo hi) 0 lo++e++parts (Ki l lo hi) hi 16777216)++D7 l hi:=by
 have h3:=three h W;obtain⟨L,T⟩:∃L,Nl l lo=L:=⟨_,rfl⟩;obtain⟨N,Y⟩:∃N,Ki l lo hi=N:=⟨_,rfl⟩;obtain⟨R,V⟩:∃R,D7 l hi=R:=⟨_,rfl⟩;rw[T,Y,V]at h3 ⊢;have g:∀x∈L,x.end_<lo:=λx c=>by
  rw[<-T]at c;simpa using(List.mem_filter.1 c).2
 have i:∀x∈R,hi<x.fr:=λx c=>by
  rw[<-V]at c;simpa using(List.mem_filter.1 c).2
 have r:=h;rw[h3]at r;have m:=r.left.left;have j:=r.left.right;have o:=r.right;have d:=List.pairwise_append.1 r.ord;have p:=List.pairwise_append.1 d.1;have p1:parts l 0 lo=L++parts N 0 lo:=by
  rw[h3,Jf,Jf,Sq (l:=L) (λx c=>Mi (m.one x c) (Ec m c).1 (by have:=g x c;omega)),Hl (l:=R) (λx c=>Em (by have:=i x c;omega)),List.append_nil]
 have p2:parts l hi 16777216=parts N hi 16777216++R:=by
  rw[h3,Jf,Jf,Hl (l:=L) (λx c=>Em (by have:=g x c;omega)),Sq (l:=R) (λx c=>Mi (o.one x c) (by have:=i x c;omega) (Ec o c).2.2),List.nil_append]
 rw[p1,p2];have s:∀y∈parts N 0 lo,∃x∈N,y.fr=x.fr/\y.kind=x.kind/\y.at_=x.at_/\y.end_<=lo:=λy H=>by
  obtain⟨x,c,K⟩:=Js H;have k:=Jy K (j.one x c) (Int.le_refl 0) (by omega);have M:=Qg (j.one x c);refine⟨x,c,by omega,k.2.2.2.1,?_,by omega⟩;rw[k.2.2.2.2];rcases M.2.2.2 with⟨q,F⟩|⟨q,_⟩
  ·rw[if_neg (by omega)];exact F.symm
  ·rw[if_pos q];omega
 have t:∀y∈parts N hi 16777216,hi<=y.fr/\∃x∈N,Like y x:=λy H=>by
  obtain⟨x,c,K⟩:=Js H;have k:=Jy K (j.one x c) (by omega) (Int.le_refl _);have M:=Qg (j.one x c);have k2:x.end_=x.fr+x.n:=rfl;have k3:y.end_=y.fr+y.n:=rfl;refine⟨by omega,x,c,by omega,k.2.2.2.1,?_⟩;rw[k.2.2.2.1];rcases M.2.2.2 with⟨q,F⟩|⟨q,_⟩
  ·rw[if_neg (by omega),if_neg (by omega)]
  ·rw[if_pos q,if_pos q,k.2.2.2.2,if_pos q];omega
 have u:∀a∈L,∀b∈parts N 0 lo++e++parts N hi 16777216,tog a b=false:=λa ha b hb=>by
  simp only[List.mem_append]at hb;rcases hb with(hb|hb)|hb
  ·obtain⟨x,c,q1,F,Z,_⟩:=s b hb;rw[Wi q1 F Z];exact(p.2.2 a ha x c).2
  ·exact Ah (by have:=(S b hb).2.1;have:=g a ha;omega)
  ·exact Ah (by have:=(t b hb).1;have:=g a ha;omega)
 have v:∀a∈parts N 0 lo++e++parts N hi 16777216,∀b∈R,tog a b=false:=λa ha b hb=>by
  simp only[List.mem_append]at ha;rcases ha with(ha|ha)|ha
  ·obtain⟨x,c,_,_,_,q⟩:=s a ha;exact Ah (by have:=i b hb;omega)
  ·exact Ah (by have:=(S a ha).2.2;have:=i b hb;omega)
  ·obtain⟨_,x,c,q⟩:=t a ha;rw[q.tog];exact(d.2.2 x (List.mem_append_right _ c) b hb).2
 have Q:∀a∈L,∀b∈R,tog a b=false:=λa ha b hb=>(d.2.2 a (List.mem_append_left _ ha) b hb).2;obtain⟨X,w⟩:∃X,parts N 0 lo++e++parts N hi 16777216=X:=⟨_,rfl⟩;rw[w]at u v ⊢;rw[show L++parts N 0 lo++e++(parts N hi 16777216++R)=L++(X++R)from by rw[<-w];simp[List.append_assoc]];rw[Di L (X++R) (λa b ha hb=>by
  have z:=List.mem_of_getLast? ha;have f:=List.mem_of_mem_head? hb;rcases List.mem_append.1 f with f|f
  ·exact u a z b f
  ·exact Q a z b f)]
 rw[Di X R (λa b ha hb=>v a (List.mem_of_getLast? ha) b (List.mem_of_mem_head? hb)),Zqv L m,Zqv R o,List.append_assoc]
theorem Ma{l:List Ext}{e:Ext}(h:Chk l)(a:Qb e=true):Gw l e=Nl l e.fr++Gw (Ki l e.fr e.end_) e++D7 l e.end_:=by
 have k:=Qg a;have c:e.end_=e.fr+e.n:=rfl;exact Qks h k.1 (by omega) (by omega) [e] (λx b=>by rw[List.mem_singleton.1 b];exact⟨a,rfl,rfl⟩)
theorem Qk6{l:List Ext}{fr n:Int}(h:Chk l)(h1:0<=fr)(h2:0<=n)(h3:fr+n<=16777216):Eb l fr n=Nl l fr++Eb (Ki l fr (fr+n)) fr n++D7 l (fr+n):=by
 have:=Qks h h1 (show fr<=fr+n by omega) h3 [] (λx a=>by simp at a);simpa[Eb]using this
theorem Qqh{l:List Ext}(h:Chk l)(lo hi:Int):Chk (Ki l lo hi):=⟨λe a=>h.one e (List.mem_filter.1 a).1,h.ord.filter _⟩
def Inc(l:List Ext):Prop:=l.Pairwise λa b=>a.fr<b.fr
theorem Qnn:∀{l r:List Ext},Inc l->Inc r->(∀x,x∈l↔x∈r)->l=r
 |[],[],_,_,_=>rfl
 |[],b::r,_,_,h=>absurd ((h b).2 (by simp)) (by simp)
 |a::l,[],_,_,h=>absurd ((h a).1 (by simp)) (by simp)
 |a::l,b::r,h1,h2,h=>by
  have p1:=List.pairwise_cons.1 h1;have p2:=List.pairwise_cons.1 h2;have d:a=b:=by
   rcases List.mem_cons.1 ((h a).1 (by simp))with e|e
   ·exact e
   ·rcases List.mem_cons.1 ((h b).2 (by simp))with f|f
    ·exact f.symm
    ·have:=p1.1 b f;have:=p2.1 a e;omega
  subst d;congr 1;refine Qnn p1.2 p2.2 (λx=>⟨λc=>?_,λc=>?_⟩)
  ·rcases List.mem_cons.1 ((h x).1 (by simp[c]))with e|e
   ·subst e;have:=p1.1 x c;omega
   ·exact e
  ·rcases List.mem_cons.1 ((h x).2 (by simp[c]))with e|e
   ·subst e;have:=p2.1 x c;omega
   ·exact e
def ins(l:List Ext)(e:Ext):List Ext:=l.filter (λx=>decide (x.fr<e.fr))++e::l.filter (λx=>decide (e.fr<=x.fr))
def del(l:List Ext)(s:Int):List Ext:=l.filter λx=>decide (x.fr≠s)
theorem Qx2(l:List Ext)(e x:Ext):x∈ins l e↔x=e\/x∈l:=by
 unfold ins;simp only[List.mem_append,List.mem_cons,List.mem_filter,decide_eq_true_eq];constructor
 ·rintro(⟨h,_⟩|h|⟨h,_⟩)
  ·exact .inr h
  ·exact .inl h
  ·exact .inr h
 ·rintro(h|h)
  ·exact .inr (.inl h)
  ·rcases Int.lt_or_le x.fr e.fr with h2|h2
   ·exact .inl ⟨h,h2⟩
   ·exact .inr (.inr ⟨h,h2⟩)
theorem Qds{l:List Ext}{e:Ext}(h:Inc l)(c:∀x∈l,x.fr≠e.fr):Inc (ins l e):=by
 unfold ins Inc;refine List.pairwise_append.2 ⟨h.filter _,List.pairwise_cons.2 ⟨λx a=>?_,h.filter _⟩,λx a y b=>?_⟩
 ·have:=List.mem_filter.1 a;have h1:=c x this.1;have h2:e.fr<=x.fr:=by simpa using this.2
  omega
 ·have h1:x.fr<e.fr:=by simpa using(List.mem_filter.1 a).2
  rcases List.mem_cons.1 b with rfl|b
  ·exact h1
  ·have h2:e.fr<=y.fr:=by simpa using(List.mem_filter.1 b).2
   omega
theorem Q20(l:List Ext)(s:Int)(x:Ext):x∈del l s↔x∈l/\x.fr≠s:=by simp[del]
theorem Qd8{l:List Ext}(h:Inc l)(s:Int):Inc (del l s):=h.filter _
def takes(l was is:List Ext):List Ext:=(was.filter λe=>decide (e∉is)).foldl (λl e=>del l e.fr) l
def Qeu(l was is:List Ext):List Ext:=(is.filter λe=>decide (e∉was)).foldl ins (takes l was is)
theorem Le:∀(d l:List Ext) (x:Ext),x∈d.foldl (λl e=>del l e.fr) l↔x∈l/\∀e∈d,x.fr≠e.fr
 |[],l,x=>by simp
 |e::d,l,x=>by
  rw[List.foldl_cons,Le d,Q20];simp only[List.mem_cons,forall_eq_or_imp,and_assoc]
theorem Lb:∀(d l:List Ext),Inc l->Inc (d.foldl (λl e=>del l e.fr) l)
 |[],l,h=>h
 |e::d,l,h=>Lb d _ (Qd8 h _)
theorem Qgq:∀(d l:List Ext) (x:Ext),x∈d.foldl ins l↔x∈l\/x∈d
 |[],l,x=>by simp
 |e::d,l,x=>by
  rw[List.foldl_cons,Qgq d,Qx2,List.mem_cons];constructor
  ·rintro((h|h)|h)
   ·exact .inr (.inl h)
   ·exact .inl h
   ·exact .inr (.inr h)
  ·rintro(h|h|h)
   ·exact .inl (.inr h)
   ·exact .inl (.inl h)
   ·exact .inr h
theorem Qgz:∀(d l:List Ext),Inc l->Inc d->(∀x∈l,∀e∈d,x.fr≠e.fr)->Inc (d.foldl ins l)
 |[],l,h,_,_=>h
 |e::d,l,h,hd,hn=>by
  rw[List.foldl_cons];have p:=List.pairwise_cons.1 hd;refine Qgz d _ (Qds h (λx a=>hn x a e (by simp))) p.2 (λx a y b=>?_);rcases(Qx2 l e x).1 a with rfl|a
  ·have:=p.1 y b;omega
  ·exact hn x a y (by simp[b])
theorem Qs7{L W R V:List Ext}(h1:Inc (L++W++R))(h2:Inc (L++V++R)):Qeu (L++W++R) W V=L++V++R:=by
 have l:∀x∈L++W++R,∀y∈L++W++R,x.fr=y.fr->x=y:=by
  intro x a y m f;obtain⟨i,hi,rfl⟩:=List.mem_iff_getElem.1 a;obtain⟨j,g,rfl⟩:=List.mem_iff_getElem.1 m;rcases Nat.lt_trichotomy i j with h|h|h
  ·have:=List.pairwise_iff_getElem.1 h1 i j hi g h;omega
  ·subst h;rfl
  ·have:=List.pairwise_iff_getElem.1 h1 j i g hi h;omega
 have n:∀x∈L++V++R,∀y∈L++V++R,x.fr=y.fr->x=y:=by
  intro x a y m f;obtain⟨i,hi,rfl⟩:=List.mem_iff_getElem.1 a;obtain⟨j,g,rfl⟩:=List.mem_iff_getElem.1 m;rcases Nat.lt_trichotomy i j with h|h|h
  ·have:=List.pairwise_iff_getElem.1 h2 i j hi g h;omega
  ·subst h;rfl
  ·have:=List.pairwise_iff_getElem.1 h2 j i g hi h;omega
 have o:∀x,x∈takes (L++W++R) W V↔x∈L\/(x∈W/\x∈V)\/x∈R:=by
  intro x;unfold takes;rw[Le];constructor
  ·rintro⟨a,v⟩;simp only[List.mem_append]at a;rcases a with(a|a)|a
   ·exact .inl a
   ·refine .inr (.inl ⟨a,?_⟩);by_cases p:x∈V
    ·exact p
    ·exact absurd rfl (v x (List.mem_filter.2 ⟨a,by simpa using p⟩))
   ·exact .inr (.inr a)
  ·intro a;have t:x∈L++W++R:=by
    simp only[List.mem_append];rcases a with h|h|h
    ·exact .inl (.inl h)
    ·exact .inl (.inr h.1)
    ·exact .inr h
   have p:x∈L++V++R:=by
    simp only[List.mem_append];rcases a with h|h|h
    ·exact .inl (.inl h)
    ·exact .inl (.inr h.2)
    ·exact .inr h
   refine⟨t,λe f d=>?_⟩;obtain⟨c,b⟩:=List.mem_filter.1 f;have:=l x t e (by simp[c]) d;subst this;rcases a with h|h|h
   ·have h3:=List.pairwise_append.1 (List.pairwise_append.1 h1).1;have:=h3.2.2 x h x c;omega
   ·simp at b;exact b h.2
   ·have h3:=(List.pairwise_append.1 h1).2.2 x (by simp[c]) x h;omega
 have q:Inc (takes (L++W++R) W V):=Lb _ _ h1;unfold Qeu;have r:Inc V:=(List.pairwise_append.1 (List.pairwise_append.1 h2).1).2.1;refine Qnn (Qgz _ _ q (r.filter _) ?_) h2 ?_
 ·intro x a e f d;obtain⟨b,c⟩:=List.mem_filter.1 f;have k:e∉W:=by simpa using c
  have s:x∈L++V++R:=by
   simp only[List.mem_append];rcases(o x).1 a with h|h|h
   ·exact .inl (.inl h)
   ·exact .inl (.inr h.2)
   ·exact .inr h
  have:=n x s e (by simp[b]) d;subst this;rcases(o x).1 a with h|h|h
  ·have h3:=List.pairwise_append.1 (List.pairwise_append.1 h2).1;have:=h3.2.2 x h x b;omega
  ·exact k h.1
  ·have h3:=(List.pairwise_append.1 h2).2.2 x (by simp[b]) x h;omega
 ·intro x;rw[Qgq,o];simp only[List.mem_append,List.mem_filter];constructor
  ·rintro((h|h|h)|h)
   ·exact .inl (.inl h)
   ·exact .inl (.inr h.2)
   ·exact .inr h
   ·exact .inl (.inr h.1)
  ·rintro((h|h)|h)
   ·exact .inl (.inl h)
   ·by_cases u:x∈W
    ·exact .inl (.inr (.inl ⟨u,h⟩))
    ·exact .inr ⟨h,by simpa using u⟩
   ·exact .inl (.inr (.inr h))
theorem Q2b{P M Q:List Ext}{e:Ext}(b:∀x∈P,x.fr<e.fr)(c:∀x∈Q,e.fr<x.fr):ins (P++M++Q) e=P++ins M e++Q:=by
 unfold ins;simp only[List.filter_append];rw[filter_all (l:=P) (λx a=>by simpa using b x a),Es (l:=Q) (λx a=>by have:=c x a;simp;omega),Es (l:=P) (λx a=>by have:=b x a;simp;omega),filter_all (l:=Q) (λx a=>by have:=c x a;simp;omega)];simp[List.append_assoc]
theorem Q2w{P M Q:List Ext}{s:Int}(b:∀x∈P,x.fr<s)(c:∀x∈Q,s<x.fr):del (P++M++Q) s=P++del M s++Q:=by
 unfold del;simp only[List.filter_append];rw[filter_all (l:=P) (λx a=>by have:=b x a;simp;omega),filter_all (l:=Q) (λx a=>by have:=c x a;simp;omega)]
theorem Qdr(l:List Ext)(e:Ext):(ins l e).length=l.length+1:=by
 unfold ins;rw[List.length_append,List.length_cons];have h:∀l:List Ext,(l.filter λx=>decide (x.fr<e.fr)).length+(l.filter λx=>decide (e.fr<=x.fr)).length=l.length:=by
  intro l;induction l with
  |nil=>rfl
  |cons a l ih=>
   simp only[List.filter_cons];by_cases h1:a.fr<e.fr
   ·have h2:¬e.fr<=a.fr:=by omega
    simp[h1,h2];omega
   ·have h2:e.fr<=a.fr:=by omega
    simp[h1,h2];omega
 have:=h l;omega
theorem Q21{l:List Ext}(h:Inc l)(s:Int):(del l s).length<=l.length/\l.length<=(del l s).length+1:=by
 refine⟨List.length_filter_le _ _,?_⟩;unfold del;induction l with
 |nil=>simp
 |cons a l ih=>
  have b:=List.pairwise_cons.1 h;rw[List.filter_cons];by_cases ha:a.fr=s
  ·have c:l.filter (λx=>decide (x.fr≠s))=l:=filter_all (λx d=>by have:=b.1 x d;simp;omega);rw[c];simp[ha]
  ·have:=ih b.2;simp only[ne_eq,ha,not_false_eq_true,decide_true,if_true,List.length_cons]at this ⊢;omega
theorem R9{l:List Ext}{a b:Int}(h:Chk l)(ha:0<=a)(hb:b<=16777216):Chk (parts l a b):=by
 refine⟨λx d=>?_,?_⟩
 ·obtain⟨y,c,o⟩:=Js d;exact(Jy o (h.one y c) ha hb).1
 ·unfold parts;refine List.Pairwise.filterMap _ ?_ (List.Pairwise.and_mem.1 h.ord);intro x y ⟨d,c,t,p⟩ e g i j;have f:=Jy g (h.one x d) ha hb;have k:=Jy j (h.one y c) ha hb;have ex:=Ec h d;have u:=Ec h c;have v:=Qg f.1;have w:=Qg k.1;have q1:e.end_=e.fr+e.n:=rfl;have z:i.end_=i.fr+i.n:=rfl;have F:x.end_=x.fr+x.n:=rfl;have H:y.end_=y.fr+y.n:=rfl;refine⟨by omega,?_⟩;have m:Like e x:=by
   refine⟨by omega,f.2.2.2.1,?_⟩;rw[f.2.2.2.1];split
   ·rename_i r;rw[f.2.2.2.2,if_pos r];omega
   ·rfl
  rw[m.tog,<-p];refine Wi (by omega) k.2.2.2.1 ?_;rw[k.2.2.2.2];rcases(Qg (h.one y c)).2.2.2 with⟨q,s⟩|⟨q,_⟩
  ·rw[if_neg (by omega)];exact s.symm
  ·rw[if_pos q];omega
theorem Qs4{l:List Ext}{lo hi:Int}(h:Chk l)(b:lo<=hi):parts (Ki l lo hi) lo hi=parts l lo hi:=by
 conv=>rhs;rw[three h b]
 rw[Jf,Jf,Hl (l:=Nl l lo) (λx a=>Em (.inl (by
  have:=(List.mem_filter.1 a).2;simp at this;omega))),Hl (l:=D7 l hi) (λx a=>Em (.inr (.inl (by
  have:=(List.mem_filter.1 a).2;simp at this;omega)))),List.append_nil,List.nil_append]
theorem Qvl{out:List Ext}{e:Ext}(h:∀x∈out,Qb x=true)(c:Qb e=true):∀x∈push out e,Qb x=true:=by
 intro x b;rcases List.eq_nil_or_concat out with rfl|⟨o,a,rfl⟩
 ·simp[push]at b;rw[b];exact c
 ·rw[List.concat_eq_append]at h b;rw[Gm]at b;split at b
  ·rename_i d;rcases List.mem_append.1 b with b|b
   ·exact h x (by simp[b])
   ·rw[List.mem_singleton.1 b];exact Qqi (h a (by simp)) c d
  ·rcases List.mem_append.1 b with b|b
   ·exact h x b
   ·rw[List.mem_singleton.1 b];exact c
def hasB(s:Int)(e:Ext):Bool:=decide (e.fr<=s)&&decide (s-e.fr<e.n)
def sayOf(s:Int)(o:Option Ext):Int×Int:=
 match o with
 |some e=>(e.kind,if e.kind=2 then e.at_+s-e.fr else 0)
 |none=>(0,0)
def Zb(l:List Ext)(s:Int):Int×Int:=sayOf s (l.find? (hasB s))
theorem Qgm{l:List Ext}(h:Chk l)(s:Int):Zb l s=match l.find? (λe=>decide (s<e.end_))with|some e=>Zb [e] s|none=>(0,0):=by
 induction l with
 |nil=>rfl
 |cons a l ih=>
  have k:=Qg (h.one a (by simp));have i:a.end_=a.fr+a.n:=rfl;have d:=(List.pairwise_cons.1 h.ord).1;rw[List.find?_cons];by_cases h1:s<a.end_
  ·have c:decide (s<a.end_)=true:=by simpa using h1
   rw[c];simp only;by_cases h2:a.fr<=s
   ·have b:hasB s a=true:=by unfold hasB;simp;omega
    unfold Zb;rw[List.find?_cons,List.find?_cons,b]
   ·have b:hasB s a=false:=by unfold hasB;simp;omega
    have f:l.find? (hasB s)=none:=by
     rw[List.find?_eq_none];intro x g;have:=(d x g).1;unfold hasB;simp;omega
    unfold Zb;rw[List.find?_cons,List.find?_cons,b];simp only[f,List.find?_nil]
  ·have c:decide (s<a.end_)=false:=by simpa using h1
   rw[c];simp only;rw[<-ih h.tail];have b:hasB s a=false:=by unfold hasB;simp;omega
   unfold Zb;rw[List.find?_cons,b]
def Xp:List Ext->Bool
 |[]=>true
 |[e]=>Qb e
 |a::b::r=>Qb a&&decide (a.end_<=b.fr)&&!tog a b&&Xp (b::r)
theorem Og:∀(l:List Ext),Xp l=true->Chk l
 |[],_=>Dk
 |[e],h=>⟨λx c=>by rw[List.mem_singleton.1 c];exact h,by simp⟩
 |a::b::r,h=>by
  simp only[Xp,Bool.and_eq_true,decide_eq_true_eq,Bool.not_eq_true']at h;obtain⟨⟨⟨h1,h2⟩,h3⟩,h4⟩:=h;have d:=Og (b::r) h4;have f:=List.pairwise_cons.1 d.ord;have hb:=Qg (d.one b (by simp));have g:b.end_=b.fr+b.n:=rfl;refine⟨λx c=>?_,List.pairwise_cons.2 ⟨λx c=>?_,d.ord⟩⟩
  ·rcases List.mem_cons.1 c with rfl|c
   ·exact h1
   ·exact d.one x c
  ·rcases List.mem_cons.1 c with rfl|c
   ·exact⟨h2,h3⟩
   ·have:=(f.1 x c).1;exact⟨by omega,Ah (by omega)⟩
theorem Uo:∀(l:List Ext),Chk l->Xp l=true
 |[],_=>rfl
 |[e],h=>h.one e (by simp)
 |a::b::r,h=>by
  have c:=(List.pairwise_cons.1 h.ord).1 b (by simp);simp only[Xp,Bool.and_eq_true,decide_eq_true_eq,Bool.not_eq_true'];exact⟨⟨⟨h.one a (by simp),c.1⟩,c.2⟩,Uo (b::r) h.tail⟩
def handed(g:Ext->Bool):List Ext->List Ext
 |[]=>[]
 |e::r=>if g e=true then e::handed g r else[e]
theorem Ot(g:Ext->Bool):∀(l r:List Ext),handed g (l++r)=if l.all g=true then l++handed g r else handed g l
 |[],r=>by simp
 |e::l,r=>by
  have b:=Ot g l r;have a:∀(x:Ext) (q:List Ext),handed g (x::q)=if g x=true then x::handed g q else[x]:=λ_ _=>rfl;rw[List.cons_append,a,a,List.all_cons];by_cases h:g e=true
  ·rw[if_pos h,b,if_pos h,h,Bool.true_and];split<;>rfl
  ·rw[if_neg h,if_neg h,if_neg (by simp[h])]
theorem Gi{g:Ext->Bool}:∀{l:List Ext},l.all g=true->handed g l=l
 |[],_=>rfl
 |e::l,h=>by
  simp only[List.all_cons,Bool.and_eq_true]at h;unfold handed;rw[if_pos h.1,Gi h.2]
theorem Tm(g:Ext->Bool):∀(l:List Ext),(handed g l).filter g=l.takeWhile g
 |[]=>rfl
 |e::l=>by
  unfold handed;by_cases h:g e=true
  ·rw[if_pos h,List.filter_cons,if_pos h,Tm g l,List.takeWhile_cons,if_pos h]
  ·rw[if_neg h,List.takeWhile_cons,if_neg h];simp[h]
theorem V7{hi:Int}:∀{l:List Ext},Inc l->l.takeWhile (λx=>decide (x.fr<=hi))=l.filter λx=>decide (x.fr<=hi)
 |[],_=>rfl
 |e::l,h=>by
  have b:=List.pairwise_cons.1 h;rw[List.takeWhile_cons,List.filter_cons];by_cases a:e.fr<=hi
  ·rw[if_pos (by simpa using a),if_pos (by simpa using a),V7 b.2]
  ·rw[if_neg (by simpa using a),if_neg (by simpa using a),List.filter_eq_nil_iff.2];intro x c;have:=b.1 x c;simp;omega
def Qd(l:List Ext)(s:Int):List Ext:=l.filter λe=>decide (s<e.end_)
theorem O6(l r:List Ext)(s:Int):Qd (l++r) s=Qd l s++Qd r s:=by simp[Qd]
theorem Qvs{l:List Ext}(h:Inc l)(s:Int):Inc (Qd l s):=h.filter _
theorem Qvt{l:List Ext}(h:Chk l):Qd l (-1)=l:=by
 unfold Qd;rw[List.filter_eq_self];intro e a;have:=Ec h a;simp;omega
theorem Qrw{l:List Ext}{s:Int}(h:∀x∈l,x.end_<=s):Qd l s=[]:=by
 unfold Qd;rw[List.filter_eq_nil_iff];intro x a;have:=h x a;simp;omega
theorem Qr6{l:List Ext}(h:Chk l)(lo hi:Int):(handed (λx=>decide (x.fr<=hi)) (Qd l (lo-1))).filter (λx=>decide (x.fr<=hi))=Ki l lo hi:=by
 rw[Tm,V7 (Qvs (G7 h) _)];unfold Qd Ki Yt;rw[List.filter_filter];refine List.filter_congr λx _=>?_;congr 1;exact decide_eq_decide.2 (by omega)
theorem Q4r{l:List Ext}{e:Ext}:∀{i:Nat},i<=l.length->(∀j x,j<i->l[j]? =some x->x.fr<e.fr)->(∀j x,i<=j->l[j]? =some x->e.fr<=x.fr)->ins l e=l.take i++e::l.drop i:=by
 intro i hi h1 h2;unfold ins;have c:l=l.take i++l.drop i:=(List.take_append_drop i l).symm;have d:∀x∈l.take i,x.fr<e.fr:=λx a=>by
  obtain⟨j,b,rfl⟩:=List.mem_iff_getElem.1 a;rw[List.length_take]at b;rw[List.getElem_take];exact h1 j _ (by omega) (List.getElem?_eq_getElem (by omega))
 have f:∀x∈l.drop i,e.fr<=x.fr:=λx a=>by
  obtain⟨j,b,rfl⟩:=List.mem_iff_getElem.1 a;rw[List.length_drop]at b;rw[List.getElem_drop];exact h2 (i+j) _ (by omega) (List.getElem?_eq_getElem (by omega))
 have g:l.filter (λx=>decide (x.fr<e.fr))=l.take i:=by
  conv=>lhs;rw[c]
  rw[List.filter_append,filter_all (λx a=>by simpa using d x a),Es (λx a=>by have:=f x a;simp;omega),List.append_nil]
 have h:l.filter (λx=>decide (e.fr<=x.fr))=l.drop i:=by
  conv=>lhs;rw[c]
  rw[List.filter_append,Es (λx a=>by have:=d x a;simp;omega),filter_all (λx a=>by simpa using f x a),List.nil_append]
 rw[g,h]
theorem Au{l:List Ext}{p:Ext->Bool}{j:Nat}{e:Ext}(a:l[j]? =some e):(l.take (j+1)).filter p=(l.take j).filter p++(if p e=true then[e]else[]):=by
 obtain⟨b,rfl⟩:=List.getElem?_eq_some_iff.1 a;rw[List.take_succ_eq_append_getElem b,List.filter_append];congr 1;by_cases h:p l[j]=true<;>simp[h]
structure Lf where
 a:Int
 l:List Ext
inductive Tree where
 |no
 |one (x:Lf)
 |two (a:Int) (x y:Lf)
def Tree.flat:Tree->List Ext
 |.no=>[]
 |.one x=>x.l
 |.two _ x y=>x.l++y.l
def Sm:List Ext->Int
 |[]=>0
 |e::_=>e.fr
def Tree.Ok:Tree->Prop
 |.no=>True
 |.one x=>1<=x.l.length/\x.l.length<=8
 |.two _ x y=>4<=x.l.length/\4<=y.l.length/\x.l.length+y.l.length<=10
def halves(l:List Ext)(k:Nat):=Tree.two (-1) ⟨-1,l.take k⟩ ⟨-1,l.drop k⟩
def Tree.put:Tree->Ext->Tree
 |.no,e=>.one ⟨-1,[e]⟩
 |.one x,e=>if x.l.length<8 then .one ⟨-1,ins x.l e⟩else halves (ins x.l e) 4
 |.two _ x y,e=>if Sm y.l<=e.fr then .two (-1) x ⟨-1,ins y.l e⟩else .two (-1) ⟨-1,ins x.l e⟩ y
def Tree.take:Tree->Int->Tree
 |.no,_=>.no
 |.one x,s=>if del x.l s=[]then .no else .one ⟨-1,del x.l s⟩
 |.two _ x y,s=>
  if Sm y.l<=s then
   if 4<=(del y.l s).length then .two (-1) x ⟨-1,del y.l s⟩else if 4<x.l.length then halves (x.l++del y.l s) (x.l.length-1)else .one ⟨-1,x.l++del y.l s⟩
  else if 4<=(del x.l s).length then .two (-1) ⟨-1,del x.l s⟩ y else if 4<y.l.length then halves (del x.l s++y.l) ((del x.l s).length+1)else .one ⟨-1,del x.l s++y.l⟩
theorem Zqd{l:List Ext}(h:Inc l):∀x∈l,Sm l<=x.fr:=by
 cases l with
 |nil=>simp
 |cons a l=>
  have:=(List.pairwise_cons.1 h).1;intro x b;rcases List.mem_cons.1 b with rfl|b
  ·exact Int.le_refl _
  ·exact Int.le_of_lt (this x b)
theorem Q9h{l r:List Ext}(h:Inc (l++r))(b:1<=r.length):(∀x∈l,x.fr<Sm r)/\∀x∈r,Sm r<=x.fr:=by
 have p:=List.pairwise_append.1 h;refine⟨λx c=>?_,Zqd p.2.1⟩;cases r with
 |nil=>simp at b
 |cons a r=>exact p.2.2 x c a (by simp)
theorem Q8a(l:List Ext)(k:Nat):(halves l k).flat=l:=List.take_append_drop k l
theorem Qvb{t:Tree}{e:Ext}(h:t.Ok)(hi:Inc t.flat)(b:t.flat.length<=9):(t.put e).flat=ins t.flat e/\(t.put e).Ok:=by
 cases t with
 |no=>exact⟨rfl,by simp[Tree.put,Tree.Ok]⟩
 |one x=>
  have c:=Qdr x.l e;have h:1<=x.l.length/\x.l.length<=8:=h;simp only[Tree.put];split
  ·exact⟨rfl,by simp only[Tree.Ok];omega⟩
  ·exact⟨Q8a _ _,by simp only[halves,Tree.Ok,List.length_take,List.length_drop];omega⟩
 |two a x y=>
  obtain⟨h1,h2,h3⟩:4<=x.l.length/\4<=y.l.length/\x.l.length+y.l.length<=10:=h;obtain⟨s1,s2⟩:=Q9h hi (by omega);have d:=Qdr x.l e;have f:=Qdr y.l e;simp only[Tree.flat,List.length_append]at b;simp only[Tree.put];split
  ·have:=Q2b (P:=x.l) (M:=y.l) (Q:=[]) (e:=e) (λz hz=>by have:=s1 z hz;omega) (by simp);exact⟨by simpa[Tree.flat]using this.symm,by simp only[Tree.Ok];omega⟩
  ·have:=Q2b (P:=[]) (M:=x.l) (Q:=y.l) (e:=e) (by simp) (λz hz=>by have:=s2 z hz;omega);exact⟨by simpa[Tree.flat]using this.symm,by simp only[Tree.Ok];omega⟩
theorem Ql7{t:Tree}{s:Int}(h:t.Ok)(hi:Inc t.flat):(t.take s).flat=del t.flat s/\(t.take s).Ok:=by
 cases t with
 |no=>exact⟨rfl,trivial⟩
 |one x=>
  have c:=Q21 (l:=x.l) hi s;have h:1<=x.l.length/\x.l.length<=8:=h;simp only[Tree.take];split
  ·rename_i q;exact⟨q.symm,trivial⟩
  ·rename_i q;have:=List.length_pos_iff.2 q;exact⟨rfl,by simp only[Tree.Ok];omega⟩
 |two a x y=>
  obtain⟨h1,h2,h3⟩:4<=x.l.length/\4<=y.l.length/\x.l.length+y.l.length<=10:=h;obtain⟨s1,s2⟩:=Q9h hi (by omega);have p:=List.pairwise_append.1 (show List.Pairwise _ (x.l++y.l)from hi);have d:=Q21 (l:=x.l) p.1 s;have e:=Q21 (l:=y.l) p.2.1 s;simp only[Tree.take];split
  ·have b:=Q2w (P:=x.l) (M:=y.l) (Q:=[]) (s:=s) (λz hz=>by have:=s1 z hz;omega) (by simp);have b:x.l++del y.l s=del (x.l++y.l) s:=by simpa using b.symm
   split
   ·exact⟨b,by simp only[Tree.Ok];omega⟩
   ·split
    ·exact⟨(Q8a _ _).trans b,by simp only[halves,Tree.Ok,List.length_take,List.length_drop,List.length_append];omega⟩
    ·exact⟨b,by simp only[Tree.Ok,List.length_append];omega⟩
  ·have b:=Q2w (P:=[]) (M:=x.l) (Q:=y.l) (s:=s) (by simp) (λz hz=>by have:=s2 z hz;omega);have b:del x.l s++y.l=del (x.l++y.l) s:=by simpa using b.symm
   split
   ·exact⟨b,by simp only[Tree.Ok];omega⟩
   ·split
    ·exact⟨(Q8a _ _).trans b,by simp only[halves,Tree.Ok,List.length_take,List.length_drop,List.length_append];omega⟩
    ·exact⟨b,by simp only[Tree.Ok,List.length_append];omega⟩
def Tree.takes(t:Tree)(d:List Ext):Tree:=d.foldl (λt e=>t.take e.fr) t
def Tree.puts(t:Tree)(d:List Ext):Tree:=d.foldl Tree.put t
def nin(W:List Ext)(e:Ext):Bool:=decide (e∉W)
def Tree.change(t:Tree)(W V:List Ext):Tree:=(t.takes (W.filter (nin V))).puts (V.filter (nin W))
theorem F8:∀(d:List Ext) (t:Tree),t.Ok->Inc t.flat->(t.takes d).flat=d.foldl (λl e=>del l e.fr) t.flat/\(t.takes d).Ok
 |[],t,h,_=>⟨rfl,h⟩
 |e::d,t,h,hi=>by
  obtain⟨h1,h2⟩:=Ql7 (s:=e.fr) h hi;have:=F8 d (t.take e.fr) h2 (by rw[h1];exact Qd8 hi _);rw[h1]at this;exact this
theorem Qdo:∀(d:List Ext) (t:Tree),t.Ok->Inc t.flat->Inc d->(∀x∈t.flat,∀e∈d,x.fr≠e.fr)->t.flat.length+d.length<=10->(t.puts d).flat=d.foldl ins t.flat/\(t.puts d).Ok
 |[],t,h,_,_,_,_=>⟨rfl,h⟩
 |e::d,t,h,hi,hd,hn,hl=>by
  rw[List.length_cons]at hl;obtain⟨h1,h2⟩:=Qvb (e:=e) h hi (by omega);have p:=List.pairwise_cons.1 hd;have:=Qdo d (t.put e) h2 (by rw[h1];exact Qds hi (λx a=>hn x a e (by simp))) p.2 (λx a y b=>by
   rw[h1]at a;rcases(Qx2 _ _ _).1 a with rfl|a
   ·have:=p.1 y b;omega
   ·exact hn x a y (by simp[b])) (by rw[h1,Qdr];omega)
  rw[h1]at this;exact this
theorem Zqj{l:List Ext}(h:Inc l){x y:Ext}(b:x∈l)(c:y∈l)(e:x.fr=y.fr):x=y:=by
 obtain⟨i,hi,rfl⟩:=List.mem_iff_getElem.1 b;obtain⟨j,a,rfl⟩:=List.mem_iff_getElem.1 c;have p:=List.pairwise_iff_getElem.1 h;rcases Nat.lt_trichotomy i j with h|h|h
 ·have:=p i j hi a h;omega
 ·subst h;rfl
 ·have:=p j i a hi h;omega
theorem Q97{t:Tree}{L W R V:List Ext}(h:t.Ok)(b:t.flat=L++W++R)(h1:Inc (L++W++R)):(t.takes (W.filter (nin V))).Ok/\Inc (t.takes (W.filter (nin V))).flat/\∀x,x∈(t.takes (W.filter (nin V))).flat↔(x∈L++W++R)/\∀e∈W.filter (nin V),x.fr≠e.fr:=by
 obtain⟨a,c⟩:=F8 (W.filter (nin V)) t h (by rw[b];exact h1);rw[b]at a;exact⟨c,by rw[a];exact Lb _ _ h1,λx=>by rw[a];exact Le _ _ x⟩
theorem Qap{t:Tree}{L W R V:List Ext}(h:t.Ok)(b:t.flat=L++W++R)(h1:Inc (L++W++R))(j:Nat):(t.takes ((W.take j).filter (nin V))).Ok/\Inc (t.takes ((W.take j).filter (nin V))).flat/\∀e,W[j]? =some e->e∉V->(t.takes ((W.take j).filter (nin V))).flat≠[]:=by
 obtain⟨a,g⟩:=F8 ((W.take j).filter (nin V)) t h (by rw[b];exact h1);rw[b]at a;refine⟨g,by rw[a];exact Lb _ _ h1,λe c k l=>?_⟩;have m:=h1.sublist ((List.sublist_append_right L W).trans (List.sublist_append_left _ R));have f:=(Le ((W.take j).filter (nin V)) (L++W++R) e).2 ⟨by simp[List.mem_of_getElem? c],λd n=>by
  obtain⟨i,hi,rfl⟩:=List.mem_iff_getElem.1 (List.mem_filter.1 n).1;obtain⟨o,rfl⟩:=List.getElem?_eq_some_iff.1 c;rw[List.length_take]at hi;have:=List.pairwise_iff_getElem.1 m i j (by omega) o (by omega);rw[List.getElem_take];omega⟩
 rw[<-a,l]at f;simp at f
theorem Qpb{t:Tree}{L W R V:List Ext}(h:t.Ok)(g:t.flat=L++W++R)(h1:Inc (L++W++R))(h2:Inc (L++V++R)):∀x∈(t.takes (W.filter (nin V))).flat,∀e∈V.filter (nin W),x.fr≠e.fr:=by
 intro x a e i f;obtain⟨a,j⟩:=((Q97 h g h1).2.2 x).1 a;obtain⟨b,c⟩:=List.mem_filter.1 i;simp only[nin,decide_eq_true_eq]at c;by_cases d:x∈L++V++R
 ·exact c (by
   have:=Zqj h2 d (y:=e) (by simp[b]) f;subst this;have p:=List.pairwise_append.1 h2;have q:=List.pairwise_append.1 p.1;simp only[List.mem_append]at a;rcases a with(a|a)|a
   ·have:=q.2.2 x a x b;omega
   ·exact a
   ·have:=p.2.2 x (by simp[b]) x a;omega)
 ·simp only[List.mem_append,not_or]at a d;exact j x (List.mem_filter.2 ⟨by rcases a with(a|a)|a;exact absurd a d.1.1;exact a;exact absurd a d.2,by simp[nin,d.1.2]⟩) rfl
theorem Qfi{t:Tree}{L W R V:List Ext}(h:t.Ok)(c:t.flat=L++W++R)(h1:Inc (L++W++R))(h2:Inc (L++V++R))(f:(L++V++R).length<=10)(j:Nat):((t.takes (W.filter (nin V))).puts ((V.take j).filter (nin W))).flat=((V.take j).filter (nin W)).foldl ins (t.takes (W.filter (nin V))).flat/\((t.takes (W.filter (nin V))).puts ((V.take j).filter (nin W))).Ok/\Inc ((t.takes (W.filter (nin V))).puts ((V.take j).filter (nin W))).flat/\(∀e,V[j]? =some e->e∉W->((t.takes (W.filter (nin V))).puts ((V.take j).filter (nin W))).flat.length<=9):=by
 obtain⟨p,i,v⟩:=Q97 (V:=V) h c h1;have k:=Qpb h c h1 h2;have m:=h2.sublist ((List.sublist_append_right L V).trans (List.sublist_append_left _ R));have sub:∀e∈(V.take j).filter (nin W),e∈V.filter (nin W):=λe b=>(List.Sublist.filter _ (List.take_sublist j V)).mem b;have a:∀(d l:List Ext),(d.foldl ins l).length=l.length+d.length:=by
  intro d;induction d with
  |nil=>intro l;rfl
  |cons e d ih=>intro l;rw[List.foldl_cons,ih,Qdr,List.length_cons];omega
 have q:=Qs7 h1 h2;have n:=(F8 (W.filter (nin V)) t h (by rw[c];exact h1)).1;rw[c]at n;have o:(t.takes (W.filter (nin V))).flat.length+(V.filter (nin W)).length<=10:=by
  rw[<-a,n];have e:(V.filter (nin W)).foldl ins ((W.filter (nin V)).foldl (λl e=>del l e.fr) (L++W++R))=L++V++R:=q;rw[e];exact f
 have r:=(List.Sublist.filter (nin W) (List.take_sublist j V)).length_le;obtain⟨q1,s⟩:=Qdo ((V.take j).filter (nin W)) _ p i ((m.sublist (List.take_sublist j V)).filter _) (λx g e b=>k x g e (sub e b)) (by omega);refine⟨q1,s,by rw[q1];exact Qgz _ _ i ((m.sublist (List.take_sublist j V)).filter _) (λx g e b=>k x g e (sub e b)),λe b u=>?_⟩;rw[q1,a];have h3:((V.take (j+1)).filter (nin W)).length<=(V.filter (nin W)).length:=(List.Sublist.filter (nin W) (List.take_sublist (j+1) V)).length_le;rw[Au b,List.length_append,if_pos (by simp[nin,u])]at h3;simp only[List.length_cons,List.length_nil]at h3;omega
theorem Qji{t:Tree}{L W R V:List Ext}(h:t.Ok)(a:t.flat=L++W++R)(h1:Inc (L++W++R))(h2:Inc (L++V++R))(b:(L++V++R).length<=10):(t.change W V).flat=L++V++R/\(t.change W V).Ok:=by
 have:=Qfi h a h1 h2 b V.length;rw[List.take_length]at this;refine⟨this.1.trans ?_,this.2.1⟩;have c:=(F8 (W.filter (nin V)) t h (by rw[a];exact h1)).1;rw[a]at c;rw[c];exact Qs7 h1 h2
def Tree.over(t:Tree)(e:Ext):Tree:=t.change (Ki t.flat e.fr e.end_) (Gw (Ki t.flat e.fr e.end_) e)
def Tree.cut(t:Tree)(fr n:Int):Tree:=t.change (Ki t.flat fr (fr+n)) (Eb (Ki t.flat fr (fr+n)) fr n)
theorem Q9y{l:List Ext}{e:Ext}(a:Chk l)(b:Qb e=true):∃L R,l=L++Ki l e.fr e.end_++R/\Gw l e=L++Gw (Ki l e.fr e.end_) e++R/\Inc l/\Inc (Gw l e)/\Chk (Gw l e):=by
 have k:=Qg b;have c:e.end_=e.fr+e.n:=rfl;exact⟨_,_,three a (by omega),Ma a b,G7 a,G7 (Bc a b),Bc a b⟩
theorem Q9r{l:List Ext}{fr n:Int}(a:Chk l)(h1:0<=fr)(h2:0<=n)(h3:fr+n<=16777216):∃L R,l=L++Ki l fr (fr+n)++R/\Eb l fr n=L++Eb (Ki l fr (fr+n)) fr n++R/\Inc l/\Inc (Eb l fr n)/\Chk (Eb l fr n):=
 ⟨_,_,three a (by omega),Qk6 a h1 h2 h3,G7 a,G7 (S9 a h1 h2 h3),S9 a h1 h2 h3⟩
theorem Qz6{t:Tree}{e:Ext}(h:t.Ok)(c:Chk t.flat)(d:Qb e=true)(a:(Gw t.flat e).length<=10):(t.over e).flat=Gw t.flat e/\(t.over e).Ok:=by
 obtain⟨L,R,q1,f,g,b,_⟩:=Q9y c d;rw[f]at a b ⊢;exact Qji h q1 (q1▸g) b a
theorem Qe2{t:Tree}{fr n:Int}(h:t.Ok)(c:Chk t.flat)(h1:0<=fr)(h2:0<=n)(h3:fr+n<=16777216)(a:(Eb t.flat fr n).length<=10):(t.cut fr n).flat=Eb t.flat fr n/\(t.cut fr n).Ok:=by
 obtain⟨L,R,q1,d,e,b,_⟩:=Q9r c h1 h2 h3;rw[d]at a b ⊢;exact Qji h q1 (q1▸e) b a
structure Kid where
 key:Int
 at_:Int
inductive Pg where
 |leaf (l:List Ext)
 |inner (l:List Kid)
def Tree.ats:Tree->List Int
 |.no=>[]
 |.one x=>[x.a]
 |.two a x y=>[x.a,y.a,a]
def Tree.nfs(t:Tree):List Int:=t.ats.filter λa=>decide (a≠-1)
def Tree.fr(t:Tree):Nat:=(t.ats.filter λa=>decide (a= -1)).length
def Tree.high:Tree->Nat
 |.no=>0
 |.one _=>1
 |.two .. =>2
def Qxi:Tree->Int
 |.no=> -1
 |.one x=>x.a
 |.two a _ _=>a
def Q8u(x y:Lf):List Kid:=[⟨Sm x.l,x.a⟩,⟨Sm y.l,y.a⟩]
def Tree.pgs:Tree->List Pg
 |.no=>[]
 |.one x=>[.leaf x.l]
 |.two _ x y=>[.leaf x.l,.leaf y.l,.inner (Q8u x y)]
def Gd(L:Int->Pg->Prop):Tree->Prop
 |.no=>True
 |.one x=>x.a≠-1->L x.a (.leaf x.l)
 |.two a x y=>(x.a≠-1->L x.a (.leaf x.l))/\(y.a≠-1->L y.a (.leaf y.l))/\(a≠-1->(x.a≠-1/\y.a≠-1)/\L a (.inner (Q8u x y)))
structure Kp(t t':Tree):Prop where
 gd:∀L,Gd L t->Gd L t'
 nf:t'.nfs.Sublist t.nfs
theorem Kp.refl(t:Tree):Kp t t:=⟨λ_ h=>h,List.Sublist.refl _⟩
theorem Kp.trans{a b c:Tree}(h:Kp a b)(k:Kp b c):Kp a c:=⟨λL q=>k.gd L (h.gd L q),k.nf.trans h.nf⟩
theorem Qvf(t:Tree)(e:Ext):Kp t (t.put e):=by
 cases t with
 |no=>exact⟨λ_ _ h=>absurd rfl h,List.Sublist.refl _⟩
 |one x=>
  simp only[Tree.put];split<;>exact⟨λ_ _=>by simp[Gd,halves],by simp[Tree.nfs,Tree.ats,halves]⟩
 |two a x y=>
  simp only[Tree.put];split
  ·exact⟨λ_ h=>by simp[Gd];exact h.1,by simp[Tree.nfs,Tree.ats,List.filter_cons];split<;>split<;>split<;>simp_all⟩
  ·exact⟨λ_ h=>by simp[Gd];exact h.2.1,by simp[Tree.nfs,Tree.ats,List.filter_cons];split<;>split<;>split<;>simp_all⟩
theorem Qri(t:Tree)(s:Int):Kp t (t.take s):=by
 cases t with
 |no=>exact Kp.refl _
 |one x=>
  simp only[Tree.take];split<;>exact⟨λ_ _=>by simp[Gd],by simp[Tree.nfs,Tree.ats]⟩
 |two a x y=>
  simp only[Tree.take];(repeat' split)<;>exact⟨λ_ h=>by simp[Gd,halves];try first|exact h.1|exact h.2.1,by simp[Tree.nfs,Tree.ats,halves,List.filter_cons];try(repeat' split)<;>simp_all⟩
theorem Qj9(t:Tree)(W V:List Ext):Kp t (t.change W V):=by
 have h1:∀(d:List Ext) (t:Tree),Kp t (t.takes d):=λd=>by
  induction d with
  |nil=>exact Kp.refl
  |cons e d ih=>exact λt=>(Qri t e.fr).trans (ih _)
 have h2:∀(d:List Ext) (t:Tree),Kp t (t.puts d):=λd=>by
  induction d with
  |nil=>exact Kp.refl
  |cons e d ih=>exact λt=>(Qvf t e).trans (ih _)
 exact(h1 _ _).trans (h2 _ _)
theorem Q8g(t:Tree):t.nfs.length<=3/\t.fr<=3/\t.high<=2:=by
 have h:t.ats.length<=3:=by cases t<;>simp[Tree.ats]
 exact⟨Nat.le_trans (List.length_filter_le _ _) h,Nat.le_trans (List.length_filter_le _ _) h,by cases t<;>simp[Tree.high]⟩
end tr
end Go.Proofs.YtfialjmemcobjaaGreatDoor
