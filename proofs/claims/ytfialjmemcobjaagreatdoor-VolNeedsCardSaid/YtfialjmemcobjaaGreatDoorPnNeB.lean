/- A part of the proof. -/
import Derived.Test.YtfialjmemcobjaaGreatDoorPnDeB
import Derived.Lib.SlicesCompact
import Derived.Test.YtfialjmemcobjaaGreatDoorPnDdA
set_option maxRecDepth 100000
set_option maxHeartbeats 16000000
set_option linter.unusedVariables false
set_option linter.unusedSimpArgs false
namespace Go.Proofs.YtfialjmemcobjaaGreatDoor
namespace pl
open Go.RowKit er tr st vo nd pg dc
theorem Zz6{l:List Int}{x:Int}(h:x∈l):x∈Lib.compact l:=by
 obtain⟨m,a,rfl⟩:=QkL.1 h;have key:∀m,∃i,i<=m/\Lib.keeps l.toArray i=true/\l.toArray[i]! =l.toArray[m]! :=λm=>by
  induction m with
  |zero=>exact⟨0,QqB _,Lib.keeps_lt_one _ 0 D,rfl⟩
  |succ m ih=>
   by_cases e:l.toArray[m+1]! =l.toArray[m]!
   ·obtain⟨i,h1,h2,h3⟩:=ih;exact⟨i,O,h2,h3.trans e.symm⟩
   ·exact⟨m+1,QqB _,Lib.keeps_pos e,rfl⟩
 obtain⟨i,h1,h2,h3⟩:=key m;unfold Lib.compact Lib.compactUpTo;exact QqS.2 ⟨i,QzZ.2 ⟨QuX.2 O,h2⟩,h3.trans (by simp[a])⟩
theorem Zzt{V:Vo}{p:Int}(h:((∃s∈V.l,p∈Ik s.tr)\/p∈V.last)\/(0<=p/\p=V.root)):p∈Zza V:=by
 refine Zz6 ((tr.sorted_perm _).mem_iff.2 (QqJ.2 (h.imp (λh=>QqJ.2 (h.imp (λh=>QqX.2 h) id)) ?_)));rintro⟨a,rfl⟩;unfold O5;rw[QqH a];exact QzG.2 rfl
theorem Zze(s:Sto)(l:List Int):∀j,(Yo s l j).length=s.n.blocks
 |0=>QiN ..
 |j+1=>by
  rw[Yo];split
  ·split
   ·rw[QoE,Zze s l j]
   ·exact Zze s l j
  ·exact Zze s l j
theorem Zz4{s:Sto}(hb:s.n.blocks=16)(g:s.n.per=16)(l:List Int){a:Int}(k:0<=a/\a<256):∀j,0<=(Yo s l j).getD (a/16).toNat 0/\((∃i,i<j/\l[i]? =some a)->1<=(Yo s l j).getD (a/16).toNat 0)
 |0=>by
  refine⟨?_,λ⟨i,hi,_⟩=>absurd hi (Nat.not_lt_zero _)⟩;rw[Yo,List.getD,QuD];split<;>decide
 |j+1=>by
  obtain⟨h1,h2⟩:=Zz4 hb g l k j;have o:=Zze s l j;have old:l[j]? ≠some a->(∃i,i<j+1/\l[i]? =some a)->∃i,i<j/\l[i]? =some a:=λc ⟨i,hi,e⟩=>⟨i,by
   by_cases d:i=j
   ·exact absurd (d▸e) c
   ·omega,e⟩
  rw[Yo];cases hx:l[j]? with
  |none=>exact⟨h1,λh=>h2 (old (by rw[hx];simp) h)⟩
  |some y=>
   have m:Qxj s y=if 0<=y/\y<256 then y/16 else -1:=by unfold Qxj;rw[hb,g];rfl
   have b:Qxj s y≠a/16->l[j]? ≠some a:=λc e=>by
    rw[hx]at e;injection e with e;subst e;rw[m,QqH k]at c;exact c rfl
   simp only;split
   ·rename_i hq;have f:(Qxj s y).toNat<(Yo s l j).length:=by
     rw[o,hb,m];split<;>omega
    rw[P7 _ _ _ _ f];split
    ·rename_i e;rw[<-e];exact⟨O,λ_=>O⟩
    ·rename_i e;exact⟨h1,λh=>h2 (old (b λd=>e (by rw[d])) h)⟩
   ·rename_i hq;exact⟨h1,λh=>h2 (old (b O) h)⟩
theorem Zz5{s t:Sto}(hb:s.n.blocks=t.n.blocks)(b:s.n.per=t.n.per)(l:List Int):∀j,Yo s l j=Yo t l j
 |0=>by rw[Yo,Yo,hb]
 |j+1=>by
  have e:Qxj s=Qxj t:=by
   funext a;unfold Qxj;rw[hb,b]
  rw[Yo,Yo,Zz5 hb b l j,e]
theorem Zkz{V:Vo}{s1:Sto}(d:Ef V.s)(f:V.s=s1.need (Zza V)){b:Nat}(c:V.s.valid.getD b 0=0):∀a,a∈Zza V->b<16->a/16≠(b:Int):=by
 intro a ha hb e;obtain⟨i,hi⟩:=QiM.1 ha;have h1:V.s.n=s1.n:=by rw[f];rfl
 have:=(Zz4 (s:=s1) (by rw[<-h1];exact d.b16) (by rw[<-h1];exact d.p16) (Zza V) (a:=a) O (Zza V).length).2 ⟨i,(QqD.1 hi).1,hi⟩;rw[e,QyD]at this;rw[f]at c;have c:(Yo s1 (Zza V) (Zza V).length).getD b 0=0:=c;omega
theorem Zke{s:Sto}(h:Ef s){b:Nat}(hb:b<16)(h2:s.state.getD b 0=2):Ef (s.erased b)/\(∀i,i≠b->(s.erased b).state.getD i 0=s.state.getD i 0)/\(s.erased b).n.ops=s.n.ops+1/\(∀a,a/16≠(b:Int)->Qj (s.erased b).n a=Qj s.n a)/\∀a,a/16=(b:Int)->(Qj (s.erased b).n a).2≠0:=by
 have u:b<s.n.count.b.length:=by
  show b<s.n.b.length;rw[h.bl];exact hb
 have j:b<s.state.length:=by rw[h.sl];exact hb
 unfold Sto.erased;obtain⟨f,d⟩:=Zx (wiped s.n b);rw[d];have g:∀i,f.blk i=if i=b then {s.n.blk b with pages:=[],worn:=(s.n.blk b).worn+1}else s.n.blk i:=λi=>by
  rw[<-d];unfold wiped;rw[Q0n _ _ _ _ u];rfl
 have k:∀i,i≠b->(f.blk i).pages=(s.n.blk i).pages:=λi hi=>by rw[g,QqE hi]
 have l:(f.blk b).pages=[]:=by rw[g,QqH rfl]
 have q:f.blocks=16:=by rw[<-d];exact h.b16
 have r:f.per=16:=by rw[<-d];exact h.p16
 have t:f.down=false:=by rw[<-d];exact h.up
 refine⟨⟨q,r,?_,?_,t,?_,λi=>?_,λi=>?_,λi x o=>?_,λi hi hz=>?_,?_,?_⟩,λi hi=>?_,?_,λa ha=>?_,λa ha=>?_⟩
 ·rw[<-d];show(List.set _ _ _).length=16;rw[QoE];exact h.bl
 ·show(s.state.set b 0).length=16;rw[QoE];exact h.sl
 ·rw[<-d];exact h.pn
 ·show(f.blk i).pages.length<=16;by_cases e:i=b
  ·rw[e,l];decide
  ·rw[k i e];exact h.pl i
 ·show(f.blk i).bad=false;rw[g];split
  ·exact h.gd b
  ·exact h.gd i
 ·have o:=o;by_cases e:i=b
  ·rw[e,l]at o;cases o
  ·rw[k i e]at o;exact h.sm i x o
 ·show(f.blk i).pages=[];by_cases e:i=b
  ·rw[e,l]
  ·rw[k i e];have hz:=hz;rw[P7 _ _ _ _ j,QqE e]at hz;exact h.fr i hi hz
 ·show Qze (s.state.set b 0) 3 16=0;rw[Ro _ _ _ _ j,h2,h.nb,QqH hb];decide
 ·rcases h.op with e|⟨c,v,e,w⟩
  ·exact .inl e
  ·refine .inr ⟨c,v,e,?_⟩;show(s.state.set b 0).getD c 0=1;rw[P7 _ _ _ _ j,QqE]
   ·exact w
   ·rintro rfl;omega
 ·show(s.state.set b 0).getD i 0=_;rw[P7 _ _ _ _ j,QqE hi]
 ·show f.ops=_;rw[<-d];rfl
 ·refine Qvi ?_;show f.read a=_;by_cases p:0<=a/\a<256
  ·obtain⟨m,rfl⟩:∃m:Nat,a=(m:Int):=⟨a.toNat,O⟩;rw[Qkg t q r m O,Qkg h.up h.b16 h.p16 m O,k _ O]
  ·rw[Qul t q r a p,Qul h.up h.b16 h.p16 a p]
 ·obtain⟨m,rfl⟩:∃m:Nat,a=(m:Int):=⟨a.toNat,O⟩;unfold Qj;show(if(f.read (m:Int)).1=0 then Xh (f.read (m:Int)).2 else _).2≠0;rw[Qkg t q r m O,show m/16=b by omega,l];show(42:Int)≠0;decide
structure Er(P:Int->Prop)(s0:Sto)(j:Nat)(s:Sto):Prop where
 fit:Ef s
 val:s.valid=s0.valid
 st:∀i,j<=i->s.state.getD i 0=s0.state.getD i 0
 seq:s.seq=s0.seq
 ops:s.n.ops<=s0.n.ops+(j:Int)
 keep:∀a,P a->Qj s.n a=Qj s0.n a
 old:∀a,(Qj s.n a).2=0->Qj s.n a=Qj s0.n a
theorem Er.refl{P:Int->Prop}{s:Sto}(h:Ef s):Er P s 0 s:=⟨h,rfl,λ_ _=>rfl,rfl,O,λ_ _=>rfl,λ_ _=>rfl⟩
theorem Er.skip{P:Int->Prop}{s0 s:Sto}{j:Nat}(h:Er P s0 j s):Er P s0 (j+1) s:=⟨h.fit,h.val,λi hi=>h.st i O,h.seq,by have:=h.ops;omega,h.keep,h.old⟩
theorem Er.step{P:Int->Prop}{s0 s:Sto}{b:Nat}(h:Er P s0 b s)(hb:b<16)(h2:s0.state.getD b 0=2)(d:∀a,P a->a/16≠(b:Int)):Er P s0 (b+1) (s.erased b):=by
 obtain⟨f,g,k,c,j⟩:=Zke h.fit hb (by rw[h.st b N0];exact h2);refine⟨f,h.val,λi hi=>(g i O).trans (h.st i O),h.seq,by have:=h.ops;omega,λa ha=>(c a (d a ha)).trans (h.keep a ha),λa ha=>?_⟩;by_cases e:a/16=(b:Int)
 ·exact absurd ha (j a e)
 ·rw[c a e]at ha ⊢;exact h.old a ha
theorem Zz7{n c:Nand}{s:Sp}(h:∀p∈Ik s.tr,Qj c p=Qj n p)(k:FineS n s):FineS c s/\doc (bd c) s=doc (bd n) s:=by
 have l:∀e∈s.tr.flat,e.kind=2->∀i:Nat,(i:Int)<e.n->Qj c (e.at_+i)=Qj n (e.at_+i):=λe f d i hi=>h _ (List.mem_append_right _ (QqX.2 ⟨e,f,by unfold J7;rw[QqH d];exact QqS.2 ⟨i,QuX.2 O,rfl⟩⟩));have g:∀{a:Int} {pg:Pg},a∈s.tr.ats->a≠-1->PgL n s.id a pg->PgL c s.id a pg:=λ{a pg} ha m hq=>by
  show Yd c _ _=_;unfold Yd;rw[h a (List.mem_append_left _ ((tr.sorted_perm _).mem_iff.2 (QzZ.2 ⟨ha,by simpa using m⟩)))];exact hq
 refine⟨⟨k.id,k.size,k.ok,k.chk,k.used,?_,?_,k.nd⟩,?_⟩
 ·have j:=k.hold;unfold Z8 at j ⊢;rw[QxK]at j ⊢;intro e f;have h1:=j e f;unfold O9 at h1 ⊢;simp only[QzC,QuT,QzD]at h1 ⊢;by_cases d:e.kind=2
  ·refine⟨h1.1,.inr ?_⟩;have h2:=h1.2.resolve_left (λh=>h d);unfold Gx at h2 ⊢;rw[QxK]at h2 ⊢;intro i hi;have:=h2 i hi;unfold Bg at this ⊢;rw[l e f d i (by have:=QuX.1 hi;omega)];exact this
  ·exact⟨h1.1,.inl d⟩
 ·have b:=k.gd;generalize s.tr=T at b g;cases T with
  |no=>exact b
  |one x=>exact λe=>g (by simp[Tree.ats]) e (b e)
  |two a x y=>exact⟨λe=>g (by simp[Tree.ats]) e (b.1 e),λe=>g (by simp[Tree.ats]) e (b.2.1 e),λe=>⟨(b.2.2 e).1,g (by simp[Tree.ats]) e (b.2.2 e).2⟩⟩
 ·unfold doc;rw[Q0k (B:=bd n) (B':=bd c) λe f d i hi=>by show(Qj c _).1.body=_;rw[l e f d i hi]]
theorem Zkk{n b:Nand}{L:List Sp}(h:∀s∈L,∀p∈Ik s.tr,Qj b p=Qj n p)(k:Fine n L):Fine b L/\Xo (bd b) L=Xo (bd n) L:=
 ⟨⟨k.up,λs a=>(Zz7 (h s a) (k.sp s a)).1,k.cap,k.len⟩,QkF λs a=>(Zz7 (h s a) (k.sp s a)).2⟩
theorem Rooted.er{n c:Nand}{g:Int}{L:List Sp}{d:Int}(k:Rooted n g L)(o:Fine c L)(old:∀a,(Qj c a).2=0->Qj c a=Qj n a)(p:0<g->RootAt n d g L/\Qj c d=Qj n d):Rooted c g L:=by
 have hq:∀a,(Qj c a).2=0->fnd c a=fnd n a/\(Qj n a).2=0:=λa h=>⟨by unfold fnd;rw[old a h],by rw[<-old a h];exact h⟩;refine⟨k.g0,o,k.wr,λa h1 h2=>?_,k.non,λf=>?_⟩
 ·obtain⟨h3,h4⟩:=hq a h1;rw[h3]at h2 ⊢;exact k.all a h4 h2
 ·obtain⟨⟨i,j,l⟩,e⟩:=p f;obtain⟨a,a1,a2,a3,m⟩:=k.has f;obtain rfl:=m d i j (by unfold rt.Fe;rw[l]);refine⟨d,by rw[e];exact i,by unfold fnd;rw[e];exact j,by rw[e];exact l,λb b1 b2 b3=>?_⟩;obtain⟨h3,h4⟩:=hq b b1;rw[h3]at b2 b3;exact m b h4 b2 b3
theorem Lw.erased{k j:Nat}{V:Vo}{r su:Dv}{s':Sto}(h:Lw k V r su)(N:j<=64)(e:Er (·∈Zza V) V.s j s'):Lw (k+1) {V with s:=s'} r su:=by
 have h1:=h.q1;have h2:=h.ops;have h3:=h.gen;have i:=e.seq;have Q:=e.ops;obtain⟨L,q1,u,v,l,c⟩:=h.rt;obtain⟨w,x⟩:=Zkk (λs d p f=>e.keep p (Zzt (.inl (.inl ⟨s,d,f⟩)))) h.fine;obtain⟨y,z⟩:=Zkk (λs d p f=>e.keep p (Zzt (.inl (.inr (l s d p f))))) q1.fine;have b:0<V.gen->Qj s'.n V.root=Qj V.s.n V.root:=λg=>e.keep _ (Zzt (.inr ⟨(Da (c g).1).1,rfl⟩));refine⟨h.cap,e.fit,by show 0<=s'.seq;rw[i];exact h.q0,by show s'.seq<=_;omega,by show s'.n.ops<=_;omega,λa ha=>?_,w,by rw[h.r,<-x],⟨L,q1.er y e.old λg=>⟨c g,b g⟩,by rw[u,<-z],v,l,λg=>?_⟩,by show V.gen<=_;omega,h.last,?_⟩
 ·have ha:=ha;have m:=e.old a ha;show(Qj s'.n a).1.seq<s'.seq;rw[m,i];exact h.sq a (by rw[<-m];exact ha)
 ·obtain⟨F,H,K⟩:=c g;have hz:=b g;exact⟨by show(Qj s'.n _).2=0;rw[hz];exact F,by show rt.Kw (fnd s'.n _)=true;unfold fnd;rw[hz];exact H,by show rt.Yf (Qj s'.n _).1.body=_;rw[hz];exact K⟩
 ·obtain⟨s1,o⟩:=h.kp;have q:V.s.n=s1.n:=by rw[o];rfl
  have M:s'.valid=Yo s' (Zza V) (Zza V).length:=by
   rw[e.val,Zz5 (t:=s1) (by rw[e.fit.b16,<-q,h.fit.b16]) (by rw[e.fit.p16,<-q,h.fit.p16])];exact congrArg Sto.valid o
  refine⟨s',?_⟩;show s'={s' with valid:=Yo s' (Zza V) (Zza V).length};rw[<-M]
end pl
end Go.Proofs.YtfialjmemcobjaaGreatDoor
namespace Go.Proofs.YtfialjmemcobjaaGreatDoor
namespace pl
open Go.RowKit Go.Maps er tr st vo nd pg dc
theorem Qn9(i:Nat):(nV []).blk i=⟨[],0,false⟩:=by
 show(List.replicate 16 emp).getD i emp=emp;rw[QkH,QuD];split<;>rfl
theorem Q2l:Ef (sE z16):=by
 have hb:∀i,(sE z16).n.blk i=⟨[],0,false⟩:=Qn9;refine⟨rfl,rfl,rfl,rfl,rfl,rfl,λi=>(by rw[hb];decide),λi=>(by rw[hb]),λi t a=>(by rw[hb]at a;cases a),λi _ _=>(by rw[hb]),rfl,.inl rfl⟩
theorem Qc6(a:Int):(Qj (nV []) a).2≠0:=by
 intro h;have b:=Da h;obtain⟨m,rfl⟩:∃m:Nat,a=(m:Int):=⟨a.toNat,O⟩;have d:m<256:=by have h2:(m:Int)<16*16:=b.2;omega
 have c:=Qkg (n:=nV []) rfl rfl rfl m d;rw[Qn9]at c;unfold Qj at h;rw[c]at h;exact absurd h (by show(42:Int)≠0;decide)
theorem Q2y:Lw 0 (Ll (sE z16)) ⟨10,[]⟩ ⟨10,[]⟩:=
 ⟨Q0f,Q2l,D,D,D,λa h=>absurd h (Qc6 a),⟨List.Pairwise.nil,λs h=>(by cases h),D,D⟩,rfl,⟨[],⟨QxL _,⟨List.Pairwise.nil,λs h=>(by cases h),D,D⟩,λs h=>(by cases h),λa h _=>absurd h (Qc6 a),λ_=>rfl,λh=>absurd h D⟩,rfl,λ_=>rfl,λs h=>(by cases h),λh=>absurd h D⟩,D,D,⟨sE z16,by
  have e:Zza (Ll (sE z16))=[]:=by simp[Zza,Ll,O5,sorted,Lib.compact,Lib.compactUpTo]
  rw[e];rfl⟩⟩
theorem Qh8{n:Int}(h:(Lit.int .i64 n).wf=true):vo.I64 n:=by
 simp only[Lit.wf,QzC,QzD]at h;have h1:IntKind.i64.min= -9223372036854775808:=D;have h2:IntKind.i64.max=9223372036854775807:=D;rw[h1,h2]at h;exact h
def Q35(w:World)(b off:Nat)(l:List Ac):Prop:=∀(j:Nat) (x:Ac),l[j]? =some x->(w.cell? (b,off+j*5)=some (I x.k)/\w.cell? (b,off+j*5+1)=some (I x.id)/\w.cell? (b,off+j*5+2)=some (I x.fr)/\w.cell? (b,off+j*5+3)=some (I x.n)/\w.cell? (b,off+j*5+4)=some (.string x.d))/\vo.I64 x.id/\vo.I64 x.fr/\vo.I64 x.n
def PlS(B:Nat->Prop)(w0:World)(b k:Nat)(w:World):Prop:=∃v c X V F r su,PlIn B w0 w b v c X V F r su/\Lw k V r su
theorem PlS.below{B:Nat->Prop}{w0 w w':World}{b k:Nat}(h:PlS B w0 b k w)(hb:Below w w w'):PlS B w0 b k w':=by
 obtain⟨v,c,X,V,F,r,su,h1,h2⟩:=h;exact⟨v,c,X,V,F,r,su,h1.below hb,h2⟩
theorem PlS.own{B:Nat->Prop}{w0 w:World}{b k:Nat}(h:PlS B w0 b k w):Keep (λk=>¬B k) w0 w:=by
 obtain⟨v,c,X,V,F,r,su,h1,h2⟩:=h;exact h1.own.1
theorem PlS.same{B:Nat->Prop}{w0 w:World}{b k:Nat}(h:PlS B w0 b k w):PlS B w0 b (k+1) w:=by
 obtain⟨v,c,X,V,F,r,su,h1,h2⟩:=h;exact⟨v,c,X,V,F,r,su,h1,h2.same⟩
theorem PlS.step{B:Nat->Prop}{w0 w:World}{b k:Nat}(h:PlS B w0 b k w)(i:k<=1000)(x:Ac)(j:vo.I64 x.id/\vo.I64 x.fr/\vo.I64 x.n):∃t:Bool,(∀W,Below w w W->C 34 #[(b,0),x.val] W λe w'=>e= .returned (.bool t)/\Below w w w')/\(t=true->∀W,Below w w W->C 35 #[(b,0),x.val] W λe w'=>e= .returned (.bool true)/\PlS B w0 b (k+1) w'):=by
 obtain⟨v,c,X,V,F,r,su,h1,h2⟩:=h;refine⟨decide (x.d.size<=1000)&&decide (4<=we.G6 (Zqm V.s) 0),λW hb=>(Qi4 W b v c X V F r su x (h1.below hb)).mono ?_,λg W hb=>?_⟩
 ·rintro e w' ⟨rfl,a⟩;exact⟨rfl,hb.trans (a.mono hb.size)⟩
 ·simp only[QzC,QzD]at g;have:=Qsc h2.fit;refine(Q3k x (h1.below hb) h2 i O j g.1).mono ?_;rintro e w' ⟨r',f,rfl,v',F',l,m,o,p1,p2⟩;exact⟨rfl,v',l,m,o,F',r',f,p1,p2⟩
theorem Zzv(w:World)(M:Nat)(hM:M<=100)(V:LaidT w)(A:Option Addr)(n c0:Nat)(l:List Ac)(hl:l.length=n)(hn:n<=9223372036854775807)(ha:0<n->∃b off,A=some (b,off)/\b<w.heap.size/\Q35 w b off l):
  C 42 #[.slice A n c0,I M] w λe w'=>∃b k,e= .returned (b,0)/\k<=100/\PlS (λk=>k<w.heap.size) w b k w':=by
 have q:=Q7h ha;have r:=Q7h (Qsb w V);have aa:(M:Int)<=100:=O;clear V ha;go_in
 go_wp2_with fail
 refine r.o.mono ?_;rintro e w1 ⟨b,v0,c1,rfl,X⟩;have s:Hid (PlS (λk=>k<w.heap.size) w b 0 w1):=⟨v0,c1,_,_,_,_,_,X,Q2y⟩;have ab:∀w,(binOp .neq 56 (b,0) (.pointer none)).run Tryz.prog w= .ok (.bool true) w:=λw=>J;clear X r;go_wp2_with fail
 go_loopw [6] (λiv wr=>∃(i:Nat),i<=n/\i<=M/\iv= I i/\Hid (PlS (λk=>k<w.heap.size) w b i wr)) (λiv _=>M-(intOf iv).toNat)
 case atStart=>exact⟨0,QqM _,QqM _,rfl,s.o⟩
 case round=>
  clear s;obtain⟨i,ac,ad,rfl,H⟩:=hrel;by_cases K:i<n/\i<M
  ·have ae:(i:Int)<(n:Int):=O;have af:(i:Int)<(M:Int):=O;have ag:(0:Int)<=(i:Int):=QkD _;obtain⟨g,off,rfl,c,u⟩:=q.o O;obtain⟨x,Y⟩:∃a,l[i]? =some a:=⟨l[i]'O,QqC O⟩;obtain⟨⟨L,a1,a2,a3,N⟩,Z⟩:=u i x Y;obtain⟨t,v,y⟩:=H.o.step O x Z;obtain⟨k,id,fr,m,d⟩:=x;simp only at L a1 a2 a3 N;have B:Hid (∀W,PlS (λk=>k<w.heap.size) w b i W->W.cell? (g,off+i*5)=some (I k)/\W.cell? (g,off+i*5+1)=some (I id)/\W.cell? (g,off+i*5+2)=some (I fr)/\W.cell? (g,off+i*5+3)=some (I m)/\W.cell? (g,off+i*5+4)=some (.string d)):=λW hb=>⟨hb.own.cell L (λh=>h c),hb.own.cell a1 (λh=>h c),hb.own.cell a2 (λh=>h c),hb.own.cell a3 (λh=>h c),hb.own.cell N (λh=>h c)⟩;obtain⟨q0,q1,q2,q3,q4⟩:=B.o wr H.o;have Q:=Q7h v;have R:=Q7h y
   clear L a1 a2 a3 N u Y v y Z;go_wp2_with fail
   refine(Q.o _ B0).mono ?_;rintro e w4 ⟨rfl,j⟩;have S:=Q7h j;have z:=Q7h (H.o.below j);clear q0 q1 q2 q3 q4 j;cases t
   ·have p:=Q7h z.o.same;go_wp2_with fail
    go_roundw
    case rel=>exact⟨i+1,O,O,by go_num,p.o⟩
    case measure=>simp[intOf];omega
   ·obtain⟨q0,q1,q2,q3,q4⟩:=B.o w4 z.o;go_wp2_with fail
    refine(R.o (by first|rfl|trivial) _ S.o).mono ?_;rintro e w5 ⟨rfl,F⟩;have p:=Q7h F;clear F;go_wp2_with fail
    go_roundw
    case rel=>exact⟨i+1,O,O,by go_num,p.o⟩
    case measure=>simp[intOf];omega
  ·have f:(¬(i:Int)<(n:Int))\/((i:Int)<(n:Int)/\¬(i:Int)<(M:Int)):=O;clear K q;rcases f with f|⟨f,T⟩;all_goals
    go_wp2_with fail
    go_ret
    exact⟨b,rfl,i,O,H.o⟩
theorem PlIn.under{B N':Nat->Prop}{w0 w w':World}{b v:Nat}{c:Pt}{X:XL}{V:Vo}{F:Nat->Prop}{r su:Dv}(h:PlIn B w0 w b v c X V F r su)(a:NandAt w' N' c.p V.s.n)(d:Mv c.N w N' w'):PlIn B w0 w' b v {c with N:=N'} X V F r su:=by
 obtain⟨h1,h2⟩:=h.vo.sto.under a d rfl rfl;exact h.turned (h.vo.stored h1 h2) (El h2) rfl
theorem PlIn.wiped{B N':Nat->Prop}{w0 w w':World}{b v:Nat}{c:Pt}{X:XL}{V:Vo}{F:Nat->Prop}{r su:Dv}{s':Sto}(h:PlIn B w0 w b v c X V F r su)(d:StoIn w' c.q c.p c.sv c.vv N' s')(a:Moved w c.q c.sv c.vv c.N w' N'):PlIn B w0 w' b v {c with N:=N'} X {V with s:=s'} F r su/\Mv (vF v c X) w (vF v {c with N:=N'} X) w':=
 ⟨h.turned (h.vo.stored d a) (El a) rfl,El a⟩
theorem Zzs(w:World)(hg:LaidT w)(A:Option Addr)(n c0:Nat)(l:List Ac)(hl:l.length=n)(hn:n<=9223372036854775807)(ha:0<n->∃b off,A=some ⟨b,off,none⟩/\b<w.heap.size/\Q35 w b off l):
  C 9 #[.slice A n c0] w λe w'=>e= .returned (.bool true)/\Below w.heap.size w w':=by
 have HH:=Q7h (Zzv w 30 D hg A n c0 l hl hn ha);clear hg ha;go_enter Tryz.func9,Tryz.ntmps9
 go_wp2_with fail
 refine HH.out.mono ?_;rintro e w1 ⟨b,k,rfl,j,v,c,X,V,F,r,su,hp,hl⟩;have ad:=Q7h hp.vo.laid;have ae:=Q7h hp;have L:=Q7h hl;have aV:∀w,(binOp .eql 56 (.pointer (some ⟨b,0,none⟩)) (.pointer none)).run Tryz.prog w= .ok (.bool false) w:=λw=>by kernel_rfl
 clear hp hl HH;go_wp2_with fail
 refine(Qav _ ad.out).mono ?_;rintro e w2 ⟨rfl,af⟩;have t:=Q7h (ae.out.below af);clear af ae ad;have y1:w2.cell? ⟨b,1,none⟩=some (.pointer (some ⟨v,0,none⟩)):=by obtain⟨_,_,M,_⟩:=t.out.obj;exact M.cell 1
 go_wp2_with fail
 refine(Qya w2 v c X V t.out.vo).mono ?_;rintro e H ⟨rfl,rfl⟩;go_wp2_with fail
 refine(Zzc w2 _ _ _ _ _ _ t.out.vo.sto).mono ?_;rintro e H ⟨tv,rfl,ht,Q⟩;have ag:(Zqm V.s).length=16:=by rw[Zqm,Ue];exact L.out.fit.b16
 rw[ag]at ht;obtain⟨At,ct,rfl⟩:=Qk ht;obtain⟨g,rfl,ay,ah,_,R,_⟩:=Qx ht D;have HT:Hid (∀i,i<16->H.cell? ⟨g,i*3,none⟩=some (I (V.s.state.getD i 0))/\H.cell? ⟨g,i*3+1,none⟩=some (I (V.s.valid.getD i 0))):=λi hi=>by
  have S:(Zqm V.s)[i]? =some (Qfe V.s i):=Qyp V.s _ i (by rw[L.out.fit.b16];exact hi);obtain⟨k0,k1,_⟩:=we.Qoq (Zqm V.s) i _ S;exact⟨R _ _ k0,R _ _ k1⟩
 have az:=Q7h (t.out.below Q);have aW:=Q7h Q;have ai:Hid (¬vF v c X g/\g<H.heap.size):=⟨λT=>by have:=t.out.vo.lt g T;omega,ah⟩;obtain⟨s1,aj⟩:=L.out.kp;have aF:=Q7h aj;clear ht R Q ay ah y1 aj ag;go_wp2_with fail
 go_loopw [5] (λiv wr=>∃(i:Nat) (N':Nat->Prop) (s':Sto),i<=16/\iv= I i/\Hid (PlIn (λk=>k<w.heap.size) w wr b v {c with N:=N'} X {V with s:=s'} F r su)/\Hid (Er (·∈Zza V) V.s i s')/\Hid (Keep (vF v c X) H wr)/\Hid (∀k,vF v {c with N:=N'} X k->vF v c X k\/H.heap.size<=k)) (λiv _=>16-(intOf iv).toNat)
 case atStart=>exact⟨0,c.N,V.s,QqM _,rfl,az.out,Er.refl L.out.fit,Keep.refl _ _,λk j=>.inl j⟩
 case round=>
  obtain⟨i,N',s',hi,rfl,K,Y,HK,HV⟩:=hrel;have aX:=HK.out.size;by_cases u:i<16
  ·have aY:(i:Int)<16:=O;have aZ:(0:Int)<=(i:Int):=QkD _;obtain⟨k0,k1⟩:=HT.out i u;obtain⟨x,S⟩:∃x,V.s.state.getD i 0=x:=⟨_,rfl⟩;obtain⟨y,hy⟩:∃y,V.s.valid.getD i 0=y:=⟨_,rfl⟩;rw[S]at k0;rw[hy]at k1;have z0:=HK.out.cell k0 ai.out.1;have z1:=HK.out.cell k1 ai.out.1;clear k0 k1;by_cases hq:x=2/\y=0
   ·obtain⟨rfl,rfl⟩:=hq;have y1:wr.cell? ⟨b,1,none⟩=some (.pointer (some ⟨v,0,none⟩)):=by obtain⟨_,_,M,_⟩:=K.out.obj;exact M.cell 1
    have T:=Y.out.fit;have aH:=Q7h (Qya wr v _ X _ K.out.vo);have aK:=Q7h (Zzw wr c.q c.p c.sv c.vv N' s' i K.out.vo.sto (by have:=Y.out.ops;have:=L.out.ops;omega) T.up (by rw[T.b16];exact u) (T.gd i) T.pn (by rw[Y.out.st i (QqB _)];exact S) (by rw[Y.out.val];exact hy));have Z:=Q7h (Y.out.step u S λa ha=>Zkz L.out.fit aF.out hy a ha u);clear T S hy;go_wp2_with fail
    refine aH.out.mono ?_;rintro e w4 ⟨rfl,rfl⟩;go_wp2_with fail
    refine aK.out.mono ?_;rintro e m ⟨rfl,N5,ak,o⟩;obtain⟨al,d⟩:=K.out.wiped ak o;have aL:=Q7h al;have aM:Hid (Keep (vF v c X) H m):=HK.out.trans d.keep λk j=>(HV.out k j).imp id id;have aN:Hid (∀k,vF v {c with N:=N5} X k->vF v c X k\/H.heap.size<=k):=λk j=>(d.sub k j).elim (HV.out k) λh=>.inr O;clear ak o al d z0 z1 y1;go_wp2_with fail
    go_roundw
    case rel=>exact⟨i+1,N5,s'.erased i,O,by go_num,aL.out,Z.out,aM.out,aN.out⟩
    case measure=>simp[intOf];omega
   ·have hc:(x==2)=false\/(x==2)=true/\(y==0)=false:=by
     by_cases h:x=2
     ·exact .inr ⟨by simpa using h,by simpa using λe=>hq ⟨h,e⟩⟩
     ·exact .inl (by simpa using h)
    have Z:=Q7h Y.out.skip;clear hq S hy;rcases hc with q1|⟨q1,q2⟩;all_goals
     go_wp2_with fail
     go_roundw
     case rel=>exact⟨i+1,N',s',O,by go_num,K.out,Z.out,HK.out,HV.out⟩
     case measure=>simp[intOf];omega
  ·obtain rfl:i=16:=O;have am:=Q7h (L.out.erased D Y.out);obtain⟨aA,aB,an,_⟩:=K.out.obj;have y0:wr.cell? ⟨b,0,none⟩=some (.pointer (some ⟨c.p,0,none⟩)):=an.cell 0;have aQ:=Q7h (Zz3 K.out.vo am.out);clear an u;go_wp2_with fail
   refine aQ.out.mono ?_;rintro e m ⟨v5,c5,X5,V5,rfl,ao,d,o,ap,aT,aq⟩;have f:=K.out.under (N':=c5.N) (by rw[<-ap,<-ao];exact d.sto.arr) ⟨o.keep,λk j=>o.sub k (.inl (.inr (.inr (.inr j))))⟩;obtain⟨rl,sl,M,ar,au⟩:=f.obj;have hr:=ar;have hs:=au;obtain⟨A1,B,rfl,_⟩:=ar;obtain⟨A2,aa,rfl,_⟩:=au;have HC:Hid (∀W,Below m.heap.size m W->W.cell? ⟨b,1,none⟩=some (.pointer (some ⟨v,0,none⟩))/\(W.cell? ⟨b,2,none⟩=some (I r.cap)/\W.cell? ⟨b,3,none⟩=some (.slice A1 r.l.length B))/\W.cell? ⟨b,4,none⟩=some (I su.cap)/\W.cell? ⟨b,5,none⟩=some (.slice A2 su.l.length aa)):=λW hb=>by
    have:=M.below hb M.lt;exact⟨this.cell 1,⟨this.cell 2,this.cell 3⟩,this.cell 4,this.cell 5⟩
   have av:Hid (∀W,Below m.heap.size m W->C 36 #[.pointer (some ⟨v,0,none⟩),.agg #[I r.cap,.slice A1 r.l.length B]] W λe w'=>e= .returned (.bool true)/\Below m.heap.size m w'):=λW hb=>(Qba W v _ X _ F _ r (f.vo.below hb) ⟨⟨_,rfl,hr.below hb⟩,λk j=>QzB (f.lt k j) hb.size⟩ (syh f.vo am.out)).mono λe w' h=>⟨h.1,hb.trans (h.2.mono hb.size)⟩;have aw:Hid (∀W,Below m.heap.size m W->C 36 #[.pointer (some ⟨v5,0,none⟩),.agg #[I su.cap,.slice A2 su.l.length aa]] W λe w'=>e= .returned (.bool true)/\Below m.heap.size m w'):=λW hb=>(Qba W v5 c5 X5 V5 F _ su (d.below hb) ⟨⟨_,rfl,hs.below hb⟩,λk j=>QzB (f.lt k j) hb.size⟩ (syh d aq)).mono λe w' h=>⟨h.1,hb.trans (h.2.mono hb.size)⟩;have ax:Hid (Below w.heap.size w m):=f.own.1.toBelow (QqB _) (λk j=>O);have a0:=Q69 v5;generalize r.l.length=n1 at HC av;generalize su.l.length=n2 at HC aw;have TD:=Q7h (HC.out _ (QqA _ _).drew);clear hr hs M f d o aq ao ap y0;go_wp2_with fail
   refine rg.rgE (λW=>W.cell? ⟨b,1,none⟩=some (.pointer (some ⟨v,0,none⟩))/\(W.cell? ⟨b,2,none⟩=some (I r.cap)/\W.cell? ⟨b,3,none⟩=some (.slice A1 n1 B))/\W.cell? ⟨b,4,none⟩=some (I su.cap)/\W.cell? ⟨b,5,none⟩=some (.slice A2 n2 aa)) TD.out (λz=>?_);refine rg.Ua 0 ?_;refine rg.Ua 1 ?_;refine rg.Ua 2 ?_;refine rg.Ua 3 ?_;refine rg.Ua 4 ?_;refine rg.Ua 5 ?_;refine rg.Ua 6 ?_;refine rg.Ua 7 ?_;refine rg.Wa 8 ?_;intro J hJ;refine(av.out _ (QqA _ _).drew).mono ?_;rintro e w6 ⟨rfl,ab⟩;have aR:=Q7h ab;refine hJ.out _ _ (HC.out _ ab) (λz=>?_);clear hJ J ab;refine rg.Ua 9 ?_;refine rg.Ua 10 ?_;refine rg.Ua 11 ?_;refine rg.Ua 12 ?_;refine rg.Ua 13 ?_;refine rg.Ua 14 ?_;refine rg.Ua 15 ?_;refine rg.Ua 16 ?_;refine rg.Ua 17 ?_;refine rg.Ua 18 ?_;refine rg.Ua 19 ?_;refine rg.Ua 20 ?_;refine rg.Ua 21 ?_;refine rg.Ua 22 ?_;refine rg.Wa 23 ?_;intro J hJ;refine(aw.out _ aR.out).mono ?_;rintro e w7 ⟨rfl,ac⟩;have aS:=Q7h ac;refine hJ.out _ _ (HC.out _ ac) (λz=>?_);clear hJ J ac;refine rg.Ua 24 ?_;refine rg.Ua 25 ?_;refine rg.rgF ?_;go_wp2_with fail
   go_ret
   exact⟨rfl,ax.out.trans (aS.out.mono ax.out.size)⟩
end pl
end Go.Proofs.YtfialjmemcobjaaGreatDoor
