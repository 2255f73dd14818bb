/- A part of the proof. -/
import Derived.Test.YtfialjmemcobjaaGreatDoorPmDe
import Derived.Test.YtfialjmemcobjaaGreatDoorPmDf
import Derived.Test.YtfialjmemcobjaaGreatDoorPmDg
import Derived.Test.YtfialjmemcobjaaGreatDoorPmDh
import Derived.Test.YtfialjmemcobjaaGreatDoorPmPl
import Derived.Deep.Cut
set_option maxRecDepth 100000
set_option maxHeartbeats 16000000
set_option linter.unusedVariables false
set_option linter.unusedSimpArgs false
namespace Go.Proofs.YtfialjmemcobjaaGreatDoor
namespace pl
open Go.RowKit er st vo dc
theorem Qpx{B:Nat}{w0 w:ν}{b v:Nat}{c:Pt}{X:XL}{V:Vo}{F:φ}{r su:Dv}{t:β}{e:Int}(id fr n:Int)(d:β){G:XL->Vo->Prop}(h:PlIn B w0 w b v c X V F r su)(L:-9223372036854775808<=e/\e<=9223372036854775807)(M:∀W lv,DvAt W F (.agg #[I r.cap,lv]) r->C 97 #[.agg #[I r.cap,lv],I id,I fr,I n] W λx w'=>x=ρ (τ #[.string t,I e])/\Below W W w')(N:∀W,VoIn W v c X V->C 24 #[(v,0),I id,I fr,I n] W (Qea W t id e))(Q:G X V):
  C 35 #[(b,0),.agg #[I 6,I id,I fr,I n,.string d]] w (DoRet B w0 b v r su G):=by
 obtain⟨w1,A,ln,cc,g⟩:=Uq h #[I 6,I id,I fr,I n,.string d];have s:=Q7h (h.below g.hb);have T:=Q7h Q;have p:=Q7h g;have Y:=g.al;have Z:=g.act.cell 0;simp at Z;have q:Hid (∀W,Below w1 w1 W->(W (w,1)=I id/\W (w,2)=I fr/\W (w,3)=I n)/\W (b,1)=some (v,0)/\W (b,2)=I r.cap/\W (b,3)=some (.slice A ln cc)):=λW hb=>by
  obtain⟨q1,_,q2⟩:=Qfq h p.o (Keep.below (F:=vF v c X) hb);exact⟨⟨q1.cell 1,q1.cell 2,q1.cell 3⟩,q2,(p.o.fz W hb).1,(p.o.fz W hb).2.1⟩
 have u:Hid (∀W,Below w1 w1 W->C 97 #[.agg #[I r.cap,.slice A ln cc],I id,I fr,I n] W λx w'=>x=ρ (τ #[.string t,I e])/\Below W W w'):=λW hb=>M W _ (p.o.dv W hb);have z:=Q7h (λW hb=>N W (s.o.vo.below hb));have H:Hid (∀W y,Re W y ⟨#[114,101,97,100]⟩ id e->LaidT W->C 91 #[y,I e,.string ⟨#[114,101,97,100]⟩,I id] W λx w'=>x=ρ (.bool true)/\Below W W w'):=λW y hf hl=>U5 W y _ id e hf hl L;have T0:=Q7h (q.o _ B0.drew);clear h L M N g Q;go_in
 go_wp2_with fail
 go_region_held3 (λW=>(W (w,1)=I id/\W (w,2)=I fr/\W (w,3)=I n)/\W (b,1)=some (v,0)/\W (b,2)=I r.cap/\W (b,3)=some (.slice A ln cc)) (first|with_reducible exact T0.o|with_reducible exact T5.o) ((go_at_call 97;refine(u.o _ B0.drew).mono ?_;rintro ee R ⟨rfl,i⟩;have a:=Q7h (((QqA w1 w1).drew).trans i);have T5:=Q7h (q.o _ a.o);clear i))
 have T6:=Q7h (q.o _ a.o.drew);go_wp2_with fail
 go_region_held3 (λW=>(W (w,1)=I id/\W (w,2)=I fr/\W (w,3)=I n)/\W (b,1)=some (v,0)/\W (b,2)=I r.cap/\W (b,3)=some (.slice A ln cc)) (first|with_reducible exact T6.o|with_reducible exact T7.o) ((go_at_call 24;refine(z.o _ a.o.drew).mono ?_;rintro ee w7 ⟨y,rfl,S,j⟩;have HY:=Q7h S;have f:=Q7h (a.o.trans ((((QqA R R).drew).trans j).mono a.o.size));have T7:=Q7h (q.o _ f.o);clear S j))
 have k:=(s.o.vo.below f.o).laid;have l:=Q7h (H.o _ _ HY.o k);clear k;go_wp2_with fail
 with_reducible refine l.o.mono ?_
 rintro e w8 ⟨rfl,m⟩;have K:=Q7h (f.o.trans (m.mono f.o.size));clear m;go_wp2_with fail
 go_ret
 exact⟨rfl,_,_,_,_,s.o.below K.o,T.o⟩
end pl
namespace pl
open Go.RowKit er tr st vo nd pg dc
section
variable {k:Nat} {w:World} {v:Nat} {c:Pt} {X:XL} {V:Vo} {r su:Dv}
theorem Q22{n:Nand}{s:Sp}(a:FineS n s):∀y∈(doc (bd n) s).s,y.data.size=32:=by
 intro y b;rw[<-(Vy a (S:={n:=n,state:=[],valid:=[],op:=0,seq:=0}) rfl y.at_).2.2,(Vy a rfl y.at_).1];have c:y.data=dOf (doc (bd n) s) y.at_:=by
  unfold dOf;cases hf:(doc (bd n) s).s.find? λx=>decide (x.at_=y.at_)with
  |none=>have:=QuN.1 hf y b;simp at this
  |some z=>
   have d:z.at_=y.at_:=by simpa using QuP hf
   rw[Qd2 a.chk (QjU hf) b d]
 rw[c]
theorem Q0c(a:Lw k V r su):0<=r.cap/\r.cap<=1000000000:=by
 have:r.cap=10:=by rw[a.r]
 omega
theorem Q59(d:Lw k V r su):r.l.length<=1000/\(∀x∈r.l,0<=x.size/\x.size<=16777216)/\(∀x∈r.l,x.s.length<=500)/\(0<=r.cap/\r.cap<=1000000000)/\Ug r<=500/\∀x∈r.l,∀y∈x.s,y.data.size<=100:=by
 have b:=d.fine;have i:=b.len;have hq:∀x∈r.l,∃s∈V.l,x=doc (bd V.s.n) s:=λx c=>by
  rw[d.r]at c;obtain⟨s,a,rfl⟩:=QqS.1 c;exact⟨s,a,rfl⟩
 refine⟨by rw[d.r];simp[Xo];omega,λx c=>?_,λx c=>?_,Q0c d,?_,λx c y g=>?_⟩
 ·obtain⟨s,a,rfl⟩:=hq x c;exact(b.sp s a).size
 ·obtain⟨s,a,rfl⟩:=hq x c;have f:=b.sp s a;have j:=U7 (B:=bd V.s.n) (l:=s.tr.flat) λe h=>by have:=Ut (f.chk.one e h);omega
  have m:=Gh b a;have o:=f.used;show(exp (bd V.s.n) s.tr.flat).length<=500;omega
 ·rw[d.r,Qcy λs a=>⟨(b.sp s a).chk,(b.sp s a).used⟩];have:=Rn (L:=V.l) λs a=>(Ls (b.sp s a)).1;omega
 ·obtain⟨s,a,rfl⟩:=hq x c;rw[Q22 (b.sp s a) y g];decide
theorem Qtb(l:List Spc)(id fr n:Int)(m:Bool):0<=Qm l id fr n m/\Qm l id fr n m<=82:=by
 unfold Qm;split
 ·decide
 ·split
  ·decide
  ·split<;>decide
theorem syh(h:VoIn w v c X V)(f:Lw k V r su):SyH v c X V r:=by
 have o:=f.fine;have d:=h.spl;have hq:∀(i:Nat) (x:Sp×Bl) (y:Spc),X[i]? =some x->r.l[i]? =some y->x∈X/\y=doc (bd V.s.n) x.1:=λi x y g b=>by
  have e:r.l[i]? =some (doc (bd V.s.n) x.1):=by
   rw[f.r,<-d];simp[Xo,g]
  rw[e]at b;injection b with b;exact⟨QqL g,b.symm⟩
 refine⟨by rw[f.r,<-d];simp[Xo],by have:=o.len;rw[<-d]at this;simpa using this,Qxw h f,Q0c f,λi x y g b=>?_,λi x y g b a u p W F=>?_⟩
 ·obtain⟨m,rfl⟩:=hq i x y g b;have q:=o.sp _ (Oq h m);have p:=U7 (B:=bd V.s.n) (l:=x.1.tr.flat) λe H=>by have:=Ut (q.chk.one e H);omega
  have L:=Gh o (Oq h m);have K:=q.used;refine⟨rfl,rfl,p.trans K.symm,?_,q.size,λz hz=>?_⟩
  ·show(exp (bd V.s.n) x.1.tr.flat).length<=1000;omega
  ·have:=Qek q.chk (U6.1 hz);omega
 ·obtain⟨m,rfl⟩:=hq i x y g b;have t:=o.sp _ (Oq h m);have p:a<x.1.size:=p;refine(V8 W v c X V x a 1 F m u O O O (λj _=>(Vy t rfl _).2.1) (λa=>by have:=Qzj f.fit a;omega) (λj _=>(Vy t rfl _).2.2)).mono ?_;rintro e w' ⟨rfl,hb⟩;refine⟨?_,hb⟩;rw[Qdg t rfl,Gv,Gv,show a+((0:Nat):Int)=a by omega];have:(⟨#[]⟩:ByteArray)++dOf (doc (bd V.s.n) x.1) a=dOf (doc (bd V.s.n) x.1) a:=QyW U;rw[this]
end
theorem Q3k{B k:Nat}{w0 w:World}{b v:Nat}{c:Pt}{X:XL}{V:Vo}{F:Nat->Prop}{r su:Dv}(x:Ac)(h:PlIn B w0 w b v c X V F r su)(g:Lw k V r su)(p:k<=1000)(q:64<=room V.s)(u:vo.I64 x.id/\vo.I64 x.fr/\vo.I64 x.n)(K:x.d.size<=1000):
  C 35 #[(b,0),x.val] w λe w'=>∃r' j,Q1k B w0 b r' j (λ_ y=>Lw (k+1) y r' j) e w':=by
 obtain⟨f,id,fr,n,d⟩:=x;obtain⟨i,m,z⟩:=u;obtain⟨o1,o2,L,M,N,Q⟩:=Q59 g;have o:=Qtb r.l;show C 35 #[.pointer (some ⟨b,0,none⟩),.agg #[I f,I id,I fr,I n,.string d]] w _;by_cases H:f<0\/9<f
 ·exact(Q0u f id fr n d h H g.same).mono λe w' h=>⟨_,_,h.any⟩
 have:f=0\/f=1\/f=2\/f=3\/f=4\/f=5\/f=6\/f=7\/f=8\/f=9:=O;rcases this with rfl|rfl|rfl|rfl|rfl|rfl|rfl|rfl|rfl|rfl
 ·exact(Qal (r':=(Ji r id n).1) (e:=(Ji r id n).2) id fr n d h (by unfold Ji;(repeat' split)<;>(dsimp only;omega)) (λW lv a=>Qj6 W F _ r id n a o1) (λW a=>Qv2 a g id n)).mono λe w' h=>⟨_,_,h.any⟩
 ·exact(Qaf (r':=(J9 r id n).1) (e:=(J9 r id n).2) id fr n d h (by unfold J9;(repeat' split)<;>(dsimp only;omega)) (λW lv a=>Qj4 W F _ r id n a o1) (λW a=>Qv0 a g id n i)).mono λe w' h=>⟨_,_,h.any⟩
 ·exact(Qah (r':=(Yh r id).1) (e:=(Yh r id).2) id fr n d h (by unfold Yh;(repeat' split)<;>(dsimp only;omega)) (λW lv a=>Qj5 W F _ r id a) (λW a=>Qv1 a g id i)).mono λe w' h=>⟨_,_,h.any⟩
 ·exact(Qc9 (r':=(Uz r id fr d).1) (e:=(Uz r id fr d).2) id fr n d h (by have:=o id fr (d.size/32:Nat) (Cj d);unfold Uz;(repeat' split)<;>(dsimp only;omega)) (λW lv a=>Qgp W F _ r id fr d a o1 o2 (λx u=>QqR (L x u) D) M K) (λW a=>Qmv a g p q id fr d i m (QqR K D))).mono λe w' h=>⟨_,_,h.any⟩
 ·exact(Qpk (r':=(Ey r id fr n).1) (e:=(Ey r id fr n).2) id fr n d h (by have:=o id fr n true;unfold Ey;(repeat' split)<;>(dsimp only;omega)) (λW lv a=>Qae W F _ r id fr n a o1 o2 L M N) (λW a=>Q4o a g id fr n i m z)).mono λe w' h=>⟨_,_,h.any⟩
 ·exact(Qpj (r':=(Eu r id fr n).1) (e:=(Eu r id fr n).2) id fr n d h (by have:=o id fr n true;unfold Eu;(repeat' split)<;>(dsimp only;omega)) (λW lv a=>Qab W F _ r id fr n a o1 o2) (λW a=>Q4i a g id fr n i m z)).mono λe w' h=>⟨_,_,h.any⟩
 ·exact(Qpx (t:=(Im r id fr n).1) (e:=(Im r id fr n).2) id fr n d h (by have:=o id fr n (decide (n<=8));unfold Im;(repeat' split)<;>(dsimp only;omega)) (λW lv a=>Qac W F _ r id fr n a o2 Q) (λW a=>Q4a a g id fr n i m z) (G:=λ_ y=>Lw (k+1) y r su) g.same).mono λe w' h=>⟨_,_,h.any⟩
 ·exact(Qs1 id fr n d h (λW a=>Qv3 a g p q)).mono λe w' h=>⟨_,_,h.any⟩
 ·exact(Qpy id fr n d h (λW a=>Q4e a g p q n)).mono λe w' h=>⟨_,_,h.any⟩
 ·exact(Q2s id fr n d h (λW a=>Q4d a g)).mono λe w' h=>⟨_,_,h⟩
end pl
namespace pl
open Go.RowKit Go.Maps er tr st vo nd pg dc
theorem rgM{P:Program}{d:Region.Mode}{ops:Array Oper}{Q:Exit->Act->World->Prop}{S S':World->Prop}(e:∀w,S' w->S w):∀(b:Nat) (c:Array Bool) (a:Go.Act) (w:World),wpAnyH P d ops Q S' b c a w->wpAnyH P d ops Q S b c a w
 |0,_,_,_,h=>h
 |b+1,_,_,_,h=>⟨h.1,λi hi=>wpOp_mono (λg w' f=>⟨e _ f.1,rgM e b _ g w' f.2⟩) (h.2 i hi)⟩
theorem Qn9(i:Nat):(nV []).blk i=⟨[],0,false⟩:=by
 show(List.replicate 16 emp).getD i emp=emp;rw[QkH,QuD];split<;>rfl
theorem Q2l:Ef (sE z16):=by
 have hb:∀i,(sE z16).n.blk i=⟨[],0,false⟩:=Qn9;refine⟨rfl,rfl,rfl,rfl,rfl,rfl,λi=>(by rw[hb];decide),λi=>(by rw[hb]),λi t a=>(by rw[hb]at a;cases a),λi _ _=>(by rw[hb]),rfl,.inl rfl⟩
theorem Qc6(a:Int):(Qj (nV []) a).2≠0:=by
 intro h;have b:=Da h;obtain⟨m,rfl⟩:∃m:Nat,a=(m:Int):=⟨a.toNat,O⟩;have d:m<256:=by have e:(m:Int)<16*16:=b.2;omega
 have c:=Qkg (n:=nV []) rfl rfl rfl m d;rw[Qn9]at c;unfold Qj at h;rw[c]at h;exact absurd h (by show(42:Int)≠0;decide)
theorem Q2y:Lw 0 (Ll (sE z16)) ⟨10,[]⟩ ⟨10,[]⟩:=
 ⟨Q0f,Q2l,D,D,D,λa h=>absurd h (Qc6 a),⟨List.Pairwise.nil,λs h=>(by cases h),D,D⟩,rfl,⟨[],⟨QxL _,⟨List.Pairwise.nil,λs h=>(by cases h),D,D⟩,λs h=>(by cases h),λa h _=>absurd h (Qc6 a),λ_=>rfl,λh=>absurd h D⟩,rfl,λ_=>rfl⟩,D,D⟩
theorem Qh8{n:Int}(h:(Lit.int .i64 n).wf=true):vo.I64 n:=by
 simp only[Lit.wf,QzC,QzD]at h;have a:IntKind.i64.min= -9223372036854775808:=D;have b:IntKind.i64.max=9223372036854775807:=D;rw[a,b]at h;exact h
def Q35(w:ν)(b off:Nat)(l:List Ac):Prop:=∀(j:Nat) (x:Ac),l[j]? =some x->(w (b,off+j*5)=I x.k/\w (b,off+j*5+1)=I x.id/\w (b,off+j*5+2)=I x.fr/\w (b,off+j*5+3)=I x.n/\w (b,off+j*5+4)=some (.string x.d))/\vo.I64 x.id/\vo.I64 x.fr/\vo.I64 x.n
def PlS(B:Nat)(w0:World)(b k:Nat)(w:World):Prop:=∃v c X V F r su,PlIn B w0 w b v c X V F r su/\Lw k V r su
theorem PlS.below{B:Nat}{w0 w w':World}{b k:Nat}(h:PlS B w0 b k w)(hb:Below w w w'):PlS B w0 b k w':=by
 obtain⟨v,c,X,V,F,r,su,a,d⟩:=h;exact⟨v,c,X,V,F,r,su,a.below hb,d⟩
theorem PlS.own{B:Nat}{w0 w:World}{b k:Nat}(h:PlS B w0 b k w):Below B w0 w:=by
 obtain⟨v,c,X,V,F,r,su,a,d⟩:=h;exact a.own.1
theorem PlS.same{B:Nat}{w0 w:World}{b k:Nat}(h:PlS B w0 b k w):PlS B w0 b (k+1) w:=by
 obtain⟨v,c,X,V,F,r,su,a,d⟩:=h;exact⟨v,c,X,V,F,r,su,a,d.same⟩
theorem PlS.step{B:Nat}{w0 w:World}{b k:Nat}(h:PlS B w0 b k w)(l:k<=1000)(x:Ac)(m:vo.I64 x.id/\vo.I64 x.fr/\vo.I64 x.n):∃t:Bool,(∀W,Below w w W->C 34 #[(b,0),x.val] W λe w'=>e= .returned (.bool t)/\Below w w w')/\(t=true->∀W,Below w w W->C 35 #[(b,0),x.val] W λe w'=>e= .returned (.bool true)/\PlS B w0 b (k+1) w'):=by
 obtain⟨v,c,X,V,F,r,su,g,i⟩:=h;refine⟨decide (x.d.size<=1000)&&decide (4<=we.G6 (Q6 V.s) 0),λW hb=>(Qi4 W b v c X V F r su x (g.below hb)).mono ?_,λj W hb=>?_⟩
 ·rintro e w' ⟨rfl,a⟩;exact⟨rfl,hb.trans (a.mono hb.size)⟩
 ·simp only[QzC,QzD]at j;have:=Qsc i.fit;refine(Q3k x (g.below hb) i l O m j.1).mono ?_;rintro e w' ⟨r',f,rfl,o,F',p,q,u,p1,p2⟩;exact⟨rfl,o,p,q,u,F',r',f,p1,p2⟩
theorem PlS.says{B:Nat}{w0 w:World}{b k:Nat}(h:PlS B w0 b k w):∃(v:Nat) (cap:Int) (A:Option Addr) (n c:Nat),(w.cell? (b,1)=some (v,0)/\w.cell? (b,2)=some (I cap)/\w.cell? (b,3)=some (.slice A n c))/\∀W,Below w w W->C 36 #[(v,0),.agg #[I cap,.slice A n c]] W λe w'=>e= .returned (.bool true)/\Below w w w':=by
 obtain⟨v,c,X,V,F,r,su,d,j⟩:=h;obtain⟨rl,sl,f,g,m⟩:=d.obj;obtain⟨A,cc,rfl,a⟩:=g;refine⟨v,r.cap,A,r.l.length,cc,⟨f.cell 1,f.cell 2,f.cell 3⟩,λW hb=>?_⟩;have o:DvAt w F (.agg #[I r.cap,.slice A r.l.length cc]) r:=⟨⟨_,rfl,⟨A,cc,rfl,a⟩⟩,d.lt⟩;refine(Qba W v c X V F _ r (d.vo.below hb) (o.below hb) (syh d.vo j)).mono ?_;rintro e w' ⟨rfl,i⟩;exact⟨rfl,hb.trans (i.mono hb.size)⟩
theorem Qhm(w:ν)(hg:LaidT w)(A:Option Addr)(n c0:Nat)(l:List Ac)(hl:l.length=n)(hn:n<=9223372036854775807)(ha:0<n->∃b off,A=some ⟨b,off,none⟩/\b<w.heap.size/\Q35 w b off l):
  C 5 #[.slice A n c0] w λe w'=>e=ρ (.bool true)/\Below w w w':=by
 have H:=Qsb w hg;clear hg;go_enter Tryz.func5,Tryz.ntmps5
 go_wp2_with fail
 refine H.mono ?_;rintro e w1 ⟨b,v0,c1,rfl,hp⟩;have K:=hp.vo.laid;have L:PlS w w b 0 w1:=⟨v0,c1,_,_,_,_,_,hp,Q2y⟩;have ak:∀w,(binOp .eql 56 (.pointer (some ⟨b,0,none⟩)) (.pointer none)).run Tryz.prog w= .ok (.bool false) w:=λw=>by kernel_rfl
 clear hp H;go_wp2_with fail
 refine(Qav _ K).mono ?_;rintro e w2 ⟨rfl,M⟩;have N:=L.below M;clear M L K;go_wp2
 go_loopw [4] (λiv wr=>∃(i:Nat),i<=n/\i<=60/\iv= I i/\Hid (PlS w w b i wr)) (λiv _=>60-(intOf iv).toNat)
 case atStart=>exact⟨0,QqM _,QqM _,rfl,N⟩
 case round=>
  clear N;obtain⟨i,al,aj,rfl,HP⟩:=hrel;by_cases ad:i<n/\i<60
  ·have am:(i:Int)<(n:Int):=O;have an:(i:Int)<60:=O;have ao:(0:Int)<=(i:Int):=QkD _;obtain⟨g,off,rfl,j,Q⟩:=ha O;obtain⟨x,hx⟩:∃a,l[i]? =some a:=⟨l[i]'O,QqC O⟩;obtain⟨⟨a0,a1,a2,a3,a4⟩,hr⟩:=Q i x hx;obtain⟨t,R,S⟩:=HP.step O x hr;obtain⟨k,id,fr,m,d⟩:=x;simp only at a0 a1 a2 a3 a4;have HC:∀W,Below w w W->W ⟨g,off+i*5,none⟩=I k/\W ⟨g,off+i*5+1,none⟩=I id/\W ⟨g,off+i*5+2,none⟩=I fr/\W ⟨g,off+i*5+3,none⟩=I m/\W ⟨g,off+i*5+4,none⟩=some (.string d):=λW hb=>⟨(hb.cell (p:=⟨g,_,none⟩) j).trans a0,(hb.cell (p:=⟨g,_,none⟩) j).trans a1,(hb.cell (p:=⟨g,_,none⟩) j).trans a2,(hb.cell (p:=⟨g,_,none⟩) j).trans a3,(hb.cell (p:=⟨g,_,none⟩) j).trans a4⟩;have ae:=HP.below (QqA _ _).drew;have HS:=HC _ ae.own;have af:∀W,Below wr wr W->C 34 #[.pointer (some ⟨b,0,none⟩),.agg #[I k,I id,I fr,I m,.string d]] W λe w'=>e=ρ (.bool t)/\Below wr wr w':=R;have T:t=true->∀W,Below wr wr W->C 35 #[.pointer (some ⟨b,0,none⟩),.agg #[I k,I id,I fr,I m,.string d]] W λe w'=>e=ρ (.bool true)/\PlS w w b (i+1) w':=S
   clear a0 a1 a2 a3 a4 Q hx R S hr;go_wp2_with fail
   refine rg.rgB (λW=>W ⟨g,off+i*5,none⟩=I k/\W ⟨g,off+i*5+1,none⟩=I id/\W ⟨g,off+i*5+2,none⟩=I fr/\W ⟨g,off+i*5+3,none⟩=I m/\W ⟨g,off+i*5+4,none⟩=some (.string d)) HS (λc=>?_);iterate 5 (refine rg.rgT ?_ ?_ ?_;rotate_left;(focus(intro V f;(try dsimp only at f);obtain⟨q0,q1,X,Y,Z⟩:=f;go_simp;(try with_reducible rfl)));(try simp only[Go.Act.put,rg.qa,rg.qb,rg.qc]))
   refine rg.rgC (λJ s=>?_);rw[QqH (by rfl)];go_simp
   refine(af _ (QqA _ _).drew).mono ?_;rintro e w4 ⟨rfl,y⟩;have B:=HP.below y;have ag:=y;refine s _ _ (HC _ B.own) (λc=>?_);clear s J y;cases t
   ·iterate 1 (refine rg.rgT ?_ ?_ ?_;rotate_left;(focus(intro V f;(try dsimp only at f);obtain⟨q0,q1,X,Y,Z⟩:=f;go_simp;(try with_reducible rfl)));(try simp only[Go.Act.put,rg.qa,rg.qb,rg.qc]))
    iterate 19 (refine rg.rgS ?_;(try simp only[Go.Act.put,rg.qa,rg.qb,rg.qc]))
    iterate 1 (refine rg.rgT ?_ ?_ ?_;rotate_left;(focus(intro V f;(try dsimp only at f);obtain⟨q0,q1,X,Y,Z⟩:=f;go_simp;(try with_reducible rfl)));(try simp only[Go.Act.put,rg.qa,rg.qb,rg.qc]))
    refine rg.rgD ?_;have z:=B.same;go_wp2
    go_roundw
    case rel=>exact⟨i+1,O,O,by go_num,z⟩
    case measure=>simp[intOf];omega
   ·iterate 6 (refine rg.rgT ?_ ?_ ?_;rotate_left;(focus(intro V f;(try dsimp only at f);obtain⟨q0,q1,X,Y,Z⟩:=f;go_simp;(try with_reducible rfl)));(try simp only[Go.Act.put,rg.qa,rg.qb,rg.qc]))
    refine rg.rgC (λJ s=>?_);rw[QqH (by rfl)];go_simp
    refine(T rfl _ ag).mono ?_;rintro e u ⟨rfl,r⟩;have z:=Q7h r;refine s _ _ (HC _ z.own) (λc=>?_);obtain⟨v,cap,A5,n5,aa,⟨y1,y2,y3⟩,ab⟩:=z.says;have ah:=Q7h ab;have HY:(u ⟨g,off+i*5,none⟩=I k/\u ⟨g,off+i*5+1,none⟩=I id/\u ⟨g,off+i*5+2,none⟩=I fr/\u ⟨g,off+i*5+3,none⟩=I m/\u ⟨g,off+i*5+4,none⟩=some (.string d))/\u ⟨b,1,none⟩=some (.pointer (some ⟨v,0,none⟩))/\u ⟨b,2,none⟩=I cap/\u ⟨b,3,none⟩=some (.slice A5 n5 aa):=⟨c,y1,y2,y3⟩;clear s J y1 y2 y3 T;refine rgM (S':=λW=>(W ⟨g,off+i*5,none⟩=I k/\W ⟨g,off+i*5+1,none⟩=I id/\W ⟨g,off+i*5+2,none⟩=I fr/\W ⟨g,off+i*5+3,none⟩=I m/\W ⟨g,off+i*5+4,none⟩=some (.string d))/\W ⟨b,1,none⟩=some (.pointer (some ⟨v,0,none⟩))/\W ⟨b,2,none⟩=I cap/\W ⟨b,3,none⟩=some (.slice A5 n5 aa)) (λ_ h=>h.1) _ _ _ _ ?_;clear c;have c:=HY;iterate 10 (refine rg.rgT ?_ ?_ ?_;rotate_left;(focus(intro V f;(try dsimp only at f);obtain⟨⟨q0,q1,X,Y,Z⟩,q5,q6,q7⟩:=f;go_simp;(try with_reducible rfl)));(try simp only[Go.Act.put,rg.qa,rg.qb,rg.qc]))
    refine rg.rgC (λJ s=>?_);rw[QqH (by rfl)];go_simp
    refine(ah _ (QqA _ _)).mono ?_;rintro e w6 ⟨rfl,o⟩;have ac:=z.below o;refine s _ _ ⟨HC _ ac.own,Qq o c.2.1,Qq o c.2.2.1,Qq o c.2.2.2⟩ (λc=>?_);clear s J o;iterate 3 (refine rg.rgT ?_ ?_ ?_;rotate_left;(focus(intro V f;(try dsimp only at f);obtain⟨⟨q0,q1,X,Y,Z⟩,q5,q6,q7⟩:=f;go_simp;(try with_reducible rfl)));(try simp only[Go.Act.put,rg.qa,rg.qb,rg.qc]))
    refine rg.rgD ?_;go_wp2
    go_roundw
    case rel=>exact⟨i+1,O,O,by go_num,ac⟩
    case measure=>simp[intOf];omega
  ·have q:(¬(i:Int)<(n:Int))\/((i:Int)<(n:Int)/\¬(i:Int)<60):=O;clear ad ha;rcases q with q|⟨q,ai⟩;all_goals
    go_wp2
    go_ret
    exact⟨rfl,HP.own⟩
end pl
end Go.Proofs.YtfialjmemcobjaaGreatDoor
