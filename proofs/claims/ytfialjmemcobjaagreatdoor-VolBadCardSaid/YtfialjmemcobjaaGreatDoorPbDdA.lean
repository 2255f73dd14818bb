/- A part of the proof. -/
import Derived.Test.YtfialjmemcobjaaGreatDoorPbDe
import Derived.Test.YtfialjmemcobjaaGreatDoorPbDg
import Derived.Test.YtfialjmemcobjaaGreatDoorPbDh
set_option maxRecDepth 100000
set_option maxHeartbeats 16000000
set_option linter.unusedVariables false
set_option linter.unusedSimpArgs false
namespace Go.Proofs.YtfialjmemcobjaaGreatDoor
namespace pl
open Go.RowKit Go.Maps er tr st vo nd pg dc
theorem Gs{w w':World}{v:Nat}{c:Pt}{X:XL}{V:Vo}{op:ByteArray}{id e:Int}{G:XL->Vo->Prop}{x:Ending}(h:Ib w op id e x w')(a:VoIn w v c X V)(d:e≠0)(f:G X V):Lm w v c X V op id e G x w':=by
 obtain⟨b,rfl,g,hb⟩:=h;exact⟨c,X,V,_,rfl,.inr ⟨d,b,rfl,g⟩,rfl,a.below hb,Mv.below hb,f⟩
theorem Q2j(X:XL)(y:Sp×Bl):(Yy X y).map (·.1)=Lu (X.map (·.1)) y.1:=by
 unfold Yy Lu;rw[QqY,QzE,QxF,QxF];rfl
theorem Q2x(X:XL)(id:Int):(Ul X id).map (·.1)=Qxa (X.map (·.1)) id:=by
 unfold Ul Qxa;rw[QxF];rfl
theorem Su{X:XL}{x:Sp×Bl}{s:Sp}{g:Sp×Bl->Sp}(c:X.Pairwise λa b=>a.1.id<b.1.id)(d:x∈X)(f:s.id=x.1.id)(h1:g x=s)(h2:∀y,y.1.id≠x.1.id->g y=y.1):X.map g=Om (X.map (·.1)) s:=by
 unfold Om;rw[QzR];refine QkF λy h=>?_;show g y=if y.1.id=s.id then s else y.1;by_cases e:y.1.id=x.1.id
 ·rw[QqH O,Fa c h d e,h1]
 ·rw[QqE O,h2 y e]
section
variable {k:Nat} {w:World} {v:Nat} {c:Pt} {X:XL} {V:Vo} {r su:Dv}
theorem Oq(a:VoIn w v c X V){x:Sp×Bl}(b:x∈X):x.1∈V.l:=a.spl▸List.mem_map_of_mem b
theorem Qmy(b:VoIn w v c X V){id:Int}(h:∀x∈X,x.1.id≠id):∀s∈V.l,s.id≠id:=λs a=>by
 rw[<-b.spl]at a;obtain⟨x,d,rfl⟩:=QqS.1 a;exact h x d
theorem Qzx(a:VoIn w v c X V){id:Int}(h:∀x∈X,x.1.id≠id):Xx (key (Zq X)) id=none:=Qn5 (Qyq (P:=λi=>i≠id) h)
theorem Gh{n:Nand}{L:List Sp}(h:Fine n L){s:Sp}(a:s∈L):s.used<=10:=QiJ (Wq h.sp s a) h.cap
theorem Ws{n:Nand}{X:XL}(h:Fine n (X.map (·.1))):Ej X:=
 ⟨by simpa using h.len,λx a=>Y8 (h.sp _ (List.mem_map_of_mem a)) (Gh h (List.mem_map_of_mem (f:=(·.1)) a))⟩
theorem Qv2(a:VoIn w v c X V)(b:Lw k V r su)(id size:Int):C 22 #[(v,0),I id,I size] w (Lm w v c X V Qxe id (Ji r id size).2 λ_ u=>Lw (k+1) u (Ji r id size).1 su):=by
 have j:=b.r;have q:r.l.length=X.length:=by rw[j,<-a.spl];simp[Xo]
 have y:=b.fine.len;rw[<-a.spl,QqT]at y;unfold Ji;split
 ·rename_i hb;exact(Vq w v c X V id size 1 a D (Qsq w _ id size hb)).mono λ_ _ h=>Gs h a (by intro e;cases e) b.same
 ·rename_i hb;by_cases f:∃x∈X,x.1.id=id
  ·obtain⟨x,f,rfl⟩:=f;rw[QqH (by rw[j];exact Qao b.fine.up (Oq a f))];have z:=Qb9 w _ _ _ _ _ size a.led (Yx f) (show 0<=size/\size<=16777216 by omega);exact(Vq w v c X V x.1.id size 7 a D z).mono λ_ _ h=>Gs h a (by intro e;cases e) b.same
  ·have d:∀x∈X,x.1.id≠id:=λx m e=>f ⟨x,m,e⟩;have g:=Qmy a d;have t:=Qzx a d;rw[QqE (by rw[j,Qai g];omega)];by_cases F:8<=X.length
   ·rw[QqH O];exact(Vq w v c X V id size 70 a D (Qh4 w _ _ _ _ id size a.led O t O (by simp[Zq];omega))).mono λ_ _ h=>Gs h a (by intro e;cases e) b.same
   ·rw[QqE O];refine(Tw w v c X V id size a ⟨Ws (a.spl▸b.fine),b.last⟩ O d t O O).mono ?_;rintro e w' ⟨rfl,ab,p,o,m,_,_⟩;have i:(Yy X (⟨id,size,0,.no⟩,⟨ab,p,[p]⟩)).map (·.1)=Lu V.l ⟨id,size,0,.no⟩:=by rw[Q2j,a.spl]
    refine⟨c,_,_,_,rfl,.inl ⟨rfl,rfl⟩,rfl,o,m,b.chg (Grw.refl b.fit) (En _) (QqM 64) ⟨_,rfl⟩ rfl rfl rfl rfl ?_ ?_⟩
    ·show Fine V.s.n ((Yy X _).map (·.1));rw[i];refine Qw8 b.fine g ⟨show 1<=id/\id<=65535 by omega,show 0<=size/\size<=16777216 by omega,trivial,Dk,rfl,rfl,trivial,List.Pairwise.nil⟩ rfl ?_;rw[<-a.spl,QqT];omega
    ·show(⟨r.cap,Z9 r.l ⟨id,size,[]⟩⟩:Dv)=⟨10,Xo _ ((Yy X _).map (·.1))⟩;rw[i,j];exact congrArg (Dv.mk 10) (V6 (s:=⟨id,size,0,.no⟩) b.fine.up)
theorem Qv1(a:VoIn w v c X V)(b:Lw k V r su)(id:Int)(hi:vo.I64 id):C 27 #[(v,0),I id] w (Lm w v c X V ⟨#[100,101,108,101,116,101]⟩ id (Yh r id).2 λ_ o=>Lw (k+1) o (Yh r id).1 su):=by
 have i:=b.r;unfold Yh;by_cases d:∃x∈X,x.1.id=id
 ·obtain⟨x,d,rfl⟩:=d;rw[QqE (by rw[i];have:=Qao (B:=bd V.s.n) b.fine.up (Oq a d);show ¬Ky (Xo (bd V.s.n) V.l) x.1.id<0;omega)];refine(Qf4 w v c X V x a d ⟨Ws (a.spl▸b.fine),b.last⟩).mono ?_;rintro e w' ⟨rfl,j,m⟩;have f:(Ul X x.1.id).map (·.1)=Qxa V.l x.1.id:=by rw[Q2x,a.spl]
  refine⟨c,_,_,_,rfl,.inl ⟨rfl,rfl⟩,rfl,j,m,b.chg (Grw.refl b.fit) (En _) (QqM 64) ⟨_,rfl⟩ rfl rfl rfl rfl ?_ ?_⟩
  ·show Fine V.s.n ((Ul X _).map (·.1));rw[f];exact Qw9 b.fine _
  ·show(⟨r.cap,Zj r.l x.1.id⟩:Dv)=⟨10,Xo _ ((Ul X _).map (·.1))⟩;rw[f,i];exact congrArg (Dv.mk 10) (Qjy V.l x.1.id)
 ·have g:∀x∈X,x.1.id≠id:=λx m e=>d ⟨x,m,e⟩;rw[QqH (by rw[i,Qai (Qmy a g)];omega)];exact(Qf5 w v c X V id a hi (Qzx a g)).mono λ_ _ h=>Gs h a (by intro e;cases e) b.same
theorem Qey{a:Vo}{r':Dv}{Y:XL}(h:VoIn w v c X V)(b:Lw k V r su){x:Sp×Bl}(i:x∈X){s:Sp}(d:s.id=x.1.id)(m:FineS V.s.n s)(o:K9 V.l-x.1.used+s.used<=10)(j:Y.map (·.1)=Om V.l s)(p:∃l,a.s=V.s.need l)(f:a.cap=V.cap)(q:a.gen=V.gen)(t:a.sure=false)(g:a.last=V.last)(e:a.l=Y.map (·.1))(u:r'=⟨10,Z9 r.l (doc (bd V.s.n) s)⟩):Lw (k+1) a r' su:=by
 refine b.chg (Grw.refl b.fit) (En _) (QqM 64) p f q t g (by rw[e,j];exact Rk b.fine (Oq h i) d m o) ?_;rw[u,e,j,b.r];refine congrArg (Dv.mk 10) ?_;rw[V6 b.fine.up,Qqs b.fine.up ⟨x.1,Oq h i,d.symm⟩]
theorem win(d:VoIn w v c X V)(i:Lw k V r su)(id f n:Int)(m:Bool)(hi:vo.I64 id)(j:vo.I64 f)(o:vo.I64 n):(∃x∈X,x.1.id=id/\1<=n/\0<=f/\f+n<=x.1.size/\m=true/\Qm r.l id f n m=0)\/(Qm r.l id f n m≠0/\C 74 #[(v,0),I id,I f,I n,.bool m] w λx w'=>x= .returned (.iface 28 (I (Qm r.l id f n m)))/\Below w w w'):=by
 rw[i.r];by_cases b:∃x∈X,x.1.id=id
 ·obtain⟨x,b,rfl⟩:=b;rw[Qf1 i.fine.up (Oq d b)];by_cases a:Gt x.1.size f n m=0
  ·refine .inl ⟨x,b,rfl,?_⟩;have h1:¬(m=false\/n<1):=λh=>by
    rw[Gt,QqH h]at a;exact absurd a D
   have h2:¬(f<0\/f>x.1.size\/n>x.1.size-f):=λh=>by
    rw[Gt,QqE h1,QqH h]at a;exact absurd a D
   refine⟨O,O,O,?_,a⟩;cases m
   ·exact absurd (.inl rfl) h1
   ·rfl
  ·refine .inr ⟨a,(Kj w v c X V x f n m d b j o).mono ?_⟩;rintro e w' ⟨rfl,hb⟩;exact⟨by unfold Ig;rw[QqE a],hb⟩
 ·have g:∀x∈X,x.1.id≠id:=λx p e=>b ⟨x,p,e⟩;rw[Qf2 (Qmy d g)];exact .inr ⟨D,Qrq w v c X V id f n m d hi (Qzx d g)⟩
theorem Qg6{w':World}{c:Pt}{a:XL}{b:Vo}(d:VoIn w' v c a b)(e:b.cap=10):K9 (a.map (·.1))<=10:=by
 have:=d.led.ok.sum;rw[e,E9]at this;exact this
theorem Q23{l:List Ext}{a n:Int}(h:Chk l)(ha:0<=a)(c:0<=n)(hb:a+n<=16777216):Zql (Eb l a n)=Zql l-Zql (parts l a (a+n))/\0<=Zql (parts l a (a+n))/\0<=Zql (Eb l a n):=by
 have h1:=U7 (B:=λ_=>Zm) (l:=l) λe b=>by have:=Ut (h.one e b);omega
 have h2:=U7 (B:=λ_=>Zm) (l:=Eb l a n) λe b=>by have:=Ut ((S9 h ha c hb).one e b);omega
 have h3:=U7 (B:=λ_=>Zm) (l:=parts l a (a+n)) λe b=>by have:=R7 e b;omega
 have h4:=Qq2 (B:=λ_=>Zm) (id:=0) (size:=0) h ha c hb;unfold dIn at h4;rw[Qd9 h ha c hb]at h4;simp only at h4;omega
theorem Od{n:Nand}{X Y:XL}{T:Tree}(h:Fine n (X.map (·.1)))(b:Small T)(c:Y.length=X.length)(d:∀y∈Y,y.1.tr=T\/∃x∈X,y.1.tr=x.1.tr):Ej Y:=by
 have a:=Ws h;refine⟨by rw[c];exact a.1,λy f=>?_⟩;rcases d y f with e|⟨x,g,e⟩
 ·rw[e];exact b
 ·rw[e];exact a.2 x g
theorem Qfj{n:Nand}{s:Sp}(a:FineS n s)(k:s.used<=10){f m z:Int}(c:0<=f)(d:0<=m)(b:f+m<=16777216)(hz:0<=z/\z<=16777216)(g:∀q,0<=q->q<s.size->q<16777216->(q<f\/f+m<=q)->q<z):FineS n ⟨s.id,z,Zql (s.tr.cut f m).flat,s.tr.cut f m⟩/\(s.tr.cut f m).flat=Eb s.tr.flat f m/\(Eb s.tr.flat f m).length<=10/\0<=Zql s.tr.flat-Zql (s.tr.cut f m).flat/\Zql s.tr.flat-Zql (s.tr.cut f m).flat<=s.used/\Zql (s.tr.cut f m).flat<=10:=by
 obtain⟨a1,a2,a3⟩:=Q23 a.chk c d b;have j:=a.used;have h:=S9 a.chk c d b;have l:=Qnx h;obtain⟨c1,c2⟩:=Qe2 a.ok a.chk c d b O;have i:Kp s.tr (s.tr.cut f m):=Qj9 _ _ _;refine⟨Sn a rfl hz c2 (by rw[c1];exact h) rfl (i.gd _ a.gd) (a.nd.sublist i.nf) λq p hq=>?_,c1,O,by rw[c1];omega⟩;have hq:Cov some none (s.tr.cut f m).flat q p:=hq;rw[c1,Qpo a.chk]at hq;have h1:=Qek a.chk hq.1;have h2:=((La λe g=>Ut (a.chk.one e g)).1 a.hold q p hq.1).1;exact⟨g q h1.1 h2 h1.2 hq.2,.inl hq.1⟩
theorem Qgy(X:XL)(id:Int)(T:Tree)(F:List Nat)(d:Int):(Jv X id T F d).length=X.length/\∀y∈Jv X id T F d,y.1.tr=T\/∃x∈X,y.1.tr=x.1.tr:=by
 unfold Jv Qt Gf Qo;refine⟨U,λy a=>?_⟩;simp only[QzR,QqS,Function.comp]at a;obtain⟨x,b,rfl⟩:=a;by_cases e:x.1.id=id
 ·exact .inl (by simp[e])
 ·exact .inr ⟨x,b,by simp[e]⟩
theorem Q4i(g:VoIn w v c X V)(a:Lw k V r su)(id f n:Int)(hi:vo.I64 id)(u:vo.I64 f)(H:vo.I64 n):C 30 #[(v,0),I id,I f,I n] w (Lm w v c X V ⟨#[116,114,105,109]⟩ id (Eu r id f n).2 λ_ K=>Lw (k+1) K (Eu r id f n).1 su):=by
 unfold Eu;rcases win g a id f n true hi u H with⟨x,j,rfl,h1,p,h2,_,m⟩|⟨m,L⟩
 ·rw[m,QqE U];have b:=Oq g j;have o:=a.fine.sp _ b;have M:=Gh a.fine b;have hz:=o.size;obtain⟨t1,t2,N,u1,u2,u3⟩:=Qfj o M (z:=x.1.size) p (show 0<=n by omega) O hz (λq _ h _ _=>h);refine(Qtl w v c X V x f n g j p h1 h2 N u1 u2 t1.ok t1.chk λF d=>⟨Od (g.spl▸a.fine) (Y8 t1 u3) (Qgy ..).1 (Qgy ..).2,a.last⟩).mono ?_;rintro e w' ⟨rfl,F,i,Q⟩;have t:(Jv X x.1.id (x.1.tr.cut f n) F (Zql x.1.tr.flat-Zql (x.1.tr.cut f n).flat)).map (·.1)=Om V.l ⟨x.1.id,x.1.size,Zql (x.1.tr.cut f n).flat,x.1.tr.cut f n⟩:=by
   rw[<-g.spl];unfold Jv Qt Gf Qo;rw[QzR,QzR];refine Su g.up j rfl ?_ λy R=>?_
   ·have:=o.used;simp only[Function.comp,QyC];rw[Sp.mk.injEq];exact⟨rfl,rfl,O,rfl⟩
   ·simp[R]
  refine⟨c,_,_,_,rfl,.inl ⟨rfl,rfl⟩,rfl,i,Q,Qey g a j (s:=⟨x.1.id,x.1.size,Zql (x.1.tr.cut f n).flat,x.1.tr.cut f n⟩) rfl t1 ?_ t ⟨_,rfl⟩ rfl rfl rfl rfl rfl ?_⟩
  ·have:=Qg6 i a.cap;rw[t,Aq (s:=⟨x.1.id,x.1.size,Zql (x.1.tr.cut f n).flat,x.1.tr.cut f n⟩) a.fine.up b rfl]at this;exact this
  ·show(⟨r.cap,Z9 r.l (Ou (Vx r.l x.1.id) f (f+n))⟩:Dv)=_;rw[a.r];simp only;rw[Hz a.fine.up b];unfold doc;rw[Qd9 o.chk p O O,t2]
 ·rw[QqH m];exact(Qtm w _ id f n _ L).mono λ_ _ h=>Gs h g m a.same
end
end pl
namespace pl
open Go.RowKit Go.Maps er tr st vo nd pg dc
section
variable {k:Nat} {w:World} {v:Nat} {c:Pt} {X:XL} {V:Vo} {r su:Dv}
theorem size_map(X:XL)(id z:Int)(T:Tree)(F:List Nat)(d:Int):(Jv (Um X id z) id T F d).length=X.length/\∀y∈Jv (Um X id z) id T F d,y.1.tr=T\/∃x∈X,y.1.tr=x.1.tr:=by
 obtain⟨h1,h2⟩:=Qgy (Um X id z) id T F d;refine⟨by rw[h1];simp[Um,Gf],λy a=>(h2 y a).imp (λh=>h) ?_⟩;rintro⟨x,b,e⟩;obtain⟨u,c,rfl⟩:=QqS.1 b;refine⟨u,c,?_⟩;rw[e];split<;>rfl
theorem Qv0(a:VoIn w v c X V)(b:Lw k V r su)(id n:Int)(hi:vo.I64 id):C 26 #[(v,0),I id,I n] w (Lm w v c X V ⟨#[114,101,115,105,122,101]⟩ id (J9 r id n).2 λ_ N=>Lw (k+1) N (J9 r id n).1 su):=by
 unfold J9;by_cases hz:n<0\/16777216<n
 ·rw[QqH hz];have:=Qjp w _ _ _ _ id n a.led hi (.inl hz);rw[QqH hz]at this;exact(Qyd w v c X V id n 1 a D this).mono λ_ _ h=>Gs h a (by intro e;cases e) b.same
 ·rw[QqE hz];by_cases j:∃x∈X,x.1.id=id
  ·obtain⟨x,j,rfl⟩:=j;have g:=Oq a j;have u:=b.fine.sp _ g;have Q:=Gh b.fine g;obtain⟨i,R,H⟩:=Sw (B:=bd V.s.n) b.fine.up g;obtain⟨t1,t2,S,u1,u2,u3⟩:=Qfj u Q (f:=n) (m:=16777216-n) (z:=n) O O O O (λq _ _ h1 h2=>O);have o:Iq r.l x.1.id=some i:=by rw[b.r];exact R
   rw[o];simp only;refine(Qf3 w v c X V x n a j O S u1 u2 t1.ok t1.chk λF d=>⟨Od (a.spl▸b.fine) (Y8 t1 u3) (size_map ..).1 (size_map ..).2,b.last⟩).mono ?_;rintro e w' ⟨rfl,F,d,T,p,K⟩;have L:(Jv (Um X x.1.id n) x.1.id (x.1.tr.cut n (16777216-n)) F d).map (·.1)=Om V.l ⟨x.1.id,n,Zql (x.1.tr.cut n (16777216-n)).flat,x.1.tr.cut n (16777216-n)⟩:=by
    rw[<-a.spl];unfold Jv Qt Gf Qo Um Gf;rw[QzR,QzR,QzR];refine Su a.up j rfl ?_ λy W=>?_
    ·have:=u.used;simp only[Function.comp,QyC];rw[Sp.mk.injEq];exact⟨rfl,rfl,O,rfl⟩
    ·simp[W]
   refine⟨c,_,_,_,rfl,.inl ⟨rfl,rfl⟩,rfl,p,K,Qey a b j (s:=⟨x.1.id,n,Zql (x.1.tr.cut n (16777216-n)).flat,x.1.tr.cut n (16777216-n)⟩) rfl t1 ?_ L ⟨_,rfl⟩ rfl rfl rfl rfl rfl ?_⟩
   ·have:=Qg6 p b.cap;rw[L,Aq (s:=⟨x.1.id,n,Zql (x.1.tr.cut n (16777216-n)).flat,x.1.tr.cut n (16777216-n)⟩) b.fine.up g rfl]at this;exact this
   ·show(⟨r.cap,Z9 r.l ⟨(r.l.getD i ⟨0,0,[]⟩).id,n,(Ou (r.l.getD i ⟨0,0,[]⟩) n 16777216).s⟩⟩:Dv)=_;rw[b.r];simp only;rw[QkH,H];have M:=Qd9 (B:=bd V.s.n) (id:=x.1.id) (size:=x.1.size) u.chk (show 0<=n by omega) (show 0<=16777216-n by omega) O;rw[show n+(16777216-n)=16777216 by omega]at M;show(⟨10,Z9 _ ⟨x.1.id,n,(Ou (doc (bd V.s.n) x.1) n 16777216).s⟩⟩:Dv)=_;unfold doc;rw[M,t2]
  ·have t:∀x∈X,x.1.id≠id:=λx K e=>j ⟨x,K,e⟩;have o:Iq r.l id=none:=by rw[b.r];exact Qk5 (Qmy a t)
   rw[o];have:=Qjp w _ _ _ _ id n a.led hi (.inr (Qzx a t));rw[QqE hz]at this;exact(Qyd w v c X V id n 4 a D this).mono λ_ _ h=>Gs h a (by intro e;cases e) b.same
theorem Qxw(d:VoIn w v c X V)(a:Lw k V r su):Ug r=V.cap-tot (Zd (Zq X)):=by
 rw[a.r,Qcy λs b=>⟨(a.fine.sp s b).chk,(a.fine.sp s b).used⟩,a.cap,E9,d.spl]
theorem Qgx(b:VoIn w v c X V)(a:Lw k V r su){x:Sp×Bl}(d:x∈X){f n:Int}(e:0<=f)(h1:0<=n)(h2:f+n<=16777216):n-dIn (Vx r.l x.1.id) f (f+n)=Qp x.1.tr f n:=by
 rw[a.r];simp only;rw[Hz a.fine.up (Oq b d)];unfold doc Qp;rw[Qq2 (a.fine.sp _ (Oq b d)).chk e h1 h2]
theorem Qr1{n:Nand}{s:Sp}(b:FineS n s){f:Int}{m:Nat}(c:0<=f)(i:1<=m)(j:f+(m:Int)<=s.size)(k:s.used+Qp s.tr f m<=10):FineS n ⟨s.id,s.size,s.used+Qp s.tr f m,s.tr.over ⟨f,m,1,0⟩⟩/\(s.tr.over ⟨f,m,1,0⟩).flat=Gw s.tr.flat ⟨f,m,1,0⟩/\(Gw s.tr.flat ⟨f,m,1,0⟩).length<=10:=by
 have hz:=b.size;have d:Qb ⟨f,m,1,0⟩=true:=Qup c (by show(1:Int)<=(m:Int);omega) (by show f+(m:Int)<=16777216;omega) (.inl ⟨rfl,rfl⟩);obtain⟨c3,g⟩:=Q9q b.chk c i O;have l:=b.used;unfold Qp at k ⊢;have r:=Qnx c3;obtain⟨c1,c2⟩:=Qz6 b.ok b.chk d O;have h:Kp s.tr (s.tr.over ⟨f,m,1,0⟩):=Qj9 _ _ _;refine⟨Sn b rfl hz c2 (by rw[c1];exact c3) (by show s.used+((m:Int)-Zql (parts s.tr.flat f (f+m)))=Zql (s.tr.over ⟨f,m,1,0⟩).flat;rw[c1];omega) (h.gd _ b.gd) (b.nd.sublist h.nf) λq p hq=>?_,c1,O⟩;have hq:Cov some none (s.tr.over ⟨f,m,1,0⟩).flat q p:=hq;rw[c1,Rx b.chk (Ut d),C9]at hq;rcases hq with⟨h1,_⟩|⟨h1,h2⟩
 ·exact⟨((La λe o=>Ut (b.chk.one e o)).1 b.hold q p h1).1,.inl h1⟩
 ·refine⟨by unfold Ext.end_ at h1;show q<s.size;simp only at h1;omega,.inr λa ha=>?_⟩;rw[ha]at h2;unfold Ns at h2;rw[QqE (show ¬(1:Int)=2 by decide)]at h2;cases h2
theorem Qef(X:XL)(x:Sp×Bl)(y:Ext)(F:List Nat)(d:Int):(Ca X x y F d).length=X.length/\∀z∈Ca X x y F d,z.1.tr=x.1.tr.over y\/∃u∈X,z.1.tr=u.1.tr:=by
 unfold Ca Qt Gf Qo;refine⟨U,λz hz=>?_⟩;simp only[QzR,QqS,Function.comp]at hz;obtain⟨u,a,rfl⟩:=hz;by_cases e:u.1.id=x.1.id
 ·exact .inl (by simp[e])
 ·exact .inr ⟨u,a,by simp[e]⟩
theorem Q4o(b:VoIn w v c X V)(a:Lw k V r su)(id f n:Int)(hi:vo.I64 id)(Q:vo.I64 f)(R:vo.I64 n):C 29 #[(v,0),I id,I f,I n] w (Lm w v c X V ⟨#[122,101,114,111]⟩ id (Ey r id f n).2 λ_ S=>Lw (k+1) S (Ey r id f n).1 su):=by
 unfold Ey;rcases win b a id f n true hi Q R with⟨x,o,rfl,h1,z,h2,_,H⟩|⟨H,p⟩
 ·rw[H,QqE U];have d:=Oq b o;have K:=a.fine.sp _ d;have hz:=K.size;obtain⟨m,rfl⟩:∃m:Nat,n=(m:Int):=⟨n.toNat,O⟩;have g:=Qxw b a;have q:=Qgx b a o z (n:=(m:Int)) O O;rw[g,q];have M:V.cap-tot (Zd (Zq X))=10-K9 V.l:=by rw[a.cap,E9,b.spl]
  have h3:=Wq a.fine.sp _ d;have L:=λi:x.1.used+Qp x.1.tr f m<=10=>Qr1 K z (m:=m) O h2 i;refine(Qrk w v c X V x f m b o z h1 h2 (λi=>by obtain⟨t1,t2,T⟩:=L O;exact⟨T,t1.ok,t1.chk⟩) λi F=>⟨Od (b.spl▸a.fine) (Y8 (L O).1 (by show x.1.used+Qp x.1.tr f m<=10;omega)) (Qef ..).1 (Qef ..).2,a.last⟩).mono ?_;rintro e w' (⟨rfl,F,t,W⟩|⟨j,u⟩)
  ·have N:(Ca X x ⟨f,m,1,0⟩ F (Qp x.1.tr f m)).map (·.1)=Om V.l ⟨x.1.id,x.1.size,x.1.used+Qp x.1.tr f m,x.1.tr.over ⟨f,m,1,0⟩⟩:=by
    rw[<-b.spl];unfold Ca Qt Gf Qo;rw[QzR,QzR];refine Su b.up o rfl ?_ λy Y=>?_
    ·simp only[Function.comp,QyC]
    ·simp[Y]
   have p:=Qg6 t a.cap;rw[N,Aq (s:=⟨x.1.id,x.1.size,x.1.used+Qp x.1.tr f m,x.1.tr.over ⟨f,m,1,0⟩⟩) a.fine.up d rfl]at p;simp only at p;rw[QqE O];obtain⟨t1,t2,_⟩:=L O;refine⟨c,_,_,_,rfl,.inl ⟨rfl,rfl⟩,rfl,t,W,Qey b a o (s:=⟨x.1.id,x.1.size,x.1.used+Qp x.1.tr f m,x.1.tr.over ⟨f,m,1,0⟩⟩) rfl t1 p N ⟨_,rfl⟩ rfl rfl rfl rfl rfl ?_⟩;show(⟨r.cap,Z9 r.l (Ic (Vx r.l x.1.id) f (List.replicate (m:Int).toNat Zm))⟩:Dv)=_;rw[a.r];simp only;rw[Hz a.fine.up d,show((m:Int)).toNat=m by omega];unfold doc;rw[Qeh K.chk z O O,t2]
  ·rw[QqH j];exact Gs u b (by intro e;cases e) a.same
 ·rw[QqH H];exact(Qth w _ id f n _ p).mono λ_ _ h=>Gs h b H a.same
end
end pl
namespace pl
open Go.RowKit Go.Maps er tr st vo nd pg dc
theorem Qho{s:Sto}(o:0<=s.seq)(h1:s.seq<=1000000){pg:Nat->Page}{M:Nat}(e:∀j,j<M->Jd {pg j with seq:=0}=true)(f:∀j,(pg j).kind≠4)(h:FitP s):∀(n:Nat),(n:Int)<=room s->n<=100->n<=M->∃(S:Nat->Sto) (A:Nat->Int),S 0=s/\∀j,j<=n->(Grw s (S j) j/\NoRt s.n (S j).n)/\∀i,i<j->Xv 3 (S i) (pg i)=some (S (i+1),A i,0)/\(0<=A i/\A i<256)/\∃q,Qj (S j).n (A i)=({pg i with seq:=q},0)
 |0,_,_,_=>⟨λ_=>s,λ_=>0,rfl,λj p=>by
   obtain rfl:j=0:=O;exact⟨⟨Grw.refl h,λa h1 h2=>absurd h1 h2⟩,λi hi=>O⟩⟩
 |n+1,hr,hn,hM=>by
  obtain⟨S,A,r,l⟩:=Qho o h1 e f h n O O O;obtain⟨⟨g,no⟩,t⟩:=l n N0;have u:=g.room;have v:=g.seq;obtain⟨s',a,ha,k⟩:=Qxy g.fit O (e n hM) O O 2 N0;refine⟨λj=>if j<=n then S j else s',λj=>if j<n then A j else a,by simp[r],λj p=>?_⟩;by_cases b:j<=n
  ·obtain⟨q1,d⟩:=l j b;refine⟨by simp only[QqH b];exact q1,λi hi=>?_⟩;simp only[QqH b,QqH (show i<=n by omega),QqH (show i+1<=n by omega),QqH (show i<n by omega)];exact d i hi
  ·obtain rfl:j=n+1:=O;simp only[QqE b];refine⟨⟨g.trans k.grw,no.trans k.gr (k.nort (f n))⟩,λi hi=>?_⟩;by_cases c:i<n
   ·simp only[QqH c,QqH (show i<=n by omega),QqH (show i+1<=n by omega)];obtain⟨q1,d,q,m⟩:=t i c;exact⟨q1,d,q,by rw[k.gr _ (by rw[m])];exact m⟩
   ·obtain rfl:i=n:=O;simp only[QqE c,QqH N0,QqE (show ¬i+1<=i by omega)];exact⟨ha,k.rng,_,k.now⟩
theorem Qvr{id f:Int}(hi:1<=id/\id<=65535){b:ByteArray}{n:Nat}(c:0<=f)(a:f+(n:Int)<=16777216){j:Nat}(d:j<n):Jd {pgW id f b j with seq:=0}=true:=by
 have e:(b.extract (32*j) (32*j+32)).size<=100:=by
  rw[QjJ];omega
 show Jd ⟨1,id,f+(j:Int),0,b.extract (32*j) (32*j+32)⟩=true;unfold Jd inB;simp only[QzC,QzD];omega
theorem Q1f(b:ByteArray)(n:Nat)(h:b.size=32*n){i:Nat}(hi:i<n):(slc b i).size=32:=by
 unfold slc;rw[QjJ];omega
theorem Qyu{nd:Nand}{s:Sp}(c:FineS nd s){f:Int}{m:Nat}(h:0<=f)(t:1<=m)(v:f+(m:Int)<=s.size){A:Nat->Int}(k:∀j,j<m->0<=A j/\A j<2048)(n:s.used+Qp s.tr f m<=10){b:ByteArray}(hb:b.size=32*m)(o:∀i,i<m->∃q,Qj nd (A i)=({pgW s.id f b i with seq:=q},0)):
  FineS nd ⟨s.id,s.size,s.used+Qp s.tr f m,Qn s.tr f A m⟩/\Ic (doc (bd nd) s) f (Iu b m)=doc (bd nd) ⟨s.id,s.size,s.used+Qp s.tr f m,Qn s.tr f A m⟩:=by
 have hz:=c.size;have w:=c.used;have d:=Q8n c.chk h t O k;have d:Zql (ovL s.tr.flat f A m)=s.used+Qp s.tr f m:=by unfold Qp;omega
 obtain⟨o2,y⟩:=Q8z (P:=bd nd) (z:=Zm) c.chk h m O k;obtain⟨_,F⟩:=Q8z (P:=some) (z:=none) c.chk h m O k;obtain⟨_,t1,t2,r⟩:=Q79 c.ok c.chk h m O k O;have g:Ic (doc (bd nd) s) f (Iu b m)=⟨s.id,s.size,exp (bd nd) (Qn s.tr f A m).flat⟩:=by
  unfold doc;rw[t1];refine Qng c.chk o2 λx=>?_;rw[y,Qqf,Wt];refine or_congr_right (exists_congr λi=>and_congr_right λhi=>and_congr_right λ_=>?_);obtain⟨q,hq⟩:=o i hi;have:bd nd (A i)=slc b i:=by
   show(Qj nd (A i)).1.body=_;rw[hq];rfl
  rw[this];unfold Iu;rw[QkH,QzF,QxV hi];rfl
 refine⟨Sn c rfl hz t2 (by rw[t1];exact o2) (by show _=Zql (Qn s.tr f A m).flat;rw[t1,d]) (r.gd _ c.gd) (c.nd.sublist r.nf) λq p hq=>?_,g⟩;have hq:Cov some none (Qn s.tr f A m).flat q p:=hq;rw[t1]at hq;rcases(F q p).1 hq with⟨h1,_⟩|⟨i,hi,h1,h2⟩
 ·exact⟨((La λe H=>Ut (c.chk.one e H)).1 c.hold q p h1).1,.inl h1⟩
 ·refine⟨by show q<s.size;omega,.inr λa ha=>?_⟩;rw[ha]at h2;injection h2 with h2;obtain⟨u,n⟩:=o i hi;have l:(b.extract (32*i) (32*i+32)).size=32:=Q1f b m hb hi;unfold Bg;rw[h2,n];simp only[pgW,l,QoY,Bool.true_and];have e:f+(i:Int)=q:=O;simp[e]
end pl
namespace pl
open Go.RowKit Go.Maps er tr st vo nd pg dc
def frX(X:XL):Nat:=(X.map λx=>x.1.tr.fr).sum
theorem Qzq(x:Sp×Bl)(X:XL):frX (x::X)=x.1.tr.fr+frX X:=by simp[frX]
theorem Qge:∀(X:XL),frX X<=3*X.length
 |[]=>QqB _
 |x::X=>by
  have a:=Qge X;have:=(Q8g x.1.tr).2.1;rw[Qzq,QzN];omega
def Q6y(a b:Sp):Prop:=a.id=b.id/\a.size=b.size/\a.used=b.used/\a.tr.flat=b.tr.flat
inductive SameX:XL->XL->Prop
 |nil:SameX [] []
 |cons {x y:Sp×Bl} {X Y:XL}:Q6y y.1 x.1->SameX X Y->SameX (x::X) (y::Y)
theorem SameX.len{X Y:XL}(h:SameX X Y):Y.length=X.length:=by
 induction h with
 |nil=>rfl
 |cons _ _ ih=>rw[QzN,QzN,ih]
theorem SameX.ids{X Y:XL}(h:SameX X Y):(Y.map (·.1)).map (·.id)=(X.map (·.1)).map (·.id):=by
 induction h with
 |nil=>rfl
 |cons e _ ih=>simp only[QzE,ih,e.1]
theorem SameX.used{X Y:XL}(h:SameX X Y):K9 (Y.map (·.1))=K9 (X.map (·.1)):=by
 induction h with
 |nil=>rfl
 |cons e _ ih=>rw[QzE,QzE,Jq,Jq,ih,e.2.2.1]
theorem SameX.doc{B:Int->ByteArray}{X Y:XL}(h:SameX X Y):Xo B (Y.map (·.1))=Xo B (X.map (·.1)):=by
 induction h with
 |nil=>rfl
 |cons e _ ih=>
  unfold Xo at ih ⊢;simp only[QzE,ih];unfold pl.doc;rw[e.1,e.2.1,e.2.2.2]
structure Wx(X:XL)(s:Sto)(Y:XL)(s':Sto)(k:Nat):Prop where
 rm:Rm s' (k-frX X)
 g:Grw s s' (frX X)
 no:NoRt s.n s'.n
 same:SameX X Y
 fine:∀y∈Y,FineS s'.n y.1/\y.1.used<=10/\y.1.tr.fr=0
theorem Fw:∀{X:XL} {s s':Sto} {Y:XL} {k:Nat},(∀x∈X,FineS s.n x.1/\x.1.used<=10)->Rm s k->frX X<=k->Fs 3 X s Y s'->Wx X s Y s' k
 |[],s,s',Y,k,_,h,_,hw=>by
  obtain⟨rfl,rfl⟩:=hw;exact⟨h,Grw.refl h.fit,En _,.nil,λy a=>by cases a⟩
 |x::X,s,s',Y,k,hf,h,hk,hw=>by
  obtain⟨T,s1,f,rfl,h2,h3⟩:=hw;rw[Qzq]at hk;obtain⟨b,e⟩:=hf x U;have d:=Qti h O b.ok b.gd b.nd h2;have c:=Fw (λy a=>⟨(hf y (by simp[a])).1.gr d.g.gr,(hf y (by simp[a])).2⟩) d.rm O h3;refine⟨?_,?_,d.no.trans c.g.gr c.no,.cons ⟨rfl,rfl,rfl,d.flat⟩ c.same,λy a=>?_⟩
  ·have:=c.rm;rw[show k-x.1.tr.fr-frX X=k-frX (x::X) by rw[Qzq];omega]at this;exact this
  ·rw[Qzq];exact d.g.trans c.g
  ·rcases QqF.1 a with rfl|a
   ·have hz:FineS s1.n ⟨x.1.id,x.1.size,x.1.used,T⟩:=⟨b.id,b.size,d.ok,by rw[d.flat];exact b.chk,by rw[d.flat];exact b.used,by rw[d.flat];exact Qnp d.g.gr b.hold,d.gd,d.nd⟩;exact⟨hz.gr c.g.gr,e,d.fr⟩
   ·exact c.fine y a
section
variable {k:Nat} {w:World} {v:Nat} {c:Pt} {X:XL} {V:Vo} {r su:Dv}
theorem Lw.rm(h:Lw k V r su)(a:k<=1000)(b:32<=room V.s):Rm V.s 32:=by
 have h1:=h.q1;have h2:=h.ops;exact⟨h.fit,O,h.q0,O,O⟩
theorem Qly(a:VoIn w v c X V)(b:Lw k V r su):∀x∈X,FineS V.s.n x.1/\x.1.used<=10:=λx d=>⟨b.fine.sp _ (Oq a d),Gh b.fine (Oq a d)⟩
theorem Qa3{L:List Sp}:Up L↔(L.map (·.id)).Pairwise (· < ·):=by
 unfold Up;rw[QjP]
theorem Qwd{X Y:XL}{n:Nand}(hb:n.blocks=16)(b:n.per=16){g:Int}(c:0<=g/\g<=1099511627775)(a:Up (Y.map (·.1)))(d:Y.length<=8)(e:∀y∈Y,FineS n y.1/\y.1.used<=10/\y.1.tr.fr=0):rt.Bh g (Y.map Ko)=true:=by
 unfold rt.Bh;simp only[QzC,QzD,QxK];refine⟨⟨⟨c,by simpa using d⟩,λs f=>?_⟩,Q3u ?_⟩
 ·obtain⟨y,h,rfl⟩:=QqS.1 f;obtain⟨i,k,j⟩:=e y h;exact(Q3f hb b i j).2
 ·unfold Up at a;rw[QjP]at a ⊢;exact a
theorem Zqe{n:Nand}{Y:XL}(h:∀y∈Y,FineS n y.1/\y.1.used<=10/\y.1.tr.fr=0):∀s∈Y.map (·.1),FineS n s/\s.used<=10:=λs b=>by
 obtain⟨y,a,rfl⟩:=QqS.1 b;exact⟨(h y a).1,(h y a).2.1⟩
theorem Q45(l:VoIn w v c X V)(e:Lw k V r su)(t:k<=1000)(u:32<=room V.s):Qp0 3 X V:=by
 have f:=e.rm t u;have b:=Qly l e;have z:X.length<=8:=by have:=e.fine.len;rw[<-l.spl]at this;simpa using this
 have F:=Qge X;refine⟨λj x A s q m=>?_,λY s m=>?_⟩
 ·have H:X=X.take j++x::X.drop (j+1):=by
   obtain⟨S,K⟩:=QqD.1 q;rw[<-K,List.getElem_cons_drop,QkB]
  have M:frX X=frX (X.take j)+(x.1.tr.fr+frX (X.drop (j+1))):=by
   conv=>lhs;rw[H]
   simp[frX]
  have d:=Fw (λy i=>b y (QjF i)) f O m;have h:=(b x (QqL q)).1.gr d.g.gr;exact Q0l h.id (d.rm.le O) h.ok h.chk h.gd h.nd
 ·have d:=Fw b f O m;have T:=e.gen;obtain⟨L,N,_⟩:=e.rt;have Q:=N.g0;have o:Up (Y.map (·.1)):=by
   rw[Qa3,d.same.ids,<-Qa3,l.spl];exact e.fine.up
  have R:=Qwd (X:=X) d.g.fit.b16 d.g.fit.p16 (g:=V.gen+1) O o (by rw[d.same.len];exact z) d.fine;have p:=Qko (Zqe d.fine);have hq:=d.rm;have:=hq.room;have:=hq.q1;have:=hq.ops;have:=d.same.len;rw[QqT]at p;obtain⟨s',a,ha,_⟩:=Qxy hq.fit O (Quq (V.gen+1) (Y.map Ko) (by simp;omega)) hq.q0 O 2 N0;exact⟨R,⟨⟨O,λy i=>Y8 (d.fine y i).1 (d.fine y i).2.1⟩,by rw[Qbp];omega⟩,by unfold Q7t at *;show s.n.ops+((3:Nat):Int)<=_;omega,O,_,ha⟩
end
end pl
namespace pl
open Go.RowKit Go.Maps er tr st vo nd pg dc
section
variable {k:Nat} {w:World} {v:Nat} {c:Pt} {X:XL} {V:Vo} {r su:Dv}
theorem Qha{n n1 n2:Nand}{g:Int}{L:List Sp}(h:Rooted n g L)(f:Gr n n1)(i:NoRt n n1){Y:XL}{s1 s2:Sto}(j:s1.n=n1)(l:s2.n=n2){a:Int}(k:App1 s1 (Py (g+1) (Y.map Ko)) s2 a)(m:rt.Bh (g+1) (Y.map Ko)=true)(o:Fine n2 (Y.map (·.1)))(p:∀y∈Y,y.1.tr.fr=0):Rooted n2 (g+1) (Y.map (·.1)):=by
 subst j l;have q:=h.g0;have c:rt.Yf (Qj s2.n a).1.body=some (g+1,Y.map Ko):=by rw[k.now];exact rt.Qfz m
 have d:rt.Kw (fnd s2.n a)=true:=by
  unfold rt.Kw fnd;simp only;rw[c,k.now];rfl
 have old:∀b,(Qj s2.n b).2=0->rt.Kw (fnd s2.n b)=true->0<g/\rt.Fe (fnd s2.n b)<=g\/Qj s2.n b=Qj s2.n a:=λb h1 h2=>by
  by_cases hb:b=a
  ·exact .inr (by rw[hb])
  ·rcases k.rest b hb with h3|⟨_,h3|h3⟩
   ·have e:fnd s2.n b=fnd s1.n b:=by unfold fnd;rw[h3]
    rw[h3]at h1;rw[e]at h2 ⊢;exact .inl ((h.more f i).all b h1 h2)
   ·exact .inr (h3.trans k.now.symm)
   ·exact absurd h1 h3
 refine⟨O,o,λs r=>?_,λb h1 h2=>?_,λe=>O,λ_=>⟨a,by rw[k.now],d,by rw[c,Q1c],λb h1 h2 h3=>?_⟩⟩
 ·obtain⟨y,t,rfl⟩:=QqS.1 r;exact p y t
 ·rcases old b h1 h2 with h3|h3
  ·omega
  ·refine⟨O,?_⟩;unfold rt.Fe fnd;simp only;rw[h3,c];exact QxL _
 ·rcases old b h1 h2 with h4|h4
  ·omega
  ·rw[h4,c,Q1c]
theorem Qv3(i:VoIn w v c X V)(f:Lw k V r su)(hk:k<=1000)(hr:32<=room V.s):C 23 #[(v,0)] w λe w'=>e= .returned .nilIface/\∃Q X' R,Q.p=c.p/\VoIn w' v Q X' R/\Mv (vF v c X) w (vF v Q X') w'/\R.sure=true/\Lw (k+1) R r r:=by
 have j:=Q45 i f hk hr;obtain⟨L,hL,S,T⟩:=f.rt;have W:=hL.g0;have ac:=f.gen;have o:=f.rm hk hr;have t:=Qly i f;have ad:=Qge X;have Z:X.length<=8:=by have:=f.fine.len;rw[<-i.spl]at this;simpa using this
 refine(Qjg w v c X V 3 i W O (λ_=>j) f.last).mono ?_;rintro e w' (⟨⟨h1,h2⟩,rfl,rfl⟩|⟨Y,s,q,N,lv,P,rfl,M,ha,hq,hp,A,hm⟩|⟨b,et,ex,Y,s,N,rfl,_,_,_,s1,a,er,M,ha,B⟩)
 ·refine⟨rfl,c,X,V,rfl,i,Mv.refl _ _,h1,?_⟩;have:su=r:=by rw[S,f.r,T h1]
  rw[this]at f;exact f.same
 ·have d:=Fw t o O M;obtain⟨u,⟨_,ae⟩,_⟩:=j.root Y s M;have h:=d.rm;have h1:=h.room;have h2:=h.q1;obtain⟨s',a,m,k1⟩:=Qxy h.fit O (Quq (V.gen+1) (Y.map Ko) (by rw[QqT,d.same.len];exact Z)) h.q0 O 2 N0;rw[m]at ha;injection ha with ha;subst ha;have x:=d.g.trans k1.grw;have aa:Up (Y.map (·.1)):=by
   rw[Qa3,d.same.ids,<-Qa3,i.spl];exact f.fine.up
  have F:Fine s'.n (Y.map (·.1)):=⟨aa,λz hz=>by
   obtain⟨y,hy,rfl⟩:=QqS.1 hz;exact(d.fine y hy).1.gr k1.gr,by rw[d.same.used,i.spl];exact f.fine.cap,by rw[QqT,d.same.len];exact Z⟩
  have H:Xo (bd s'.n) (Y.map (·.1))=Xo (bd V.s.n) V.l:=by
   rw[d.same.doc,i.spl,Qza x.gr f.fine]
  have K:r=⟨10,Xo (bd s'.n) (Y.map (·.1))⟩:=by rw[H];exact f.r
  have e1:=x.seq;have e2:=x.ops;have h0:=f.q0;have h3:=f.q1;have h4:=f.ops;have af:=hp.length_eq;have ab:=Qha hL d.g.gr d.no rfl rfl k1 u F λy hy=>(d.fine y hy).2.2;refine⟨rfl,{c with N:=N,lv:=lv},Y,_,rfl,A,hm,rfl,f.cap,Qgf x.fit _,by show 0<=s'.seq;omega,by show s'.seq<=_;omega,by show Q7t s'<=_;omega,x.sq f.sq,F,K,⟨_,ab,K,λ_=>rfl⟩,by show V.gen+1<=_;omega,by show P.length<=_;omega⟩
 ·exfalso;have d:=Fw t o O M;have h:=d.rm;have h1:=h.room;have h2:=h.q1;obtain⟨s',a',m,_⟩:=Qxy h.fit O (Quq (V.gen+1) (Y.map Ko) (by rw[QqT,d.same.len];exact Z)) h.q0 O 2 N0;rw[m]at ha;injection ha with ha;exact B (congrArg (λr=>r.2.2) ha).symm
theorem Qvj{s:Sto}(h:FitP s):∀a,(Qj s.n a).2=0->(Qj s.n a).1.seq<(Ju s.n).seq:=λa ha=>by
 have b:=Da ha;rw[h.b16,h.p16]at b;obtain⟨m,rfl⟩:∃m:Nat,a=(m:Int):=⟨a.toNat,O⟩;have d:=Qy3 s.n m (Qj s.n m).1 (Prod.ext rfl ha) 256 O;obtain⟨i,hi⟩:=List.mem_iff_getElem?.1 d;have:=Qbg (Ql s.n 256) _ i _ (QqD.1 hi).1 hi;have c:(Ju s.n).seq=Ur (Ql s.n 256) (Ql s.n 256).length:=by
  unfold Ju;simp only[h.b16,h.p16]
 rw[c];simp only at this;omega
theorem Q4d(u:VoIn w v c X V)(d:Lw k V r su):C 14 #[(c.p,0)] w λe w'=>∃i j q b,e= .returned (.tuple #[(i,0),.nilIface])/\j.p=c.p/\VoIn w' i j q b/\Mv (vF v c X) w (vF i j q) w'/\b.sure=true/\Lw (k+1) b su su:=by
 have a:=d.fit;obtain⟨L,t,m,_⟩:=d.rt;refine(Q1u (λ_=>V.gen) (λ_=>L) w c.N c.p V.s.n u.sto.arr a.up u.laid (λh=>u.zero (.inr (.inr (.inr h)))) a.b16 a.p16 (Qzj a) (λl h1 h2 f x=>Q9k t a.b16 a.p16 h1 h2 f x)).mono ?_;rintro e w' ⟨i,j,q,b,l,rfl,M,y,h1,h2,Q,H⟩;rw[a.b16,a.p16]at h1;obtain⟨q1,z,K,R,S,⟨vv,F⟩,T⟩:=reopen t a.b16 a.p16 h1 h2 Q;obtain⟨o1,o2,W⟩:=Q4b a;have g:b.s.n=V.s.n:=by rw[F];rfl
 have hq:b.s.seq=(Ju V.s.n).seq:=by rw[F]
 have Y:=W V.s.seq d.q0 d.sq;have h5:=d.q1;have Z:=d.ops;have A:=d.gen;refine⟨i,j,q,b,rfl,M,y,⟨H.keep.mono λk _ o=>.inl (.inr (.inr (.inr o))),λk o=>(H.sub k o).imp (λo=>.inl (.inr (.inr (.inr o)))) id⟩,S,R,?_,by rw[hq];exact o2,by rw[hq];omega,by show b.s.n.ops+(Q7s b.s.n.plan b.s.n.ops:Int)<=_;rw[g];have B:V.s.n.ops+(Q7s V.s.n.plan V.s.n.ops:Int)<=64*(k:Int)+2:=d.ops;omega,by rw[g,hq];exact Qvj a,by rw[g,z];exact t.fine,by rw[g,z];exact m,⟨L,by rw[g,K];exact t,by rw[g];exact m,λ_=>z.symm⟩,by rw[K];omega,T⟩
 ·rw[F];exact⟨o1.b16,o1.p16,o1.bl,o1.sl,o1.up,o1.pn,o1.pl,o1.gd,o1.sm,o1.fr,o1.nb,o1.op⟩
end
end pl
namespace pl
open Go.RowKit Go.Maps er tr st vo nd pg dc
section
variable {k:Nat} {w:World} {v:Nat} {c:Pt} {X:XL} {V:Vo} {r su:Dv}
theorem Vy{n:Nand}{s:Sp}(c:FineS n s){S:Sto}(d:S.n=n)(a:Int):Iz S s.tr a=dOf (doc (bd n) s) a/\((Zb s.tr.flat a).1=2->(Qj S.n (Zb s.tr.flat a).2).2=0)/\(Iz S s.tr a).size=32:=by
 subst d;have f:Iz S s.tr a=dOf (doc (bd S.n) s) a:=by
  unfold doc;rw[Q4c c.chk];unfold Iz;split
  ·rfl
  ·exact Ri
 have b:(Zb s.tr.flat a).1=2->Bg S.n s.id a (Zb s.tr.flat a).2=true:=by
  intro h2;unfold Zb at h2 ⊢;cases hf:s.tr.flat.find? (hasB a)with
  |none=>rw[hf]at h2;exact absurd (show(0:Int)=2 from h2) D
  |some e=>
   rw[hf]at h2;have hb:=QuP hf;simp only[hasB,QzC,QzD]at hb;simp only[sayOf]at h2 ⊢;rw[QqH h2];have:=Qq5 c.hold (QjU hf) h2 (i:=a-e.fr) O O;rw[show e.fr+(a-e.fr)=a by omega,show e.at_+(a-e.fr)=e.at_+a-e.fr by omega]at this;exact this
 refine⟨f,λh=>(Wp (b h)).1,?_⟩;unfold Iz;split
 ·rename_i h;exact(Wp (b h)).2.2.2.2
 ·show(⟨(List.replicate 32 (0:UInt8)).toArray⟩:ByteArray).size=32;rw[Ri];exact Qxx
theorem Qdg{n:Nand}{s:Sp}(a:FineS n s){S:Sto}(b:S.n=n)(f:Int):∀m:Nat,(⟨(Oz S s.tr f m).toArray⟩:ByteArray)=Gv (doc (bd n) s) f m
 |0=>rfl
 |m+1=>by
  rw[Ob,Gv,<-Qdg a b f m,<-(Vy a b _).1];refine QyW ?_;simp
def Qea(w:World)(t:ByteArray)(id e:Int)(x:Ending)(w':World):Prop:=∃y,x= .returned (.tuple #[.string t,y])/\Re w' y ⟨#[114,101,97,100]⟩ id e/\Below w w w'
theorem Q4a(i:VoIn w v c X V)(d:Lw k V r su)(id f n:Int)(hi:vo.I64 id)(u:vo.I64 f)(y:vo.I64 n):C 24 #[(v,0),I id,I f,I n] w (Qea w (Im r id f n).1 id (Im r id f n).2):=by
 unfold Im;rcases win i d id f n (decide (n<=8)) hi u y with⟨x,t,rfl,h1,z,h2,o,h⟩|⟨h,F⟩
 ·rw[h,QqE U];have g:=Oq i t;have p:=d.fine.sp _ g;have o:n<=8:=by simpa using o
  obtain⟨m,rfl⟩:∃m:Nat,n=(m:Int):=⟨n.toNat,O⟩;refine(V8 w v c X V x f m i t z O O h2 (λj _=>(Vy p rfl _).2.1) (λa=>by have:=Qzj d.fit a;omega) (λj _=>(Vy p rfl _).2.2)).mono ?_;rintro e w' ⟨rfl,hb⟩;refine⟨.nilIface,?_,.inl ⟨rfl,rfl⟩,hb⟩;simp only;rw[d.r];simp only;rw[Hz d.fine.up g,show((m:Int)).toNat=m by omega,<-Qdg p rfl]
 ·rw[QqH h];refine(Qtn w _ id f n (Qm r.l id f n (decide (n<=8))) λm o=>?_).mono ?_
  ·have:m=decide (n<=8):=by
    cases m<;>simp_all
   subst this;exact F
  ·rintro x w' ⟨b,rfl,q,s⟩;exact⟨_,rfl,.inr ⟨h,b,rfl,q⟩,s⟩
end
end pl
namespace pl
open Go.RowKit Go.Maps er tr st vo nd pg dc
theorem Ew(w:World)(v:Nat)(id f e:Int)(s:ByteArray)(j:s.size<=100000)(c:∀W,Below w w W->C 74 #[(v,0),I id,I f,I (s.size/32:Nat),.bool (Cj s)] W λx w'=>x= .returned (.iface 28 (I e))/\Below W W w'):C 82 #[(v,0),I id,I f,.string s] w λx w'=>x= .returned (.iface 28 (I e))/\Below w w w':=by
 have hq:((s.size:Int)/32)=((s.size/32:Nat):Int):=O;have d:Hid (∀W m,Below w w W->m=Cj s->C 74 #[(v,0),I id,I f,I ((s.size:Int)/32),.bool m] W λx w'=>x= .returned (.iface 28 (I e))/\Below W W w'):=λW m hb g=>by
  rw[hq,g];exact c W hb
 clear c hq;have h:Hid (∀W,Below ((((w.alloc (.cells #[(v,0)] 24)).alloc (.cells #[I id] 3)).alloc (.cells #[.nilIface] 34)).heap.size) ((((w.alloc (.cells #[(v,0)] 24)).alloc (.cells #[I id] 3)).alloc (.cells #[.nilIface] 34))) W->Below w w W/\Whole W (w.heap.size+1+1) 34 #[.nilIface]):=λW hb=>by
  have b:=Whole.new ((w.alloc (.cells #[(v,0)] 24)).alloc (.cells #[I id] 3)) 34 #[.nilIface];rw[QqW,QqW]at b;exact⟨(((B0.alloc N0 _).alloc U _).alloc (by simp;omega) _).trans (hb.mono (by simp;omega)),b.below hb b.lt⟩
 go_in
 go_wp2_with fail
 all_goals
  refine(d.o _ _ (((B0.alloc N0 _).alloc U _).alloc (by simp;omega) _) (by unfold Cj;rw[Bool.eq_iff_iff];simp;omega)).mono ?_;rintro x w' ⟨rfl,hb⟩;obtain⟨a,x8⟩:=h.o w' hb;have c8:=x8.cell 0;have k:=x8.fz 0;have i:=Q7h a;clear hb a x8;go_wp2_with fail
  refine QqG (v:= .iface 28 (I e)) (by simp[results,Tryz.results82,go_sem,c8]) rfl ⟨rfl,?_⟩;exact i.o.setCell (by simp;omega) _
theorem Qof(w:World)(v:Nat)(id f e:Int)(s:ByteArray)(d:s.size<=100000)(c:∀W,Below w w W->C 74 #[(v,0),I id,I f,I (s.size/32:Nat),.bool (Cj s)] W λx w'=>x= .returned (.iface 28 (I e))/\Below W W w'):C 28 #[(v,0),I id,I f,.string s] w (Ib w Qa1 id e):=by
 have g:=Q7h (Ew w v id f e s d c);clear c;go_in
 go_wp2_with fail
 with_reducible refine g.o.mono ?_
 rintro e w1 ⟨rfl,a⟩;have b:=Q7h a;clear a;go_wp2_with fail
 with_reducible refine(C8 _ _ _ _ _ _).mono ?_
 rintro e w2 ⟨rfl,rfl⟩;go_wp2_with fail
 go_ret
 exact⟨_,rfl,Whole.new _ _ _,b.o.alloc b.o.size _⟩
section
variable {k:Nat} {w:World} {v:Nat} {c:Pt} {X:XL} {V:Vo} {r su:Dv}
theorem Rh(X:XL)(x:Sp×Bl)(f d:Int)(A:Nat->Int)(n:Nat)(F:List Nat):(U9 X x f d A n F).length=X.length/\∀z∈U9 X x f d A n F,z.1.tr=Qn x.1.tr f A n\/∃u∈X,z.1.tr=u.1.tr:=by
 unfold U9 Qt Gf Qo;refine⟨U,λz hz=>?_⟩;simp only[QzR,QqS,Function.comp]at hz;obtain⟨u,a,rfl⟩:=hz;by_cases e:u.1.id=x.1.id
 ·exact .inl (by simp[e])
 ·exact .inr ⟨u,a,by simp[e]⟩
theorem Qmv(u:VoIn w v c X V)(a:Lw k V r su)(hk:k<=1000)(hr:32<=room V.s)(id f:Int)(t:ByteArray)(hi:vo.I64 id)(hf:vo.I64 f)(ht:t.size<=100000):C 28 #[(v,0),I id,I f,.string t] w (Lm w v c X V Qa1 id (Uz r id f t).2 λ_ V'=>Lw (k+1) V' (Uz r id f t).1 su):=by
 have R:vo.I64 ((t.size/32:Nat):Int):=by unfold vo.I64;omega
 unfold Uz;rcases win u a id f ((t.size/32:Nat):Int) (Cj t) hi hf R with⟨x,hx,rfl,h1,K,h2,B,hw⟩|⟨hw,hc⟩
 ·rw[hw,QqE U];have o:=Oq u hx;have L:=a.fine.sp _ o;have hz:=L.size;obtain⟨n,hn⟩:=Zx (t.size/32);unfold Cj at B;simp only[QzC,QzD]at B;rw[hn]at B h1 h2 ⊢;have aa:=a.rm hk hr;have ai:=aa.q1;obtain⟨S,A,e0,hS⟩:=Qho (M:=n) a.q0 O (pg:=pgW x.1.id f t) (λj Q=>Qvr L.id K O Q) (λj=>by show(1:Int)≠4;decide) a.fit n O O N0;obtain⟨⟨g,no⟩,hA⟩:=hS n N0;have ae:=L.gr g.gr;have q:∀j,j<n->0<=A j/\A j<2048:=λj Q=>by have:=(hA j Q).2.1;omega
  have tt:=λd:x.1.used+Qp x.1.tr f n<=10=>Qyu ae K (show 1<=n by omega) h2 q d (b:=t) O (λi hi=>(hA i hi).2.2);have T:=Qxw u a;have ab:=Qgx u a hx K (n:=(n:Int)) O O;rw[T,ab];have aj:V.cap-tot (Zd (Zq X))=10-K9 V.l:=by rw[a.cap,E9,u.spl]
  have h3:=Wq a.fine.sp _ o;have ah:=Q8n L.chk K (show 1<=n by omega) O q;have ak:=L.used;have Y:Qp x.1.tr f n<=V.cap-tot (Zd (Zq X))->∀j,j<=n->Zql (ovL x.1.tr.flat f A j)<=10/\(Qn x.1.tr f A j).flat=ovL x.1.tr.flat f A j/\(Qn x.1.tr f A j).Ok/\Chk (ovL x.1.tr.flat f A j):=λd j Q=>by
   have hq:Zql (ovL x.1.tr.flat f A n)<=10:=by unfold Qp at d;omega
   obtain⟨q1,_⟩:=Q79 L.ok L.chk K n O q hq;obtain⟨_,q2,q3,_⟩:=Q79 L.ok L.chk K j O (λi hi=>q i O) (q1 j Q);exact⟨q1 j Q,q2,q3,(Q8z (P:=λ_:Int=>(0:Int)) (z:=0) L.chk K j O (λi hi=>q i O)).1⟩
  refine(Lr w v c X V x f n t 3 S A u hx K O O O h2 e0 (λj Q=>⟨(hA j Q).1,?_,?_⟩) (λd j Q=>?_) (λd m W F B hT ho hc=>?_) (λd F=>Od (u.spl▸a.fine) (Y8 (tt O).1 ?_) (Rh ..).1 (Rh ..).2) a.last).mono ?_
  ·have:=(hS j O).1.1.ops;unfold Q7t at this;have:=aa.ops;unfold Q7t at this;omega
  ·have:=(hS j O).1.1.seq;omega
  ·obtain⟨_,q2,q3,q4⟩:=Y d j Q;exact⟨q3,by rw[q2];exact q4⟩
  ·obtain⟨_,q2,_⟩:=Y d m O;obtain⟨q1,_,_,q4⟩:=Y d (m+1) O;have:=Qnx q4;refine Eh W F x.2.p _ ⟨f+m,1,2,A m⟩ hT ho hc (Ph (n:=0) hc O O (q m B)) ?_;rw[q2];show(ovL x.1.tr.flat f A (m+1)).length<=10;omega
  ·show x.1.used+Qp x.1.tr f n<=10;omega
  rintro e w' (⟨Z,ac⟩|⟨d,rfl,N',F,ad,af⟩)
  ·rw[QqH Z];exact Gs ac u (by intro e;cases e) a.same
  ·obtain⟨t1,t2⟩:=tt O;have hY:(U9 X x f (Qp x.1.tr f n) A n F).map (·.1)=Om V.l ⟨x.1.id,x.1.size,x.1.used+Qp x.1.tr f n,Qn x.1.tr f A n⟩:=by
    rw[<-u.spl];unfold U9 Qt Gf Qo;rw[QzR,QzR];refine Su u.up hx rfl ?_ λy hy=>?_
    ·simp only[Function.comp,QyC]
    ·simp[hy]
   have H:=Qg6 ad a.cap;rw[hY,Aq (s:=⟨x.1.id,x.1.size,x.1.used+Qp x.1.tr f n,Qn x.1.tr f A n⟩) a.fine.up o rfl]at H;rw[QqE (by simp only at H;omega)];refine⟨{c with N:=N'},_,_,_,rfl,.inl ⟨rfl,rfl⟩,rfl,ad,af,a.chg g no O ⟨_,rfl⟩ rfl rfl rfl rfl ?_ ?_⟩
   ·show Fine (S n).n ((U9 X x f _ A n F).map (·.1));rw[hY];exact Rk (a.fine.gr g.gr) o rfl t1 H
   ·show(⟨r.cap,Z9 r.l (Ic (Vx r.l x.1.id) f (Iu t n))⟩:Dv)=⟨10,Xo _ ((U9 X x f _ A n F).map (·.1))⟩;rw[hY,a.r];simp only;rw[<-Qza g.gr a.fine,Hz a.fine.up o,t2,V6 a.fine.up,Qqs (s:=⟨x.1.id,x.1.size,x.1.used+Qp x.1.tr f n,Qn x.1.tr f A n⟩) a.fine.up ⟨x.1,o,rfl⟩]
 ·rw[QqH hw];exact(Qof w v id f (Qm r.l id f ((t.size/32:Nat):Int) (Cj t)) t ht λW ag=>by
   rcases win (u.below ag) a id f ((t.size/32:Nat):Int) (Cj t) hi hf R with⟨_,_,_,_,_,_,_,K⟩|⟨_,h⟩
   ·exact absurd K hw
   ·exact h).mono λ_ _ h=>Gs h u hw a.same
end
end pl
namespace pl
open Go.RowKit er st vo dc
theorem Qpx{B:Nat->Prop}{w0 w:World}{b v:Nat}{c:Pt}{X:XL}{V:Vo}{F:Nat->Prop}{r su:Dv}{t:ByteArray}{e:Int}(id fr n:Int)(d:ByteArray){G:XL->Vo->Prop}(h:PlIn B w0 w b v c X V F r su)(L:-9223372036854775808<=e/\e<=9223372036854775807)(M:∀W lv,DvAt W F (.agg #[I r.cap,lv]) r->C 97 #[.agg #[I r.cap,lv],I id,I fr,I n] W λx w'=>x= .returned (.tuple #[.string t,I e])/\Below W W w')(N:∀W,VoIn W v c X V->C 24 #[(v,0),I id,I fr,I n] W (Qea W t id e))(Q:G X V):
  C 35 #[(b,0),.agg #[I 6,I id,I fr,I n,.string d]] w (DoRet B w0 b v r su G):=by
 obtain⟨w1,A,ln,cc,g⟩:=Uq h #[I 6,I id,I fr,I n,.string d];have⟨s,T,p⟩:=Q3 (h.below g.hb) Q g;have Y:=g.al;have Z:=g.act.cell 0;simp at Z;have q:Hid (∀W,Below w1 w1 W->(W.cell? (w,1)=some (I id)/\W.cell? (w,2)=some (I fr)/\W.cell? (w,3)=some (I n))/\W.cell? (b,1)=some (v,0)/\W.cell? (b,2)=some (I r.cap)/\W.cell? (b,3)=some (.slice A ln cc)):=λW hb=>by
  obtain⟨q1,_,q2⟩:=Qfq h p.o (Keep.below (F:=vF v c X) hb);exact⟨⟨q1.cell 1,q1.cell 2,q1.cell 3⟩,q2,(p.o.fz W hb).1,(p.o.fz W hb).2.1⟩
 have u:Hid (∀W,Below w1 w1 W->C 97 #[.agg #[I r.cap,.slice A ln cc],I id,I fr,I n] W λx w'=>x= .returned (.tuple #[.string t,I e])/\Below W W w'):=λW hb=>M W _ (p.o.dv W hb);have z:=Q7h (λW hb=>N W (s.o.vo.below hb));have H:Hid (∀W y,Re W y ⟨#[114,101,97,100]⟩ id e->LaidT W->C 91 #[y,I e,.string ⟨#[114,101,97,100]⟩,I id] W λx w'=>x= .returned (.bool true)/\Below W W w'):=λW y hf hl=>U5 W y _ id e hf hl L;have T0:=Q7h (q.o _ B0.drew);clear h L M N g Q;go_in
 go_wp2_with fail
 go_region_held3 (λW=>(W.cell? (w,1)=some (I id)/\W.cell? (w,2)=some (I fr)/\W.cell? (w,3)=some (I n))/\W.cell? (b,1)=some (v,0)/\W.cell? (b,2)=some (I r.cap)/\W.cell? (b,3)=some (.slice A ln cc)) (first|with_reducible exact T0.o|with_reducible exact T5.o) ((go_at_call 97;refine(u.o _ B0.drew).mono ?_;rintro ee R ⟨rfl,i⟩;have a:=Q7h (((QqA w1.heap.size w1).drew).trans i);have T5:=Q7h (q.o _ a.o);clear i))
 have T6:=Q7h (q.o _ a.o.drew);go_wp2_with fail
 go_region_held3 (λW=>(W.cell? (w,1)=some (I id)/\W.cell? (w,2)=some (I fr)/\W.cell? (w,3)=some (I n))/\W.cell? (b,1)=some (v,0)/\W.cell? (b,2)=some (I r.cap)/\W.cell? (b,3)=some (.slice A ln cc)) (first|with_reducible exact T6.o|with_reducible exact T7.o) ((go_at_call 24;refine(z.o _ a.o.drew).mono ?_;rintro ee w7 ⟨y,rfl,S,j⟩;have⟨HY,f⟩:=Q2 S (a.o.trans ((((QqA R.heap.size R).drew).trans j).mono a.o.size));have T7:=Q7h (q.o _ f.o);clear S j))
 have k:=(s.o.vo.below f.o).laid;have l:=Q7h (H.o _ _ HY.o k);clear k;go_wp2_with fail
 with_reducible refine l.o.mono ?_
 rintro e w8 ⟨rfl,m⟩;have K:=Q7h (f.o.trans (m.mono f.o.size));clear m;go_wp2_with fail
 go_ret
 exact⟨rfl,_,_,_,_,s.o.below K.o,T.o⟩
end pl
namespace pl
open Go.RowKit Go.Maps er tr st vo nd pg dc
section
variable {k:Nat} {w:World} {v:Nat} {c:Pt} {X:XL} {V:Vo} {r su:Dv}
theorem Q2m{l:List Ext}{q p:Int}(h:Zb l q=(2,p)):∃e∈l,e.kind=2/\e.fr<=q/\q<e.end_/\p=e.at_+(q-e.fr):=by
 unfold Zb at h;cases hf:l.find? (hasB q)with
 |none=>rw[hf]at h;exact absurd (show(0:Int)=2 from congrArg Prod.fst h) D
 |some e=>
  rw[hf]at h;have hb:=QuP hf;simp only[hasB,QzC,QzD]at hb;have h2:e.kind=2:=congrArg Prod.fst h;have h3:=congrArg Prod.snd h;simp only[sayOf]at h3;rw[QqH h2]at h3;exact⟨e,QjU hf,h2,hb.1,by unfold Ext.end_;omega,O⟩
theorem Qs2{n:Nand}{s:Sp}(c:FineS n s){y d a q:Int}{b:ByteArray}(N:Zb s.tr.flat y=(2,d))(F:bd n d=b)(ha:Qj n a=(⟨1,s.id,y,q,b⟩,0))(u:0<=a/\a<2048)(Y:s.used<=10):
  Qb ⟨y,1,2,a⟩=true/\(Gw s.tr.flat ⟨y,1,2,a⟩).length<=10/\(s.tr.over ⟨y,1,2,a⟩).Ok/\Chk (s.tr.over ⟨y,1,2,a⟩).flat/\FineS n {s with tr:=s.tr.over ⟨y,1,2,a⟩}/\doc (bd n) {s with tr:=s.tr.over ⟨y,1,2,a⟩}=doc (bd n) s:=by
 obtain⟨e,f,H,h1,h2,h3⟩:=Q2m N;have Q:=Ec c.chk f;have g:Qb ⟨y,1,2,a⟩=true:=Ph (n:=0) c.chk O O u;have c3:=Bc c.chk g;have j:(⟨y,b⟩:Sec)∈exp (bd n) s.tr.flat:=U6.2 ⟨e,f,⟨h1,h2⟩,by unfold Ns;rw[QqH H,<-h3,F]⟩;have k:bd n a=b:=by show(Qj n a).1.body=b;rw[ha]
 have l:exp (bd n) (Gw s.tr.flat ⟨y,1,2,a⟩)=exp (bd n) s.tr.flat:=by
  refine Qqz (Dq c3) (Dq c.chk) λx=>?_;rw[U6,Rx c.chk (Ut g),C9];simp only[Ext.end_,Ns,QyC];constructor
  ·rintro(⟨h,_⟩|⟨h,K⟩)
   ·exact U6.2 h
   ·have v:x=⟨y,b⟩:=by
     obtain⟨R,S⟩:=x;have T:R=y:=by simp only at h;omega
     have V:S=b:=by
      simp only at K;rw[K,<-k];exact congrArg (bd n) (by simp only at h;omega)
     rw[T,V]
    rw[v];exact j
  ·intro h;by_cases hq:x.at_=y
   ·have v:=Qd2 c.chk h j hq;rw[v];exact .inr ⟨by simp only;omega,by simp only;rw[<-k];exact congrArg (bd n) O⟩
   ·exact .inl ⟨U6.1 h,O⟩
 have m:Zql (Gw s.tr.flat ⟨y,1,2,a⟩)=Zql s.tr.flat:=by
  rw[<-Q8e (B:=bd n) c3,<-Q8e (B:=bd n) c.chk,l]
 have Z:=Qnx c3;have W:=c.used;obtain⟨c1,c2⟩:=Qz6 c.ok c.chk g O;have L:Kp s.tr (s.tr.over ⟨y,1,2,a⟩):=Qj9 _ _ _;refine⟨g,O,c2,by rw[c1];exact c3,Sn c rfl c.size c2 (by rw[c1];exact c3) (by rw[c1,m];exact c.used) (L.gd _ c.gd) (c.nd.sublist L.nf) λq p hq=>?_,?_⟩
 ·have hq:Cov some none (s.tr.over ⟨y,1,2,a⟩).flat q p:=hq;rw[c1,Rx c.chk (Ut g),C9]at hq;rcases hq with⟨t,_⟩|⟨t,o⟩
  ·exact⟨((La λe f=>Ut (c.chk.one e f)).1 c.hold q p t).1,.inl t⟩
  ·have X:q=y:=by simp only[Ext.end_]at t;omega
   have M:=Qcn c.hold e f;refine⟨by show q<s.size;omega,.inr λA w=>?_⟩;rw[w]at o;simp only[Ns,QyC]at o;injection o with o;have r:=Wp (Qq5 c.hold f H (i:=y-e.fr) O (by unfold Ext.end_ at h2;omega));rw[<-h3]at r;have z:b.size=32:=by rw[<-F];exact r.2.2.2.2
   rw[X,o,show a+(q-y)=a by omega];unfold Bg;rw[ha];simp[z]
 ·unfold doc;rw[c1,l]
theorem Qm2{n:Nand}{s:Sp}(b:FineS n s)(a:Int):FineS n {s with tr:=(s.tr.mv a).1}:=by
 obtain⟨e,c,d⟩:=Qdc s.tr a;exact⟨b.id,b.size,e b.ok,by show Chk (s.tr.mv a).1.flat;rw[c];exact b.chk,by show s.used=Zql (s.tr.mv a).1.flat;rw[c];exact b.used,by show Z8 n s.id s.size (s.tr.mv a).1.flat=true;rw[c];exact b.hold,d.gd _ b.gd,b.nd.sublist d.nf⟩
end
end pl
namespace pl
open Go.RowKit Go.Maps er tr st vo nd pg dc
section
variable {k:Nat} {w:World} {v:Nat} {c:Pt} {X:XL} {V:Vo} {r su:Dv}
theorem Lw.need(h:Lw k V r su)(l:List Int):Lw (k+1) {V with s:=V.s.need l} r su:=by
 have q:=h.same;exact⟨q.cap,Qgf q.fit l,q.q0,q.q1,q.ops,q.sq,q.fine,q.r,q.rt,q.gen,q.last⟩
theorem Wu(X:XL)(id:Int)(T:Tree)(F:List Nat):(Qo X id T F).length=X.length/\∀z∈Qo X id T F,z.1.tr=T\/∃u∈X,z.1.tr=u.1.tr:=by
 unfold Qo;refine⟨U,λz hz=>?_⟩;simp only[QqS]at hz;obtain⟨u,a,rfl⟩:=hz;by_cases e:u.1.id=id
 ·exact .inl (by simp[e])
 ·exact .inr ⟨u,a,by simp[e]⟩
theorem Wy(a:VoIn w v c X V){x:Sp×Bl}(b:x∈X)(T:Tree)(F:List Nat):(Qo X x.1.id T F).map (·.1)=Om V.l {x.1 with tr:=T}:=by
 rw[<-a.spl];unfold Qo;rw[QzR];refine Su a.up b rfl ?_ λy d=>?_
 ·simp only[Function.comp,QyC]
 ·simp[d]
theorem Qpz{B:Int->ByteArray}{L:List Sp}{x s:Sp}(h:Up L)(k:x∈L)(l:s.id=x.id)(m:doc B s=doc B x):Xo B (Om L s)=Xo B L:=by
 unfold Xo Om;rw[QzR];refine QkF λy n=>?_;show doc B (if y.id=s.id then s else y)=doc B y;split
 ·rename_i e;have:y=x:=by
   obtain⟨i,d,a⟩:=QkL.1 n;obtain⟨j,f,b⟩:=QkL.1 k;have g:=QkZ.1 h;rcases QoK i j with c|rfl|c
   ·have:=g i j d f c;rw[a,b]at this;omega
   ·exact a.symm.trans b
   ·have:=g j i f d c;rw[a,b]at this;omega
  rw[this,m]
 ·rfl
theorem Q4e(i:VoIn w v c X V)(f:Lw k V r su)(Z:k<=1000)(A:32<=room V.s)(d:Int):C 31 #[(v,0),I d] w λe w'=>e= .returned .nilIface/\∃u z L,u.p=c.p/\VoIn w' v u z L/\Mv (vF v c X) w (vF v u z) w'/\Lw (k+1) L r su:=by
 have H:=f.rm Z A;have h1:=H.q1;have h2:=H.ops;have M:∀x∈X,∀(y sq:Int) (b:ByteArray),Qj V.s.n d=(⟨1,x.1.id,y,sq,b⟩,0)->Zb x.1.tr.flat y=(2,d)->∃a s',Xv 3 V.s ⟨1,x.1.id,y,sq,b⟩=some (s',a,0)/\App1 V.s ⟨1,x.1.id,y,sq,b⟩ s' a/\Qb ⟨y,1,2,a⟩=true/\(Gw x.1.tr.flat ⟨y,1,2,a⟩).length<=10/\(x.1.tr.over ⟨y,1,2,a⟩).Ok/\Chk (x.1.tr.over ⟨y,1,2,a⟩).flat/\FineS s'.n {x.1 with tr:=x.1.tr.over ⟨y,1,2,a⟩}/\doc (bd s'.n) {x.1 with tr:=x.1.tr.over ⟨y,1,2,a⟩}=doc (bd s'.n) x.1:=by
  intro x h y sq b g o;have N:Jd ⟨1,x.1.id,y,0,b⟩=true:=by
   have:=R3 (n:=V.s.n) (a:=d) (by rw[g]);rw[g]at this;simp only[Jd,inB,QzC,QzD]at this ⊢;omega
  obtain⟨s',a,ha,m⟩:=Qxy f.fit O (p:=⟨1,x.1.id,y,sq,b⟩) N f.q0 O 2 N0;have B:=(f.fine.sp _ (Oq i h)).gr m.gr;have Q:bd s'.n d=b:=by
   show(Qj s'.n d).1.body=b;rw[m.gr d (by rw[g]),g]
  exact⟨a,s',ha,m,Qs2 B o Q m.now (by have:=m.rng;omega) (Gh f.fine (Oq i h))⟩
 have R:=Qwj 3 w v c X V d i (by have:=Qzj f.fit d;omega) f.last (by unfold Q7t at h2;show V.s.n.ops+((3:Nat):Int)<=_;omega) O (λx h y sq b g o=>by
  obtain⟨a,s',q1,_,K,S,q4,q5,_⟩:=M x h y sq b g o;exact⟨a,s',q1,K,S,q4,q5⟩)
 have q:=Qly i f;refine(Qrj 3 w v c X V d R λt z L T=>?_).mono ?_
 ·rcases T with⟨rfl,rfl⟩|⟨_,x,h,F,rfl,rfl⟩|⟨_,x,h,F,y,sq,b,a,s',g,o,ha,rfl,rfl⟩
  ·exact⟨Ws (i.spl▸f.fine),f.last⟩
  ·exact⟨Od (i.spl▸f.fine) (Y8 (Qm2 (q x h).1 d) (q x h).2) (Wu ..).1 (Wu ..).2,f.last⟩
  ·obtain⟨a2,s2,q1,_,_,_,_,_,K,_⟩:=M x h y sq b g o;rw[q1]at ha;injection ha with ha;have W:=congrArg (λr=>r.2.1) ha;subst W;exact⟨Od (i.spl▸f.fine) (Y8 K (q x h).2) (Wu ..).1 (Wu ..).2,f.last⟩
 ·rintro e w' ⟨rfl,t,u,z,L,Q,Y,N,T⟩;refine⟨rfl,u,z,_,Q,Y,N,?_⟩;rcases T with⟨rfl,rfl⟩|⟨rfl,x,h,F,rfl,rfl⟩|⟨rfl,x,h,F,y,sq,b,a,s',g,o,ha,rfl,rfl⟩
  ·cases t
   ·exact f.need _
   ·exact f.chg (Grw.refl f.fit) (En _) (QqM 64) ⟨_,rfl⟩ rfl rfl rfl rfl f.fine f.r
  ·have j:=Oq i h;refine f.chg (Grw.refl f.fit) (En _) (QqM 64) ⟨_,rfl⟩ rfl rfl rfl rfl ?_ ?_
   ·show Fine V.s.n ((Qo X x.1.id _ F).map (·.1));rw[Wy i h];exact Rk f.fine j rfl (Qm2 (f.fine.sp _ j) d) (by have:=f.fine.cap;show K9 V.l-x.1.used+x.1.used<=10;omega)
   ·show r=⟨10,Xo _ ((Qo X x.1.id _ F).map (·.1))⟩;rw[Wy i h,Qpz (s:={x.1 with tr:=(x.1.tr.mv d).1}) f.fine.up j rfl (by unfold doc;simp only;rw[(Qdc x.1.tr d).2.1])];exact f.r
  ·have j:=Oq i h;obtain⟨a2,s2,q1,m,_,_,_,_,K,S⟩:=M x h y sq b g o;rw[q1]at ha;injection ha with ha;obtain⟨W,ha⟩:=Prod.mk.inj ha;obtain⟨e2,_⟩:=Prod.mk.inj ha;subst W e2;refine f.chg m.grw (m.nort (by show(1:Int)≠4;decide)) (show 1<=64 by omega) ⟨_,rfl⟩ rfl rfl rfl rfl ?_ ?_
   ·show Fine s2.n ((Qo X x.1.id _ F).map (·.1));rw[Wy i h];exact Rk (f.fine.gr m.gr) j rfl K (by have:=f.fine.cap;show K9 V.l-x.1.used+x.1.used<=10;omega)
   ·show r=⟨10,Xo _ ((Qo X x.1.id _ F).map (·.1))⟩;rw[Wy i h,Qpz (s:={x.1 with tr:=x.1.tr.over ⟨y,1,2,a2⟩}) f.fine.up j rfl S,Qza m.gr f.fine];exact f.r
end
end pl
namespace pl
open Go.RowKit er tr st vo nd pg dc
section
variable {k:Nat} {w:World} {v:Nat} {c:Pt} {X:XL} {V:Vo} {r su:Dv}
theorem Q22{n:Nand}{s:Sp}(a:FineS n s):∀y∈(doc (bd n) s).s,y.data.size=32:=by
 intro y b;rw[<-(Vy a (S:={n:=n,state:=[],valid:=[],op:=0,seq:=0}) rfl y.at_).2.2,(Vy a rfl y.at_).1];have h1:y.data=dOf (doc (bd n) s) y.at_:=by
  unfold dOf;cases hf:(doc (bd n) s).s.find? λx=>decide (x.at_=y.at_)with
  |none=>have:=QuN.1 hf y b;simp at this
  |some z=>
   have h2:z.at_=y.at_:=by simpa using QuP hf
   rw[Qd2 a.chk (QjU hf) b h2]
 rw[h1]
theorem Q0c(a:Lw k V r su):0<=r.cap/\r.cap<=1000000000:=by
 have:r.cap=10:=by rw[a.r]
 omega
theorem Q59(d:Lw k V r su):r.l.length<=1000/\(∀x∈r.l,0<=x.size/\x.size<=16777216)/\(∀x∈r.l,x.s.length<=500)/\(0<=r.cap/\r.cap<=1000000000)/\Ug r<=500/\∀x∈r.l,∀y∈x.s,y.data.size<=100:=by
 have b:=d.fine;have i:=b.len;have hq:∀x∈r.l,∃s∈V.l,x=doc (bd V.s.n) s:=λx c=>by
  rw[d.r]at c;obtain⟨s,a,rfl⟩:=QqS.1 c;exact⟨s,a,rfl⟩
 refine⟨by rw[d.r];simp[Xo];omega,λx c=>?_,λx c=>?_,Q0c d,?_,λx c y g=>?_⟩
 ·obtain⟨s,a,rfl⟩:=hq x c;exact(b.sp s a).size
 ·obtain⟨s,a,rfl⟩:=hq x c;have f:=b.sp s a;have h1:=U7 (B:=bd V.s.n) (l:=s.tr.flat) λe h=>by have:=Ut (f.chk.one e h);omega
  have h2:=Gh b a;have h3:=f.used;show(exp (bd V.s.n) s.tr.flat).length<=500;omega
 ·rw[d.r,Qcy λs a=>⟨(b.sp s a).chk,(b.sp s a).used⟩];have:=Rn (L:=V.l) λs a=>(Ls (b.sp s a)).1;omega
 ·obtain⟨s,a,rfl⟩:=hq x c;rw[Q22 (b.sp s a) y g];decide
theorem Qtb(l:List Spc)(id fr n:Int)(m:Bool):0<=Qm l id fr n m/\Qm l id fr n m<=82:=by
 unfold Qm;split
 ·decide
 ·split
  ·decide
  ·split<;>decide
theorem syh(h:VoIn w v c X V)(f:Lw k V r su):SyH v c X V r:=by
 have o:=f.fine;have d:=h.spl;have hq:∀(i:Nat) (x:Sp×Bl) (y:Spc),X[i]? =some x->r.l[i]? =some y->x∈X/\y=doc (bd V.s.n) x.1:=λi x y g b=>by
  have e:r.l[i]? =some (doc (bd V.s.n) x.1):=by
   rw[f.r,<-d];simp[Xo,g]
  rw[e]at b;injection b with b;exact⟨QqL g,b.symm⟩
 refine⟨by rw[f.r,<-d];simp[Xo],by have:=o.len;rw[<-d]at this;simpa using this,Qxw h f,Q0c f,λi x y g b=>?_,λi x y g b a t h1 W u=>?_⟩
 ·obtain⟨m,rfl⟩:=hq i x y g b;have p:=o.sp _ (Oq h m);have h1:=U7 (B:=bd V.s.n) (l:=x.1.tr.flat) λe F=>by have:=Ut (p.chk.one e F);omega
  have h2:=Gh o (Oq h m);have h3:=p.used;refine⟨rfl,rfl,h1.trans h3.symm,?_,p.size,λz hz=>?_⟩
  ·show(exp (bd V.s.n) x.1.tr.flat).length<=1000;omega
  ·have:=Qek p.chk (U6.1 hz);omega
 ·obtain⟨m,rfl⟩:=hq i x y g b;have q:=o.sp _ (Oq h m);have h1:a<x.1.size:=h1;refine(V8 W v c X V x a 1 u m t O O O (λj _=>(Vy q rfl _).2.1) (λa=>by have:=Qzj f.fit a;omega) (λj _=>(Vy q rfl _).2.2)).mono ?_;rintro e w' ⟨rfl,hb⟩;refine⟨?_,hb⟩;rw[Qdg q rfl,Gv,Gv,show a+((0:Nat):Int)=a by omega];have:(⟨#[]⟩:ByteArray)++dOf (doc (bd V.s.n) x.1) a=dOf (doc (bd V.s.n) x.1) a:=QyW U;rw[this]
end
theorem Q3k{B:Nat->Prop}{k:Nat}{w0 w:World}{b v:Nat}{c:Pt}{X:XL}{V:Vo}{F:Nat->Prop}{r su:Dv}(x:Ac)(h:PlIn B w0 w b v c X V F r su)(g:Lw k V r su)(m:k<=1000)(o:32<=room V.s)(p:vo.I64 x.id/\vo.I64 x.fr/\vo.I64 x.n)(y:x.d.size<=1000):
  C 35 #[(b,0),x.val] w λe w'=>∃r' i,Q1k B w0 b r' i (λ_ q=>Lw (k+1) q r' i) e w':=by
 obtain⟨f,id,fr,n,d⟩:=x;obtain⟨h1,h2,h3⟩:=p;obtain⟨o1,o2,z,H,K,L⟩:=Q59 g;have j:=Qtb r.l;show C 35 #[.pointer (some ⟨b,0,none⟩),.agg #[I f,I id,I fr,I n,.string d]] w _;by_cases u:f<0\/9<f
 ·exact(Q0u f id fr n d h u g.same).mono λe w' h=>⟨_,_,h.any⟩
 have:f=0\/f=1\/f=2\/f=3\/f=4\/f=5\/f=6\/f=7\/f=8\/f=9:=O;rcases this with rfl|rfl|rfl|rfl|rfl|rfl|rfl|rfl|rfl|rfl
 ·exact(Qal (r':=(Ji r id n).1) (e:=(Ji r id n).2) id fr n d h (by unfold Ji;(repeat' split)<;>(dsimp only;omega)) (λW lv a=>Qj6 W F _ r id n a o1) (λW a=>Qv2 a g id n)).mono λe w' h=>⟨_,_,h.any⟩
 ·exact(Qaf (r':=(J9 r id n).1) (e:=(J9 r id n).2) id fr n d h (by unfold J9;(repeat' split)<;>(dsimp only;omega)) (λW lv a=>Qj4 W F _ r id n a o1) (λW a=>Qv0 a g id n h1)).mono λe w' h=>⟨_,_,h.any⟩
 ·exact(Qah (r':=(Yh r id).1) (e:=(Yh r id).2) id fr n d h (by unfold Yh;(repeat' split)<;>(dsimp only;omega)) (λW lv a=>Qj5 W F _ r id a) (λW a=>Qv1 a g id h1)).mono λe w' h=>⟨_,_,h.any⟩
 ·exact(Qc9 (r':=(Uz r id fr d).1) (e:=(Uz r id fr d).2) id fr n d h (by have:=j id fr (d.size/32:Nat) (Cj d);unfold Uz;(repeat' split)<;>(dsimp only;omega)) (λW lv a=>Qgp W F _ r id fr d a o1 o2 (λx p=>QqR (z x p) D) H y) (λW a=>Qmv a g m o id fr d h1 h2 (QqR y D))).mono λe w' h=>⟨_,_,h.any⟩
 ·exact(Qpk (r':=(Ey r id fr n).1) (e:=(Ey r id fr n).2) id fr n d h (by have:=j id fr n true;unfold Ey;(repeat' split)<;>(dsimp only;omega)) (λW lv a=>Qae W F _ r id fr n a o1 o2 z H K) (λW a=>Q4o a g id fr n h1 h2 h3)).mono λe w' h=>⟨_,_,h.any⟩
 ·exact(Qpj (r':=(Eu r id fr n).1) (e:=(Eu r id fr n).2) id fr n d h (by have:=j id fr n true;unfold Eu;(repeat' split)<;>(dsimp only;omega)) (λW lv a=>Qab W F _ r id fr n a o1 o2) (λW a=>Q4i a g id fr n h1 h2 h3)).mono λe w' h=>⟨_,_,h.any⟩
 ·exact(Qpx (t:=(Im r id fr n).1) (e:=(Im r id fr n).2) id fr n d h (by have:=j id fr n (decide (n<=8));unfold Im;(repeat' split)<;>(dsimp only;omega)) (λW lv a=>Qac W F _ r id fr n a o2 L) (λW a=>Q4a a g id fr n h1 h2 h3) (G:=λ_ q=>Lw (k+1) q r su) g.same).mono λe w' h=>⟨_,_,h.any⟩
 ·exact(Qs1 id fr n d h (λW a=>Qv3 a g m o)).mono λe w' h=>⟨_,_,h.any⟩
 ·exact(Qpy id fr n d h (λW a=>Q4e a g m o n)).mono λe w' h=>⟨_,_,h.any⟩
 ·exact(Q2s id fr n d h (λW a=>Q4d a g)).mono λe w' h=>⟨_,_,h⟩
end pl
namespace pl
open Go.RowKit Go.Maps er tr st vo nd pg dc
theorem rgM{P:Program}{d:Region.Mode}{ops:Array Oper}{Q:Exit->Act->World->Prop}{S S':World->Prop}(e:∀w,S' w->S w):∀(b:Nat) (c:Array Bool) (a:Go.Act) (w:World),wpAnyH P d ops Q S' b c a w->wpAnyH P d ops Q S b c a w
 |0,_,_,_,h=>h
 |b+1,_,_,_,h=>⟨h.1,λi hi=>wpOp_mono (λg w' f=>⟨e _ f.1,rgM e b _ g w' f.2⟩) (h.2 i hi)⟩
theorem Qn9(i:Nat):(nV []).blk i=⟨[],0,false⟩:=by
 show(List.replicate 16 emp).getD i emp=emp;rw[QkH,QuD];split<;>rfl
theorem Q2l:FitP (sE z16):=by
 have hb:∀i,(sE z16).n.blk i=⟨[],0,false⟩:=Qn9;refine⟨rfl,rfl,rfl,rfl,rfl,λm c=>(by cases c),λi=>(by rw[hb];decide),λi _ a=>(by rw[hb]at a;cases a),λi t b=>(by rw[hb]at b;cases b),λi _ _=>(by rw[hb]),D,.inl rfl⟩
theorem Qc6(a:Int):(Qj (nV []) a).2≠0:=by
 intro h;have b:=Da h;obtain⟨m,rfl⟩:∃m:Nat,a=(m:Int):=⟨a.toNat,O⟩;have d:m<256:=by have h2:(m:Int)<16*16:=b.2;omega
 have c:=Qkg (n:=nV []) rfl rfl rfl m d;rw[Qn9]at c;unfold Qj at h;rw[c]at h;exact absurd h (by show(42:Int)≠0;decide)
theorem Qh8{n:Int}(h:(Lit.int .i64 n).wf=true):vo.I64 n:=by
 simp only[Lit.wf,QzC,QzD]at h;have h1:IntKind.i64.min= -9223372036854775808:=D;have h2:IntKind.i64.max=9223372036854775807:=D;rw[h1,h2]at h;exact h
def Q35(w:World)(b off:Nat)(l:List Ac):Prop:=∀(j:Nat) (x:Ac),l[j]? =some x->(w.cell? (b,off+j*5)=some (I x.k)/\w.cell? (b,off+j*5+1)=some (I x.id)/\w.cell? (b,off+j*5+2)=some (I x.fr)/\w.cell? (b,off+j*5+3)=some (I x.n)/\w.cell? (b,off+j*5+4)=some (.string x.d))/\vo.I64 x.id/\vo.I64 x.fr/\vo.I64 x.n
def PlS(B:Nat->Prop)(w0:World)(b k:Nat)(w:World):Prop:=∃v c X V F r su,PlIn B w0 w b v c X V F r su/\Lw k V r su
theorem PlS.below{B:Nat->Prop}{w0 w w':World}{b k:Nat}(h:PlS B w0 b k w)(hb:Below w w w'):PlS B w0 b k w':=by
 obtain⟨v,c,X,V,F,r,su,h1,h2⟩:=h;exact⟨v,c,X,V,F,r,su,h1.below hb,h2⟩
theorem PlS.own{B:Nat->Prop}{w0 w:World}{b k:Nat}(h:PlS B w0 b k w):Keep (λk=>¬B k) w0 w:=by
 obtain⟨v,c,X,V,F,r,su,h1,h2⟩:=h;exact h1.own.1
theorem PlS.same{B:Nat->Prop}{w0 w:World}{b k:Nat}(h:PlS B w0 b k w):PlS B w0 b (k+1) w:=by
 obtain⟨v,c,X,V,F,r,su,h1,h2⟩:=h;exact⟨v,c,X,V,F,r,su,h1,h2.same⟩
theorem PlS.step{B:Nat->Prop}{w0 w:World}{b k:Nat}(h:PlS B w0 b k w)(i:k<=1000)(x:Ac)(j:vo.I64 x.id/\vo.I64 x.fr/\vo.I64 x.n):∃t:Bool,(∀W,Below w w W->C 34 #[(b,0),x.val] W λe w'=>e= .returned (.bool t)/\Below w w w')/\(t=true->∀W,Below w w W->C 35 #[(b,0),x.val] W λe w'=>e= .returned (.bool true)/\PlS B w0 b (k+1) w'):=by
 obtain⟨v,c,X,V,F,r,su,h1,h2⟩:=h;refine⟨decide (x.d.size<=1000)&&decide (4<=we.G6 (Zqm V.s) 0),λW hb=>(Qi4 W b v c X V F r su x (h1.below hb)).mono ?_,λg W hb=>?_⟩
 ·rintro e w' ⟨rfl,a⟩;exact⟨rfl,hb.trans (a.mono hb.size)⟩
 ·simp only[QzC,QzD]at g;have:=Qsc h2.fit;refine(Q3k x (h1.below hb) h2 i O j g.1).mono ?_;rintro e w' ⟨r',f,rfl,l,F',m,o,p,p1,p2⟩;exact⟨rfl,l,m,o,p,F',r',f,p1,p2⟩
theorem PlS.says{B:Nat->Prop}{w0 w:World}{b k:Nat}(h:PlS B w0 b k w):∃(v:Nat) (cap:Int) (A:Option Addr) (n c:Nat),(w.cell? (b,1)=some (v,0)/\w.cell? (b,2)=some (I cap)/\w.cell? (b,3)=some (.slice A n c))/\∀W,Below w w W->C 36 #[(v,0),.agg #[I cap,.slice A n c]] W λe w'=>e= .returned (.bool true)/\Below w w w':=by
 obtain⟨v,c,X,V,F,r,su,h1,h2⟩:=h;obtain⟨rl,sl,d,f,i⟩:=h1.obj;obtain⟨A,cc,rfl,a⟩:=f;refine⟨v,r.cap,A,r.l.length,cc,⟨d.cell 1,d.cell 2,d.cell 3⟩,λW hb=>?_⟩;have j:DvAt w F (.agg #[I r.cap,.slice A r.l.length cc]) r:=⟨⟨_,rfl,⟨A,cc,rfl,a⟩⟩,h1.lt⟩;refine(Qba W v c X V F _ r (h1.vo.below hb) (j.below hb) (syh h1.vo h2)).mono ?_;rintro e w' ⟨rfl,g⟩;exact⟨rfl,hb.trans (g.mono hb.size)⟩
theorem Zq3(w:World)(l:List Mis):Zq6 (w.alloc (.cells (Oj l).toArray 78)) w.heap.size 0 l:=λj m b=>by
 obtain⟨c,d,e,f⟩:=Cr l j m b;have a:=Whole.new w 78 (Oj l).toArray;simp only[QkG];exact⟨(a.cell _).trans (by simpa using c),(a.cell _).trans (by simpa using d),(a.cell _).trans (by simpa using e),(a.cell _).trans (by simpa using f)⟩
theorem open_pair{H:Type}{enc:TypeId×Value->H}{W:World}{b0:Nat}{sp:Nat->Bool}{c:Bool}{v:Value}{d:DataW H}{p:List MemPlace}(f:Value.okWide Tryz.prog W .any b0 68 v)(h:DataW.Trod enc Tryz.prog W 0 sp c 68 v d p):∃x y:Int,v= .agg #[I x,I y]:=by
 simp only[Value.okWide,Tryz.underlying68]at f;obtain⟨cs,rfl,h2,_⟩:=f;have h2:cs.size=2:=h2.trans J;obtain⟨g,n⟩:=h;obtain⟨xs,m,_,_,_,o,hi⟩:=DataW.trod_array Tryz.underlying68 n;have e:Tryz.prog.cellsOf 3=1:=J;obtain⟨l⟩:=cs;match l,h2 with
 |[a,b],_=>
  have i:=hi 0 D;have h1:=hi 1 D;rw[e,QqC O]at i h1;obtain⟨x,j,-,_⟩:=QiH Tryz.underlying3 i;obtain⟨y,k,-,_⟩:=QiH Tryz.underlying3 h1;simp[Value.cells]at j k;subst j k;exact⟨x,y,rfl⟩
def Zq0(a b k:Int):List Mis:=[⟨a,2,k,⟨#[]⟩⟩,⟨b,2,k,⟨#[122,122]⟩⟩]
def Zzo(a b k:Int):Vo:={Ll (sE z16)with s:={sE z16 with n:=(nV []).planned (Zq0 a b k)}}
theorem Zzk(a b k:Int):FitP {sE z16 with n:=(nV []).planned (Zq0 a b k)}/\Q7s ((nV []).planned (Zq0 a b k)).plan 0<=2:=by
 have h:=Q2l;have d:((nV []).planned (Zq0 a b k)).plan.length<=2:=by
  unfold Nand.planned;simp only[QqT];exact QkE _ _
 have e:Q7s ((nV []).planned (Zq0 a b k)).plan 0<=2:=QqR (QkE _ _) d;refine⟨⟨rfl,rfl,rfl,rfl,rfl,λm f=>?_,h.pl,h.gd,h.sm,h.fr,?_,.inl rfl⟩,e⟩
 ·obtain⟨x,c,rfl⟩:=QqS.1 f;have c:=(QzZ.1 c).1;simp only[Zq0,QqF,QkU,QyA]at c;rcases c with rfl|rfl
  ·exact Zq9 rfl (QqM _)
  ·exact Zq9 rfl (QqB 2)
 ·have g:Qze (sE z16).state 3 16=0:=D;show Qze (sE z16).state 3 16+(Q7s ((nV []).planned (Zq0 a b k)).plan 0:Int)<=2;omega
theorem Zzq(a b k:Int):Lw 0 (Zzo a b k) ⟨10,[]⟩ ⟨10,[]⟩:=by
 obtain⟨h1,h2⟩:=Zzk a b k;refine⟨Q0f,h1,QxL 0,(show(0:Int)<=64*((0:Nat):Int) by decide),?_,λa h=>absurd h (Qc6 a),⟨List.Pairwise.nil,λs h=>(by cases h),(show(0:Int)<=10 by decide),QqM _⟩,rfl,⟨[],⟨QxL _,⟨List.Pairwise.nil,λs h=>(by cases h),(show(0:Int)<=10 by decide),QqM _⟩,λs h=>(by cases h),λa h _=>absurd h (Qc6 a),λ_=>rfl,λh=>absurd h (show ¬(0:Int)<0 by decide)⟩,rfl,λ_=>rfl⟩,(show(0:Int)<=((0:Nat):Int) by decide),QqM _⟩;show(0:Int)+(Q7s ((nV []).planned (Zq0 a b k)).plan 0:Int)<=64*((0:Nat):Int)+2;omega
theorem PlIn.base{B P:Nat->Prop}{w0 w:World}{b v:Nat}{c:Pt}{X:XL}{V:Vo}{F:Nat->Prop}{r su:Dv}(h:PlIn B w0 w b v c X V F r su)(d:∀k,P k->¬vF v c X k/\k≠b):PlIn P w w b v c X V F r su:=
 ⟨h.vo,⟨Keep.refl _ _,λk e _ a=>(d k a).1 e⟩,h.obj,h.lt,h.far,h.fb,λ_ a=>(d b a).2 rfl,h.b0⟩
theorem Zq7{B:Nat->Prop}{w0 w:World}{b v:Nat}{c:Pt}{X:XL}{V:Vo}{F:Nat->Prop}{r su:Dv}(h:PlIn B w0 w b v c X V F r su)(o:V.s.n.ops<=1000000)(g:Nat)(l:List Mis)(d:l.length=2)(ha:Zq6 w g 0 l)(f:¬vF v c X g)(i:∀m∈l,m.junk.size<=1000):
  C 39 #[(c.p,0),.slice (some (g,0)) 2 2] w λe w'=>e= .returned (.tuple #[])/\∃N',PlIn B w0 w' b v {c with N:=N'} X {V with s:={V.s with n:=V.s.n.planned l}} F r su/\Mv (vF v c X) w (vF v {c with N:=N'} X) w':=by
 refine(Zq4 w c.N c.p V.s.n h.vo.sto.arr O g 0 2 2 l d O ha (λj=>f (.inl (.inr (.inr (.inr j))))) (λm a=>by have:=i m a;omega)).mono ?_;rintro e w' ⟨rfl,F',k,a⟩;obtain⟨h1,h2⟩:=h.vo.sto.under k a rfl rfl;exact⟨rfl,F',h.turned (h.vo.stored h1 h2) (El h2) rfl,El h2⟩
theorem PlS.fin{B:Nat->Prop}{w0 w:World}{b k:Nat}(h:PlS B w0 b k w):∃(v q:Nat) (r:Int),w.cell? (b,1)=some (v,0)/\r<=2/\∀W,Below w w W->(C 19 #[(v,0)] W λe w'=>e= .returned (q,0)/\W=w')/\(C 40 #[(q,0)] W λe w'=>e= .returned (I r)/\Below w w w')/\(C 41 #[(q,0)] W λe w'=>e= .returned (.bool false)/\Below w w w'):=by
 obtain⟨v,c,X,V,F,r,su,h1,h2⟩:=h;obtain⟨rl,sl,d,_⟩:=h1.obj;have f:we.G6 (Zqm V.s) 3<=2:=by
  have:=h2.fit.nb;rw[Ry,h2.fit.b16];omega
 have g:Zzh V.s=false:=by
  unfold Zzh;rw[h2.fit.b16];exact QyF (by show ¬(2:Int)<_;omega)
 refine⟨v,c.q,_,d.cell 1,f,λW hb=>⟨Qya W v c X V (h1.vo.below hb),(Qje W _ _ _ _ _ _ (h1.vo.below hb).sto).mono ?_,(F4 W _ _ _ _ _ _ (h1.vo.below hb).sto).mono ?_⟩⟩
 ·rintro e w' ⟨rfl,a⟩;exact⟨rfl,hb.trans (a.mono hb.size)⟩
 ·rintro e w' ⟨rfl,a⟩;rw[g];exact⟨rfl,hb.trans (a.mono hb.size)⟩
theorem Zq8(w:World)(x0 x1 kp:Int)(hg:LaidT w)(A:Option Addr)(n c0:Nat)(l:List Ac)(hl:l.length=n)(hn:n<=9223372036854775807)(ha:0<n->∃b off,A=some ⟨b,off,none⟩/\b<w.heap.size/\Q35 w b off l):
  C 6 #[.slice A n c0,.agg #[I x0,I x1],I kp] w λe w'=>e= .returned (.bool true)/\Below w.heap.size w w':=by
 have af:=Q7h ha;have T:Below w.heap.size w (w.alloc (.cells #[I x0,I x1] 68)):=(QqA _ _).alloc (QqB _) _;have L:=Whole.new w 68 #[I x0,I x1];obtain⟨W,hW⟩:∃W,w.alloc (.cells #[I x0,I x1] 68)=W:=⟨_,rfl⟩;have aX:w.heap.size<W.heap.size:=by rw[<-hW];simp
 rw[hW]at T L;have ag:=Q7h (Qsb W (hg.below T hg.lt));have ah:=Q7h T;have HX:Hid (∀V,Below W.heap.size W V->V.cell? ⟨w.heap.size,0,none⟩=some (I x0)/\V.cell? ⟨w.heap.size,1,none⟩=some (I x1)):=λV hb=>⟨(L.below hb L.lt).cell 0,(L.below hb L.lt).cell 1⟩;clear T L;clear hg ha;go_enter Tryz.func6,Tryz.ntmps6
 go_wp2_with fail
 refine ag.out.mono ?_;rintro e w1 ⟨b,v0,c1,rfl,hp⟩;have ai:=Q7h hp.vo.laid;have aj:=Q7h hp;have aY:∀w,(binOp .eql 56 (.pointer (some ⟨b,0,none⟩)) (.pointer none)).run Tryz.prog w= .ok (.bool false) w:=λw=>by kernel_rfl
 clear hp ag;go_wp2_with fail
 refine(Qav _ ai.out).mono ?_;rintro e w2 ⟨rfl,ak⟩;have al:=Q7h (aj.out.below ak);clear ak aj ai;go_wp2_with fail
 refine(Qhn _).mono ?_;rintro e w3 ⟨rfl,am⟩;have an:=Q7h (al.out.below am);clear am al;go_wp2_with fail
 refine(Go.Proofs.YtfialjmemcobjaaGreatDoor.ge.Pe 16 16 _ D D D D).mono ?_;rintro e z ⟨rfl,M⟩;have j:=Q7h (an.out.below M);clear M an;have HQ:Hid ((∀k,vF v0 c1 [] k->W.heap.size<=k/\k<z.heap.size)/\W.heap.size<=b/\b<z.heap.size/\W.heap.size<=z.heap.size):=by
  obtain⟨_,_,ho,_⟩:=j.out.obj;have h1:=j.out.own.1.size;have h2:=j.out.bb;refine⟨λk S=>⟨?_,j.out.vo.lt k S⟩,?_,ho.lt,h1⟩
  ·by_cases K:k<W.heap.size
   ·exact absurd K (j.out.own.2 k S K)
   ·omega
  ·by_cases K:b<W.heap.size
   ·exact absurd K (h2 K)
   ·omega
 have ao:=j.out.own.1.size;have X:Below z.heap.size z (z.alloc (.cells #[I 256,I 2,I (Go.Proofs.YtfialjmemcobjaaGreatDoor.ge.Ye 16 16),I (Go.Proofs.YtfialjmemcobjaaGreatDoor.ge.Dm 16 16),I (Go.Proofs.YtfialjmemcobjaaGreatDoor.ge.Dm 16 16+1)] 70)):=(QqA _ _).alloc (QqB _) _;have aa:=Whole.new z 70 #[I 256,I 2,I (Go.Proofs.YtfialjmemcobjaaGreatDoor.ge.Ye 16 16),I (Go.Proofs.YtfialjmemcobjaaGreatDoor.ge.Dm 16 16),I (Go.Proofs.YtfialjmemcobjaaGreatDoor.ge.Dm 16 16+1)];obtain⟨s,aN⟩:∃s,z.alloc (.cells #[I 256,I 2,I (Go.Proofs.YtfialjmemcobjaaGreatDoor.ge.Ye 16 16),I (Go.Proofs.YtfialjmemcobjaaGreatDoor.ge.Dm 16 16),I (Go.Proofs.YtfialjmemcobjaaGreatDoor.ge.Dm 16 16+1)] 70)=s:=⟨_,rfl⟩;rw[aN]at X aa;have u:=Q7h (j.out.below X);have aZ:z.heap.size<=s.heap.size:=X.size;have F:=Q7h (And.intro aa ao);obtain⟨z0,z1⟩:=HX.out s (u.out.own.1.toBelow (QqB _) λk S=>O);clear X aa ao j;go_wp2_with fail
 go_quiet (fail)
 obtain⟨a0,ap⟩:∃a,wrap64 (1+(wrap64 (x0.tmod 40+40)).tmod 40)=a:=⟨_,rfl⟩;obtain⟨a1,aq⟩:∃a,wrap64 (1+(wrap64 (x1.tmod 40+40)).tmod 40)=a:=⟨_,rfl⟩;rw[ap,aq];clear z0 z1 ap aq HX;obtain⟨rl,sl,ho,_⟩:=u.out.obj;have zb:=ho.cell 0;have y:Below s.heap.size s ((s.drewN nq).alloc (.cells (Oj (Zq0 a0 a1 kp)).toArray 78)):=(below_drewN (QqA _ _) nq).alloc (QqB _) _;have ar:Hid (¬vF v0 c1 [] s.heap.size):=λhf=>by have:=u.out.vo.lt _ hf;omega
 have au:=Q7h (Zq7 (u.out.below y) D s.heap.size (Zq0 a0 a1 kp) rfl (Zq3 (s.drewN nq) _) ar.out (λm hm=>by
  simp only[Zq0,QqF,QkU,QyA]at hm;rcases hm with rfl|rfl
  ·exact QqM _
  ·exact(show(2:Nat)<=1000 by decide)))
 have F:=Q7h (And.intro (F.out.1.below y F.out.1.lt) F.out.2);clear ho y u ar;go_wp2_with fail
 refine au.out.mono ?_;rintro e w7 ⟨rfl,N7,ab,Y⟩;have aA:=Y.keep.size;have ac:Hid (Below w.heap.size w w7):=ah.out.trans (ab.own.1.toBelow ah.out.size (λk S=>O));have F:=Q7h (F.out.1.keep Y.keep (λS=>by have:=HQ.out.1 _ S;omega));have av:Hid (PlS (λk=>k<w.heap.size\/k=z.heap.size) w7 b 0 w7):=⟨v0,_,_,_,_,_,_,ab.base (λk S=>by
  obtain⟨q1,q2,q3,q4⟩:=HQ.out;refine⟨λhv=>?_,O⟩;rcases Y.sub k hv with hv|hv
  ·have:=q1 k hv;omega
  ·simp at hv;omega),Zzq a0 a1 kp⟩
 have N:Hid (∀i V,PlS (λk=>k<w.heap.size\/k=z.heap.size) w7 b i V->Below w.heap.size w V/\V.cell? ⟨z.heap.size,1,none⟩=some (I 2)):=λi V h=>⟨ac.out.trans (h.own.toBelow ac.out.size (λk S=>O)),(F.out.keep h.own (λS=>S (.inr rfl))).cell 1⟩;clear ab Y au zb ac F HQ;go_wp2_with fail
 go_loopw [12] (λiv wr=>∃(i:Nat),i<=n/\i<=40/\iv= I i/\Hid (PlS (λk=>k<w.heap.size\/k=z.heap.size) w7 b i wr)) (λiv _=>40-(intOf iv).toNat)
 case atStart=>exact⟨0,QqM _,QqM _,rfl,av.out⟩
 case round=>
  clear av;obtain⟨i,aB,aW,rfl,HP⟩:=hrel;by_cases K:i<n/\i<40
  ·have a5:(i:Int)<(n:Int):=O;have a6:(i:Int)<40:=O;have a7:(0:Int)<=(i:Int):=QkD _;obtain⟨g,off,rfl,H,aw⟩:=af.out O;obtain⟨x,hx⟩:∃a,l[i]? =some a:=⟨l[i]'O,QqC O⟩;obtain⟨⟨a0,a1,a2,a3,a4⟩,hr⟩:=aw i x hx;obtain⟨t,ax,ay⟩:=HP.out.step O x hr;obtain⟨k,id,fr,m,d⟩:=x;simp only at a0 a1 a2 a3 a4;have HC:Hid (∀W,Below w.heap.size w W->W.cell? ⟨g,off+i*5,none⟩=some (I k)/\W.cell? ⟨g,off+i*5+1,none⟩=some (I id)/\W.cell? ⟨g,off+i*5+2,none⟩=some (I fr)/\W.cell? ⟨g,off+i*5+3,none⟩=some (I m)/\W.cell? ⟨g,off+i*5+4,none⟩=some (.string d)):=λW hb=>⟨(hb.cell (p:=⟨g,_,none⟩) H).trans a0,(hb.cell (p:=⟨g,_,none⟩) H).trans a1,(hb.cell (p:=⟨g,_,none⟩) H).trans a2,(hb.cell (p:=⟨g,_,none⟩) H).trans a3,(hb.cell (p:=⟨g,_,none⟩) H).trans a4⟩;have aQ:=Q7h (HP.out.below (QqA _ _).drew);have HS:=Q7h (HC.out _ (N.out _ _ aQ.out).1);have aR:Hid (∀W,Below wr.heap.size wr W->C 34 #[.pointer (some ⟨b,0,none⟩),.agg #[I k,I id,I fr,I m,.string d]] W λe w'=>e= .returned (.bool t)/\Below wr.heap.size wr w'):=ax;have az:Hid (t=true->∀W,Below wr.heap.size wr W->C 35 #[.pointer (some ⟨b,0,none⟩),.agg #[I k,I id,I fr,I m,.string d]] W λe w'=>e= .returned (.bool true)/\PlS (λk=>k<w.heap.size\/k=z.heap.size) w7 b (i+1) w'):=ay
   clear a0 a1 a2 a3 a4 aw hx ax ay hr;go_wp2_with fail
   refine rg.rgB (λW=>W.cell? ⟨g,off+i*5,none⟩=some (I k)/\W.cell? ⟨g,off+i*5+1,none⟩=some (I id)/\W.cell? ⟨g,off+i*5+2,none⟩=some (I fr)/\W.cell? ⟨g,off+i*5+3,none⟩=some (I m)/\W.cell? ⟨g,off+i*5+4,none⟩=some (.string d)) HS.out (λc=>?_);iterate 5 (refine rg.rgT ?_ ?_ ?_;rotate_left;(focus(intro wz f;(try dsimp only at f);obtain⟨q0,q1,q2,q3,q4⟩:=f;go_simp;(try with_reducible rfl)));(try simp only[Go.Act.put,rg.qa,rg.qb,rg.qc]))
   refine rg.rgC (λJ o=>?_);rw[QqH (by rfl)];go_simp
   refine(aR.out _ (QqA _ _).drew).mono ?_;rintro e z ⟨rfl,M⟩;have j:=Q7h (HP.out.below M);have aS:=Q7h M;refine o.out _ _ (HC.out _ (N.out _ _ j.out).1) (λc=>?_);clear o J M;cases t
   ·iterate 1 (refine rg.rgT ?_ ?_ ?_;rotate_left;(focus(intro wz f;(try dsimp only at f);obtain⟨q0,q1,q2,q3,q4⟩:=f;go_simp;(try with_reducible rfl)));(try simp only[Go.Act.put,rg.qa,rg.qb,rg.qc]))
    iterate 19 (refine rg.rgS ?_;(try simp only[Go.Act.put,rg.qa,rg.qb,rg.qc]))
    iterate 1 (refine rg.rgT ?_ ?_ ?_;rotate_left;(focus(intro wz f;(try dsimp only at f);obtain⟨q0,q1,q2,q3,q4⟩:=f;go_simp;(try with_reducible rfl)));(try simp only[Go.Act.put,rg.qa,rg.qb,rg.qc]))
    refine rg.rgD ?_;have u:=Q7h j.out.same;go_wp2_with fail
    go_roundw
    case rel=>exact⟨i+1,O,O,by go_num,u.out⟩
    case measure=>simp[intOf];omega
   ·iterate 6 (refine rg.rgT ?_ ?_ ?_;rotate_left;(focus(intro wz f;(try dsimp only at f);obtain⟨q0,q1,q2,q3,q4⟩:=f;go_simp;(try with_reducible rfl)));(try simp only[Go.Act.put,rg.qa,rg.qb,rg.qc]))
    refine rg.rgC (λJ o=>?_);rw[QqH (by rfl)];go_simp
    refine(az.out rfl _ aS.out).mono ?_;rintro e s ⟨rfl,Z⟩;have u:=Q7h Z;refine o.out _ _ (HC.out _ (N.out _ _ Z).1) (λc=>?_);obtain⟨v,cap,A5,n5,aF,⟨y1,y2,y3⟩,aH⟩:=Z.says;have aT:=Q7h aH;have HY:Hid ((s.cell? ⟨g,off+i*5,none⟩=some (I k)/\s.cell? ⟨g,off+i*5+1,none⟩=some (I id)/\s.cell? ⟨g,off+i*5+2,none⟩=some (I fr)/\s.cell? ⟨g,off+i*5+3,none⟩=some (I m)/\s.cell? ⟨g,off+i*5+4,none⟩=some (.string d))/\s.cell? ⟨b,1,none⟩=some (.pointer (some ⟨v,0,none⟩))/\s.cell? ⟨b,2,none⟩=some (I cap)/\s.cell? ⟨b,3,none⟩=some (.slice A5 n5 aF)):=⟨c,y1,y2,y3⟩;clear o J Z aH y1 y2 y3 az;refine rgM (S':=λW=>(W.cell? ⟨g,off+i*5,none⟩=some (I k)/\W.cell? ⟨g,off+i*5+1,none⟩=some (I id)/\W.cell? ⟨g,off+i*5+2,none⟩=some (I fr)/\W.cell? ⟨g,off+i*5+3,none⟩=some (I m)/\W.cell? ⟨g,off+i*5+4,none⟩=some (.string d))/\W.cell? ⟨b,1,none⟩=some (.pointer (some ⟨v,0,none⟩))/\W.cell? ⟨b,2,none⟩=some (I cap)/\W.cell? ⟨b,3,none⟩=some (.slice A5 n5 aF)) (λ_ h=>h.1) _ _ _ _ ?_;clear c;have c:=HY.out;iterate 10 (refine rg.rgT ?_ ?_ ?_;rotate_left;(focus(intro wz f;(try dsimp only at f);obtain⟨⟨q0,q1,q2,q3,q4⟩,q5,q6,q7⟩:=f;go_simp;(try with_reducible rfl)));(try simp only[Go.Act.put,rg.qa,rg.qb,rg.qc]))
    refine rg.rgC (λJ o=>?_);rw[QqH (by rfl)];go_simp
    refine(aT.out _ (QqA _ _)).mono ?_;rintro e w6 ⟨rfl,y⟩;have aK:=Q7h (u.out.below y);refine o.out _ _ ⟨HC.out _ (N.out _ _ aK.out).1,Qq y c.2.1,Qq y c.2.2.1,Qq y c.2.2.2⟩ (λc=>?_);clear o J y;iterate 3 (refine rg.rgT ?_ ?_ ?_;rotate_left;(focus(intro wz f;(try dsimp only at f);obtain⟨⟨q0,q1,q2,q3,q4⟩,q5,q6,q7⟩:=f;go_simp;(try with_reducible rfl)));(try simp only[Go.Act.put,rg.qa,rg.qb,rg.qc]))
    refine rg.rgD ?_;go_wp2_with fail
    go_roundw
    case rel=>exact⟨i+1,O,O,by go_num,aK.out⟩
    case measure=>simp[intOf];omega
  ·have Q:(¬(i:Int)<(n:Int))\/((i:Int)<(n:Int)/\¬(i:Int)<40):=O;clear K af;rcases Q with Q|⟨Q,aV⟩;all_goals
    obtain⟨v,q,r,y1,hr,B⟩:=HP.out.fin;obtain⟨H,y2⟩:=N.out _ _ HP.out;have a8:decide (r<=2)=true:=QxA hr;have HF:=Q7h B;have aL:=Q7h H;have HS:Hid (∀W,Below wr.heap.size wr W->W.cell? ⟨b,1,none⟩=some (.pointer (some ⟨v,0,none⟩))/\W.cell? ⟨z.heap.size,1,none⟩=some (I 2)):=λW hb=>⟨Qq hb y1,Qq hb y2⟩;clear B H y1 y2 hr;go_wp2_with fail
    refine rg.rgE (λW=>W.cell? ⟨b,1,none⟩=some (.pointer (some ⟨v,0,none⟩))/\W.cell? ⟨z.heap.size,1,none⟩=some (I 2)) (HS.out _ (QqA _ _).drew) (λc=>?_);refine rg.Ua 0 ?_;refine rg.Ua 1 ?_;refine rg.Ua 2 ?_;refine rg.Ua 3 ?_;refine rg.Ua 6 ?_;refine rg.Ua 7 ?_;refine rg.Wa 4 ?_;intro J o;refine(HF.out _ (QqA _ _).drew).1.mono ?_;rintro e w7 ⟨rfl,rfl⟩;refine o.out _ _ (HS.out _ (QqA _ _).drew) (λc=>?_);clear o J;refine rg.Wa 5 ?_;intro J o;refine(HF.out _ (QqA _ _).drew).2.1.mono ?_;rintro e w8 ⟨rfl,ad⟩;have ae:=Q7h ad;refine o.out _ _ (HS.out _ ad) (λc=>?_);clear o J ad;refine rg.Ua 8 ?_;refine rg.Ua 9 ?_;refine rg.Ua 10 ?_;refine rg.Ua 11 ?_;refine rg.Ua 12 ?_;refine rg.Ua 13 ?_;refine rg.Wa 14 ?_;intro J o;refine(HF.out _ ae.out).1.mono ?_;rintro e w9 ⟨rfl,rfl⟩;refine o.out _ _ (HS.out _ ae.out) (λc=>?_);clear o J;refine rg.Wa 15 ?_;intro J o;refine(HF.out _ ae.out).2.2.mono ?_;rintro e a9 ⟨rfl,R⟩;have aM:=Q7h R;refine o.out _ _ (HS.out _ R) (λc=>?_);clear o J R;refine rg.Ua 16 ?_;refine rg.Ua 17 ?_;refine rg.Ua 18 ?_;refine rg.rgF ?_;go_wp2_with fail
    go_ret
    exact⟨rfl,aL.out.trans (aM.out.mono aL.out.size)⟩
end pl
end Go.Proofs.YtfialjmemcobjaaGreatDoor
