/- A part of the proof. -/
import Derived.Test.YtfialjmemcobjaaGreatDoorPbYxMa
import Derived.Test.YtfialjmemcobjaaGreatDoorPbYyMa
set_option maxRecDepth 100000
set_option maxHeartbeats 16000000
set_option linter.unusedVariables false
set_option linter.unusedSimpArgs false
namespace Go.Proofs.YtfialjmemcobjaaGreatDoor
namespace tr
open Go.RowKit er
def Qps(T:TypeId)(r:List Ext)(w:World)(e:Ending)(w':World):Prop:=∃v',e= .returned (.tuple #[v',I 0])/\w'.ownsRow w.heap.size T 4 v' r.length (Qz r)/\Below w w w'
theorem R8(l:List Ext)(a b:Int):(parts l a b).length<=l.length:=List.length_filterMap_le _ _
theorem Qrz{w w':World}{g:Nat}{t:TypeId}{cs:Array Value}(h:Whole w g t cs)(hb:Below w w w'):Whole w' g t cs:=h.below hb h.lt
theorem Qx7(v1 v2:Value)(c d:List Ext)(w:World)(g:Nat)(i:Whole w g 261 #[v1,v2])(h1:SlAt w v1 c.length 4 (Qz c))(h2:SlAt w v2 d.length 4 (Qz d))(l:c.length+d.length<=40000000)(k:Nat):
  C 268 #[.slice (some (g,0)) 2 k] w λe w'=>∃f,e= .returned f/\ExtsAt w' f (c++d)/\Below w w w':=by
 refine(Qx6 [(v1,c.length,Qz c),(v2,d.length,Qz d)] g k w ?_ (by simp;omega) U U).mono ?_
 ·intro j y b;match j,b with
  |0,b=>simp at b;subst b;exact⟨i.cell 0,h1,Jm c⟩
  |1,b=>simp at b;subst b;exact⟨i.cell 1,h2,Jm d⟩
  |j+2,b=>simp at b
 ·rintro e w' ⟨f,rfl,a,h⟩;refine⟨f,rfl,?_,h⟩;simp only[QzE,QjE,QxX,List.sum_nil,Nat.add_zero,QqV,QyK,QzT]at a;rw[<-Zn]at a;exact(ExtsAt.own a).1
theorem Rt{fr n:Int}(h:Yp fr n=true):0<=fr/\0<=n/\fr+n<=16777216:=by
 unfold Yp at h;simp only[QzC,QzD]at h;omega
theorem Qg1(l:List Ext)(v:Value)(fr n:Int)(w:World)(h:ExtsAt w v l)(hl:l.length<=16777216)(Y:Xp l=true)(Z:Yp fr n=true):
  C 219 #[v,I fr,I n] w (Qps 255 (Eb l fr n) w):=by
 obtain⟨s1,s2,s3⟩:=Rt Z;have A:Hid (C 197 #[v] w λx w'=>x= .returned (.bool true)/\Below w w w'):=by have:=Y0 l v w h O;rw[Y]at this;exact this
 have B:Hid (∀a,C 266 #[I fr,I n] a λe w'=>e= .returned (.bool true)/\a=w'):=λa=>by have:=G9 fr n a;rw[Z]at this;exact this
 have c:=Og _ Y;have s:Hid (∀a,Below w w a->C 269 #[v,I 0,I fr] a λe w'=>∃b,e= .returned b/\SlAt w' b (parts l 0 fr).length 4 (Qz (parts l 0 fr))/\Below a a w'):=λa hb=>
  (Hm l v 0 fr a (h.below hb) c.one O O O s1 O).mono λe w' ⟨b,q1,q2,q3⟩=>⟨b,q1,SlAt.own q2,q3⟩
 have t:Hid (∀a,Below w w a->C 269 #[v,I (fr+n),I 16777216] a λe w'=>∃b,e= .returned b/\SlAt w' b (parts l (fr+n) 16777216).length 4 (Qz (parts l (fr+n) 16777216))/\Below a a w'):=λa hb=>
  (Hm l v (fr+n) 16777216 a (h.below hb) c.one O O O O O).mono λe w' ⟨b,q1,q2,q3⟩=>⟨b,q1,SlAt.own q2,q3⟩
 obtain⟨d,g⟩:=Zx (parts l 0 fr);obtain⟨f,i⟩:=Zx (parts l (fr+n) 16777216);have u:=R8 l 0 fr;have z:=R8 l (fr+n) 16777216;have F:∀x∈d++f,Qb x=true:=λx j=>by
  rcases QqJ.1 j with j|j
  ·rw[<-g]at j;obtain⟨y,hy,hp⟩:=Js j;exact(Jy hp (c.one y hy) O O).1
  ·rw[<-i]at j;obtain⟨y,hy,hp⟩:=Js j;exact(Jy hp (c.one y hy) O O).1
 have aa:Hid (Eb l fr n=tidy (d++f)):=by show _=_;unfold Eb;rw[g,i]
 rw[g]at s u;rw[i]at t z;have ab:Hid (∀(q a:World) (v1 v2:Value) (X:Nat),SlAt q v1 d.length 4 (Qz d)->SlAt q v2 f.length 4 (Qz f)->Below q q a->Whole a X 261 #[v1,v2]->C 268 #[.slice (some (X,0)) 2 2] a λe w'=>∃b,e= .returned b/\ExtsAt w' b (d++f)/\Below a a w'):=λq a v1 v2 X a1 a2 hb hw=>
  Qx7 v1 v2 d f a X hw (a1.below hb) (a2.below hb) O 2
 have H:Hid (∀(a:World) (b:Value),ExtsAt a b (d++f)->C 267 #[b] a λx w'=>∃b,x= .returned b/\w'.ownsRow a.heap.size 255 4 b (tidy (d++f)).length (Qz (tidy (d++f)))/\Below a a w'):=λa b hv=>
  Qyf _ b a hv F (by rw[QqK];omega)
 rw[aa.o];obtain⟨r,hr⟩:=Zx (tidy (d++f));rw[hr]at H ⊢;clear hr F u z g i c Z Y h hl;go_in
 go_wp2_with fail
 with_reducible refine A.o.mono ?_
 rintro e w1 ⟨rfl,K⟩;have L:=Q7h K;clear K;go_wp2_with fail
 with_reducible refine(B.o _).mono ?_
 rintro e w2 ⟨rfl,rfl⟩;go_wp2_with fail
 with_reducible refine(s.o _ L.o).mono ?_
 rintro e q ⟨v1,rfl,k,M⟩;obtain⟨A1,c1,e1⟩:=k.form;subst e1;have⟨ac,N⟩:=Q2 k (Qu L.o M);clear k M;go_wp2_with fail
 with_reducible refine(t.o _ N.o).mono ?_
 rintro e w4 ⟨v2,rfl,m,p⟩;obtain⟨A2,c2,e2⟩:=m.form;subst e2;have⟨ad,Q,ae⟩:=Q3 m (ac.o.below p) (Qu N.o p);clear m p;go_wp2_with fail
 with_reducible refine(ab.o w4 _ _ _ _ Q.o ad.o (B0.alloc N0 _) (Whole.new w4 _ _)).mono ?_
 rintro e w5 ⟨v3,rfl,R,S⟩;have⟨af,T⟩:=Q2 R (Qu (Qu ae.o (B0.alloc N0 _)) S);clear R S;go_wp2_with fail
 with_reducible refine(H.o _ _ af.o).mono ?_
 rintro e w6 ⟨v4,rfl,V,W⟩;have⟨ag,ah⟩:=Q2 (Qr V T.o.size) (Qu T.o W);clear V W;go_wp2_with fail
 go_ret2
 exact⟨v4,rfl,ag.o,ah.o⟩
theorem Lh{a b:World}(h:Below a a b):Below a a b.drew:=h.drew
theorem Ev{a b:World}(h:Below a a b){o:Obj}:Below a a (b.alloc o):=h.alloc h.size o
theorem Q25(v1 g:Value)(c d:List Ext)(y:Ext)(w:World)(a h:Nat)(i:Whole w h 261 #[v1,.slice (some (a,0)) 1 1,g])(m:Whole w a 255 #[I y.fr,I y.n,I y.kind,I y.at_])(h1:SlAt w v1 c.length 4 (Qz c))(h3:SlAt w g d.length 4 (Qz d))(p:c.length+d.length<=40000000)(l:Nat):
  C 268 #[.slice (some (h,0)) 3 l] w λe w'=>∃f,e= .returned f/\ExtsAt w' f (c++[y]++d)/\Below w w w':=by
 have h2:SlAt w (.slice (some (a,0)) 1 1) 1 4 (Qz [y]):=⟨rfl,.inr ⟨a,0,1,rfl,λj u o=>by rw[QkG,m.cell];simpa[Qz,Ext.cells]using o⟩⟩;refine(Qx6 [(v1,c.length,Qz c),(.slice (some (a,0)) 1 1,1,Qz [y]),(g,d.length,Qz d)] h l w ?_ (by simp;omega) U U).mono ?_
 ·intro j q hq;match j,hq with
  |0,hq=>simp at hq;subst hq;exact⟨i.cell 0,h1,Jm c⟩
  |1,hq=>simp at hq;subst hq;exact⟨i.cell 1,h2,Jm _⟩
  |2,hq=>simp at hq;subst hq;exact⟨i.cell 2,h3,Jm d⟩
  |j+3,hq=>simp at hq
 ·rintro e w' ⟨f,rfl,b,k⟩;refine⟨f,rfl,?_,k⟩;simp only[QqV,QyK,QzT]at b;rw[<-QqU,<-Zn,<-Zn]at b;exact(ExtsAt.own b).1
theorem Sk(l:List Ext)(v:Value)(y:Ext)(w:World)(h:ExtsAt w v l)(hl:l.length<=16777216)(hc:Xp l=true)(hy:Qb y=true):
  C 224 #[v,y.val] w (Qps 255 (Gw l y) w):=by
 have au:=Qg hy;have m:=Og _ hc;obtain⟨z,hz⟩:=Zx y.end_;have av:y.fr+y.n=z:=hz;have L:Below w w (w.alloc (.cells #[I y.fr,I y.n,I y.kind,I y.at_] 255)):=B0.alloc N0 _;have aa:Hid (C 197 #[v] (w.alloc (.cells #[I y.fr,I y.n,I y.kind,I y.at_] 255)) λx w'=>x= .returned (.bool true)/\Below (w.heap.size+1) (w.alloc (.cells #[I y.fr,I y.n,I y.kind,I y.at_] 255)) w'):=by
  have:=Y0 l v _ (h.below L) O;rw[hc]at this;show Calls _ _ _ _ _;simpa using this
 have ab:Hid (∀a,C 223 #[y.val] a λx w'=>x= .returned (.bool true)/\Below a a w'):=λa=>by have:=Sj y a;rw[hy]at this;exact this
 have ac:Hid (∀a,C 248 #[y.val] a λx w'=>x= .returned (I z)/\Below a a w'):=λa=>by have:=Qzo y a hy;rw[hz]at this;exact this
 have T:Hid (∀a,Below w w a->C 269 #[v,I 0,I y.fr] a λe w'=>∃b,e= .returned b/\SlAt w' b (parts l 0 y.fr).length 4 (Qz (parts l 0 y.fr))/\Below a a w'):=λa hb=>
  (Hm l v 0 y.fr a (h.below hb) m.one O O O O O).mono λe w' ⟨b,q1,q2,q3⟩=>⟨b,q1,SlAt.own q2,q3⟩
 have ad:Hid (∀a,Below w w a->C 269 #[v,I z,I 16777216] a λe w'=>∃b,e= .returned b/\SlAt w' b (parts l z 16777216).length 4 (Qz (parts l z 16777216))/\Below a a w'):=λa hb=>
  (Hm l v z 16777216 a (h.below hb) m.one O O O O O).mono λe w' ⟨b,q1,q2,q3⟩=>⟨b,q1,SlAt.own q2,q3⟩
 obtain⟨p,M⟩:=Zx (parts l 0 y.fr);obtain⟨s,N⟩:=Zx (parts l z 16777216);have ae:=R8 l 0 y.fr;have af:=R8 l z 16777216;have ag:∀x∈p++[y]++s,Qb x=true:=λx u=>by
  rcases QqJ.1 u with u|u
  ·rcases QqJ.1 u with u|u
   ·rw[<-M]at u;obtain⟨q,hq,hp⟩:=Js u;exact(Jy hp (m.one q hq) O O).1
   ·rw[QzG.1 u];exact hy
  ·rw[<-N]at u;obtain⟨q,hq,hp⟩:=Js u;exact(Jy hp (m.one q hq) O O).1
 have ah:Hid (Gw l y=tidy (p++[y]++s)):=by show _=_;unfold Gw;rw[M,hz,N]
 rw[M]at T ae;rw[N]at ad af;have V:Hid (∀(a:World) (v1 v3:Value) (Q gb:Nat),Whole a gb 261 #[v1,.slice (some (Q,0)) 1 1,v3]->Whole a Q 255 #[I y.fr,I y.n,I y.kind,I y.at_]->SlAt a v1 p.length 4 (Qz p)->SlAt a v3 s.length 4 (Qz s)->C 268 #[.slice (some (gb,0)) 3 3] a λe w'=>∃b,e= .returned b/\ExtsAt w' b (p++[y]++s)/\Below a a w'):=λa v1 v3 Q gb a1 a2 a3 a4=>
  Q25 v1 v3 p s y a Q gb a1 a2 a3 a4 O 3
 have W:Hid (∀(a:World) (b:Value),ExtsAt a b (p++[y]++s)->C 267 #[b] a λx w'=>∃b,x= .returned b/\w'.ownsRow a.heap.size 255 4 b (tidy (p++[y]++s)).length (Qz (tidy (p++[y]++s)))/\Below a a w'):=λa b hv=>
  Qyf _ b a hv ag (by simp only[QqK,QzN,List.length_nil];omega)
 rw[ah.o];obtain⟨r,hr⟩:=Zx (tidy (p++[y]++s));rw[hr]at W ⊢;obtain⟨RR,ai⟩:=Zx (p++[y]++s);rw[ai]at W V;have X:=Whole.new w 255 #[I y.fr,I y.n,I y.kind,I y.at_];obtain⟨f,en,k,t⟩:=y;simp only[Ext.val]at ab ac;simp only at T V aa X L;have aj:Hid (∀a,Below (w.heap.size+1) (w.alloc (.cells #[I f,I en,I k,I t] 255)) a->a.cell? (w,0)=some (I f)/\a.cell? (w,1)=some (I en)/\a.cell? (w,2)=some (I k)/\a.cell? (w,3)=some (I t)):=λa hb=>(K7 (X.below hb O)).1;have aw:=Q7h L;clear ai hr ag ae af M N hz av au m hc h hl X L hy ah;show C 224 #[v,.agg #[I f,I en,I k,I t]] w _;go_in
 go_wp2_with fail
 with_reducible refine aa.o.mono ?_
 rintro e w1 ⟨rfl,Y⟩;obtain⟨y0,y1,y2,y3⟩:=aj.o _ Y;have ak:=Q7h Y;clear Y;go_wp2_with fail
 with_reducible refine(ab.o _).mono ?_
 rintro e w2 ⟨rfl,al⟩;have F:Below (w.heap.size+1) (w.alloc (.cells #[I f,I en,I k,I t] 255)) w2:=ak.o.trans (al.mono (by have:=ak.o.size;simpa using this));have⟨i,H⟩:=Q2 (aj.o _ F) (aw.o.trans (F.mono O));have ax:Hid (∀a,Below w2 w2 a->a.cell? (w,0)=some (I f)/\a.cell? (w,1)=some (I en)/\a.cell? (w,2)=some (I k)/\a.cell? (w,3)=some (I t)):=λa hb=>⟨Qq hb i.o.1,Qq hb i.o.2.1,Qq hb i.o.2.2.1,Qq hb i.o.2.2.2⟩;clear y0 y1 y2 y3 al F;obtain⟨y0,y1,y2,y3⟩:=i.o;go_wp2_with fail
 go_region_held3 (λw'=>w'.cell? (w,0)=some (I f)/\w'.cell? (w,1)=some (I en)/\w'.cell? (w,2)=some (I k)/\w'.cell? (w,3)=some (I t)) (first|exact i.o|exact ax.o _ (by repeat(first|with_reducible exact QqA _ _|with_reducible refine Qu ?_ R.o|with_reducible refine Lh ?_|with_reducible refine Ev ?_|with_reducible refine Qu ?_ j.o|with_reducible refine Qu ?_ c.o|with_reducible refine Qu ?_ d.o|with_reducible refine Qu ?_ g.o))) ((first|(go_at_call 269;(with_reducible refine(T.o _ (by repeat(first|with_reducible exact QqA _ _|with_reducible exact H.o|with_reducible refine Lh ?_|with_reducible refine Ev ?_|with_reducible refine Qu ?_ j.o|with_reducible refine Qu ?_ c.o|with_reducible refine Qu ?_ d.o|with_reducible refine Qu ?_ g.o))).mono ?_);rintro e w3 ⟨v1,rfl,Z,am⟩;obtain⟨A1,c1,e1⟩:=Z.form;subst e1;have⟨ay,g⟩:=Q2 Z am;clear Z am)|(go_at_call 248;(with_reducible refine(ac.o _).mono ?_);rintro e w4 ⟨rfl,an⟩;have d:=Q7h an;clear an)|(go_at_call 269;(with_reducible refine(ad.o _ (by repeat(first|with_reducible exact QqA _ _|with_reducible exact H.o|with_reducible refine Lh ?_|with_reducible refine Ev ?_|with_reducible refine Qu ?_ j.o|with_reducible refine Qu ?_ c.o|with_reducible refine Qu ?_ d.o|with_reducible refine Qu ?_ g.o))).mono ?_);rintro e w5 ⟨v2,rfl,A,ao⟩;obtain⟨A2,c2,e2⟩:=A.form;subst e2;have⟨az,c⟩:=Q2 A ao;clear A ao)|(go_at_call 268;(refine(V.o _ _ _ _ _ (by repeat(first|exact Whole.new' _ _ _ _ (by first|rfl|(simp;done))|with_reducible refine Un ?_|with_reducible refine Whole.alloc ?_ _|with_reducible refine Qrz ?_ c.o|with_reducible refine Qrz ?_ d.o|with_reducible refine Qrz ?_ g.o)) (by repeat(first|exact Whole.new' _ _ _ _ (by first|rfl|(simp;done))|with_reducible refine Un ?_|with_reducible refine Whole.alloc ?_ _|with_reducible refine Qrz ?_ c.o|with_reducible refine Qrz ?_ d.o|with_reducible refine Qrz ?_ g.o)) (ay.o.below (by repeat(first|with_reducible exact QqA _ _|with_reducible exact H.o|with_reducible refine Lh ?_|with_reducible refine Ev ?_|with_reducible refine Qu ?_ j.o|with_reducible refine Qu ?_ c.o|with_reducible refine Qu ?_ d.o|with_reducible refine Qu ?_ g.o))) (az.o.below (by repeat(first|with_reducible exact QqA _ _|with_reducible exact H.o|with_reducible refine Lh ?_|with_reducible refine Ev ?_|with_reducible refine Qu ?_ j.o|with_reducible refine Qu ?_ c.o|with_reducible refine Qu ?_ d.o|with_reducible refine Qu ?_ g.o)))).mono ?_);rintro e w9 ⟨v9,rfl,B,ap⟩;obtain⟨A9,c9,e9,_⟩:=id B;subst e9;have⟨aF,j⟩:=Q2 B ap;clear B ap)|(go_at_call 267;(with_reducible refine(W.o _ _ aF.o).mono ?_);rintro e aH ⟨aM,rfl,K,S⟩;obtain⟨aN,c10,aK⟩:=Qk K;subst aK;have⟨aq,R⟩:=Q2 K S;clear K S)))
 all_goals go_wp2_with fail
 all_goals go_ret2
 all_goals (have ar:Below w w w9:=(by repeat(first|with_reducible exact QqA _ _|with_reducible exact H.o|with_reducible refine Lh ?_|with_reducible refine Ev ?_|with_reducible refine Qu ?_ j.o|with_reducible refine Qu ?_ c.o|with_reducible refine Qu ?_ d.o|with_reducible refine Qu ?_ g.o)))
 all_goals (have aL:Below w w aH:=Qu ar R.o)
 all_goals exact⟨_,rfl,Qr aq.o ar.size,aL⟩
end tr
end Go.Proofs.YtfialjmemcobjaaGreatDoor
