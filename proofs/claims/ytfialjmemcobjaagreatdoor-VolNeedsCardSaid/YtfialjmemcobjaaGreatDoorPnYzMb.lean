/- A part of the proof. -/
import Derived.Test.YtfialjmemcobjaaGreatDoorPnYxMa
import Derived.Test.YtfialjmemcobjaaGreatDoorPnYyMa
set_option maxRecDepth 100000
set_option maxHeartbeats 16000000
set_option linter.unusedVariables false
set_option linter.unusedSimpArgs false
namespace Go.Proofs.YtfialjmemcobjaaGreatDoor
namespace tr
open Go.RowKit er
def Qps(T:TypeId)(r:List Ext)(w:World)(e:Ending)(w':World):Prop:=∃v',e= .returned (.tuple #[v',I 0])/\w'.ownsRow w.heap.size T 4 v' r.length (Qz r)/\Below w w w'
theorem R8(l:List Ext)(a b:Int):(parts l a b).length<=l.length:=List.length_filterMap_le _ _
theorem Qrz{w w':World}{g:Nat}{t:TypeId}{cs:Array Value}(h:Whole w g t cs)(hb:Below w w w'):Whole w' g t cs:=h.below hb h.lt
theorem Qx7(v1 v2:Value)(c d:List Ext)(w:World)(f:Nat)(h:Whole w f 261 #[v1,v2])(h1:SlAt w v1 c.length 4 (Qz c))(h2:SlAt w v2 d.length 4 (Qz d))(k:c.length+d.length<=40000000)(i:Nat):
  C 268 #[.slice (some (f,0)) 2 i] w λe w'=>∃v',e= .returned v'/\ExtsAt w' v' (c++d)/\Below w w w':=by
 refine(Qx6 [(v1,c.length,Qz c),(v2,d.length,Qz d)] f i w ?_ (by simp;omega) U U).mono ?_
 ·intro j y b;match j,b with
  |0,b=>simp at b;subst b;exact⟨h.cell 0,h1,Jm c⟩
  |1,b=>simp at b;subst b;exact⟨h.cell 1,h2,Jm d⟩
  |j+2,b=>simp at b
 ·rintro e w' ⟨v',rfl,a,g⟩;refine⟨v',rfl,?_,g⟩;simp only[QzE,QjE,QxX,List.sum_nil,Nat.add_zero,QqV,QyK,QzT]at a;rw[<-Zn]at a;exact(ExtsAt.own a).1
theorem Rt{fr n:Int}(h:Yp fr n=true):0<=fr/\0<=n/\fr+n<=16777216:=by
 unfold Yp at h;simp only[QzC,QzD]at h;omega
theorem Qg1(l:List Ext)(v:Value)(fr n:Int)(w:World)(h:ExtsAt w v l)(hl:l.length<=16777216)(X:Xp l=true)(Y:Yp fr n=true):
  C 219 #[v,I fr,I n] w (Qps 255 (Eb l fr n) w):=by
 obtain⟨s1,s2,s3⟩:=Rt Y;have Z:Hid (C 197 #[v] w λx w'=>x= .returned (.bool true)/\Below w w w'):=by have:=Y0 l v w h O;rw[X]at this;exact this
 have A:Hid (∀a,C 266 #[I fr,I n] a λe w'=>e= .returned (.bool true)/\a=w'):=λa=>by have:=G9 fr n a;rw[Y]at this;exact this
 have b:=Og _ X;have q:Hid (∀a,Below w w a->C 269 #[v,I 0,I fr] a λe w'=>∃v',e= .returned v'/\SlAt w' v' (parts l 0 fr).length 4 (Qz (parts l 0 fr))/\Below a a w'):=λa hb=>
  (Hm l v 0 fr a (h.below hb) b.one O O O s1 O).mono λe w' ⟨v',q1,B,q3⟩=>⟨v',q1,SlAt.own B,q3⟩
 have s:Hid (∀a,Below w w a->C 269 #[v,I (fr+n),I 16777216] a λe w'=>∃v',e= .returned v'/\SlAt w' v' (parts l (fr+n) 16777216).length 4 (Qz (parts l (fr+n) 16777216))/\Below a a w'):=λa hb=>
  (Hm l v (fr+n) 16777216 a (h.below hb) b.one O O O O O).mono λe w' ⟨v',q1,B,q3⟩=>⟨v',q1,SlAt.own B,q3⟩
 obtain⟨c,f⟩:=Zx (parts l 0 fr);obtain⟨d,g⟩:=Zx (parts l (fr+n) 16777216);have t:=R8 l 0 fr;have u:=R8 l (fr+n) 16777216;have z:∀x∈c++d,Qb x=true:=λx i=>by
  rcases QqJ.1 i with i|i
  ·rw[<-f]at i;obtain⟨y,hy,hp⟩:=Js i;exact(Jy hp (b.one y hy) O O).1
  ·rw[<-g]at i;obtain⟨y,hy,hp⟩:=Js i;exact(Jy hp (b.one y hy) O O).1
 have aa:Hid (Eb l fr n=tidy (c++d)):=by show _=_;unfold Eb;rw[f,g]
 rw[f]at q t;rw[g]at s u;have ab:Hid (∀(p a:World) (v1 v2:Value) (W:Nat),SlAt p v1 c.length 4 (Qz c)->SlAt p v2 d.length 4 (Qz d)->Below p p a->Whole a W 261 #[v1,v2]->C 268 #[.slice (some (W,0)) 2 2] a λe w'=>∃v',e= .returned v'/\ExtsAt w' v' (c++d)/\Below a a w'):=λp a v1 v2 W a1 a2 hb hw=>
  Qx7 v1 v2 c d a W hw (a1.below hb) (a2.below hb) O 2
 have F:Hid (∀(a:World) (v':Value),ExtsAt a v' (c++d)->C 267 #[v'] a λx w'=>∃v',x= .returned v'/\w'.ownsRow a.heap.size 255 4 v' (tidy (c++d)).length (Qz (tidy (c++d)))/\Below a a w'):=λa v' hv=>
  Qyf _ v' a hv z (by rw[QqK];omega)
 rw[aa.o];obtain⟨r,hr⟩:=Zx (tidy (c++d));rw[hr]at F ⊢;clear hr z t u f g b Y X h hl;go_in
 go_wp2_with fail
 with_reducible refine Z.o.mono ?_
 rintro e w1 ⟨rfl,H⟩;have K:=Q7h H;clear H;go_wp2_with fail
 with_reducible refine(A.o _).mono ?_
 rintro e w2 ⟨rfl,rfl⟩;go_wp2_with fail
 with_reducible refine(q.o _ K.o).mono ?_
 rintro e p ⟨v1,rfl,j,L⟩;obtain⟨A1,c1,e1⟩:=j.form;subst e1;have⟨ac,M⟩:=Q2 j (Qu K.o L);clear j L;go_wp2_with fail
 with_reducible refine(s.o _ M.o).mono ?_
 rintro e w4 ⟨v2,rfl,k,m⟩;obtain⟨A2,c2,e2⟩:=k.form;subst e2;have⟨ad,N,ae⟩:=Q3 k (ac.o.below m) (Qu M.o m);clear k m;go_wp2_with fail
 with_reducible refine(ab.o w4 _ _ _ _ N.o ad.o (B0.alloc N0 _) (Whole.new w4 _ _)).mono ?_
 rintro e w5 ⟨v3,rfl,Q,R⟩;have⟨af,S⟩:=Q2 Q (Qu (Qu ae.o (B0.alloc N0 _)) R);clear Q R;go_wp2_with fail
 with_reducible refine(F.o _ _ af.o).mono ?_
 rintro e w6 ⟨v4,rfl,T,V⟩;have⟨ag,ah⟩:=Q2 (Qr T S.o.size) (Qu S.o V);clear T V;go_wp2_with fail
 go_ret2
 exact⟨v4,rfl,ag.o,ah.o⟩
theorem Lh{a b:World}(h:Below a a b):Below a a b.drew:=h.drew
theorem Ev{a b:World}(h:Below a a b){o:Obj}:Below a a (b.alloc o):=h.alloc h.size o
theorem Q25(v1 f:Value)(c d:List Ext)(y:Ext)(w:World)(a g:Nat)(h:Whole w g 261 #[v1,.slice (some (a,0)) 1 1,f])(l:Whole w a 255 #[I y.fr,I y.n,I y.kind,I y.at_])(h1:SlAt w v1 c.length 4 (Qz c))(h3:SlAt w f d.length 4 (Qz d))(o:c.length+d.length<=40000000)(k:Nat):
  C 268 #[.slice (some (g,0)) 3 k] w λe w'=>∃v',e= .returned v'/\ExtsAt w' v' (c++[y]++d)/\Below w w w':=by
 have h2:SlAt w (.slice (some (a,0)) 1 1) 1 4 (Qz [y]):=⟨rfl,.inr ⟨a,0,1,rfl,λj u m=>by rw[QkG,l.cell];simpa[Qz,Ext.cells]using m⟩⟩;refine(Qx6 [(v1,c.length,Qz c),(.slice (some (a,0)) 1 1,1,Qz [y]),(f,d.length,Qz d)] g k w ?_ (by simp;omega) U U).mono ?_
 ·intro j q hq;match j,hq with
  |0,hq=>simp at hq;subst hq;exact⟨h.cell 0,h1,Jm c⟩
  |1,hq=>simp at hq;subst hq;exact⟨h.cell 1,h2,Jm _⟩
  |2,hq=>simp at hq;subst hq;exact⟨h.cell 2,h3,Jm d⟩
  |j+3,hq=>simp at hq
 ·rintro e w' ⟨v',rfl,b,i⟩;refine⟨v',rfl,?_,i⟩;simp only[QqV,QyK,QzT]at b;rw[<-QqU,<-Zn,<-Zn]at b;exact(ExtsAt.own b).1
theorem Sk(l:List Ext)(v:Value)(y:Ext)(w:World)(h:ExtsAt w v l)(hl:l.length<=16777216)(hc:Xp l=true)(hy:Qb y=true):
  C 224 #[v,y.val] w (Qps 255 (Gw l y) w):=by
 have au:=Qg hy;have j:=Og _ hc;obtain⟨z,hz⟩:=Zx y.end_;have av:y.fr+y.n=z:=hz;have K:Below w w (w.alloc (.cells #[I y.fr,I y.n,I y.kind,I y.at_] 255)):=B0.alloc N0 _;have aa:Hid (C 197 #[v] (w.alloc (.cells #[I y.fr,I y.n,I y.kind,I y.at_] 255)) λx w'=>x= .returned (.bool true)/\Below (w.heap.size+1) (w.alloc (.cells #[I y.fr,I y.n,I y.kind,I y.at_] 255)) w'):=by
  have:=Y0 l v _ (h.below K) O;rw[hc]at this;show Calls _ _ _ _ _;simpa using this
 have ab:Hid (∀a,C 223 #[y.val] a λx w'=>x= .returned (.bool true)/\Below a a w'):=λa=>by have:=Sj y a;rw[hy]at this;exact this
 have ac:Hid (∀a,C 248 #[y.val] a λx w'=>x= .returned (I z)/\Below a a w'):=λa=>by have:=Qzo y a hy;rw[hz]at this;exact this
 have S:Hid (∀a,Below w w a->C 269 #[v,I 0,I y.fr] a λe w'=>∃v',e= .returned v'/\SlAt w' v' (parts l 0 y.fr).length 4 (Qz (parts l 0 y.fr))/\Below a a w'):=λa hb=>
  (Hm l v 0 y.fr a (h.below hb) j.one O O O O O).mono λe w' ⟨v',q1,q2,q3⟩=>⟨v',q1,SlAt.own q2,q3⟩
 have ad:Hid (∀a,Below w w a->C 269 #[v,I z,I 16777216] a λe w'=>∃v',e= .returned v'/\SlAt w' v' (parts l z 16777216).length 4 (Qz (parts l z 16777216))/\Below a a w'):=λa hb=>
  (Hm l v z 16777216 a (h.below hb) j.one O O O O O).mono λe w' ⟨v',q1,q2,q3⟩=>⟨v',q1,SlAt.own q2,q3⟩
 obtain⟨m,L⟩:=Zx (parts l 0 y.fr);obtain⟨p,M⟩:=Zx (parts l z 16777216);have ae:=R8 l 0 y.fr;have af:=R8 l z 16777216;have ag:∀x∈m++[y]++p,Qb x=true:=λx s=>by
  rcases QqJ.1 s with s|s
  ·rcases QqJ.1 s with s|s
   ·rw[<-L]at s;obtain⟨q,hq,hp⟩:=Js s;exact(Jy hp (j.one q hq) O O).1
   ·rw[QzG.1 s];exact hy
  ·rw[<-M]at s;obtain⟨q,hq,hp⟩:=Js s;exact(Jy hp (j.one q hq) O O).1
 have ah:Hid (Gw l y=tidy (m++[y]++p)):=by show _=_;unfold Gw;rw[L,hz,M]
 rw[L]at S ae;rw[M]at ad af;have T:Hid (∀(a:World) (v1 v3:Value) (N gb:Nat),Whole a gb 261 #[v1,.slice (some (N,0)) 1 1,v3]->Whole a N 255 #[I y.fr,I y.n,I y.kind,I y.at_]->SlAt a v1 m.length 4 (Qz m)->SlAt a v3 p.length 4 (Qz p)->C 268 #[.slice (some (gb,0)) 3 3] a λe w'=>∃v',e= .returned v'/\ExtsAt w' v' (m++[y]++p)/\Below a a w'):=λa v1 v3 N gb a1 a2 a3 a4=>
  Q25 v1 v3 m p y a N gb a1 a2 a3 a4 O 3
 have V:Hid (∀(a:World) (v':Value),ExtsAt a v' (m++[y]++p)->C 267 #[v'] a λx w'=>∃v',x= .returned v'/\w'.ownsRow a.heap.size 255 4 v' (tidy (m++[y]++p)).length (Qz (tidy (m++[y]++p)))/\Below a a w'):=λa v' hv=>
  Qyf _ v' a hv ag (by simp only[QqK,QzN,List.length_nil];omega)
 rw[ah.o];obtain⟨r,hr⟩:=Zx (tidy (m++[y]++p));rw[hr]at V ⊢;obtain⟨RR,ai⟩:=Zx (m++[y]++p);rw[ai]at V T;have W:=Whole.new w 255 #[I y.fr,I y.n,I y.kind,I y.at_];obtain⟨f,B,k,t⟩:=y;simp only[Ext.val]at ab ac;simp only at S T aa W K;have aj:Hid (∀a,Below (w.heap.size+1) (w.alloc (.cells #[I f,I B,I k,I t] 255)) a->a.cell? (w,0)=some (I f)/\a.cell? (w,1)=some (I B)/\a.cell? (w,2)=some (I k)/\a.cell? (w,3)=some (I t)):=λa hb=>(K7 (W.below hb O)).1;have aw:=Q7h K;clear ai hr ag ae af L M hz av au j hc h hl W K hy ah;show C 224 #[v,.agg #[I f,I B,I k,I t]] w _;go_in
 go_wp2_with fail
 with_reducible refine aa.o.mono ?_
 rintro e w1 ⟨rfl,X⟩;obtain⟨y0,y1,y2,y3⟩:=aj.o _ X;have ak:=Q7h X;clear X;go_wp2_with fail
 with_reducible refine(ab.o _).mono ?_
 rintro e w2 ⟨rfl,al⟩;have u:Below (w.heap.size+1) (w.alloc (.cells #[I f,I B,I k,I t] 255)) w2:=ak.o.trans (al.mono (by have:=ak.o.size;simpa using this));have⟨g,F⟩:=Q2 (aj.o _ u) (aw.o.trans (u.mono O));have ax:Hid (∀a,Below w2 w2 a->a.cell? (w,0)=some (I f)/\a.cell? (w,1)=some (I B)/\a.cell? (w,2)=some (I k)/\a.cell? (w,3)=some (I t)):=λa hb=>⟨Qq hb g.o.1,Qq hb g.o.2.1,Qq hb g.o.2.2.1,Qq hb g.o.2.2.2⟩;clear y0 y1 y2 y3 al u;obtain⟨y0,y1,y2,y3⟩:=g.o;go_wp2_with fail
 go_region_held3 (λw'=>w'.cell? (w,0)=some (I f)/\w'.cell? (w,1)=some (I B)/\w'.cell? (w,2)=some (I k)/\w'.cell? (w,3)=some (I t)) (first|exact g.o|exact ax.o _ (by repeat(first|with_reducible exact QqA _ _|with_reducible refine Qu ?_ Q.o|with_reducible refine Lh ?_|with_reducible refine Ev ?_|with_reducible refine Qu ?_ i.o|with_reducible refine Qu ?_ b.o|with_reducible refine Qu ?_ c.o|with_reducible refine Qu ?_ d.o))) ((first|(go_at_call 269;(with_reducible refine(S.o _ (by repeat(first|with_reducible exact QqA _ _|with_reducible exact F.o|with_reducible refine Lh ?_|with_reducible refine Ev ?_|with_reducible refine Qu ?_ i.o|with_reducible refine Qu ?_ b.o|with_reducible refine Qu ?_ c.o|with_reducible refine Qu ?_ d.o))).mono ?_);rintro e w3 ⟨v1,rfl,Y,am⟩;obtain⟨A1,c1,e1⟩:=Y.form;subst e1;have⟨ay,d⟩:=Q2 Y am;clear Y am)|(go_at_call 248;(with_reducible refine(ac.o _).mono ?_);rintro e w4 ⟨rfl,an⟩;have c:=Q7h an;clear an)|(go_at_call 269;(with_reducible refine(ad.o _ (by repeat(first|with_reducible exact QqA _ _|with_reducible exact F.o|with_reducible refine Lh ?_|with_reducible refine Ev ?_|with_reducible refine Qu ?_ i.o|with_reducible refine Qu ?_ b.o|with_reducible refine Qu ?_ c.o|with_reducible refine Qu ?_ d.o))).mono ?_);rintro e w5 ⟨v2,rfl,Z,ao⟩;obtain⟨A2,c2,e2⟩:=Z.form;subst e2;have⟨az,b⟩:=Q2 Z ao;clear Z ao)|(go_at_call 268;(refine(T.o _ _ _ _ _ (by repeat(first|exact Whole.new' _ _ _ _ (by first|rfl|(simp;done))|with_reducible refine Un ?_|with_reducible refine Whole.alloc ?_ _|with_reducible refine Qrz ?_ b.o|with_reducible refine Qrz ?_ c.o|with_reducible refine Qrz ?_ d.o)) (by repeat(first|exact Whole.new' _ _ _ _ (by first|rfl|(simp;done))|with_reducible refine Un ?_|with_reducible refine Whole.alloc ?_ _|with_reducible refine Qrz ?_ b.o|with_reducible refine Qrz ?_ c.o|with_reducible refine Qrz ?_ d.o)) (ay.o.below (by repeat(first|with_reducible exact QqA _ _|with_reducible exact F.o|with_reducible refine Lh ?_|with_reducible refine Ev ?_|with_reducible refine Qu ?_ i.o|with_reducible refine Qu ?_ b.o|with_reducible refine Qu ?_ c.o|with_reducible refine Qu ?_ d.o))) (az.o.below (by repeat(first|with_reducible exact QqA _ _|with_reducible exact F.o|with_reducible refine Lh ?_|with_reducible refine Ev ?_|with_reducible refine Qu ?_ i.o|with_reducible refine Qu ?_ b.o|with_reducible refine Qu ?_ c.o|with_reducible refine Qu ?_ d.o)))).mono ?_);rintro e w9 ⟨v9,rfl,A,ap⟩;obtain⟨A9,c9,e9,_⟩:=id A;subst e9;have⟨aF,i⟩:=Q2 A ap;clear A ap)|(go_at_call 267;(with_reducible refine(V.o _ _ aF.o).mono ?_);rintro e aH ⟨aM,rfl,H,R⟩;obtain⟨aN,c10,aK⟩:=Qk H;subst aK;have⟨aq,Q⟩:=Q2 H R;clear H R)))
 all_goals go_wp2_with fail
 all_goals go_ret2
 all_goals (have ar:Below w w w9:=(by repeat(first|with_reducible exact QqA _ _|with_reducible exact F.o|with_reducible refine Lh ?_|with_reducible refine Ev ?_|with_reducible refine Qu ?_ i.o|with_reducible refine Qu ?_ b.o|with_reducible refine Qu ?_ c.o|with_reducible refine Qu ?_ d.o)))
 all_goals (have aL:Below w w aH:=Qu ar Q.o)
 all_goals exact⟨_,rfl,Qr aq.o ar.size,aL⟩
end tr
end Go.Proofs.YtfialjmemcobjaaGreatDoor
