/- A part of the proof. -/
import Derived.Test.YtfialjmemcobjaaGreatDoorPbRtE
import Derived.Test.YtfialjmemcobjaaGreatDoorPbVoC
import Derived.Test.YtfialjmemcobjaaGreatDoorPbVoR
set_option maxRecDepth 100000
set_option maxHeartbeats 16000000
set_option linter.unusedVariables false
set_option linter.unusedSimpArgs false
namespace Go.Proofs.YtfialjmemcobjaaGreatDoor
namespace vo
open Go.RowKit Go.Maps er st tr nd pg
abbrev Qz1:ByteArray:=⟨(List.replicate 32 (0:UInt8)).toArray⟩
def Iz(s:Sto)(T:Tree)(i:Int):ByteArray:=if(Zb T.flat i).1=2 then(Qj s.n (Zb T.flat i).2).1.body else Qz1
theorem Qo4(w:World)(v:Nat)(c:Pt)(X:XL)(V:Vo)(x:Sp×Bl)(i:Int)(h:VoIn w v c X V)(H:x∈X)(hi:I64 i)(m:(Zb x.1.tr.flat i).1=2->(Qj V.s.n (Zb x.1.tr.flat i).2).2=0)(S:∀a,(V.s.n.read a).2.size<=70368744177664):
  C 75 #[(v,0),I x.1.id,I i] w λe w'=>e= .returned (.tuple #[.string (Iz V.s x.1.tr i),.nilIface])/\Below w w w':=by
 have c0:=h.obj.cell 0;have c2:=h.obj.cell 2;simp[Qe]at c0 c2;obtain⟨t1,t2,T⟩:=h.tre x H;have K:=Q7h (Rp w x.2.F x.2.p x.1.tr i t1 t2 T hi.1 hi.2);have aa:=h.lookT H;have j:Hid (Iz V.s x.1.tr i=if(Zb x.1.tr.flat i).1=2 then(Qj V.s.n (Zb x.1.tr.flat i).2).1.body else Qz1):=rfl;obtain⟨⟨k,a⟩,r⟩:∃ka,Zb x.1.tr.flat i=ka:=⟨_,rfl⟩;rw[r]at K j m;simp only at K j m;obtain⟨R,Y⟩:=Zx (Iz V.s x.1.tr i);rw[Y]at j ⊢;have t:Hid (∀W,Below w w W->C 148 #[(c.q,0),I a] W λe w'=>∃u,e= .returned (.tuple #[(Qj V.s.n a).1.val,u])/\Below W W w'/\Cu w' (λ_=>False) [(Qbc,a)] (Qj V.s.n a).2 u):=λW hb=>Lp W _ _ _ _ _ _ a (h.below hb).sto (h.below hb).laid (S a);have L:Hid (∀W,Below w w W->W.cell? (v,0)=some (c.q,0)):=λW hb=>Qq hb c0;clear h H t1 t2 T Y r S;go_in
 go_wp2_with fail
 with_reducible refine K.o.mono ?_
 rintro e w1 ⟨rfl,y⟩;have b:=Q7h y;clear y;by_cases M:k=2
 ·subst M;have z:=m rfl;have d0:=L.o _ b.o;have d:Hid (R=(Qj V.s.n a).1.body):=by show _=_;rw[j.o,QqH rfl]
  obtain⟨pg,l⟩:=Zx ((Qj V.s.n a).1);rw[l,z]at t;rw[l]at d;obtain⟨p0,p1,p2,A,B⟩:=pg;clear m z l j;go_wp2_with fail
  refine(t.o _ b.o).mono ?_;rintro e w2 ⟨u,rfl,f,hu⟩;have g:=Q7h (b.o.trans (f.mono b.o.size));obtain rfl:u= .nilIface:=by simpa[Cu]using hu
  clear hu f;have N:Hid (Page.val ⟨p0,p1,p2,A,B⟩= .agg #[I p0,I p1,I p2,I A,.string B]):=rfl;rw[N.o];go_wp2_with fail
  refine QqG (v:= .tuple #[.string R,.nilIface]) (by simp[results,Tryz.results75,go_sem,d.o]) rfl ⟨rfl,?_⟩;exact g.o.alloc g.o.size _
 ·have ab:(k==2)=false:=by simpa using M
  have d:Hid (R=Qz1):=by show _=_;rw[j.o,QqE M]
  clear m j;go_wp2_with fail
  refine(Tryz.repeat32 _).mono ?_;rintro e w2 ⟨rfl,f⟩;have g:=Q7h (b.o.trans (f.mono b.o.size));clear f;obtain⟨Z,Q⟩:=Zx (⟨(List.replicate 32 (0:UInt8)).toArray⟩:ByteArray);rw[Q];have HZ:Hid (R=Z):=by show _=_;rw[d.o,<-Q]
  clear Q d;go_wp2_with fail
  refine QqG (v:= .tuple #[.string R,.nilIface]) (by simp[results,Tryz.results75,go_sem,HZ.o]) rfl ⟨rfl,g.o⟩
def Oz(s:Sto)(T:Tree)(f:Int)(n:Nat):List UInt8:=(List.range n).flatMap λk=>(Iz s T (f+(k:Nat))).data.toList
theorem Ob(s:Sto)(T:Tree)(f:Int)(n:Nat):Oz s T f (n+1)=Oz s T f n++(Iz s T (f+n)).data.toList:=by
 unfold Oz;rw[QyS,List.flatMap_append];simp
theorem V8(w:World)(v:Nat)(c:Pt)(X:XL)(V:Vo)(x:Sp×Bl)(f:Int)(n:Nat)(h:VoIn w v c X V)(Q:x∈X)(hf:0<=f)(h1:1<=n)(h8:n<=8)(T:f+n<=x.1.size)(hr:∀k:Nat,k<n->(Zb x.1.tr.flat (f+k)).1=2->(Qj V.s.n (Zb x.1.tr.flat (f+k)).2).2=0)(ht:∀a,(V.s.n.read a).2.size<=70368744177664)(p:∀k:Nat,k<n->(Iz V.s x.1.tr (f+k)).size=32):
  C 24 #[(v,0),I x.1.id,I f,I n] w λe w'=>e= .returned (.tuple #[.string ⟨(Oz V.s x.1.tr f n).toArray⟩,.nilIface])/\Below w w w':=by
 have ha:=h.acc Q;have HW:Hid (C 74 #[(v,0),I x.1.id,I f,I n,.bool true] w λe w'=>e= .returned .nilIface/\Below w w w'):=by
  have:=Kj w v c X V x f n true h Q (by unfold I64;omega) (by unfold I64;omega);rw[show Gt x.1.size f n true=0 by unfold Gt;rw[QqE (by simp;omega),QqE O]]at this;exact this
 have HS:Hid (∀W (k:Nat),Below w w W->k<n->C 75 #[(v,0),I x.1.id,I (f+k)] W λe w'=>e= .returned (.tuple #[.string (Iz V.s x.1.tr (f+k)),.nilIface])/\Below W W w'):=λW k hb hk=>Qo4 W v c X V x (f+k) (h.below hb) Q (by unfold I64;omega) (hr k hk) ht;have HL:Hid (∀k,k<=n->(Oz V.s x.1.tr f k).length<=32*k):=by
  intro k;induction k with
  |zero=>intro _;simp[Oz]
  |succ k ih=>
   intro hk;have h2:=ih O;have h3:(Iz V.s x.1.tr (f+k)).data.toList.length=32:=p k O;rw[Ob,QqK];omega
 have t:=Q7h p;have q:Hid (∀k,Oz V.s x.1.tr f (k+1)=Oz V.s x.1.tr f k++(Iz V.s x.1.tr (f+k)).data.toList):=λk=>Ob _ _ _ k;have u:Hid (Oz V.s x.1.tr f 0=[]):=rfl;obtain⟨R,hR⟩:=Zx (Oz V.s x.1.tr f);obtain⟨S,hS⟩:∃S:Nat->ByteArray,(λk:Nat=>Iz V.s x.1.tr (f+k))=S:=⟨_,rfl⟩;have y:∀k:Nat,Iz V.s x.1.tr (f+k)=S k:=λk=>congrFun hS k;simp only[y]at HS t q;rw[hR]at HL q u ⊢;have aa:(n:Int)<=8:=O;have ab:f+n<=16777216:=O;clear h Q hr ht p hR hS y ha T;go_in
 go_wp2_with fail
 with_reducible refine HW.o.mono ?_
 rintro e w1 ⟨rfl,z⟩;have m:=Q7h z;clear z;go_wp2_with fail
 go_loopw [28] (λi wr=>∃j:Nat,j<=n/\i= I j/\Hid (Lib.IsBuilder 129 5 w1.heap.size w1.heap.size (Lib.byteCells (R j)) wr)/\Hid (Below w1 w1 wr)) (λi _=>n-(intOf i).toNat)
 case atStart=>exact⟨0,QqM _,rfl,by rw[u.o];exact Lib.fresh_isBuilder _ _ w1,B0.alloc N0 _⟩
 case round=>
  obtain⟨j,hj,rfl,HB,b⟩:=hrel;by_cases F:j<n
  ·have ac:(j:Int)<(n:Int):=O;have ad:(0:Int)<=(j:Int):=QkD _;have Y:=Q7h (m.o.trans (b.o.mono m.o.size));have H:=Q7h (HS.o wr j Y.o F);have K:Hid ((Lib.byteCells (R j)).length+(S j).size<=140737488355328):=by
    show _<=_;have h1:=HL.o j O;have h2:=t.o j F;rw[Lib.byteCells_length];omega
   have L:Hid (Lib.byteCells (R (j+1))=Lib.byteCells (R j)++Lib.strCells (S j)):=by
    show _=_;rw[q.o];simp[Lib.byteCells,Lib.strCells]
   obtain⟨sj,M⟩:=Zx (S j);rw[M]at H K L;clear M;go_wp2_with fail
   with_reducible refine H.o.mono ?_
   rintro e w2 ⟨rfl,d⟩;have⟨Z,g⟩:=Q2 (Fp HB.o d) (b.o.trans (d.mono b.o.size));clear d;go_wp2_with fail
   refine(Tryz.Builder_WriteString _ _ _ _ _ Z.o K.o (by have:=g.o.size;omega)).mono ?_;rintro e w3 ⟨rfl,N,l⟩;have A:Hid (Lib.IsBuilder 129 5 w1.heap.size w1.heap.size (Lib.byteCells (R (j+1))) w3):=by
    show Lib.IsBuilder _ _ _ _ _ _;rw[L.o];exact .inr N
   have r:=Q7h (g.o.trans l);clear N l;go_wp2_with fail
   go_roundw
   case rel=>exact⟨j+1,O,by go_num,A,r⟩
   case measure=>simp[intOf];omega
  ·obtain rfl:j=n:=O;go_wp2_with fail
   refine(Tryz.Builder_String_any _ _ _ _ HB.o b.o.size).mono ?_;rintro e w2 ⟨rfl,d⟩;have B:=Q7h (m.o.trans ((b.o.trans d).mono m.o.size));clear d;go_wp2_with fail
   go_returns;exact⟨rfl,B.o⟩
end vo
namespace vo
open Go.RowKit Go.Maps er st tr pg
theorem Qpi(w:World)(v:Nat)(c:Pt)(X:XL)(V:Vo)(k sp y sq:Int)(b:ByteArray)(a:Int)(u:Value)(K A:Int)(h:VoIn w v c X V)(F:∃p,u= .pointer p)(i:∀W,Below w w W->(Instr.lookup 113 (.map (some c.tb)) (I sp) false).run Tryz.prog W= .ok u W)(z:∀W,Below w w W->C 146 #[u,I y] W λe w'=>e= .returned (.tuple #[I K,I A])/\Below W W w')(H:¬(k=1/\K=2/\A=a)):
  C 159 #[(v,0),.agg #[I k,I sp,I y,I sq,.string b],I a] w λe w'=>e= .returned (.tuple #[.bool false,.nilIface])/\Below w w w':=by
 obtain⟨p,rfl⟩:=F;have d:Below w w (w.alloc (.cells #[I k,I sp,I y,I sq,.string b] 32)):=B0.alloc N0 _;have m:=Whole.new w 32 #[I k,I sp,I y,I sq,.string b];obtain⟨w1,q⟩:=Zx (w.alloc (.cells #[I k,I sp,I y,I sq,.string b] 32));rw[q]at d m;have c2:w1.cell? (v,2)=some (.map (some c.tb)):=(h.obj.below d h.obj.lt).cell 2;have r:Hid (∀W,Below w1 w1 W->W.cell? (w,0)=some (I k)/\W.cell? (w,1)=some (I sp)/\W.cell? (w,2)=some (I y)/\W.cell? (v,2)=some (.map (some c.tb))):=λW hb=>by
  have:=m.below hb m.lt;exact⟨this.cell 0,this.cell 1,this.cell 2,Qq hb c2⟩
 have⟨f,j,L⟩:=Q3 d i z;have s:=j.o _ d;have t:=j.o _ d.drew;obtain⟨R,S,T,Y⟩:=r.o _ B0;clear h m c2 d i z;go_in
 go_wp2_with fail
 have M:=Q7h (r.o _ B0.drew);go_region_held3 (λW=>W.cell? (w,0)=some (I k)/\W.cell? (w,1)=some (I sp)/\W.cell? (w,2)=some (I y)/\W.cell? (v,2)=some (.map (some c.tb))) (with_reducible exact M.o) (fail)
 go_wp2_with fail
 refine(L.o _ f.o.drew).mono ?_;rintro e w2 ⟨rfl,l⟩;have g:Below w1 w1 w2:=(B0.drew).trans l;obtain⟨Z,B,y2,y3⟩:=r.o _ g;have x:=Q7h (f.o.trans (g.mono f.o.size));clear l g s t;have n:(k==1)=false\/(k==1)=true/\((K==2)=false\/(K==2)=true/\(A==a)=false):=by
  by_cases q1:k=1<;>by_cases q2:K=2<;>by_cases q3:A=a<;>simp_all
 rcases n with n|⟨N,n|⟨Q,n⟩⟩;all_goals go_wp2_with fail
 all_goals go_returns;exact⟨rfl,x.o⟩
theorem Qfu(w:World)(v:Nat)(c:Pt)(X:XL)(V:Vo)(x:Sp×Bl)(y sq:Int)(b:ByteArray)(g a:Int)(f:Nat)(s':Sto)(h:VoIn w v c X V)(k:x∈X)(hy:I64 y)(hf:Zb x.1.tr.flat y=(2,g))(hr:Xv f V.s ⟨1,x.1.id,y,sq,b⟩=some (s',a,0))(ho:V.s.n.ops+f<=1000000000000000000)(hq:V.s.seq<=281474976710655)(h1:Qb ⟨y,1,2,a⟩=true)(H:(Gw x.1.tr.flat ⟨y,1,2,a⟩).length<=10)(K:(x.1.tr.over ⟨y,1,2,a⟩).Ok)(hc:Chk (x.1.tr.over ⟨y,1,2,a⟩).flat):
  C 159 #[(v,0),.agg #[I 1,I x.1.id,I y,I sq,.string b],I g] w λe w'=>e= .returned (.tuple #[.bool true,.nilIface])/\∃N' F,VoIn w' v {c with N:=N'} (Qo X x.1.id (x.1.tr.over ⟨y,1,2,a⟩) F) {V with s:=s',l:=(Qo X x.1.id (x.1.tr.over ⟨y,1,2,a⟩) F).map (·.1)}/\Mv (vF v c X) w (vF v {c with N:=N'} (Qo X x.1.id (x.1.tr.over ⟨y,1,2,a⟩) F)) w':=by
 have i:Below w w (w.alloc (.cells #[I 1,I x.1.id,I y,I sq,.string b] 32)):=B0.alloc N0 _;have d:=Whole.new w 32 #[I 1,I x.1.id,I y,I sq,.string b];obtain⟨w1,m⟩:=Zx (w.alloc (.cells #[I 1,I x.1.id,I y,I sq,.string b] 32));rw[m]at i d;have j:=h.below i;have L:¬vF v c X w.heap.size:=λr=>by have:=h.lt _ r;omega
 have M:Hid (∀W,Below w1 w1 W->(W.cell? (w,0)=some (I 1)/\W.cell? (w,1)=some (I x.1.id)/\W.cell? (w,2)=some (I y)/\W.cell? (w,3)=some (I sq)/\W.cell? (w,4)=some (.string b))/\W.cell? (v,0)=some (c.q,0)/\W.cell? (v,2)=some (.map (some c.tb))/\(Instr.lookup 113 (.map (some c.tb)) (I x.1.id) false).run Tryz.prog W= .ok (x.2.p,0) W):=λW hb=>by
  have:=d.below hb d.lt;have hv:=j.below hb;exact⟨⟨this.cell 0,this.cell 1,this.cell 2,this.cell 3,this.cell 4⟩,hv.obj.cell 0,hv.obj.cell 2,hv.lookT k⟩
 obtain⟨t1,t2,t3⟩:=h.tre x k;have HF:Hid (∀W,Below w1 w1 W->C 146 #[(x.2.p,0),I y] W λe w'=>e= .returned (.tuple #[I 2,I g])/\Below W W w'):=λW hb=>by
  have:=Rp W x.2.F x.2.p x.1.tr y ((j.below hb).tre x k).1 t2 t3 hy.1 hy.2;rw[hf]at this;exact this
 have HA:Hid (∀W,Below w1 w1 W->C 145 #[(c.q,0),.agg #[I 1,I x.1.id,I y,I sq,.string b]] W λe w'=>e= .returned (.tuple #[I a,.nilIface])/\∃N',VoIn w' v {c with N:=N'} X {V with s:=s'}/\Mv (vF v c X) w (vF v {c with N:=N'} X) w'/\(w'.cell? (w,0)=some (I 1)/\w'.cell? (w,1)=some (I x.1.id)/\w'.cell? (w,2)=some (I y)/\w'.cell? (w,3)=some (I sq)/\w'.cell? (w,4)=some (.string b))/\w'.cell? (v,0)=some (c.q,0)):=λW hb=>by
  refine(Ad W v c X V ⟨1,x.1.id,y,sq,b⟩ f (s',a,0) (j.below hb) hr ho hq).mono ?_;rintro e w' ⟨u,N',rfl,Q,hm,he⟩;obtain rfl:u= .nilIface:=by simpa[Cu]using he
  have R:=El (v:=v) (X:=X) hm;have r:=(d.below hb d.lt).keep R.keep L;exact⟨rfl,N',Q,(Mv.below (i.trans (hb.mono i.size))).trans R,⟨r.cell 0,r.cell 1,r.cell 2,r.cell 3,r.cell 4⟩,Q.obj.cell 0⟩
 have HO:Hid (∀W N',VoIn W v {c with N:=N'} X {V with s:=s'}->Mv (vF v c X) w (vF v {c with N:=N'} X) W->C 158 #[(x.2.p,0),.agg #[I y,I 1,I 2,I a]] W λe w'=>e= .returned (I 0)/\∃F,VoIn w' v {c with N:=N'} (Qo X x.1.id (x.1.tr.over ⟨y,1,2,a⟩) F) {V with s:=s',l:=(Qo X x.1.id (x.1.tr.over ⟨y,1,2,a⟩) F).map (·.1)}/\Mv (vF v c X) w (vF v {c with N:=N'} (Qo X x.1.id (x.1.tr.over ⟨y,1,2,a⟩) F)) w'):=λW N' hW hM=>by
  refine(Eh W x.2.F x.2.p x.1.tr ⟨y,1,2,a⟩ (hW.tre x k).1 t2 t3 h1 H).mono ?_;rintro e w' ⟨rfl,F,hF,hm⟩;have q:=VoIn.grown hW k hF hm K hc;have q2:=Cq (T:=x.1.tr.over ⟨y,1,2,a⟩) hW k hm;exact⟨rfl,F,q,hM.trans q2⟩
 have ac:Hid (∀W,C 69 #[I 0] W λx w'=>x= .returned .nilIface/\W=w'):=λW=>Jj 0 W;obtain⟨id,t⟩:=Zx x.1.id;obtain⟨T,hT⟩:=Zx (x.1.tr.over ⟨y,1,2,a⟩);rw[t]at M HA HO ⊢;rw[hT]at HO ⊢;obtain⟨⟨z0,z1,z2,z3,z4⟩,z5,z6,z7⟩:=M.o _ B0;have S:=Q7h (M.o _ B0.drew);have l2:=S.o.2.2.2;have ah:w.alloc (.cells #[I 1,I id,I y,I sq,.string b] 32)=w1:=by rw[<-t];exact m
 clear h k hf hr ho hq h1 H K hc i d j L t1 t2 t3 m t hT;go_in
 go_wp2_with fail
 go_region_held3 (λW=>W.cell? (w,0)=some (I 1)/\W.cell? (w,1)=some (I id)/\W.cell? (w,2)=some (I y)/\W.cell? (v,2)=some (.map (some c.tb))) (exact⟨S.o.1.1,S.o.1.2.1,S.o.1.2.2.1,S.o.2.2.1⟩) (fail)
 go_wp2_with fail
 refine(HF.o _ B0.drew).mono ?_;rintro e w2 ⟨rfl,Y⟩;have z:=Q7h ((B0.drew).trans Y);obtain⟨⟨y0,y1,y2,y3,y4⟩,y5,y6,_⟩:=M.o _ z.o;have HY:=Q7h (M.o _ z.o.drew);clear Y l2 z0 z1 z2 z3 z4 z5 z6 z7;go_wp2_with fail
 go_region_held3 (λW=>(W.cell? (w,0)=some (I 1)/\W.cell? (w,1)=some (I id)/\W.cell? (w,2)=some (I y)/\W.cell? (w,3)=some (I sq)/\W.cell? (w,4)=some (.string b))/\W.cell? (v,0)=some (c.q,0)) (first|exact⟨HY.o.1,HY.o.2.1⟩|exact HC.o) ((go_at_call 145;refine(HA.o _ z.o.drew).mono ?_;rintro e w3 ⟨rfl,N',Z,A,B⟩;have⟨ad,ae,HC⟩:=Q3 Z A B;obtain⟨⟨x0,x1,x2,x3,x4⟩,x5⟩:=B;clear Z A))
 go_wp2_with fail
 refine(HO.o _ N' ad.o ae.o).mono ?_;rintro e w4 ⟨rfl,F,aa,ab⟩;have⟨af,ag⟩:=Q2 aa ab;clear aa ab;go_wp2_with fail
 with_reducible refine(ac.o _).mono ?_
 rintro e w5 ⟨rfl,rfl⟩;go_wp2_with fail
 go_returns;exact⟨rfl,N',F,af.o,ag.o⟩
end vo
namespace vo
open Go.RowKit Go.Maps er st tr
theorem Qtm(w:World)(pv:Value)(id f n e:Int)(c:C 74 #[pv,I id,I f,I n,.bool true] w λx w'=>x= .returned (.iface 28 (I e))/\Below w w w'):
  C 30 #[pv,I id,I f,I n] w (Ib w ⟨#[116,114,105,109]⟩ id e):=by
 have d:=Q7h c;clear c;go_in
 go_wp2_with fail
 with_reducible refine d.o.mono ?_
 rintro x w1 ⟨rfl,a⟩;have b:=Q7h a;clear a;go_wp2_with fail
 with_reducible refine(C8 _ _ _ _ _ _).mono ?_
 rintro x w2 ⟨rfl,rfl⟩;go_wp2_with fail
 go_ret
 exact⟨_,rfl,Whole.new _ _ _,b.o.alloc b.o.size _⟩
theorem Q1x(w:World)(pv:Value)(id f n e:Int)(c:C 74 #[pv,I id,I f,I n,.bool true] w λx w'=>x= .returned (.iface 28 (I e))/\Below w w w'):
  C 83 #[pv,I id,I f,I n] w λx w'=>x= .returned (.iface 28 (I e))/\Below w w w':=by
 have d:=Q7h c;clear c;go_in
 go_wp2_with fail
 with_reducible refine d.o.mono ?_
 rintro x w1 ⟨rfl,a⟩;have b:=Q7h a;clear a;go_wp2_with fail
 go_ret
 exact⟨rfl,b.o⟩
theorem Qth(w:World)(pv:Value)(id f n e:Int)(c:C 74 #[pv,I id,I f,I n,.bool true] w λx w'=>x= .returned (.iface 28 (I e))/\Below w w w'):
  C 29 #[pv,I id,I f,I n] w (Ib w ⟨#[122,101,114,111]⟩ id e):=by
 have d:=Q7h (Q1x w pv id f n e c);clear c;go_in
 go_wp2_with fail
 with_reducible refine d.o.mono ?_
 rintro x w1 ⟨rfl,a⟩;have b:=Q7h a;clear a;go_wp2_with fail
 with_reducible refine(C8 _ _ _ _ _ _).mono ?_
 rintro x w2 ⟨rfl,rfl⟩;go_wp2_with fail
 go_ret
 exact⟨_,rfl,Whole.new _ _ _,b.o.alloc b.o.size _⟩
theorem Qyd(w:World)(v:Nat)(c:Pt)(X:XL)(V:Vo)(id n e:Int)(h:VoIn w v c X V)(d:e≠0)(f:C 79 #[(c.lb,0),I id,I n] w λx w'=>x= .returned (I e)/\Below w w w'):
  C 26 #[(v,0),I id,I n] w (Ib w ⟨#[114,101,115,105,122,101]⟩ id e):=by
 have g:=Cg v;have c1:=h.obj.cell 1;simp[Qe]at c1;have i:=Q7h f;have j:(e==0)=false:=by simpa using d
 have k:Hid (∀W,C 69 #[I e] W λx w'=>x= .returned (.iface 28 (I e))/\W=w'):=λW=>by
  have:=Jj e W;rw[show Ig e= .iface 28 (I e)from QqE d]at this;exact this
 clear h f d;go_in
 go_wp2_with fail
 with_reducible refine i.o.mono ?_
 rintro x w1 ⟨rfl,a⟩;have b:=Q7h a;clear a;go_wp2_with fail
 with_reducible refine(k.o _).mono ?_
 rintro x w2 ⟨rfl,rfl⟩;go_wp2_with fail
 with_reducible refine(C8 _ _ _ _ _ _).mono ?_
 rintro x w2 ⟨rfl,rfl⟩;go_wp2_with fail
 go_ret
 exact⟨_,rfl,Whole.new _ _ _,b.o.alloc b.o.size _⟩
theorem Qf5(w:World)(v:Nat)(c:Pt)(X:XL)(V:Vo)(id:Int)(h:VoIn w v c X V)(hi:I64 id)(d:Xx (key (Zq X)) id=none):
  C 27 #[(v,0),I id] w (Ib w ⟨#[100,101,108,101,116,101]⟩ id 4):=by
 have e:=Cg v;have c1:=h.obj.cell 1;simp[Qe]at c1;have f:=Q7h (Qsy w _ _ _ _ id h.led hi d);have g:Hid (∀W,C 69 #[I 4] W λx w'=>x= .returned (.iface 28 (I 4))/\W=w'):=λW=>Jj 4 W;clear h hi d;go_in
 go_wp2_with fail
 with_reducible refine f.o.mono ?_
 rintro x w1 ⟨rfl,a⟩;have b:=Q7h a;clear a;go_wp2_with fail
 with_reducible refine(g.o _).mono ?_
 rintro x w2 ⟨rfl,rfl⟩;go_wp2_with fail
 with_reducible refine(C8 _ _ _ _ _ _).mono ?_
 rintro x w2 ⟨rfl,rfl⟩;go_wp2_with fail
 go_ret
 exact⟨_,rfl,Whole.new _ _ _,b.o.alloc b.o.size _⟩
def Qtx(w:World)(u:Value)(op:ByteArray)(id e:Int)(x:Ending)(w':World):Prop:=∃b,x= .returned (.tuple #[u,.iface 183 (b,0)])/\Whole w' b 187 #[.string op,I id,.iface 28 (I e)]/\Below w w w'
theorem Qtn(w:World)(pv:Value)(id f n e:Int)(c:∀m,(m=true↔n<=8)->C 74 #[pv,I id,I f,I n,.bool m] w λx w'=>x= .returned (.iface 28 (I e))/\Below w w w'):
  C 24 #[pv,I id,I f,I n] w (Qtx w (.string ⟨#[]⟩) ⟨#[114,101,97,100]⟩ id e):=by
 have d:=Q7h c;clear c;go_in
 go_wp2_with fail
 refine(d.o _ U).mono ?_;rintro x w1 ⟨rfl,a⟩;have b:=Q7h a;clear a;go_wp2_with fail
 with_reducible refine(Dx _ _ _ _ _).mono ?_
 rintro x w2 ⟨rfl,rfl⟩;go_wp2_with fail
 go_returns;exact⟨_,rfl,Whole.new _ _ _,b.o.alloc b.o.size _⟩
end vo
namespace vo
open Go.RowKit Go.Maps er st tr nd pg
def Tf(id:Int)(pg:Pg):Page:=⟨I7 pg,id,Tc pg,0,Pf pg⟩
def Qkz(f:Nat)(id:Int)(s:Sto)(pg:Pg)(a:Int)(s':Sto):Prop:=Xv f s (Tf id pg)=some (s',a,0)
structure StAt(q p:Nat)(sv vv:Value)(v:Nat)(cs:Array Value)(b1 b2:Nat)(id:Int)(o:Option Obj)(N:Nat->Prop)(s:Sto)(w:World):Prop where
 sto:StoIn w q p sv vv N s
 laid:LaidT w
 obj:Whole w v 115 cs
 o1:Whole w b1 24 #[(v,0)]
 o2:Whole w b2 3 #[I id]
 n0:¬foot q sv vv N 0
 nv:¬foot q sv vv N v
 n1:¬foot q sv vv N b1
 n2:¬foot q sv vv N b2
 hz:w.heap[0]? =o
def StG(q:Nat)(sv vv:Value)(v b1 b2:Nat)(N:Nat->Prop):Nat->Prop:=λk=>foot q sv vv N k\/k=v\/k=b1\/k=b2\/k=0
def Q5d(q p:Nat)(sv vv:Value)(v:Nat)(cs:Array Value)(b1 b2:Nat)(id:Int)(o:Option Obj)(s:Sto)(G:Nat->Prop)(w:World):Prop:=∃N,G=StG q sv vv v b1 b2 N/\StAt q p sv vv v cs b1 b2 id o N s w
section
variable {q p:Nat} {sv vv:Value} {v:Nat} {cs:Array Value} {b1 b2:Nat} {id:Int} {o:Option Obj} {N:Nat→Prop} {s:Sto} {w:World}
theorem StAt.keep{Y:Nat->Prop}{w':World}(h:StAt q p sv vv v cs b1 b2 id o N s w)(a:Keep Y w w')(b:∀k,StG q sv vv v b1 b2 N k->¬Y k):StAt q p sv vv v cs b1 b2 id o N s w':=
 ⟨h.sto.keep a (λk c=>b k (.inl c)),a.cell h.laid (b 0 (.inr (.inr (.inr (.inr rfl))))),h.obj.keep a (b _ (.inr (.inl rfl))),h.o1.keep a (b _ (.inr (.inr (.inl rfl)))),h.o2.keep a (b _ (.inr (.inr (.inr (.inl rfl))))),h.n0,h.nv,h.n1,h.n2,(a.block 0 h.laid.lt (b 0 (.inr (.inr (.inr (.inr rfl)))))).trans h.hz⟩
theorem StAt.lt(h:StAt q p sv vv v cs b1 b2 id o N s w):∀k,StG q sv vv v b1 b2 N k->k<w.heap.size:=by
 rintro k (a|rfl|rfl|rfl|rfl)
 ·exact h.sto.lt k a
 ·exact h.obj.lt
 ·exact h.o1.lt
 ·exact h.o2.lt
 ·exact h.laid.lt
theorem Qcw{w':World}{N':Nat->Prop}(b:Moved w q sv vv N w' N'):∀k,foot q sv vv N' k->foot q sv vv N k\/w.heap.size<=k:=by
 rintro k (a|a|a|a)
 ·exact .inl (.inl a)
 ·exact .inl (.inr (.inl a))
 ·exact .inl (.inr (.inr (.inl a)))
 ·exact(b.sub k a).imp (λe=>.inr (.inr (.inr e))) id
theorem StAt.moved{w':World}{N':Nat->Prop}{s':Sto}(h:StAt q p sv vv v cs b1 b2 id o N s w)(d:StoIn w' q p sv vv N' s')(a:Moved w q sv vv N w' N'):StAt q p sv vv v cs b1 b2 id o N' s' w':=by
 have b:∀k,k<w.heap.size->¬foot q sv vv N k->¬foot q sv vv N' k:=λk f e c=>(Qcw a k c).elim e (λh=>O);exact⟨d,a.keep.cell h.laid h.n0,h.obj.keep a.keep h.nv,h.o1.keep a.keep h.n1,h.o2.keep a.keep h.n2,b _ h.laid.lt h.n0,b _ h.obj.lt h.nv,b _ h.o1.lt h.n1,b _ h.o2.lt h.n2,(a.keep.block 0 h.laid.lt h.n0).trans h.hz⟩
theorem Qt8{w':World}{N':Nat->Prop}(b:Moved w q sv vv N w' N'):Mv (StG q sv vv v b1 b2 N) w (StG q sv vv v b1 b2 N') w':=
 ⟨b.keep.mono (λk _ a=>.inl a),λk a=>a.elim (λa=>(Qcw b k a).imp .inl id) (λa=>.inl (.inr a))⟩
end
theorem Qhc(w:World)(q p:Nat)(sv vv:Value)(v:Nat)(cs:Array Value)(b1 b2:Nat)(id:Int)(o:Option Obj)(N:Nat->Prop)(s:Sto)(k key:Int)(b:ByteArray)(f:Nat)(r:Sto×Int×Int)(h:StAt q p sv vv v cs b1 b2 id o N s w)(c:cs[0]? =some (.pointer (some ⟨q,0,none⟩)))(F:Xv f s ⟨k,id,key,0,b⟩=some r)(R:s.n.ops+f<=1000000000000000000)(hq:s.seq<=281474976710655):
  C 205 #[I k,I key,.string b,.pointer (some ⟨b1,0,none⟩),.pointer (some ⟨b2,0,none⟩)] w λe w'=>∃u N',e= .returned (.tuple #[I r.2.1,u])/\StAt q p sv vv v cs b1 b2 id o N' r.1 w'/\Moved w q sv vv N w' N'/\Cu w' (foot q sv vv N') [(Tj,key)] r.2.2 u:=by
 have c0:=(h.obj.cell 0).trans c;have H:=h.o1.cell 0;have K:=h.o2.cell 0;simp at H K;have L:Hid (∀W,Below w.heap.size w W->C 145 #[.pointer (some ⟨q,0,none⟩),.agg #[I k,I id,I key,I 0,.string b]] W λe w'=>∃u,e= .returned (.tuple #[I r.2.1,u])/\(w'.cell? ⟨b1,0,none⟩=some (.pointer (some ⟨v,0,none⟩))/\w'.cell? ⟨v,0,none⟩=some (.pointer (some ⟨q,0,none⟩))/\w'.cell? ⟨b2,0,none⟩=some (I id))/\∃N',StAt q p sv vv v cs b1 b2 id o N' r.1 w'/\Moved w q sv vv N w' N'/\Cu w' (foot q sv vv N') [(Tj,key)] r.2.2 u):=by
  intro W hb;have l:=h.keep (Y:=λ_=>False) (Keep.below hb) (λ_ _ h=>h);refine(Qog W q p sv vv N s ⟨k,id,key,0,b⟩ f r l.sto l.laid l.n0 F R hq).mono ?_;rintro e w' ⟨u,N',rfl,S,M,T⟩;have a:=l.moved S M;have m:Moved w q sv vv N W N:=Moved.below hb;exact⟨u,rfl,⟨a.o1.cell 0,(a.obj.cell 0).trans c,a.o2.cell 0⟩,N',a,m.trans M,T⟩
 have Q:Hid (∀W,Below w.heap.size w W->W.cell? ⟨b1,0,none⟩=some (.pointer (some ⟨v,0,none⟩))/\W.cell? ⟨v,0,none⟩=some (.pointer (some ⟨q,0,none⟩))/\W.cell? ⟨b2,0,none⟩=some (I id)):=λW hb=>⟨Qq hb H,Qq hb c0,Qq hb K⟩;clear h F c;obtain⟨X,V,Z⟩:=r;simp only at L ⊢;go_enter Tryz.func205,Tryz.ntmps205
 go_wp2_with fail
 go_region_held3 (λw'=>w'.cell? ⟨b1,0,none⟩=some (.pointer (some ⟨v,0,none⟩))/\w'.cell? ⟨v,0,none⟩=some (.pointer (some ⟨q,0,none⟩))/\w'.cell? ⟨b2,0,none⟩=some (I id)) (first|with_reducible exact t.out|with_reducible exact Q.out _ (QqA _ _)|with_reducible exact Q.out _ (QqA _ _).drew) ((go_at_call 145;refine(L.out _ (QqA _ _).drew).mono ?_;rintro e A ⟨u,rfl,d,N',g,i,j⟩;have⟨t,x,y,z⟩:=Q4 d g i j;clear d g i j))
 go_wp2_with fail
 refine QqG (v:= .tuple #[I V,u]) (by simp[results,Tryz.results205,go_sem]) rfl ⟨u,N',rfl,x.out,y.out,z.out⟩
def Qou(f:Nat)(id:Int)(s:Sto)(pg:Pg):Prop:=∃s' a,Xv f s (Tf id pg)=some (s',a,0)/\s.n.ops+f<=1000000000000000000/\s.seq<=281474976710655
theorem Q38(q p:Nat)(sv vv:Value)(v:Nat)(cs:Array Value)(b1 b2:Nat)(id:Int)(o:Option Obj)(f:Nat)(b:cs[0]? =some (.pointer (some ⟨q,0,none⟩))):
  Snk 205 #[.pointer (some ⟨b1,0,none⟩),.pointer (some ⟨b2,0,none⟩)] (Qkz f id) (Qou f id) (Q5d q p sv vv v cs b1 b2 id o) where
 eg:=λ_ _=>J
 keep:=by
  rintro s G w Y w' ⟨N,rfl,h⟩ d g;exact⟨N,rfl,h.keep d g⟩
 lt:=by
  rintro s G w ⟨N,rfl,h⟩;exact h.lt
 put:=by
  rintro s G w pg ⟨s',a,c,i,hq⟩ ⟨N,rfl,hb⟩;refine(Qhc w q p sv vv v cs b1 b2 id o N s _ _ _ f _ hb b c i hq).mono ?_;rintro e w' ⟨u,N',rfl,h1,h2,⟨_,rfl⟩|⟨h3,_⟩⟩
  ·exact⟨a,s',_,rfl,c,⟨N',rfl,h1⟩,Qt8 h2⟩
  ·exact absurd rfl h3
def Qfp:Pg->Prop
 |.leaf l=>Chk l/\1<=l.length/\l.length<=8
 |.inner ks=>∃k l,ks=[k,l]/\K2 k l
theorem Qqn{id:Int}{pg:Pg}(a:Qfp pg)(d:0<=id)(h1:id<=65535):Jd {Tf id pg with seq:=0}=true:=by
 have key:0<=Tc pg/\Tc pg<=16777216:=by
  cases pg with
  |leaf l=>
   obtain⟨q1,b,_⟩:=a;cases l with
   |nil=>simp at b
   |cons e l=>
    have c:=Qg (q1.one e U);simp only[Tc,Sm];omega
  |inner ks=>
   obtain⟨k,l,rfl,⟨⟨c,_⟩,_⟩⟩:=a;simp only[Tc];omega
 have size:(Pf pg).size<=100/\1<=I7 pg/\I7 pg<=4:=by
  cases pg with
  |leaf l=>
   obtain⟨_,_,f⟩:=a;refine⟨?_,by show(1:Int)<=2;omega,by show(2:Int)<=4;omega⟩;show(Kc l).toArray.size<=100;unfold Kc;have:=Qy9 l;simp only[QjR,QzN];omega
  |inner ks=>
   obtain⟨k,l,rfl,_⟩:=a;refine⟨?_,by show(1:Int)<=3;omega,by show(3:Int)<=4;omega⟩;show(Jk [k,l]).toArray.size<=100;simp[Jk,Vh]
 show Jd ⟨I7 pg,id,Tc pg,0,Pf pg⟩=true;simp only[Jd,inB,QzC,QzD];obtain⟨a1,a2,a3⟩:=size;omega
end vo
namespace vo
open Go.RowKit Go.Maps er st tr nd pg
theorem Qjx(X:XL)(id:Int)(T T':Tree)(F F':List Nat):Qo (Qo X id T F) id T' F'=Qo X id T' F':=by
 unfold Qo;rw[QzR];refine QkF λy a=>?_;by_cases h:y.1.id=id<;>simp[h]
theorem Qqr{g:Sp×Bl->Sp×Bl}:∀{A:XL},(∀y∈A,g y=y)->A.map g=A
 |[],_=>rfl
 |a::A,h=>by rw[QzE,h a U,Qqr (λy b=>h y (by simp[b]))]
theorem Qoe{A B:XL}{x:Sp×Bl}{T:Tree}{F:List Nat}(d:(A++x::B).Pairwise λa b=>a.1.id<b.1.id):Qo (A++x::B) x.1.id T F=A++({x.1 with tr:=T},{x.2 with F:=F})::B:=by
 obtain⟨_,h2,h3⟩:=QkA.1 d;obtain⟨h4,_⟩:=QzS.1 h2;unfold Qo;rw[QqY,QzE,QqH rfl,Qqr (A:=A) (λy c=>QqE (by have:=h3 y c x U;omega)),Qqr (A:=B) (λy c=>QqE (by have:=h4 y c;omega))]
theorem Tv{X:XL}{x:Sp×Bl}(c:X.Pairwise λa b=>a.1.id<b.1.id)(d:x∈X):Qo X x.1.id x.1.tr x.2.F=X:=by
 unfold Qo;refine Qqr λy e=>?_;by_cases h:y.1.id=x.1.id
 ·obtain rfl:=Fa c e d h;simp
 ·rw[QqE h]
theorem Qvk{X:XL}{x:Sp×Bl}{T:Tree}(c:X.Pairwise λa b=>a.1.id<b.1.id)(d:x∈X):(Qo X x.1.id T x.2.F).map (·.2)=X.map (·.2):=by
 unfold Qo;rw[QzR];refine QkF λy e=>?_;by_cases h:y.1.id=x.1.id
 ·have:=Fa c e d h;subst this;simp
 ·simp[h]
theorem Qfd(X:XL):K6 X=(X.map (·.2)).flatMap λb=>b.a::b.F:=by unfold K6;rw[QjB]
theorem Qeb{v:Nat}{c:Pt}{X:XL}{x:Sp×Bl}{T:Tree}(d:X.Pairwise λa b=>a.1.id<b.1.id)(e:x∈X):Dl v c (Qo X x.1.id T x.2.F)=Dl v c X:=by
 unfold Dl;rw[Qfd,Qvk d e,<-Qfd]
section
variable {w:World} {v:Nat} {c:Pt} {X:XL} {V:Vo}
theorem VoIn.apart{x:Sp×Bl}(h:VoIn w v c X V)(p:x∈X):(∀y∈X,¬y.2.a∈x.2.F)/\(∀y∈X,y.1.id≠x.1.id->∀k∈y.2.F,¬k∈x.2.F)/\(∀k,(k=v\/k=c.lb\/k=c.mb\/k=c.tb\/k∈Xt c.lv)->¬k∈x.2.F):=by
 have r:=h.up;have g:=h.nd;have s:∀k∈x.2.F,k∈K6 X:=λk f=>QqX.2 ⟨x,p,by simp[f]⟩;unfold Dl at g;simp only[QqP,QqF,QqJ,QuE]at g;obtain⟨⟨n1,n2,Y,Z,M⟩,⟨n6,n7,A,N⟩,⟨Q,R,t⟩,⟨S,u⟩,z⟩:=g;obtain⟨B,L,T⟩:=QzP.1 z;unfold K6 at L;obtain⟨p1,p2⟩:=QgU.1 L;refine⟨?_,?_,?_⟩
 ·intro y l f;by_cases q:y.1.id=x.1.id
  ·obtain rfl:=Fa r l p q;exact(QqP.1 (p1 y l)).1 f
  ·obtain⟨i,hi,b⟩:=QxC p;obtain⟨j,m,d⟩:=QxC l;have n:=QkZ.1 p2;have H:i≠j:=λe=>by subst e;exact q (by rw[<-b,<-d])
   rcases QyH i j with K|W
   ·have:=n i j hi m K;rw[b,d]at this;exact this y.2.a (by simp[f]) y.2.a U rfl
   ·have:=n j i m hi O;rw[b,d]at this;exact this y.2.a U y.2.a (by simp[f]) rfl
 ·intro y l q k f o;obtain⟨i,hi,b⟩:=QxC p;obtain⟨j,m,d⟩:=QxC l;have n:=QkZ.1 p2;have H:i≠j:=λe=>by subst e;exact q (by rw[<-b,<-d])
  rcases QyH i j with K|W
  ·have:=n i j hi m K;rw[b,d]at this;exact this k (by simp[o]) k (by simp[f]) rfl
  ·have:=n j i m hi O;rw[b,d]at this;exact this k (by simp[f]) k (by simp[o]) rfl
 ·intro k f e;have hb:=s k e;rcases f with rfl|rfl|rfl|rfl|f
  ·exact M hb
  ·exact N hb
  ·exact t hb
  ·exact u hb
  ·exact T _ f _ hb rfl
theorem VoIn.vne(h:VoIn w v c X V):∀k∈c.lb::c.mb::c.tb::(Xt c.lv++K6 X),k≠v:=λk a e=>(QqP.1 h.nd).1 (e▸a)
theorem VoIn.written{w':World}{x:Sp×Bl}{T:Tree}{N' G:Nat->Prop}{s':Sto}(h:VoIn w v c X V)(H:x∈X)(W:TrAt w' x.2.F x.2.p T)(L:T.Ok)(Y:Chk T.flat)(Z:StoIn w' c.q c.p c.sv c.vv N' s')(A:Whole w' v 115 (Qe c V))(B:LaidT w')(b:Keep G w w')(hG:∀k,k∈Dl v c X->G k->k∈x.2.F\/k=v)(hN:∀k,N' k->stF c k\/w.heap.size<=k):
  VoIn w' v {c with N:=N'} (Qo X x.1.id T x.2.F) {V with s:=s',l:=(Qo X x.1.id T x.2.F).map (·.1)}:=by
 obtain⟨a1,a2,a3⟩:=h.apart H;have m:=h.vne;have M:=h.lt;have n:=h.up;have i:=h.far;have Q:∀k,k∈Dl v c X->¬k∈x.2.F->k≠v->¬G k:=λk h1 h2 h3 h4=>(hG k h1 h4).elim h2 h3;have r:∀k,k<w.heap.size->¬stF c k->¬stF {c with N:=N'} k:=λk b K R=>by
  rcases R with e|e|e|e
  ·exact K (.inl e)
  ·exact K (.inr (.inl e))
  ·exact K (.inr (.inr (.inl e)))
  ·rcases hN k e with e|e
   ·exact K e
   ·omega
 have d:∀k,(k=c.lb\/k=c.mb\/k=c.tb\/k∈Xt c.lv)->¬G k:=λk b=>by
  have j:k∈c.lb::c.mb::c.tb::(Xt c.lv++K6 X):=by
   simp only[QqF,QqJ];rcases b with b|b|b|b
   ·exact .inl b
   ·exact .inr (.inl b)
   ·exact .inr (.inr (.inl b))
   ·exact .inr (.inr (.inr (.inl b)))
  exact Q k (QzA _ j) (a3 k (.inr b)) (m k j)
 have t:∀y∈X,¬G y.2.a:=λy f=>by
  have j:y.2.a∈c.lb::c.mb::c.tb::(Xt c.lv++K6 X):=by
   simp only[QqF,QqJ];exact .inr (.inr (.inr (.inr (QqX.2 ⟨y,f,U⟩))))
  exact Q _ (QzA _ j) (a1 y f) (m _ j)
 have S:∀y∈X,y.1.id≠x.1.id->∀k∈y.2.F,¬G k:=λy f u k b=>by
  have j:k∈c.lb::c.mb::c.tb::(Xt c.lv++K6 X):=by
   simp only[QqF,QqJ];exact .inr (.inr (.inr (.inr (QqX.2 ⟨y,f,by simp[b]⟩))))
  exact Q _ (QzA _ j) (a2 y f u k b) (m _ j)
 refine⟨A,Z,?_,?_,λz hz=>?_,Qa h.lst b (λg hg=>d g (.inr (.inr (.inr (Uy.2 hg))))),rfl,?_,λk b=>?_,r 0 h.laid.lt h.zero,B⟩
 ·rw[Qaw];refine h.led.keep b (λk b=>?_);rcases b with rfl|rfl|⟨y,f,rfl⟩
  ·exact d _ (.inl rfl)
  ·exact d _ (.inr (.inl rfl))
  ·obtain⟨z,hz,rfl⟩:=QqS.1 f;exact t z hz
 ·rw[Lt];exact h.trs.keep b (d _ (.inr (.inr (.inl rfl))))
 ·obtain⟨y,f,⟨u,rfl⟩|⟨u,rfl⟩⟩:=Fv hz
  ·obtain rfl:=Fa n f H u;exact⟨W,L,Y⟩
  ·exact⟨TrAt.keep (h.tre z f).1 b (S z f u),(h.tre z f).2⟩
 ·show(Dl v c (Qo X x.1.id T x.2.F)).Nodup;rw[Qeb n H];exact h.nd
 ·have o:k∈Dl v c X:=by
   rw[<-Qeb (T:=T) n H];exact b
  exact⟨r k (M k (.inr o)) (i k o).1,(i k o).2⟩
end
def Wrt(f:Nat)(id:Int)(T:Tree)(s:Sto)(T':Tree)(s':Sto):Prop:=WrTo (Qkz f id) T.ats.length T s T' s'
end vo
namespace vo
open Go.RowKit Go.Maps er st tr nd pg
abbrev vZ(v:Nat)(c:Pt)(X:XL):Nat->Prop:=vF v c X
def Q32(f:Nat)(w:World)(v:Nat)(c:Pt)(X:XL)(V:Vo)(x:Sp×Bl)(b1 b2:Nat)(e:Ending)(w':World):Prop:=
 ∃T s' N',VoIn w' v {c with N:=N'} (Qo X x.1.id T x.2.F) {V with s:=s',l:=(Qo X x.1.id T x.2.F).map (·.1)}/\Mv (λk=>vZ v c X k\/k=b1\/k=b2) w (vF v {c with N:=N'} (Qo X x.1.id T x.2.F)) w'/\
 e= .returned (.tuple #[I (Qxi T),.nilIface])/\Wrt f x.1.id x.1.tr V.s T s'
theorem Qsu{F:Nat->Prop}{w w':World}(a:Keep (λk=>F k\/k=0) w w')(hz:w'.heap[0]? =w.heap[0]?):Keep F w w':=⟨a.os,a.tape,a.output,a.size,λk b c=>by
 by_cases h:k=0
 ·subst h;exact hz
 ·exact a.block k b (λe=>e.elim c h)⟩
theorem Q5o{w w':World}{v:Nat}{c:Pt}{X:XL}{x:Sp×Bl}{T:Tree}{b1 b2:Nat}{N':Nat->Prop}(f:X.Pairwise λa b=>a.1.id<b.1.id)(g:x∈X)(d:Keep (λk=>k∈x.2.F\/StG c.q c.sv c.vv v b1 b2 c.N k) w w')(hz:w'.heap[0]? =w.heap[0]?)(i:∀k,StG c.q c.sv c.vv v b1 b2 N' k->StG c.q c.sv c.vv v b1 b2 c.N k\/w.heap.size<=k)(j:∀k,stF {c with N:=N'} k->k≠v/\k≠b1/\k≠b2/\k≠0):
  Mv (λk=>vZ v c X k\/k=b1\/k=b2) w (vF v {c with N:=N'} (Qo X x.1.id T x.2.F)) w':=by
 refine⟨Qsu (d.mono (λk _ h=>?_)) hz,λk d=>?_⟩
 ·rcases h with h|h|rfl|rfl|rfl|rfl
  ·exact .inl (.inl (.inr (Lj g h)))
  ·exact .inl (.inl (.inl h))
  ·exact .inl (.inl (.inr (by simp[Dl])))
  ·exact .inl (.inr (.inl rfl))
  ·exact .inl (.inr (.inr rfl))
  ·exact .inr rfl
 ·rcases d with d|d
  ·obtain⟨l,m,n,o⟩:=j k d;rcases i k (.inl d)with(h|h|h|h|h)|h
   ·exact .inl (.inl (.inl h))
   ·exact absurd h l
   ·exact absurd h m
   ·exact absurd h n
   ·exact absurd h o
   ·exact .inr h
  ·refine .inl (.inl (.inr ?_));have e:=d;rw[Qeb f g]at e;exact e
theorem Qte(w:World)(v:Nat)(c:Pt)(X:XL)(V:Vo)(x:Sp×Bl)(b1 b2 f:Nat)(h:VoIn w v c X V)(i:x∈X)(h1:Whole w b1 24 #[.pointer (some ⟨v,0,none⟩)])(h2:Whole w b2 3 #[I x.1.id])(n1:¬vF v c X b1)(n2:¬vF v c X b2)(j:Q9x (Qkz f x.1.id) (Qou f x.1.id) x.1.tr V.s):
  C 141 #[.pointer (some ⟨x.2.p,0,none⟩),.func (.func 205) #[] #[.pointer (some ⟨b1,0,none⟩),.pointer (some ⟨b2,0,none⟩)]] w (Q32 f w v c X V x b1 b2):=by
 obtain⟨t1,t2,u⟩:=h.tre x i;have m:=h.up;have n:(Qe c V)[0]? =some (.pointer (some ⟨c.q,0,none⟩)):=rfl;have b:∀k∈Dl v c X,¬stF c k/\k≠0:=h.far;have o:StAt c.q c.p c.sv c.vv v (Qe c V) b1 b2 x.1.id (w.heap[0]?) c.N V.s w:=⟨h.sto,h.laid,h.obj,h1,h2,h.zero,(b v (by simp[Dl])).1,λe=>n1 (.inl e),λe=>n2 (.inl e),rfl⟩;have H:∀k∈x.2.F,¬StG c.q c.sv c.vv v b1 b2 c.N k:=by
  intro k a d;have g:k∈Dl v c X:=Lj i a;rcases d with d|rfl|rfl|rfl|rfl
  ·exact(b k g).1 d
  ·exact(h.apart i).2.2 k (.inl rfl) a
  ·exact n1 (.inr g)
  ·exact n2 (.inr g)
  ·exact(b _ g).2 rfl
 have K:∀k,k∈Dl v c X->(k∈x.2.F\/StG c.q c.sv c.vv v b1 b2 c.N k)->k∈x.2.F\/k=v:=by
  intro k a d;rcases d with d|d|rfl|rfl|rfl|rfl
  ·exact .inl d
  ·exact absurd d (b k a).1
  ·exact .inr rfl
  ·exact absurd (.inr a) n1
  ·exact absurd (.inr a) n2
  ·exact absurd rfl (b _ a).2
 refine(Qob w x.2.F x.2.p x.1.tr (StG c.q c.sv c.vv v b1 b2 c.N) V.s (Q38 c.q c.p c.sv c.vv v (Qe c V) b1 b2 x.1.id (w.heap[0]?) f n) j t1 t2 u ⟨c.N,rfl,o⟩ H).mono ?_;rintro e w' ⟨T,s',_,rfl,y,L,⟨N',rfl,ha⟩,z,a⟩;obtain⟨r,t,_⟩:=y.same;have l:∀k,stF {c with N:=N'} k->k≠v/\k≠b1/\k≠b2/\k≠0:=λk a=>⟨λe=>ha.nv (e▸a),λe=>ha.n1 (e▸a),λe=>ha.n2 (e▸a),λe=>ha.n0 (e▸a)⟩;refine⟨T,s',N',h.written i L (t.2 t2) (by rw[r];exact u) ha.sto ha.obj ha.laid a K (λk a=>?_),Q5o m i a ha.hz z l,rfl,y⟩;obtain⟨r,t,M,Q⟩:=l k (.inr (.inr (.inr a)));rcases z k (.inl (.inr (.inr (.inr a))))with(h|h|h|h|h)|h
 ·exact .inl h
 ·exact absurd h r
 ·exact absurd h t
 ·exact absurd h M
 ·exact absurd h Q
 ·exact .inr h
def Fs(f:Nat):XL->Sto->XL->Sto->Prop
 |[],s,Y,s'=>Y=[]/\s'=s
 |x::X,s,Y,s'=>∃T s1 Y',Y=({x.1 with tr:=T},x.2)::Y'/\Wrt f x.1.id x.1.tr s T s1/\Fs f X s1 Y' s'
theorem Qz3{f:Nat}:∀{A:XL} {s s1 s2:Sto} {Y:XL} {x:Sp×Bl} {T:Tree},Fs f A s Y s1->Wrt f x.1.id x.1.tr s1 T s2->Fs f (A++[x]) s (Y++[({x.1 with tr:=T},x.2)]) s2
 |[],s,s1,s2,Y,x,T,h,h2=>by
  obtain⟨rfl,rfl⟩:=h;exact⟨T,s2,[],rfl,h2,rfl,rfl⟩
 |a::A,s,s1,s2,Y,x,T,⟨T',u,Y',h1,h3,h4⟩,h2=>by
  subst h1;exact⟨T',u,_,rfl,h3,Qz3 h4 h2⟩
end vo
namespace vo
open Go.RowKit Go.Maps er st tr pg
theorem Qh7(w:World)(rv:Value)(l:List Int)(x:Int)(h:w.ownsRow 0 3 1 rv l.length (ints l))(f:l.length<=100000):C 226 #[rv,I x] w λe w'=>(∃i:Int,e= .returned (I i))/\Below w.heap.size w w':=by
 obtain⟨A,c,rfl⟩:=Qk h;obtain⟨n,b⟩:∃n,l.length=n:=⟨_,rfl⟩;rw[b]at h ⊢;have k:Hid (∀(j:Nat) (y:Int),l[j]? =some y->∃g,A=some ⟨g,0,none⟩/\w.cell? ⟨g,j,none⟩=some (I y)):=λj y a=>by
  have q:=(QqD.1 a).1;obtain⟨g,rfl,_,_,_,d,_⟩:=Qx h O;exact⟨g,rfl,d j _ (st.ints_at l j y a)⟩
 have m:=Q7h b;have o:(n:Int)<=100000:=O;clear h b f;go_enter Tryz.func226,Tryz.ntmps226
 go_wp2_with fail
 go_loopw [5,8] (λ_ iv wr=>(∃i:Nat,i<=n/\iv= I (i:Int))/\wr=w) (λ_ iv _=>n-(intOf iv).toNat)
 case atStart=>exact⟨⟨0,QqM _,rfl⟩,rfl⟩
 case round=>
  obtain⟨⟨i,hi,rfl⟩,rfl⟩:=hrel;by_cases p:i<n
  ·obtain⟨y,a⟩:∃y,l[i]? =some y:=⟨_,QqC (by have:=m.out;omega)⟩;obtain⟨g,rfl,d⟩:=k.out i y a;have h1:(i:Int)<n:=O;clear a;go_wp2_with fail
   ·go_ret
    exact⟨⟨_,rfl⟩,QqA _ _⟩
   ·exact⟨⟨⟨i+1,O,by rw[QuZ]⟩,trivial⟩,by simp only[intOf];omega⟩
  ·have h1:¬(i:Int)<n:=O;go_wp2_with fail
   go_ret
   exact⟨⟨_,rfl⟩,QqA _ _⟩
theorem Qoa(w:World)(rv:Value)(l:List Int)(x:Int)(h:w.ownsRow 0 3 1 rv l.length (ints l))(a:l.length<=100000):C 161 #[rv,I x] w λe w'=>(∃t:Bool,e= .returned (.bool t))/\Below w w w':=by
 have b:=Q7h (Qh7 w rv l x h a);obtain⟨A,c,rfl⟩:=Qk h;clear h a;go_in
 go_wp2_with fail
 refine b.o.mono ?_;rintro e w1 ⟨⟨i,rfl⟩,hb⟩;have d:=Q7h hb;clear hb;go_wp2_with fail
 go_ret
 exact⟨⟨_,rfl⟩,d.o⟩
theorem Qru(w:World)(s:Int)(a:Value):C 208 #[.pointer none,I s,a] w λe w'=>e= .returned (.tuple #[])/\w=w':=by
 go_in
 go_wp2_with fail
 go_end0
 exact⟨rfl,rfl⟩
theorem Qro(w:World)(s:Int):C 146 #[.pointer none,I s] w λe w'=>e= .returned (.tuple #[I 0,I 0])/\Below w w w':=by
 obtain⟨b,a⟩:=Zx (((w.alloc (.cells #[I s] 3)).alloc (.cells #[I 0] 3)).alloc (.cells #[I 0] 3));have hb:Below w w b:=by rw[<-a];exact((B0.alloc N0 _).alloc U _).alloc (by simp;omega) _
 have b1:Whole b w.heap.size 3 #[I s]:=by rw[<-a];exact((Whole.new w _ _).alloc _).alloc _
 have b2:Whole b (w.heap.size+1) 3 #[I 0]:=by rw[<-a];exact(Whole.new' _ _ _ _ U).alloc _
 have b3:Whole b (w.heap.size+1+1) 3 #[I 0]:=by rw[<-a];exact Whole.new' _ _ _ _ U
 have c0:=b1.cell 0;have k:=b2.cell 0;have l:=b2.fz 0;have m:=b3.cell 0;have n:=b3.fz 0;have⟨c,d,f⟩:=Q3 hb b2 b3;clear hb b1 b2 b3;go_in
 go_wp2_with fail
 with_reducible refine(Qru _ _ _).mono ?_
 rintro e q ⟨rfl,rfl⟩;go_wp2_with fail
 go_region
 go_wp2_with fail
 have g:=(d.o.set 0 (I 0)).far (p:=(w.heap.size+1+1,0)) U (I 0);have h:=(f.o.far (p:=(w.heap.size+1,0)) U (I 0)).set 0 (I 0);have i:=(Un g).cell 0;have j:=(Un h).cell 0;refine QqG (v:= .tuple #[I 0,I 0]) (by simp[results,Tryz.results146,go_sem,i,j]) rfl ⟨rfl,?_⟩;exact QqZ (QxY (QxY c.o E _) E _)
theorem Qf8(w:World)(s:Int):C 160 #[.pointer none,I s] w λe w'=>e= .returned (.bool false)/\w=w':=by
 go_in
 go_wp2_with fail
 go_ret
 exact⟨rfl,rfl⟩
def Qfv(f:Nat)(X:XL)(V:Vo)(page:Int)(t:Bool)(X':XL)(V':Vo):Prop:=
 (X'=X/\V'=V)\/
 (t=true/\∃x∈X,∃F,X'=Qo X x.1.id (x.1.tr.mv page).1 F/\V'=V.re X')\/
 (t=true/\∃x∈X,∃(F:List Nat) (y sq:Int) (b:ByteArray) (a:Int) (s':Sto),Qj V.s.n page=(⟨1,x.1.id,y,sq,b⟩,0)/\Zb x.1.tr.flat y=(2,page)/\Xv f V.s ⟨1,x.1.id,y,sq,b⟩=some (s',a,0)/\X'=Qo X x.1.id (x.1.tr.over ⟨y,1,2,a⟩) F/\V'={V with s:=s',l:=X'.map (·.1)})
def Qyj(f:Nat)(w:World)(v:Nat)(c:Pt)(X:XL)(V:Vo)(page:Int)(e:Ending)(w':World):Prop:=∃(t:Bool) (c':Pt) (X':XL) (V':Vo),e= .returned (.tuple #[.bool t,.nilIface])/\c'.p=c.p/\c'.q=c.q/\VoIn w' v c' X' V'/\Mv (vF v c X) w (vF v c' X') w'/\Qfv f X V page t X' V'
theorem Qvw{n:nd.Nand}{a:Int}{p:Page}(h:Qj n a=(p,0)):I64 p.key/\I64 p.space:=by
 have:=Xy (R3 (n:=n) (a:=a) (by rw[h]));rw[h]at this;unfold I64;simp only at this;omega
theorem Q1i{X:XL}{id:Int}(h:∀x∈X,x.1.id≠id):Xx (Z7 X) id=none:=by
 unfold Xx;rw[QuN.2 λy a=>?_]
 ·rfl
 ·obtain⟨x,b,rfl⟩:=QqS.1 a;simpa using h x b
theorem Qwk(W:World)(v:Nat)(c:Pt)(X:XL)(V:Vo)(x:Sp×Bl)(a:Int)(h:VoIn W v c X V)(d:x∈X):C 160 #[(x.2.p,0),I a] W λe w'=>e= .returned (.bool (x.1.tr.mv a).2)/\((x.1.tr.mv a).2=true->VoIn w' v c (Qo X x.1.id (x.1.tr.mv a).1 x.2.F) (V.re (Qo X x.1.id (x.1.tr.mv a).1 x.2.F))/\Mv (vF v c X) W (vF v c (Qo X x.1.id (x.1.tr.mv a).1 x.2.F)) w')/\((x.1.tr.mv a).2=false->Below W W w'):=by
 obtain⟨t1,t2,i⟩:=h.tre x d;refine(Qf9 W x.2.F x.2.p x.1.tr a t1).mono ?_;rintro e w' ⟨rfl,j,f,hb⟩;refine⟨rfl,λ_=>?_,hb⟩;have g:Mv (λk=>k∈x.2.F) W (λk=>k∈x.2.F) w':=⟨f,λk f=>.inl f⟩;have b:=Qdc x.1.tr a;have q:=VoIn.grown h d j g (b.1 t2) (by rw[b.2.1];exact i);exact⟨q,Cq h d g⟩
theorem Qf7{f:Nat}{X d:XL}{V e:Vo}{c:Int}{t:Bool}(h:Qfv f X V c t d e):Z7 d=Z7 X:=by
 rcases h with⟨rfl,_⟩|⟨_,x,_,F,rfl,_⟩|⟨_,x,_,F,y,sq,b,a,s',_,_,_,rfl,_⟩
 ·rfl
 ·exact Lt ..
 ·exact Lt ..
theorem Qwj(f:Nat)(w:World)(v:Nat)(c:Pt)(X:XL)(V:Vo)(d:Int)(h:VoIn w v c X V)(ht:(V.s.n.read d).2.size<=70368744177664)(aM:V.last.length<=100000)(ho:V.s.n.ops+f<=1000000000000000000)(hq:V.s.seq<=281474976710655)
  (aa:∀x∈X,∀(y sq:Int) (b:ByteArray),Qj V.s.n d=(⟨1,x.1.id,y,sq,b⟩,0)->Zb x.1.tr.flat y=(2,d)->∃a s',Xv f V.s ⟨1,x.1.id,y,sq,b⟩=some (s',a,0)/\Qb ⟨y,1,2,a⟩=true/\(Gw x.1.tr.flat ⟨y,1,2,a⟩).length<=10/\(x.1.tr.over ⟨y,1,2,a⟩).Ok/\Chk (x.1.tr.over ⟨y,1,2,a⟩).flat):
  C 84 #[.pointer (some ⟨v,0,none⟩),I d] w (Qyj f w v c X V d):=by
 have c0:=h.obj.cell 0;simp[Qe]at c0;have S:=Q7h (Lp w c.q c.p c.sv c.vv c.N V.s d h.sto h.laid ht);obtain⟨⟨k,sp,y,sq,b⟩,ab⟩:∃p,(Qj V.s.n d).1=p:=⟨_,rfl⟩;obtain⟨e0,ac⟩:∃e,(Qj V.s.n d).2=e:=⟨_,rfl⟩;rw[ab,ac]at S;have ar:Qj V.s.n d=(⟨k,sp,y,sq,b⟩,e0):=Prod.ext ab ac;have⟨ad,H⟩:=Q2 ar h;have aN:Hid (Page.val ⟨k,sp,y,sq,b⟩= .agg #[I k,I sp,I y,I sq,.string b]):=rfl;rw[aN.out]at S;clear h ab ac ar;go_enter Tryz.func84,Tryz.ntmps84
 go_wp2_with fail
 refine S.out.mono ?_;rintro e w1 ⟨u,rfl,ae,hu⟩;have m:=Q7h ae;by_cases he:e0=0
 ·subst he;obtain rfl:u= .nilIface:=Gc hu;clear ae hu;go_wp2_with fail
  have j:=m.out.alloc m.out.size (.cells #[I k,I sp,I y,I sq,.string b] 32);have af:=Whole.new w1 32 #[I k,I sp,I y,I sq,.string b];obtain⟨w2,au⟩:∃w2,w1.alloc (.cells #[I k,I sp,I y,I sq,.string b] 32)=w2:=⟨_,rfl⟩;rw[au]at j af ⊢;have hi:=Qvw ad.out;have⟨ag,av,o⟩:=Q3 j af (H.out.below j);have aQ:Hid (¬vF v c X w1.heap.size):=λhk=>by have h1:=H.out.lt _ hk;have h2:=m.out.size;omega
  clear j af au m S;by_cases hy:∃x∈X,x.1.id=sp/\k=1/\Zb x.1.tr.flat y=(2,d)
  ·obtain⟨x,M,rfl,rfl,hf⟩:=hy;obtain⟨a,s',ha,h1,aw,h2,h3⟩:=aa x M y sq b ad.out hf;refine(Qfu w2 v c X V x y sq b d a f s' o.out M hi.1 hf ha ho hq h1 aw h2 h3).mono ?_;rintro e Q ⟨rfl,N',F,ax,ay⟩;have HG:Hid (Qyj f w v c X V d (.returned (.tuple #[.bool true,.nilIface])) Q):=⟨true,{c with N:=N'},_,_,rfl,rfl,rfl,ax,(Mv.below ag.out).trans ay,.inr (.inr ⟨rfl,x,M,F,y,sq,b,a,s',ad.out,hf,ha,rfl,rfl⟩)⟩;clear ax ay aa ht ho hq h1 aw h2 h3 ha hf M;go_wp2_with fail
   exact QqG (v:= .tuple #[.bool true,.nilIface]) (by simp[results,Tryz.results84,go_sem]) rfl HG.out
  ·have aR:∃(p:Option Addr) (K A:Int),(∀W,MapAt W c.tb (Z7 X)->(Instr.lookup 113 (.map (some c.tb)) (I sp) false).run Tryz.prog W= .ok (.pointer p) W)/\(∀W,VoIn W v c X V->C 146 #[.pointer p,I y] W λe w'=>e= .returned (.tuple #[I K,I A])/\Below W.heap.size W w')/\¬(k=1/\K=2/\A=d)/\∀W,VoIn W v c X V->C 160 #[.pointer p,I d] W λe w'=>(e= .returned (.bool false)/\Below W.heap.size W w')\/(e= .returned (.bool true)/\∃B,VoIn w' v c B (V.re B)/\Mv (vF v c X) W (vF v c B) w'/\Qfv f X V d true B (V.re B)):=by
    by_cases hm:∃x∈X,x.1.id=sp
    ·obtain⟨x,M,rfl⟩:=hm;refine⟨_,(Zb x.1.tr.flat y).1,(Zb x.1.tr.flat y).2,λW T=>(T.look Tryz.underlying113 Qtu hi.2 (o.out.find M)).1,λW T=>?_,λhn=>hy ⟨x,M,rfl,hn.1,Prod.ext hn.2.1 hn.2.2⟩,λW T=>?_⟩
     ·obtain⟨t1,t2,t3⟩:=T.tre x M;exact Rp W x.2.F x.2.p x.1.tr y t1 t2 t3 hi.1.1 hi.1.2
     ·refine(Qwk W v c X V x d T M).mono ?_;rintro e w' ⟨rfl,h1,h2⟩;cases ht:(x.1.tr.mv d).2 with
      |false=>exact .inl ⟨rfl,h2 ht⟩
      |true=>exact .inr ⟨rfl,_,(h1 ht).1,(h1 ht).2,.inr (.inl ⟨rfl,x,M,x.2.F,rfl,rfl⟩)⟩
    ·refine⟨none,0,0,λW T=>?_,λW T=>Qro W y,λhn=>absurd hn.2.1 D,λW T=>?_⟩
     ·exact(T.look0 Tryz.underlying113 Qtu hi.2 (Q1i λx M e=>hm ⟨x,M,e⟩)).1
     ·refine(Qf8 W d).mono ?_;rintro e w' ⟨rfl,rfl⟩;exact .inl ⟨rfl,QqA _ _⟩
   obtain⟨p,K,A,ah,hF,az,aF⟩:=aR;clear hy aa;have⟨aS,ai⟩:=Q2 ah aF;refine(Qpi w2 v c X V k sp y sq b d (.pointer p) K A o.out ⟨p,rfl⟩ (λW hb=>ah W (o.out.below hb).trs) (λW hb=>hF W (o.out.below hb)) az).mono ?_;rintro e Q ⟨rfl,Y⟩;have aT:=Q7h (o.out.below Y);have aj:Hid (Below w.heap.size w Q):=ag.out.trans (Y.mono ag.out.size);have aH:=av.out.below Y av.out.lt;have aK:Q.cell? ⟨w1.heap.size,1,none⟩=some (I sp):=aH.cell 1;have r:=Q7h (aT.out.below (QqA _ _).drew);have HS:Hid (MapAt Q.drew c.tb (Z7 X)/\Q.drew.cell? ⟨w1.heap.size,1,none⟩=some (I sp)/\Q.drew.cell? ⟨v,2,none⟩=some (.map (some c.tb))/\Q.drew.cell? ⟨v,4,none⟩=some (I V.root)/\Q.drew.cell? ⟨v,5,none⟩=some c.lv):=⟨r.out.trs,aH.cell 1,r.out.obj.cell 2,r.out.obj.cell 4,r.out.obj.cell 5⟩;obtain⟨ro,ak⟩:∃ro,V.root=ro:=⟨_,rfl⟩;rw[ak]at HS;have al:=Q7h ak;clear Y ah hF az aF ak;go_wp2_with fail
   refine rg.rgB (λW=>MapAt W c.tb (Z7 X)/\W.cell? ⟨w1.heap.size,1,none⟩=some (I sp)/\W.cell? ⟨v,2,none⟩=some (.map (some c.tb))/\W.cell? ⟨v,4,none⟩=some (I ro)/\W.cell? ⟨v,5,none⟩=some c.lv) HS.out (λi=>?_);iterate 8 (refine rg.rgT ?_ ?_ ?_;rotate_left;(focus(intro wz g;(try dsimp only at g);obtain⟨q0,q1,q2,q3,q4⟩:=g;have q5:=aS.out _ q0;go_simp;(try with_reducible rfl)));(try simp only[Go.Act.put,rg.qa,rg.qb,rg.qc]))
   refine rg.rgC (λJ hJ=>?_);rw[QqH (by rfl)];go_simp
   refine(ai.out _ r.out).mono ?_;rintro e w4 (⟨rfl,am⟩|⟨rfl,B,L,an,ao⟩)
   ·have l:=Q7h (r.out.below am);have ap:Below Q.heap.size Q w4:=((QqA _ _).drew).trans am;have aq:Hid (Below w.heap.size w w4):=aj.out.trans (ap.mono aj.out.size);refine hJ.out _ _ ⟨l.out.trs,Qq ap aK,l.out.obj.cell 2,al.out▸l.out.obj.cell 4,l.out.obj.cell 5⟩ (λi=>?_);clear hJ J am ap ai;have aV:=Qoa w4 c.lv V.last d l.out.lst aM;by_cases aL:d=ro
    ·subst aL;iterate 9 (refine rg.rgT ?_ ?_ ?_;rotate_left;(focus(intro wz g;(try dsimp only at g);obtain⟨q0,q1,q2,q3,q4⟩:=g;go_simp;(try with_reducible rfl)));(try simp only[Go.Act.put,rg.qa,rg.qb,rg.qc]))
     iterate 6 (refine rg.rgS ?_;(try simp only[Go.Act.put,rg.qa,rg.qb,rg.qc]))
     iterate 3 (refine rg.rgT ?_ ?_ ?_;rotate_left;(focus(intro wz g;(try dsimp only at g);obtain⟨q0,q1,q2,q3,q4⟩:=g;go_simp;(try with_reducible rfl)));(try simp only[Go.Act.put,rg.qa,rg.qb,rg.qc]))
     refine rg.rgD ?_;go_wp2_with fail
     refine QqG (v:= .tuple #[.bool true,.nilIface]) (by simp[results,Tryz.results84,go_sem]) rfl ⟨true,c,X,V,rfl,rfl,rfl,l.out,Mv.below aq.out,.inl ⟨rfl,rfl⟩⟩
    ·have aX:(d==ro)=false:=by simpa using aL
     iterate 9 (refine rg.rgT ?_ ?_ ?_;rotate_left;(focus(intro wz g;(try dsimp only at g);obtain⟨q0,q1,q2,q3,q4⟩:=g;go_simp;(try with_reducible rfl)));(try simp only[Go.Act.put,rg.qa,rg.qb,rg.qc]))
     iterate 5 (refine rg.rgT ?_ ?_ ?_;rotate_left;(focus(intro wz g;(try dsimp only at g);obtain⟨q0,q1,q2,q3,q4⟩:=g;go_simp;(try with_reducible rfl)));(try simp only[Go.Act.put,rg.qa,rg.qb,rg.qc]))
     refine rg.rgC (λJ hJ=>?_);rw[QqH (by rfl)];go_simp
     refine aV.mono ?_;rintro e w5 ⟨⟨t,rfl⟩,Z⟩;have R:=Q7h (l.out.below Z);have aW:Hid (Below w.heap.size w w5):=aq.out.trans (Z.mono aq.out.size);refine hJ.out _ _ ⟨R.out.trs,Qq Z i.2.1,R.out.obj.cell 2,al.out▸R.out.obj.cell 4,R.out.obj.cell 5⟩ (λi=>?_);clear hJ J Z;iterate 3 (refine rg.rgT ?_ ?_ ?_;rotate_left;(focus(intro wz g;(try dsimp only at g);obtain⟨q0,q1,q2,q3,q4⟩:=g;go_simp;(try with_reducible rfl)));(try simp only[Go.Act.put,rg.qa,rg.qb,rg.qc]))
     refine rg.rgD ?_;go_wp2_with fail
     refine QqG (v:= .tuple #[.bool t,.nilIface]) (by simp[results,Tryz.results84,go_sem]) rfl ⟨t,c,X,V,rfl,rfl,rfl,R.out,Mv.below aW.out,.inl ⟨rfl,rfl⟩⟩
   ·refine hJ.out _ _ ⟨by rw[<-Qf7 ao];exact L.trs,an.keep.cell (p:=⟨w1.heap.size,1,none⟩) aK aQ.out,L.obj.cell 2,al.out▸L.obj.cell 4,L.obj.cell 5⟩ (λi=>?_);have HG:Hid (Qyj f w v c X V d (.returned (.tuple #[.bool true,.nilIface])) w4):=⟨true,c,B,V.re B,rfl,rfl,rfl,L,(Mv.below aj.out.drew).trans an,ao⟩;clear hJ J ai L an ao;iterate 1 (refine rg.rgT ?_ ?_ ?_;rotate_left;(focus(intro wz g;(try dsimp only at g);obtain⟨q0,q1,q2,q3,q4⟩:=g;go_simp;(try with_reducible rfl)));(try simp only[Go.Act.put,rg.qa,rg.qb,rg.qc]))
    iterate 6 (refine rg.rgS ?_;(try simp only[Go.Act.put,rg.qa,rg.qb,rg.qc]))
    iterate 2 (refine rg.rgT ?_ ?_ ?_;rotate_left;(focus(intro wz g;(try dsimp only at g);obtain⟨q0,q1,q2,q3,q4⟩:=g;go_simp;(try with_reducible rfl)));(try simp only[Go.Act.put,rg.qa,rg.qb,rg.qc]))
    iterate 6 (refine rg.rgS ?_;(try simp only[Go.Act.put,rg.qa,rg.qb,rg.qc]))
    iterate 3 (refine rg.rgT ?_ ?_ ?_;rotate_left;(focus(intro wz g;(try dsimp only at g);obtain⟨q0,q1,q2,q3,q4⟩:=g;go_simp;(try with_reducible rfl)));(try simp only[Go.Act.put,rg.qa,rg.qb,rg.qc]))
    refine rg.rgD ?_;go_wp2_with fail
    refine QqG (v:= .tuple #[.bool true,.nilIface]) (by simp[results,Tryz.results84,go_sem]) rfl HG.out
 ·obtain⟨t,z,rfl⟩:=I4 hu he;clear ae hu;go_wp2_with fail
  refine QqG (v:= .tuple #[.bool false,.nilIface]) (by simp[results,Tryz.results84,go_sem]) rfl ?_;have j:=m.out.alloc m.out.size (.cells #[I k,I sp,I y,I sq,.string b] 32);exact⟨false,c,X,V,rfl,rfl,rfl,H.out.below j,Mv.below j,.inl ⟨rfl,rfl⟩⟩
def Vo.sured(V:Vo)(t:Bool):Vo:={V with sure:=if t=true then false else V.sure}
def Q49(f:Nat)(w:World)(v:Nat)(c:Pt)(X:XL)(V:Vo)(page:Int)(e:Ending)(w':World):Prop:=e= .returned .nilIface/\∃(t:Bool) (c':Pt) (X':XL) (V':Vo),c'.p=c.p/\VoIn w' v c' X' ((V'.sured t).kept X')/\Mv (vF v c X) w (vF v c' X') w'/\Qfv f X V page t X' V'
theorem Qrj(f:Nat)(w:World)(v:Nat)(c:Pt)(X:XL)(V:Vo)(a:Int)(H:C 84 #[(v,0),I a] w (Qyj f w v c X V a))(p:∀t g h,Qfv f X V a t g h->Gb g h):
  C 31 #[(v,0),I a] w (Q49 f w v c X V a):=by
 have N:=Cg v;have⟨Q,x⟩:=Q2 H p;clear H p;go_in
 go_wp2_with fail
 refine Q.o.mono ?_;rintro e w1 ⟨t,q,g,h,rfl,y,_,i,j,u⟩;have⟨S,r,K,L⟩:=Q4 i j u (x.o t g h u);have M:=i.obj.cell 6;have f6:=i.obj.fz 6;simp[Qe]at M;have s:=Q7h y;cases t
 ·have z:=Q7h (Iw w1 v q g h i L.o);clear i j u y M f6;go_wp2_with fail
  with_reducible refine z.o.mono ?_
  rintro e w2 ⟨rfl,b,d⟩;have⟨l,m⟩:=Q2 b d;clear b d;go_wp2_with fail
  with_reducible refine(Ij _ _ _).mono ?_
  rintro e R ⟨rfl,rfl⟩;go_wp2_with fail
  go_ret
  exact⟨rfl,false,q,g,h,s.o,l.o,r.o.trans ⟨m.o.mono (λk _ n=>.inl n),λk n=>.inl n⟩,K.o⟩
 ·have⟨z,F⟩:=Q2 (Iw _ v q g _ (i.unsure false) L.o) (Keep.set1 w1 v 6 (.bool false));clear i j u y;go_wp2_with fail
  with_reducible refine z.o.mono ?_
  rintro e w2 ⟨rfl,b,d⟩;have⟨l,m⟩:=Q2 b d;clear b d;go_wp2_with fail
  with_reducible refine(Ij _ _ _).mono ?_
  rintro e R ⟨rfl,rfl⟩;go_wp2_with fail
  go_ret
  exact⟨rfl,true,q,g,h,s.o,l.o,r.o.trans ⟨(F.o.mono (G:=vF v q g) (λk _ e=>by subst e;exact .inr (by simp[Dl]))).trans m.o (λk n=>.inl (.inl n)),λk n=>.inl n⟩,K.o⟩
end vo
namespace vo
open Go.RowKit Go.Maps er st tr nd pg
theorem Q2t{v:Nat}{c:Pt}{X:XL}{a:Value}(e:(Dl v c X).Nodup)(f:∀g,a.ownBlock=some g->g∉Dl v c X):(Dl v {c with lv:=a} X).Nodup:=by
 have d:=List.Nodup.sublist (((((List.sublist_append_right (Xt c.lv) (K6 X)).cons_cons c.tb).cons_cons c.mb).cons_cons c.lb).cons_cons v) e;show([v,c.lb,c.mb,c.tb]++(Xt a++K6 X)).Nodup;cases ho:a.ownBlock with
 |none=>
  rw[show Xt a=[] by simp[Xt,ho]];exact d
 |some g=>
  rw[show Xt a=[g] by simp[Xt,ho]];refine(List.perm_middle.nodup_iff).2 (QqP.2 ⟨λb=>f g ho ?_,d⟩);simp only[Dl,QqJ,QqF,QkU,QyA]at b ⊢;rcases b with(b|b|b|b)|b
  ·exact .inl b
  ·exact .inr (.inl b)
  ·exact .inr (.inr (.inl b))
  ·exact .inr (.inr (.inr (.inl b)))
  ·exact .inr (.inr (.inr (.inr (.inr b))))
theorem Dt{v:Nat}{c:Pt}{X:XL}{a:Value}{k:Nat}(h:k∈Dl v {c with lv:=a} X):k∈Dl v c X\/a.ownBlock=some k:=by
 simp only[Dl,QqJ,QqF]at h ⊢;rcases h with h|h|h|h|h|h
 ·exact .inl (.inl h)
 ·exact .inl (.inr (.inl h))
 ·exact .inl (.inr (.inr (.inl h)))
 ·exact .inl (.inr (.inr (.inr (.inl h))))
 ·exact .inr (Uy.1 h)
 ·exact .inl (.inr (.inr (.inr (.inr (.inr h)))))
theorem VoIn.relast{w w':World}{v:Nat}{c:Pt}{X:XL}{V d:Vo}{b:Value}(h:VoIn w v c X V)(a:Keep (λk=>k=v) w w')(t:Whole w' v 115 (Qe {c with lv:=b} d))(o:d.s=V.s)(p:d.cap=V.cap)(q:d.l=V.l)(u:w'.ownsRow 0 3 1 b d.last.length (ints d.last))(j:∀g,b.ownBlock=some g->¬vF v c X g/\g≠0):VoIn w' v {c with lv:=b} X d:=by
 have f:=h.vne;have m:∀k,stF c k->k≠v:=λk n e=>(h.far v (by simp[Dl])).1 (e▸n);obtain⟨s',r,l',Q,r',z,F⟩:=d;simp only at o p q;subst o p q;refine⟨t,h.sto.keep a m,h.led.keep a (λk H e=>?_),h.trs.keep a (f _ U),λx i=>⟨TrAt.keep (h.tre x i).1 a (λk K=>f k ?_),(h.tre x i).2⟩,u,h.spl,Q2t h.nd (λg L M=>(j g L).1 (.inr M)),λk a=>?_,h.zero,a.cell h.laid (λe=>(h.far v (by simp[Dl])).2 e.symm)⟩
 ·have:k∈c.lb::c.mb::c.tb::(Xt c.lv++K6 X):=by
   rcases H with rfl|rfl|⟨y,N,rfl⟩
   ·simp
   ·simp
   ·obtain⟨x,i,rfl⟩:=QqS.1 N;simp only[QqF,QqJ];exact .inr (.inr (.inr (.inr (QqX.2 ⟨x,i,U⟩))))
  exact f k this e
 ·simp only[QqF,QqJ];exact .inr (.inr (.inr (.inr (QqX.2 ⟨x,i,by simp[K]⟩))))
 ·rcases Dt a with a|a
  ·exact h.far k a
  ·exact⟨λn=>(j k a).1 (.inl n),(j k a).2⟩
def Ko(y:Sp×Bl):rt.Space:=⟨y.1.id,y.1.size,Qxi y.1.tr,y.1.tr.high⟩
structure CmW(w:World)(v:Nat)(c:Pt)(X:XL)(B:Nat)(iv:Value)(il:List Int)(rv:Value)(rl:List rt.Space)(cj:Pt)(Y:XL)(V:Vo)(wr:World):Prop where
 vo:VoIn wr v cj Y V
 ids:wr.ownsRow w.heap.size 3 1 iv il.length (ints il)
 row:wr.ownsRow B 206 4 rv rl.length (rt.Zz rl)
 fi:∀k,iv.ownBlock=some k->¬vF v cj Y k/\k<B
 fr:∀k,rv.ownBlock=some k->¬vF v cj Y k
 lo:w.heap.size<=B/\B<=wr.heap.size
 mv:Mv (vZ v c X) w (vF v cj Y) wr
section
variable {w:World} {v:Nat} {c:Pt} {X:XL} {B:Nat} {iv:Value} {il:List Int} {rv:Value} {rl:List rt.Space} {cj:Pt} {Y:XL} {V:Vo} {wr:World}
theorem CmW.pos(h:CmW w v c X B iv il rv rl cj Y V wr):(∀k,iv.ownBlock=some k->¬vZ v cj Y k)/\(∀k,rv.ownBlock=some k->¬vZ v cj Y k):=⟨λk a=>(h.fi k a).1,h.fr⟩
theorem CmW.move{w':World}{f:Pt}{Z:XL}{U:Vo}(h:CmW w v c X B iv il rv rl cj Y V wr)(o:0<w.heap.size)(l:VoIn w' v f Z U)(d:Mv (vZ v cj Y) wr (vF v f Z) w'):CmW w v c X B iv il rv rl f Z U w':=by
 obtain⟨p1,p2⟩:=h.pos;have m:=d.keep.size;have b:∀k,k<wr.heap.size->¬vZ v cj Y k->¬vF v f Z k:=λk a hz i=>(d.sub k i).elim hz (λe=>O);obtain⟨n,p⟩:=h.lo;refine⟨l,Qa h.ids d.keep (λg j=>p1 g j),Qa h.row d.keep (λg j=>p2 g j),λk a=>⟨b k (h.ids.lt k a).2 (p1 k a),(h.fi k a).2⟩,λk a=>b k (h.row.lt k a).2 (p2 k a),⟨n,O⟩,⟨h.mv.keep.trans d.keep (λk a=>?_),λk a=>?_⟩⟩
 ·exact h.mv.sub k a
 ·rcases d.sub k a with a|a
  ·exact h.mv.sub k a
  ·exact .inr (QqR h.mv.keep.size a)
theorem CmW.below{w':World}(h:CmW w v c X B iv il rv rl cj Y V wr)(a:0<w.heap.size)(hb:Below wr wr w'):CmW w v c X B iv il rv rl cj Y V w':=h.move a (h.vo.below hb) ⟨Keep.below hb,λk b=>.inl b⟩
theorem CmW.grow{w':World}{g cap:Nat}{a:rt.Space}(h:CmW w v c X B iv il rv rl cj Y V wr)(q:0<w.heap.size)(n:w'.ownsRow B 206 4 (.slice (some (g,0)) (rl.length+1) cap) (rl.length+1) (rt.Zz (rl++[a])))(f:wr.grownBy w' rv.ownBlock)(i:rv.ownBlock=some g\/g=wr.heap.size):CmW w v c X B iv il (.slice (some (g,0)) (rl.length+1) cap) (rl++[a]) cj Y V w':=by
 have b:=Keep.grown (Keep.refl _ _) f (λg f=>.inl f);have j:=h.vo.lt;have d:=h.row;obtain⟨o,r⟩:=h.lo;have l:(rl++[a]).length=rl.length+1:=U;refine⟨h.vo.keep b (λk b e=>?_),Qa h.ids b (λg f e=>?_),by rw[l];exact n,h.fi,λk b=>?_,⟨o,by have:=b.size;omega⟩,⟨h.mv.keep.trans b (λk b=>.inr (by have:=(d.lt k b).1;omega)),h.mv.sub⟩⟩
 ·rcases b with b|rfl
  ·exact h.fr k e b
  ·have:=(d.lt _ e).1;omega
 ·have:=(h.fi g f).2;have:=(d.lt g e).1;omega
 ·have m:¬vF v cj Y g:=by
   rcases i with e|e
   ·exact h.fr g e
   ·intro p;have:=j g p;omega
  have:g=k:=by simpa[Value.ownBlock]using b
  rw[<-this];exact m
end
end vo
namespace vo
open Go.RowKit Go.Maps er st tr nd pg
def Py(g:Int)(l:List rt.Space):Page:=⟨4,0,0,0,rt.Xc g l⟩
structure Qp0(f:Nat)(X:XL)(V:Vo):Prop where
 wr:∀(j:Nat) (x:Sp×Bl) (A:XL) (s:Sto),X[j]? =some x->Fs f (X.take j) V.s A s->Q9x (Qkz f x.1.id) (Qou f x.1.id) x.1.tr s
 root:∀(Y:XL) (s:Sto),Fs f X V.s Y s->rt.Bh (V.gen+1) (Y.map Ko)=true/\(Ej Y/\(Yq Y).length<=100000)/\s.n.ops+f<=1000000000000000000/\s.seq<=281474976710655/\∃r,Xv f s (Py (V.gen+1) (Y.map Ko))=some r
def Q34(f:Nat)(w:World)(v:Nat)(c:Pt)(X:XL)(V:Vo)(e:Ending)(w':World):Prop:=
 (∃Y s r N lv L,e= .returned .nilIface/\Fs f X V.s Y s/\Xv f s (Py (V.gen+1) (Y.map Ko))=some r/\r.2.2=0/\L.Perm (Yq Y)/\VoIn w' v {c with N:=N,lv:=lv} Y {s:=r.1,cap:=V.cap,l:=Y.map (·.1),gen:=V.gen+1,root:=r.2.1,last:=L,sure:=true}/\Mv (vZ v c X) w (vF v {c with N:=N,lv:=lv} Y) w')\/
 (∃et ex Y s N,e= .returned (.iface et ex)/\VoIn w' v {c with N:=N} Y {V with s:=s,l:=Y.map (·.1)}/\Mv (vZ v c X) w (vF v {c with N:=N} Y) w'/\
  ∃s1 a er,Fs f X V.s Y s1/\Xv f s1 (Py (V.gen+1) (Y.map Ko))=some (s,a,er)/\er≠0)
theorem Qg3(w:World)(v:Nat)(c:Pt)(X:XL)(V:Vo)(f:Nat)(h:VoIn w v c X V)(bM:0<=V.gen)(hg:V.gen<1099511627775)(af:Qp0 f X V):
  C 73 #[.pointer (some ⟨v,0,none⟩)] w (Q34 f w v c X V):=by
 have ax:=h.up;have h0:=h.laid.lt;have ay:X.length<=8:=by have:=h.led.ok.len;simpa[Zq,Zd]using this
 have c1:=h.obj.cell 1;have c3:=h.obj.cell 3;simp[Qe]at c1 c3;have HI:Hid (C 67 #[.pointer (some ⟨c.lb,0,none⟩)] w λe w'=>∃A1 R,e= .returned (.slice A1 X.length R)/\CmW w v c X w'.heap.size (.slice A1 X.length R) (X.map (·.1.id)) (.slice none 0 0) [] c X V w'):=by
  refine(Qq4 w c.lb c.mb V.cap (Zq X) h.led).mono ?_;rintro e w' ⟨v',rfl,ho,hb⟩;obtain⟨A1,R,rfl⟩:=Qk ho;have el:(Zq X).length=X.length:=by simp[Zq]
  rw[el]at ho ⊢;refine⟨A1,R,rfl,h.below hb,?_,⟨rfl,.inl ⟨rfl,rfl⟩⟩,λk b=>⟨λhv=>?_,(ho.lt k b).2⟩,λk b=>absurd b (by simp[Value.ownBlock]),⟨hb.size,QqB _⟩,⟨Keep.below hb,λk b=>.inl b⟩⟩
  ·rw[QqT,show ints (X.map (·.1.id))=(Zq X).map (λy=>Value.int .i64 y.1.id) by simp[ints,Zq]];exact ho
  ·have:=h.lt k hv;have:=(ho.lt k b).1;omega
 obtain⟨i0,az,aF,aH,aK⟩:=QzX rt.Qdz;have⟨a7,a8,a9,ba,H,ag,bN,H0⟩:=Q8 az aF aH aK h af ax h0;have bb:(V.s,V.l)=(V.s,X.map (·.1)):=by rw[h.spl]
 have bc:=Q7h h.spl;obtain⟨n,hn⟩:∃n,X.length=n:=⟨_,rfl⟩;have HN:=Q7h hn;rw[hn]at HI ay;clear h af ax az aF aH aK bb hn;go_enter Tryz.func73,Tryz.ntmps73
 go_wp2_with fail
 with_reducible refine HI.out.mono ?_
 rintro e w1 ⟨A1,R,rfl,hC⟩;have HC:=Q7h hC;obtain⟨B,hB⟩:∃B,w1.heap.size=B:=⟨_,rfl⟩;rw[hB]at HC;clear hC hB;go_wp2_with fail
 go_loopw [3,28] (λrv i wr=>∃(j:Nat) (S:Option Addr) (d:Nat) (A:XL) (s:Sto) (N:Nat->Prop),j<=n/\i= I j/\rv= .slice S j d/\Hid (A.length=j)/\Hid (Fs f (X.take j) V.s A s)/\Hid (CmW w v c X B (.slice A1 n R) (X.map (·.1.id)) (.slice S j d) (A.map Ko) {c with N:=N} (A++X.drop j) {V with s:=s,l:=(A++X.drop j).map (·.1)} wr)) (λ_ i _=>n-(intOf i).toNat)
 case atStart=>
  refine⟨0,none,0,[],V.s,c.N,QqM _,rfl,rfl,rfl,⟨rfl,rfl⟩,?_⟩;show CmW _ _ _ _ _ _ _ _ _ _ X _ _;rw[show({V with s:=V.s,l:=([]++X.drop 0:XL).map (·.1)}:Vo)=V by rw[show([]++X.drop 0:XL).map (·.1)=V.l from bc.out]];exact HC.out
 case round=>
  obtain⟨j,S,d,A,s,N,hj,rfl,rfl,HA,HW,o⟩:=hrel;by_cases bQ:j<n
  ·have bR:(j:Int)<(n:Int):=O;have bS:(0:Int)<=(j:Int):=QkD _;obtain⟨x,hx⟩:∃x,X[j]? =some x:=⟨_,QqC (by have:=HN.out;omega)⟩;have be:X.drop j=x::X.drop (j+1):=by
    rw[QkM (by have:=HN.out;omega)];congr 1;have:=(QqD.1 hx).2;exact this
   rw[be]at o;have aL:x∈A++x::X.drop (j+1):=U;have ah:wr.ownsRow w.heap.size 3 1 (.slice A1 n R) n (ints (X.map (·.1.id))):=by
    have:=o.out.ids;rwa[QqT,HN.out]at this
   obtain⟨gi,rfl,_,_,_,Y,_⟩:=Qx ah O;have ci:wr.cell? ⟨gi,j,none⟩=some (I x.1.id):=by
    have:=Y j (I x.1.id) (by simp[ints,hx]);simpa using this
   have v2:wr.cell? ⟨v,2,none⟩=some (.map (some c.tb)):=o.out.vo.obj.cell 2;have bf:(Instr.lookup 113 (.map (some c.tb)) (I x.1.id) false).run Tryz.prog wr= .ok (.pointer (some ⟨x.2.p,0,none⟩)) wr:=o.out.vo.lookT aL;have bg:Hid (C 142 #[.pointer (some ⟨v,0,none⟩),I x.1.id] wr λe w'=>∃b1 b2,e= .returned (.func (.func 205) #[] #[.pointer (some ⟨b1,0,none⟩),.pointer (some ⟨b2,0,none⟩)])/\C 141 #[.pointer (some ⟨x.2.p,0,none⟩),.func (.func 205) #[] #[.pointer (some ⟨b1,0,none⟩),.pointer (some ⟨b2,0,none⟩)]] w' λe2 z=>∃T s' N',CmW w v c X B (.slice (some ⟨gi,0,none⟩) n R) (X.map (·.1.id)) (.slice S j d) (A.map Ko) {c with N:=N'} (A++({x.1 with tr:=T},x.2)::X.drop (j+1)) {V with s:=s',l:=(A++({x.1 with tr:=T},x.2)::X.drop (j+1)).map (·.1)} z/\e2= .returned (.tuple #[I (Qxi T),.nilIface])/\Wrt f x.1.id x.1.tr s T s'):=by
    have ak:=o.out.vo.lt;have aM:=o.out.vo.up;refine(Qug wr v x.1.id).mono ?_;rintro e w2 ⟨rfl,o1,o2,hb⟩;have bh:=o.out.below H0.out hb;refine⟨_,_,rfl,(Qte w2 v {c with N:=N} _ _ x _ _ f bh.vo aL o1 o2 (λhf=>by have:=ak _ hf;omega) (λhf=>by have:=ak _ hf;omega) (ag.out.wr j x A s hx HW.out)).mono ?_⟩;rintro e z ⟨T,s',N',q1,q2,q3⟩;have e1:Qo (A++x::X.drop (j+1)) x.1.id T x.2.F=A++({x.1 with tr:=T},x.2)::X.drop (j+1):=Qoe aM;rw[e1]at q1 q2;refine⟨T,s',N',o.out.move H0.out q1 ⟨(Keep.below (F:=vZ v {c with N:=N} (A++x::X.drop (j+1))) hb).trans q2.keep (λk b=>?_),λk b=>?_⟩,q3⟩
    ·rcases b with b|rfl|rfl
     ·exact .inl b
     ·exact .inr (QqB _)
     ·exact .inr (Nat.le_succ _)
    ·rcases q2.sub k b with(b|rfl|rfl)|b
     ·exact .inl b
     ·exact .inr (QqB _)
     ·exact .inr (Nat.le_succ _)
     ·exact .inr (QqR hb.size b)
   clear ah Y;go_wp2_with fail
   refine bg.out.mono ?_;rintro e w2 ⟨b1,b2,rfl,aN⟩;have bi:=Q7h aN;clear aN ci v2 bf;go_wp2_with fail
   refine bi.out.mono ?_;rintro e z ⟨T,s',N',m,rfl,aQ⟩
   ·have⟨t,bj⟩:=Q2 m aQ;have hz:(({x.1 with tr:=T},x.2):Sp×Bl)∈A++({x.1 with tr:=T},x.2)::X.drop (j+1):=U;have v1:z.cell? ⟨v,1,none⟩=some (.pointer (some ⟨c.lb,0,none⟩)):=m.vo.obj.cell 1;have aR:=Q7h (Qqv z c.lb c.mb V.cap _ _ m.vo.led (Yx hz));simp only at aR;clear m aQ;go_wp2_with fail
    with_reducible refine aR.out.mono ?_
    rintro e w4 ⟨rfl,aS⟩;have ab:=Q7h (t.out.below H0.out aS);obtain⟨t1,t2,t3⟩:=ab.out.vo.tre _ hz;have HH:=Q7h (Vl w4 x.2.F x.2.p T t1);clear aS t1 t2 t3 v1;go_wp2_with fail
    with_reducible refine HH.out.mono ?_
    rintro e Z ⟨rfl,Q⟩;have ab:=Q7h (ab.out.below H0.out Q);clear Q;obtain⟨hT,al⟩:∃q:Int,(T.high:Int)=q:=⟨_,rfl⟩;obtain⟨tT,am⟩:∃q:Int,Qxi T=q:=⟨_,rfl⟩;obtain⟨y0,an⟩:∃q:Int,x.1.id=q:=⟨_,rfl⟩;obtain⟨y1,ao⟩:∃q:Int,x.1.size=q:=⟨_,rfl⟩;rw[al,am,an,ao];have bl:Hid (∀(j':Nat) (u:Value),([I y0,I y1,I tT,I hT]:List Value)[j']? =some u->(Z.alloc (.cells #[I y0,I y1,I tT,I hT] 206)).cell? ((⟨Z.heap.size,0,none⟩:Addr).add j')=some u):=World.news_of_block (QzY Z _);have ai:∀u∈([I y0,I y1,I tT,I hT]:List Value),u.oneCell'=true:=by simp[Value.oneCell']
    have⟨aT,ap⟩:=Q2 ai (ab.out.below H0.out ((QqA _ _).alloc (QqB _) (.cells #[I y0,I y1,I tT,I hT] 206)));have ac:Hid ((Z.alloc (.cells #[I y0,I y1,I tT,I hT] 206)).ownsRow B 206 4 (.slice S j d) j (rt.Zz (A.map Ko))):=by
     have:=ap.out.row;rwa[QqT,HA.out]at this
    have bm:Hid (B<=(Z.alloc (.cells #[I y0,I y1,I tT,I hT] 206)).heap.size):=ap.out.lo.2;have bn:Hid (rt.Zz (A.map Ko)++[I y0,I y1,I tT,I hT]=rt.Zz (A.map Ko++[⟨y0,y1,tT,hT⟩])):=by
     show _=_;rw[rt.Eg]
    have aV:Ko (({x.1 with tr:=T},x.2):Sp×Bl)=⟨y0,y1,tT,hT⟩:=by
     rw[<-al,<-am,<-an,<-ao];rfl
    have bo:=Q7h aV;clear ai aV al am an ao;go_wp2_with (at_builtin;go_must (refine wpList_append_lies _ rfl (.tmp 59) (.tmp 66) 197 rfl B 206 i0 _ 4 32 Tryz.underlying197 a7.out a8.out a9.out ba.out rfl O (.slice S j d) j (rt.Zz (A.map Ko)) rfl ac.out ⟨Z.heap.size,0,none⟩ 1 1 [I y0,I y1,I tT,I hT] rfl rfl bl.out aT.out O (by simp only[maxLen];omega) O bm.out _ rfl ?_;intro g2 c2 w6 M aW aj _;rw[bn.out]at M;have⟨bp,bq,aX⟩:=Q3 M aW aj;clear M aW aj))
    have br:Hid (CmW w v c X B (.slice (some ⟨gi,0,none⟩) n R) (X.map (·.1.id)) (.slice (some ⟨g2,0,none⟩) (j+1) c2) ((A++[({x.1 with tr:=T},x.2)]).map Ko) {c with N:=N'} ((A++[({x.1 with tr:=T},x.2)])++X.drop (j+1)) {V with s:=s',l:=(((A++[({x.1 with tr:=T},x.2)])++X.drop (j+1):XL)).map (λy:Sp×Bl=>y.1)} w6):=by
     have aY:(A.map Ko).length=j:=by rw[QqT,HA.out]
     have q:=ap.out.grow (w':=w6) (g:=g2) (cap:=c2) (a:=⟨y0,y1,tT,hT⟩) H0.out (by rw[aY];exact bp.out) bq.out aX.out;rw[aY]at q;rw[QqU,QqY,QzE,QjE,bo.out];exact q
    have bu:Hid (Fs f (X.take (j+1)) V.s (A++[({x.1 with tr:=T},x.2)]) s'):=by
     rw[QzW,hx];exact Qz3 HW.out bj.out
    have aq:n-(intOf (I ((j:Int)+1))).toNat<n-(intOf (I (j:Int))).toNat:=by simp[intOf];omega
    refine⟨⟨j+1,some ⟨g2,0,none⟩,c2,A++[({x.1 with tr:=T},x.2)],s',N',?_,?_,rfl,?_,?_,?_⟩,aq⟩
    ·omega
    ·go_num
    ·show _=_;simp[HA.out]
    ·with_reducible exact bu
    ·with_reducible exact br
  ·obtain rfl:j=n:=O;have bv:X.drop j=[]:=List.drop_eq_nil_of_le (by have:=HN.out;omega);have bx:X.take j=X:=QkT (by have:=HN.out;omega);rw[bv,QzT]at o;rw[bx]at HW;obtain⟨hm,aZ,ho,hq,r,hr⟩:=ag.out.root A s HW.out;have⟨bz,HR⟩:=Q2 aZ.1 hr;have v3:wr.cell? ⟨v,3,none⟩=some (I V.gen):=o.out.vo.obj.cell 3;have aA:Hid (C 144 #[I (V.gen+1),.slice S j d] wr λe w'=>e= .returned (.tuple #[.string (rt.Xc (V.gen+1) (A.map Ko)),I 0])/\CmW w v c X B (.slice A1 j R) (X.map (·.1.id)) (.slice S j d) (A.map Ko) {c with N:=N} A {V with s:=s,l:=A.map (·.1)} w'):=by
    refine(rt.Nw (V.gen+1) (A.map Ko) (.slice S j d) wr (Qr o.out.row (QqM _)) hm).mono ?_;rintro e w' ⟨rfl,hb⟩;exact⟨rfl,o.out.below H0.out hb⟩
   have aB:Hid (∀W,CmW w v c X B (.slice A1 j R) (X.map (·.1.id)) (.slice S j d) (A.map Ko) {c with N:=N} A {V with s:=s,l:=A.map (·.1)} W->W.cell? ⟨v,0,none⟩=some (.pointer (some ⟨c.q,0,none⟩))/\C 145 #[.pointer (some ⟨c.q,0,none⟩),.agg #[I 4,I 0,I 0,I 0,.string (rt.Xc (V.gen+1) (A.map Ko))]] W λe w'=>∃u N',e= .returned (.tuple #[I r.2.1,u])/\CmW w v c X B (.slice A1 j R) (X.map (·.1.id)) (.slice S j d) (A.map Ko) {c with N:=N'} A {V with s:=r.1,l:=A.map (·.1)} w'/\((r.2.2=0/\u= .nilIface)\/(r.2.2≠0/\∃et ex,u= .iface et ex))):=by
    intro W hW;refine⟨hW.vo.obj.cell 0,(Ad W v {c with N:=N} A {V with s:=s,l:=A.map (·.1)} (Py (V.gen+1) (A.map Ko)) f r hW.vo hr ho hq).mono ?_⟩;rintro e w' ⟨u,N',rfl,q1,q2,q3⟩;have qm:=El (v:=v) (X:=A) q2;refine⟨u,N',rfl,hW.move H0.out q1 qm,?_⟩;rcases q3 with q3|⟨q3,bs,q4,_⟩
    ·exact .inl q3
    ·obtain⟨et,ex,rfl⟩:=q4.iface;exact .inr ⟨q3,et,ex,rfl⟩
   obtain⟨Rb,a0⟩:∃Rb,rt.Xc (V.gen+1) (A.map Ko)=Rb:=⟨_,rfl⟩;rw[a0]at aA aB;clear hm aZ hr ho hq a0;go_wp2_with fail
   with_reducible refine aA.out.mono ?_
   rintro e w2 ⟨rfl,a4⟩;obtain⟨v0,a5⟩:=aB.out w2 a4;have bF:=Q7h a5;clear a4 a5 v3;go_wp2_with fail
   refine bF.out.mono ?_;rintro e z ⟨u,N',rfl,m,(⟨aa,rfl⟩|⟨aa,et,ex,rfl⟩)⟩
   ·have⟨t,ar⟩:=Q2 m aa;have v3:z.cell? ⟨v,3,none⟩=some (I V.gen):=m.vo.obj.cell 3;have f3:=m.vo.obj.fz 3;have au:Hid (VoIn (z.setCell ⟨v,3,none⟩ (I (V.gen+1))) v {c with N:=N'} A ({V with s:=r.1,l:=A.map (λy:Sp×Bl=>y.1),gen:=V.gen+1}:Vo)):=m.vo.setV (Keep.set1 z v 3 _) (by simpa[Qe]using m.vo.obj.set 3 (I (V.gen+1))) rfl rfl rfl rfl;have bH:Hid (C 86 #[.pointer (some ⟨v,0,none⟩)] (z.setCell ⟨v,3,none⟩ (I (V.gen+1))) λx w'=>∃v' L,x= .returned v'/\L.Perm (Yq A)/\w'.ownsRow (z.setCell ⟨v,3,none⟩ (I (V.gen+1))).heap.size 3 1 v' L.length (ints L)/\Below (z.setCell ⟨v,3,none⟩ (I (V.gen+1))).heap.size (z.setCell ⟨v,3,none⟩ (I (V.gen+1))) w'):=Oa _ v _ A _ au.out bz.out;clear m aa v0;go_wp2_with fail
    refine bH.out.mono ?_;rintro e Z ⟨v',L,rfl,a6,av,Q⟩;have⟨bK,ac,bL,K⟩:=Q4 a6 av Q (au.out.below Q);have f4:=K.out.obj.fz 4;have f5:=K.out.obj.fz 5;have f6:=K.out.obj.fz 6;have c4:=K.out.obj.cell 4;have c5:=K.out.obj.cell 5;have c6:=K.out.obj.cell 6;simp[Qe]at c4 c5 c6;obtain⟨A5,d5,rfl⟩:=Qk av;clear a6 av Q v3 f3;go_wp2_with fail
    go_ret
    have aw:Keep (λk=>k=v) Z (((Z.setCell ⟨v,4,none⟩ (I r.2.1)).setCell ⟨v,5,none⟩ (.slice A5 L.length d5)).setCell ⟨v,6,none⟩ (.bool true)):=((Keep.set1 Z v 4 _).setCell (.inl rfl) _).setCell (.inl rfl) _;have ad:∀g,(Value.slice A5 L.length d5).ownBlock=some g->z.heap.size<=g/\¬vF v {c with N:=N'} A g:=λg hg=>by
     have h1:=(ac.out.lt g hg).1;have h2:=au.out.lt;simp only[World.size_setCell]at h1;exact⟨h1,λhv=>by have:=h2 g hv;simp only[World.size_setCell]at this;omega⟩
    have ak:v<z.heap.size:=t.out.vo.obj.lt;have bT:w.heap.size<=z.heap.size:=t.out.mv.keep.size;have bV:=H0.out;refine .inl ⟨A,s,r,N',.slice A5 L.length d5,L,rfl,HW.out,HR.out,ar.out,bK.out,K.out.relast aw (by simpa[Qe]using((K.out.obj.set 4 (I r.2.1)).set 5 (.slice A5 L.length d5)).set 6 (.bool true)) rfl rfl rfl (Qa (Qr ac.out (QqM _)) aw (λg hg e=>by have:=(ad g hg).1;omega)) (λg hg=>⟨(ad g hg).2,by have:=(ad g hg).1;omega⟩),?_⟩;have ae:Mv (vZ v c X) w (vF v {c with N:=N'} A) Z:=⟨(t.out.mv.keep.trans (Keep.set1 z v 3 (I (V.gen+1))) (λk b=>t.out.mv.sub k (by subst b;exact .inr (by simp[Dl])))).transBelow bL.out,t.out.mv.sub⟩;refine⟨ae.keep.trans aw (λk b=>ae.sub k (by subst b;exact .inr (by simp[Dl]))),λk b=>?_⟩;rcases b with b|b
    ·exact ae.sub k (.inl b)
    ·rcases Dt b with b|b
     ·exact ae.sub k (.inr b)
     ·exact .inr (by have:=(ad k b).1;omega)
   ·have⟨t,ar⟩:=Q2 m aa;clear m aa v0;go_wp2_with fail
    go_ret
    refine .inr ⟨et,ex,A,r.1,N',rfl,t.out.vo,t.out.mv,s,r.2.1,r.2.2,HW.out,HR.out,ar.out⟩
def Q6j(f:Nat)(w:World)(v:Nat)(c:Pt)(X:XL)(V:Vo)(e:Ending)(w':World):Prop:=
 ((V.sure=true/\0<=V.root)/\e= .returned .nilIface/\w'=w)\/
 (∃Y s r N lv L,e= .returned .nilIface/\Fs f X V.s Y s/\Xv f s (Py (V.gen+1) (Y.map Ko))=some r/\r.2.2=0/\L.Perm (Yq Y)/\VoIn w' v {c with N:=N,lv:=lv} Y (Vo.kept {s:=r.1,cap:=V.cap,l:=Y.map (·.1),gen:=V.gen+1,root:=r.2.1,last:=L,sure:=true} Y)/\Mv (vZ v c X) w (vF v {c with N:=N,lv:=lv} Y) w')\/
 (∃b et ex Y s N,e= .returned (.iface 183 (b,0))/\Whole w' b 187 #[.string ⟨#[99,111,109,109,105,116]⟩,I 0,.iface et ex]/\VoIn w' v {c with N:=N} Y (Vo.kept {V with s:=s,l:=Y.map (·.1)} Y)/\Mv (vZ v c X) w (vF v {c with N:=N} Y) w'/\
  ∃s1 a er,Fs f X V.s Y s1/\Xv f s1 (Py (V.gen+1) (Y.map Ko))=some (s,a,er)/\er≠0)
theorem Qjg(w:World)(v:Nat)(c:Pt)(X:XL)(V:Vo)(f:Nat)(h:VoIn w v c X V)(z:0<=V.gen)(hg:V.gen<1099511627775)(d:¬(V.sure=true/\0<=V.root)->Qp0 f X V)(F:V.last.length<=100000):
  C 23 #[(v,0)] w (Q6j f w v c X V):=by
 have aa:=Cg v;have c4:=h.obj.cell 4;have R:=h.obj.cell 6;simp[Qe]at c4 R;by_cases b:V.sure=true/\0<=V.root
 ·have HS:=Q7h b;obtain⟨h1,h2⟩:=b;rw[h1]at R;clear h d;go_in
  go_wp2_with fail
  go_ret
  exact .inl ⟨HS.o,rfl,rfl⟩
 ·have Q:V.sure=false\/(V.sure=true/\V.root<0):=by
   cases hs:V.sure
   ·exact .inl rfl
   ·exact .inr ⟨rfl,by rw[hs]at b;simp at b;exact b⟩
  have⟨S,j,T⟩:=Q3 (Qg3 w v c X V f h z hg (d b)) (d b) F;have Z:Hid (∀W,C 57 #[.string ⟨#[99,111,109,109,105,116]⟩,I 0,.nilIface] W λx w'=>x= .returned .nilIface/\W=w'):=λW=>Ij _ _ W;have A:Hid (∀t x W,C 57 #[.string ⟨#[99,111,109,109,105,116]⟩,I 0,.iface t x] W λy w'=>y= .returned (.iface 183 (W,0))/\W.alloc (.cells #[.string ⟨#[99,111,109,109,105,116]⟩,I 0,.iface t x] 187)=w'):=λt x W=>Dx _ _ t x W;clear h z hg d F b;go_in
  rcases Q with Q|⟨Q,B⟩;all_goals
   rw[Q]at R;go_wp2_with fail
   refine S.o.mono ?_;rintro e w1 (⟨Y,s,r,N,lv,L,rfl,l,n,m,H,k5,k6⟩|⟨et,ex,Y,s,N,rfl,l,n,m⟩)
   ·obtain⟨_,⟨ks,kl⟩,_⟩:=j.o.root Y s l;have HK:=Q7h (Iw w1 v {c with N:=N,lv:=lv} Y _ k5 ⟨ks,by show L.length<=_;rw[H.length_eq];exact kl⟩);have⟨HR,HM⟩:=Q2 (show Fs f X V.s Y s/\Xv f s (Py (V.gen+1) (Y.map Ko))=some r/\r.2.2=0/\L.Perm (Yq Y)from⟨l,n,m,H⟩) k6;clear l n m H k5 k6 ks kl;go_wp2_with fail
    refine HK.o.mono ?_;rintro e w2 ⟨rfl,g,i⟩;have⟨p,q⟩:=Q2 g i;clear g i;go_wp2_with fail
    with_reducible refine(Z.o _).mono ?_
    rintro e w3 ⟨rfl,rfl⟩;go_wp2_with fail
    go_ret
    obtain⟨l,n,m,H⟩:=HR.o;exact .inr (.inl ⟨Y,s,r,N,lv,L,rfl,l,n,m,H,p.o,HM.o.trans ⟨q.o.mono (λk _ u=>.inl u),λk u=>.inl u⟩⟩)
   ·have K:Ej Y:=by
     obtain⟨s1,a,er,z1,_⟩:=m;exact(j.o.root Y s1 z1).2.1.1
    have HK:=Q7h (Iw w1 v {c with N:=N} Y _ l ⟨K,T.o⟩);have⟨HM,HR⟩:=Q2 n m;clear l n m K;go_wp2_with fail
    refine HK.o.mono ?_;rintro e w2 ⟨rfl,g,i⟩;have⟨p,q⟩:=Q2 g i;clear g i;go_wp2_with fail
    with_reducible refine(A.o _ _ _).mono ?_
    rintro e w3 ⟨rfl,rfl⟩;go_wp2_with fail
    go_ret
    have M:Below w2 w2 (w2.alloc (.cells #[.string ⟨#[99,111,109,109,105,116]⟩,I 0,.iface et ex] 187)):=B0.alloc N0 _;refine .inr (.inr ⟨_,et,ex,Y,s,N,rfl,Whole.new _ _ _,p.o.below M,(HM.o.trans ⟨q.o.mono (λk _ u=>.inl u),λk u=>.inl u⟩).trans (Mv.below M),HR.o⟩)
theorem Qpu {v:Nat} {c:Pt} {X:XL} {s:Sp} {ab p:Nat} {F:List Nat} (a:∀z∈X,z.1.id≠s.id):(Dl v c (Yy X (s,⟨ab,p,F⟩))).Perm ((ab::F)++Dl v c X):=by
 have h1:(K6 (Yy X (s,⟨ab,p,F⟩))).Perm ((ab::F)++K6 X):=Qat (Rf a)
 refine (h1.append_left ([v,c.lb,c.mb,c.tb]++Xt c.lv)).trans ?_
 show (([v,c.lb,c.mb,c.tb]++Xt c.lv)++((ab::F)++K6 X)).Perm ((ab::F)++(([v,c.lb,c.mb,c.tb]++Xt c.lv)++K6 X))
 rw [←List.append_assoc,←List.append_assoc (ab::F)]
 exact List.perm_append_comm.append_right _
theorem VoIn.loaded{w j:World}{v:Nat}{c:Pt}{X:XL}{V:Vo}{id size u:Int}{T:Tree}{ab p:Nat}{F:List Nat}(h:VoIn w v c X V)(N:∀x∈X,x.1.id≠id)(a:Keep (λk=>k=c.mb\/k=c.tb) w j)(Q:LedIn j c.lb c.mb V.cap (J6 (Zq X) (⟨id,size,u⟩,ab)))(R:MapAt j c.tb (Td (Z7 X) id p))(M:TrAt j F p T)(r:T.Ok)(S:Chk T.flat)(t:w.heap.size<=ab)(W:∀k∈F,w.heap.size<=k)(y:ab∉F):
  VoIn j v c (Yy X (⟨id,size,u,T⟩,⟨ab,p,F⟩)) {V with l:=(Yy X (⟨id,size,u,T⟩,⟨ab,p,F⟩)).map (·.1)}:=by
 have i:=h.nd;have Y:∀k,stF c k->¬(k=c.mb\/k=c.tb):=λk q e=>by
  rcases e with rfl|rfl
  ·exact(h.far c.mb (by simp[Dl])).1 q
  ·exact(h.far c.tb (by simp[Dl])).1 q
 have b:∀k∈v::(Xt c.lv++K6 X),¬(k=c.mb\/k=c.tb):=λk a e=>by
  unfold Dl at i;simp only[QqP,QqF,QqJ,QuE]at i;obtain⟨⟨n1,n2,Z,n4,n5⟩,⟨n6,n7,n8,n9⟩,⟨A,z,H⟩,⟨K,L⟩,B⟩:=i;simp only[QqF,QqJ]at a;rcases e with rfl|rfl
  ·rcases a with e|a|a
   ·exact n2 e.symm
   ·exact z a
   ·exact H a
  ·rcases a with e|a|a
   ·exact Z e.symm
   ·exact K a
   ·exact L a
 have d:=Qpu (v:=v) (c:=c) (s:=(⟨id,size,u,T⟩:Sp)) (ab:=ab) (p:=p) (F:=F) N;have n:=h.lt;have h0:=h.laid.lt;have f:∀k∈ab::F,w.heap.size<=k:=λk a=>by
  rcases QqF.1 a with rfl|a
  ·exact t
  ·exact W k a
 refine⟨h.obj.keep a (b _ U),h.sto.keep a Y,by rw[Qoz];exact Q,by rw[Qz8];exact R,λx o=>?_,Qa h.lst a (λg hg=>b g ?_),rfl,?_,λk a=>?_,h.zero,a.cell h.laid (λe=>?_)⟩
 ·rcases Nv o with rfl|o
  ·exact⟨M,r,S⟩
  ·refine⟨TrAt.keep (h.tre x o).1 a (λk hf=>b k ?_),(h.tre x o).2⟩;simp only[QqF,QqJ];exact .inr (.inr (QqX.2 ⟨x,o,by simp[hf]⟩))
 ·simp only[QqF,QqJ];exact .inr (.inl (Uy.2 hg))
 ·rw[d.nodup_iff,QzP];refine⟨QqP.2 ⟨y,Qe4 M⟩,h.nd,λk a m hm e=>?_⟩;subst e;have:=n k (.inr hm);have:=f k a;omega
 ·have:=d.mem_iff.1 a;rcases QqJ.1 this with a|a
  ·have:=f k a;exact⟨λq=>by have:=n k (.inl q);omega,O⟩
  ·exact h.far k a
 ·rcases e with e|e
  ·exact(h.far c.mb (by simp[Dl])).2 e.symm
  ·exact(h.far c.tb (by simp[Dl])).2 e.symm
structure Zqc(n:Nand)(x:rt.Space)(s:Sp):Prop where
 sp:x=⟨s.id,s.size,Qxi s.tr,s.tr.high⟩
 lie:Lie (Yd n s.id) s.tr
 ok:s.tr.Ok
 chk:Chk s.tr.flat
 hold:Z8 n s.id s.size s.tr.flat=true
 used:s.used=Zql s.tr.flat
def K9(l:List Sp):Int:=(l.map (·.used)).sum
theorem Qij(w:World)(v:Nat)(c:Pt)(X:XL)(V:Vo)(x:rt.Space)(s:Sp)(b1 b2:Nat)(h:VoIn w v c X V)(h1:Whole w b1 24 #[(v,0)])(h2:Whole w b2 3 #[I x.id])(b:Zqc V.s.n x s)(d:∀a,(V.s.n.read a).2.size<=70368744177664):
  C 132 #[I x.top,I x.high,.func (.func 198) #[] #[(b1,0),(b2,0)]] w λe w'=>∃p F,e= .returned (.tuple #[(p,0),.nilIface])/\TrAt w' F p s.tr/\(∀k∈F,w.heap.size<=k)/\Below w w w':=by
 obtain rfl:=b.sp;exact Q82 (Q68 v c X V s.id b1 b2 d) w s.tr ⟨h,h1,h2⟩ b.lie b.ok b.chk
theorem Qp5{X:XL}{y:Sp×Bl}(h:∀z∈X,z.1.id<y.1.id):Yy X y=X++[y]:=by
 unfold Yy;rw[QjD.2 (λz hz=>by simpa using h z hz),QjX.2 (λz hz=>by have:=h z hz;simp;omega)]
theorem Qgw{b:ByteArray}{g:Int}{l:List rt.Space}(h:rt.Yf b=some (g,l)):rt.Bh g l=true:=by
 unfold rt.Yf at h;split at h
 ·cases h
 ·split at h
  ·cases h
  ·split at h
   ·cases h
   ·split at h
    ·rename_i a;rw[QzC]at a;injection h with h;injection h with h1 h2;rw[<-h1,<-h2];exact a.1
    ·cases h
theorem Q1g{l:List rt.Space}(c:rt.upB l=true){j:Nat}{x:rt.Space}(d:l[j]? =some x):∀y∈l.drop (j+1),x.id<y.id:=by
 intro y e;have h:=(rt.Qa4 l).1 c;have key:∀(k:Nat) (z:rt.Space),l[j+1+k]? =some z->x.id<z.id:=by
  intro k;induction k with
  |zero=>intro z hz;exact h j x z d hz
  |succ k ih=>
   intro z hz;obtain⟨u,a⟩:∃u,l[j+1+k]? =some u:=⟨_,QqC (by have:=(QqD.1 hz).1;omega)⟩;have h1:=ih u a;have h2:=h (j+1+k) u z a hz;omega
 obtain⟨k,b⟩:=List.mem_iff_getElem?.1 e;rw[QjY]at b;exact key k y b
theorem Qb8{α:Type}{g:α->α}:∀{A:List α},(∀y∈A,g y=y)->A.map g=A
 |[],_=>rfl
 |a::A,h=>by rw[QzE,h a U,Qb8 (λy b=>h y (by simp[b]))]
theorem Vf{L:LL}{y:Acc×Nat}(h:∀z∈L,z.1.id<y.1.id):J6 L y=L++[y]:=by
 unfold J6;rw[QjD.2 (λz hz=>by simpa using h z hz),QjX.2 (λz hz=>by have:=h z hz;simp;omega)]
theorem Qsk{L:LL}{id size n:Int}{ab:Nat}(b:∀y∈L,y.1.id<id):Y1 (J6 L (⟨id,size,0⟩,ab)) id (λa=>{a with used:=a.used+n})=J6 L (⟨id,size,n⟩,ab):=by
 rw[Vf (y:=(⟨id,size,0⟩,ab)) b,Vf (y:=(⟨id,size,n⟩,ab)) b];unfold Y1;rw[QqY,Qb8 (A:=L) (λy c=>QqE (by have:=b y c;omega))];simp
theorem Ql3{L:LL}{id size:Int}{ab:Nat}(a:∀y∈L,y.1.id<id):tot (Zd (J6 L (⟨id,size,0⟩,ab)))=tot (Zd L):=by
 rw[Vf (y:=(⟨id,size,0⟩,ab)) a];simp[tot,Zd]
theorem E9(X:XL):tot (Zd (Zq X))=K9 (X.map (·.1)):=by
 unfold tot Zd Zq K9;rw[QzR,QzR,QzR];rfl
theorem Qn5{L:LL}{id:Int}(h:∀y∈L,y.1.id≠id):Xx (key L) id=none:=by
 cases hf:Xx (key L) id with
 |none=>rfl
 |some p=>
  obtain⟨y,a,e,_⟩:=Qwr hf;exact absurd e (h y a)
theorem Qyq{X:XL}{P:Int->Prop}(h:∀x∈X,P x.1.id):∀y∈Zq X,P y.1.id:=λy a=>by
 obtain⟨x,b,rfl⟩:=QqS.1 a;exact h x b
theorem Qx0(W:World)(v:Nat)(c:Pt)(X:XL)(V:Vo)(x:rt.Space)(h:VoIn W v c X V)(b:rt.spB x=true)(d:∀z∈X,z.1.id<x.id)(f:X.length<8):
  C 70 #[(c.lb,0),I x.id,I x.size] W λe w'=>∃ab,e= .returned (I 0)/\W.heap.size<=ab/\LedIn w' c.lb c.mb V.cap (J6 (Zq X) (⟨x.id,x.size,0⟩,ab))/\Keep (λk=>k=c.mb) W w':=by
 obtain⟨q1,g,j,l,_⟩:=rt.Al b;have a:=Qyq (P:=λi=>i≠x.id) (λz hz=>by have:=d z hz;omega);exact Qqt W _ _ _ _ x.id x.size h.led ⟨q1,g⟩ a (Qn5 a) ⟨j,l⟩ (by simpa[Zq]using f)
theorem Qck{L:LL}{y:Acc×Nat}:y∈J6 L y:=by unfold J6;simp
theorem Qi8(W:World)(c:Pt)(X:XL)(cap:Int)(x:rt.Space)(ab:Nat)(n:Int)(h:LedIn W c.lb c.mb cap (J6 (Zq X) (⟨x.id,x.size,0⟩,ab)))(f:∀z∈X,z.1.id<x.id)(g:0<=n)(d:n<=cap-K9 (X.map (·.1))):
  C 106 #[(c.lb,0),I x.id,I n] W λe w'=>e= .returned (I 0)/\LedIn w' c.lb c.mb cap (J6 (Zq X) (⟨x.id,x.size,n⟩,ab))/\Keep (λk=>k=ab) W w':=by
 have b:∀y∈Zq X,y.1.id<x.id:=Qyq (P:=λi=>i<x.id) f;have q:=Mr W c.lb c.mb cap _ (⟨x.id,x.size,0⟩,ab) n h Qck g (by rw[Ql3 b,E9];exact d);refine q.mono ?_;rintro e w' ⟨rfl,q1,j⟩;refine⟨rfl,?_,j⟩;have l:Y1 (J6 (Zq X) (⟨x.id,x.size,0⟩,ab)) x.id (λa=>{a with used:=a.used+n})=J6 (Zq X) (⟨x.id,x.size,n⟩,ab):=Qsk b;rw[<-l];exact q1
end vo
namespace vo
open Go.RowKit Go.Maps er st tr nd pg
structure LdW(w:World)(v:Nat)(c:Pt)(b3:Nat)(fc:Array Value)(rv:Value)(l:List rt.Space)(V:Vo)(j:Nat)(X:XL)(wr:World):Prop where
 vo:VoIn wr v c X {V with l:=X.map (·.1)}
 row:wr.ownsRow (w.heap.size+1) 206 4 rv l.length (rt.Zz l)
 box:Whole wr b3 109 fc
 far:∀k,(k=b3\/rv.ownBlock=some k)->¬vF v c X k
 ord:∀x∈X,∀y∈l.drop j,x.1.id<y.id
 mv:Mv (vF v c []) w (vF v c X) wr
section
variable {w:World} {v:Nat} {c:Pt} {b3:Nat} {fc:Array Value} {rv:Value} {l:List rt.Space} {V:Vo} {j:Nat} {X:XL} {wr:World}
theorem LdW.lt(h:LdW w v c b3 fc rv l V j X wr):∀k,(k=b3\/rv.ownBlock=some k)->k<wr.heap.size:=by
 rintro k (rfl|a)
 ·exact h.box.lt
 ·exact(h.row.lt k a).2
theorem LdW.move{w':World}{Y:XL}{i:Nat}(h:LdW w v c b3 fc rv l V j X wr)(m:VoIn w' v c Y {V with l:=Y.map (·.1)})(a:Mv (vF v c X) wr (vF v c Y) w')(n:∀x∈Y,∀y∈l.drop i,x.1.id<y.id):LdW w v c b3 fc rv l V i Y w':=by
 have o:=h.lt;have b:=h.far;refine⟨m,Qa h.row a.keep (λg p=>b g (.inr p)),h.box.keep a.keep (b _ (.inl rfl)),λk f d=>?_,n,h.mv.trans a⟩;rcases a.sub k d with e|e
 ·exact b k f e
 ·have:=o k f;omega
theorem LdW.below{w':World}(h:LdW w v c b3 fc rv l V j X wr)(hb:Below wr wr w'):LdW w v c b3 fc rv l V j X w':=h.move (h.vo.below hb) (Mv.below hb) h.ord
end
structure Ldb(n:Nand)(cap:Int)(l:List rt.Space)(L:List Sp):Prop where
 len:l.length=L.length
 sp:∀(j:Nat) x s,l[j]? =some x->L[j]? =some s->Zqc n x s
 room:K9 L<=cap
 pos:∀s∈L,0<=s.used
def Qxo(w:World)(v:Nat)(c:Pt)(V:Vo)(f:Fnd)(g:Int)(L:List Sp)(e:Ending)(w':World):Prop:=
 ∃X lv P,e= .returned (.bool true)/\X.map (·.1)=L/\P.Perm (Yq X)/\VoIn w' v {c with lv:=lv} X {V with l:=L,gen:=g,root:=f.at_,last:=P}/\Mv (vF v c []) w (vF v {c with lv:=lv} X) w'
theorem Q87:∀{L:List Sp},(∀s∈L,0<=s.used)->∀{j:Nat} {s:Sp},L[j]? =some s->K9 (L.take j)+s.used<=K9 L
 |[],_,j,s,h=>by simp at h
 |a::L,h,0,s,c=>by
  obtain rfl:a=s:=by simpa using c
  have:0<=(L.map (·.used)).sum:=by
   have e:=λs (c:s∈L)=>h s (QzA _ c);clear h c;induction L with
   |nil=>simp
   |cons b L d=>
    have:=e b U;have:=d λs c=>e s (QzA _ c);simp only[QzE,QxX];omega
  simp only[K9,List.take_zero,QjE,List.sum_nil,QzE,QxX];omega
 |a::L,h,j+1,s,c=>by
  have d:=Q87 (L:=L) (λs c=>h s (QzA _ c)) (j:=j) (s:=s) (by simpa using c);simp only[K9,List.take_succ_cons,QzE,QxX]at d ⊢;omega
theorem LdW.add {w:World} {v:Nat} {c:Pt} {b3:Nat} {fc:Array Value} {rv:Value} {l:List rt.Space} {V:Vo} {j:Nat} {X:XL} {wr w':World} {x:rt.Space} {u:Int} {T:Tree} {ab p:Nat} {F:List Nat} (h:LdW w v c b3 fc rv l V j X wr) (f:rt.upB l=true) (n:l[j]? =some x) (g:∀z∈X,z.1.id < x.id) (a:Keep (fun k=>k=c.mb∨k=c.tb) wr w') (t:LedIn w' c.lb c.mb V.cap (J6 (Zq X) (⟨x.id,x.size,u⟩,ab))) (H:MapAt w' c.tb (Td (Z7 X) x.id p)) (K:TrAt w' F p T) (i:T.Ok) (L:Chk T.flat) (d:wr.heap.size≤ab) (o:∀k∈F,wr.heap.size≤k) (m:ab∉F):LdW w v c b3 fc rv l V (j+1) (X++[((⟨x.id,x.size,u,T⟩:Sp),(⟨ab,p,F⟩:Bl))]) w':=by
 have q:=h.vo.loaded (T:=T) (u:=u) (fun z hz=>by have:=g z hz;omega) a t H K i L d o m
 have M:Yy X ((⟨x.id,x.size,u,T⟩:Sp),(⟨ab,p,F⟩:Bl))=X++[((⟨x.id,x.size,u,T⟩:Sp),(⟨ab,p,F⟩:Bl))]:=Qp5 g
 have b:=Qpu (v:=v) (c:=c) (X:=X) (s:=(⟨x.id,x.size,u,T⟩:Sp)) (ab:=ab) (p:=p) (F:=F) (fun z hz=>by have:=g z hz;show z.1.id≠x.id;omega)
 rw [M] at q b
 refine h.move q ⟨a.mono (fun k _ e=>?_),fun k a=>?_⟩ (fun z hz y r=>?_)
 ·rcases e with rfl|rfl <;> exact .inr (by simp [Dl])
 ·rcases a with a|a
  ·exact .inl (.inl a)
  ·rcases List.mem_append.1 (b.mem_iff.1 a) with a|a
   ·rcases List.mem_cons.1 a with rfl|a
    ·exact .inr d
    ·exact .inr (o k a)
   ·exact .inl (.inr a)
 ·rcases List.mem_append.1 hz with hz|hz
  ·refine h.ord z hz y ?_
   rw [List.drop_eq_getElem_cons (List.getElem?_eq_some_iff.1 n).1]
   exact List.mem_cons_of_mem _ r
  ·simp only [List.mem_singleton] at hz
   subst hz
   exact Q1g f n y r
theorem Qu2(w:World)(v:Nat)(c:Pt)(V:Vo)(f:Fnd)(h:VoIn w v c [] V)(ht:∀a,(V.s.n.read a).2.size<=70368744177664)(hb:f.p.body.size<=1000000)(g:Int)(l:List rt.Space)(L:List Sp)(hd:rt.Yf f.p.body=some (g,l))(hL:Ldb V.s.n V.cap l L)(bf:∀s∈L,Small s.tr):
  C 63 #[.pointer (some ⟨v,0,none⟩),.agg #[I f.at_,I f.p.kind,I f.p.space,I f.p.key,I f.p.seq,.string f.p.body]] w (Qxo w v c V f g L):=by
 obtain⟨at_,⟨pk,ps,py,pq,pb⟩⟩:=f;simp only at hb hd ⊢;have ao:=h.lt;have aM:=h.laid.lt;have ae:Hid (∀W,C 125 #[.string pb] W (rt.Oi pb W)):=λW=>rt.Xj pb W O;unfold rt.Oi at ae;rw[hd]at ae;simp only at ae;obtain⟨g0,g1,bg,bh,bi⟩:=rt.Lx (Qgw hd);have⟨cb,cc,af,cd,H,HT⟩:=Q6 bh bi hL bf h ht;obtain⟨m,hm⟩:∃m,l.length=m:=⟨_,rfl⟩;rw[hm]at ae bg;have⟨HM,cV,H0⟩:=Q3 hm ao aM;have bj:Hid (∀W A d,W.ownsRow (w.alloc (.cells #[I at_,I pk,I ps,I py,I pq,.string pb] 109)).heap.size 206 4 (.slice A m d) m (rt.Zz l)->Below (w.alloc (.cells #[I at_,I pk,I ps,I py,I pq,.string pb] 109)).heap.size (w.alloc (.cells #[I at_,I pk,I ps,I py,I pq,.string pb] 109)) W->LdW w v c w.heap.size #[I at_,I pk,I ps,I py,I pq,.string pb] (.slice A m d) l V 0 [] W):=by
  intro W A d ho ag;have bl:=((QqA w.heap.size w).alloc (QqB _) (.cells #[I at_,I pk,I ps,I py,I pq,.string pb] 109)).trans (ag.mono U);have hv:=h.below bl;have bm:({V with l:=([]:XL).map (·.1)}:Vo)=V:=by
   have:=h.spl;obtain⟨_,_,l',_,_,_,_⟩:=V;simp only at this;rw[<-this]
  refine⟨by rw[bm];exact hv,?_,(Whole.new w _ _).below ag U,λk i aN=>?_,λx hx=>by simp at hx,⟨Keep.below bl,λk i=>.inl i⟩⟩
  ·rw[hm];simpa using ho
  ·have:=ao k aN;rcases i with rfl|i
   ·omega
   ·have:=(ho.lt k i).1;simp at this;omega
 clear h ht bf hd hL bh bi hm ao aM;go_enter Tryz.func63,Tryz.ntmps63
 go_wp2_with fail
 refine(ae.out _).mono ?_;rintro e w1 ⟨v1,rfl,aQ,ag⟩;obtain⟨A1,d1,rfl⟩:=Qk aQ;have ce:=Q7h (bj.out w1 A1 d1 aQ ag);clear aQ ag bj;go_wp2_with fail
 go_loopw [9,10,11,24] (λ_ _ _ iv wr=>∃(j:Nat) (X:XL),j<=m/\iv= I j/\Hid (X.length=j)/\Hid (X.map (·.1)=L.take j)/\Hid (LdW w v c w.heap.size #[I at_,I pk,I ps,I py,I pq,.string pb] (.slice A1 m d1) l V j X wr)) (λ_ _ _ iv _=>m-(intOf iv).toNat)
 case atStart=>exact⟨0,[],QqM _,rfl,rfl,rfl,ce.out⟩
 case round=>
  obtain⟨j,X,hj,rfl,HX,aR,o⟩:=hrel;by_cases ao:j<m
  ·have cW:(j:Int)<(m:Int):=O;have cX:(0:Int)<=(j:Int):=QkD _;obtain⟨x,hx⟩:∃x,l[j]? =some x:=⟨_,QqC (by have:=HM.out;omega)⟩;have cf:l.drop j=x::l.drop (j+1):=by
    rw[QkM (by have:=HM.out;omega)];congr 1;exact(QqD.1 hx).2
   obtain⟨s,hs⟩:∃s,L[j]? =some s:=⟨_,QqC (by have:=HM.out;have:=af.out.len;omega)⟩;have bn:=Q7h (af.out.sp j x s hx hs);have bo:rt.spB x=true:=cb.out x (QqL hx);have aS:∀z∈X,z.1.id<x.id:=λz hz=>o.out.ord z hz x (by rw[cf];simp);have bp:wr.ownsRow (w.heap.size+1) 206 4 (.slice A1 m d1) m (rt.Zz l):=by
    have:=o.out.row;rwa[HM.out]at this
   obtain⟨gi,rfl,_,_,_,u,_⟩:=Qx bp O;obtain⟨s0,s1,s2,s3⟩:=rt.Y7 l j x hx;have q0:wr.cell? ⟨gi,j*4,none⟩=some (I x.id):=by have:=u _ _ s0;simpa using this
   have q1:wr.cell? ⟨gi,j*4+1,none⟩=some (I x.size):=by have:=u _ _ s1;simpa using this
   have q2:wr.cell? ⟨gi,j*4+2,none⟩=some (I x.top):=by have:=u _ _ s2;simpa using this
   have q3:wr.cell? ⟨gi,j*4+3,none⟩=some (I x.high):=by have:=u _ _ s3;simpa using this
   obtain⟨b,cg⟩:∃q,wr.heap.size=q:=⟨_,rfl⟩;obtain⟨B,bq⟩:∃B,wr.alloc (.cells #[I x.id,I x.size,I x.top,I x.high] 206)=B:=⟨_,rfl⟩;have br:Below wr.heap.size wr B:=by rw[<-bq];exact(QqA _ _).alloc (QqB _) _
   have bs:=Q7h (o.out.below br);have aa:Whole B b 206 #[I x.id,I x.size,I x.top,I x.high]:=by rw[<-bq];exact Whole.new' _ _ _ _ cg
   have⟨ah,aT⟩:=Q2 aa br;have aV:=aa.cell 0;have bu:=aa.cell 1;have aW:=aa.cell 2;have aX:=aa.cell 3;simp at aV bu aW aX;have HK:Hid (∀W,Below B.heap.size B W->W.cell? ⟨b,0,none⟩=some (I x.id)/\W.cell? ⟨b,2,none⟩=some (I x.top)/\W.cell? ⟨b,3,none⟩=some (I x.high)):=λW hb=>⟨Qq hb aV,Qq hb aW,Qq hb aX⟩;have bv:Hid (∀W,Below B.heap.size B W->C 133 #[.pointer (some ⟨v,0,none⟩),I x.id] W λe w'=>∃b1 b2,e= .returned (.func (.func 198) #[] #[.pointer (some ⟨b1,0,none⟩),.pointer (some ⟨b2,0,none⟩)])/\Below B.heap.size B w'/\C 132 #[I x.top,I x.high,.func (.func 198) #[] #[.pointer (some ⟨b1,0,none⟩),.pointer (some ⟨b2,0,none⟩)]] w' λe w3=>∃p F,e= .returned (.tuple #[.pointer (some ⟨p,0,none⟩),.nilIface])/\TrAt w3 F p s.tr/\(∀k∈F,B.heap.size<=k)/\Below B.heap.size B w3):=by
    intro W ac;refine(Qgg W v x.id).mono ?_;rintro e w' ⟨rfl,o1,o2,M⟩;have ai:=ac.trans (M.mono ac.size);have aN:=(bs.out.below ai).vo;refine⟨_,_,rfl,ai,(Qij w' v c X _ x s _ _ aN o1 o2 bn.out HT.out).mono ?_⟩;rintro e w3 ⟨p,F,rfl,k2,k3,k4⟩;exact⟨p,F,rfl,k2,λk i=>QqR ai.size (k3 k i),ai.trans (k4.mono ai.size)⟩
   obtain⟨aK,-,ap,hc,aq,aY⟩:=bn.out;have aj:x.id=s.id/\x.size=s.size:=by rw[aK];exact⟨rfl,rfl⟩
   obtain⟨T,hT⟩:∃T,s.tr=T:=⟨_,rfl⟩;have bx:s=⟨x.id,x.size,s.used,T⟩:=by rw[aj.1,aj.2,<-hT]
   rw[hT]at ap hc aq aY bv;rw[<-aj.1,<-aj.2]at aq;have⟨ch,HS⟩:=Q2 bx hs;clear bu aa q0 q1 q2 q3 aK aj hT bx hs;go_wp2_with fail
   go_region_held3 (λw'=>w'.cell? ⟨b,0,none⟩=some (I x.id)/\w'.cell? ⟨b,2,none⟩=some (I x.top)/\w'.cell? ⟨b,3,none⟩=some (I x.high)) (first|with_reducible exact HK.out _ N.out|with_reducible exact HK.out _ ci.out|with_reducible exact HK.out _ (QqA _ _)|with_reducible exact HK.out _ (QqA _ _).drew) (first|(go_at_call 133;refine(bv.out _ (QqA _ _).drew).mono ?_;rintro e w4 ⟨b1,b2,rfl,K,bz⟩;have⟨ci,cj⟩:=Q2 K bz;clear K bz)|(go_at_call 132;refine cj.out.mono ?_;rintro e w3 ⟨p,F,rfl,bF,bH,bK⟩;have⟨N,aZ,ar⟩:=Q3 bK bF bH;clear bK bF bH))
   have bL:=Q7h (bs.out.below N.out);have ak:=ah.out.below N.out ah.out.lt;have e0:w3.cell? ⟨b,0,none⟩=some (I x.id):=ak.cell 0;have e1:w3.cell? ⟨b,1,none⟩=some (I x.size):=ak.cell 1;have e2:w3.cell? ⟨b,2,none⟩=some (I x.top):=ak.cell 2;have e3:w3.cell? ⟨b,3,none⟩=some (I x.high):=ak.cell 3;obtain⟨y1,y2,y3,y4,y5,y6,_,_⟩:=rt.Al bo;have bM:Hid (C 134 #[.pointer (some ⟨v,0,none⟩),.agg #[I x.id,I x.size,I x.top,I x.high],.pointer (some ⟨p,0,none⟩)] w3 λe w'=>e= .returned (.bool (Z8 V.s.n x.id x.size T.flat))/\Below w3.heap.size w3 w'):=by
    have q:=Qkt w3 v c X _ x.id x.size x.top x.high F p T bL.out.vo aZ.out ap hc (by unfold vo.I64;omega) HT.out;exact q
   clear ak;obtain⟨S,hS⟩:∃S,Zql T.flat=S:=⟨_,rfl⟩;rw[aq]at bM;have bN:s.used=S:=by rw[aY,hS]
   have ck:S<=V.cap-K9 (X.map (·.1)):=by
    have h1:=Q87 af.out.pos HS.out;have h2:=af.out.room;rw[aR.out];omega
   have cl:Hid (X.map (·.1)++[⟨x.id,x.size,S,T⟩]=L.take (j+1)):=by
    show _=_;rw[QzW,HS.out,aR.out,<-bN,<-ch.out];rfl
   clear aq aY bN;go_wp2_with fail
   with_reducible refine bM.out.mono ?_
   rintro e w4 ⟨rfl,K⟩;have⟨bQ,au⟩:=Q2 K (bL.out.below K);have aA:=aZ.out.keep (Keep.below (F:=λ_=>False) K) (λ_ _ h=>h);have aB:=(ah.out.below N.out ah.out.lt).below K (by have:=N.out.size;have:=ah.out.lt;omega);have a0:w4.cell? ⟨b,0,none⟩=some (I x.id):=aB.cell 0;have a4:w4.cell? ⟨b,1,none⟩=some (I x.size):=aB.cell 1;have a5:w4.cell? ⟨v,1,none⟩=some (.pointer (some ⟨c.lb,0,none⟩)):=au.out.vo.obj.cell 1;have cS:c.mb<wr.heap.size:=o.out.vo.led.map.lt;have cT:c.tb<wr.heap.size:=o.out.vo.trs.lt;have a6:c.mb≠v:=o.out.vo.vne _ U;have cm:c.tb≠v:=o.out.vo.vne _ U;have bR:c.mb≠c.tb:=by
    have:=o.out.vo.nd;unfold Dl at this;simp only[QqP,QqF,QqJ,QuE]at this;exact this.2.2.1.1
   have cY:=aT.out.size;have cZ:=N.out.size;have cA:=K.size;have bS:Hid (∀W,Below w4.heap.size w4 W->W.cell? ⟨v,1,none⟩=some (.pointer (some ⟨c.lb,0,none⟩))/\W.cell? ⟨b,0,none⟩=some (I x.id)/\W.cell? ⟨b,1,none⟩=some (I x.size)):=λW hb=>⟨Qq hb a5,Qq hb a0,Qq hb a4⟩;have h8:X.length<8:=by have:=HX.out;omega
   have cB:=Ch hc;have cn:Hid (∀W,Below w4.heap.size w4 W->C 70 #[.pointer (some ⟨c.lb,0,none⟩),I x.id,I x.size] W λe t=>∃ab:Nat,e= .returned (I 0)/\(t.cell? ⟨v,1,none⟩=some (.pointer (some ⟨c.lb,0,none⟩))/\t.cell? ⟨b,0,none⟩=some (I x.id)/\t.cell? ⟨b,1,none⟩=some (I x.size))/\(∀W',Below t.heap.size t W'->C 107 #[.pointer (some ⟨p,0,none⟩)] W' λe w6=>e= .returned (I S)/\(w6.cell? ⟨v,1,none⟩=some (.pointer (some ⟨c.lb,0,none⟩))/\w6.cell? ⟨b,0,none⟩=some (I x.id)/\w6.cell? ⟨b,1,none⟩=some (I x.size))/\Below t.heap.size t w6)/\(∀W',Below t.heap.size t W'->C 106 #[.pointer (some ⟨c.lb,0,none⟩),I x.id,I S] W' λe r=>e= .returned (I 0)/\(r.cell? ⟨v,1,none⟩=some (.pointer (some ⟨c.lb,0,none⟩))/\r.cell? ⟨b,0,none⟩=some (I x.id)/\r.cell? ⟨b,1,none⟩=some (I x.size))/\w4.heap.size<=ab/\LedIn r c.lb c.mb V.cap (J6 (Zq X) (⟨x.id,x.size,S⟩,ab))/\Keep (λk=>k=c.mb) w4 r/\TrAt r F p T)):=by
    intro W ac;refine(Qx0 W v c X _ x (au.out.below ac).vo bo aS h8).mono ?_;rintro e t ⟨ab,rfl,c0,co,cp⟩;have Q:Keep (λk=>k=c.mb) w4 t:=(Keep.below (F:=λk=>k=c.mb) ac).trans cp (λk e=>.inl e);have av:t.cell? ⟨v,1,none⟩=some (.pointer (some ⟨c.lb,0,none⟩))/\t.cell? ⟨b,0,none⟩=some (I x.id)/\t.cell? ⟨b,1,none⟩=some (I x.size):=⟨Q.cell a5 (λe=>a6 e.symm),Q.cell a0 (by show b≠c.mb;omega),Q.cell a4 (by show b≠c.mb;omega)⟩;have c1:=ac.size;refine⟨ab,rfl,av,λW' M=>?_,λW' M=>?_⟩
    ·have cq:=aA.keep Q (λk i e=>by have:=ar.out k i;omega);refine(I1 W' F p T (cq.keep (Keep.below (F:=λ_=>False) M) (λ_ _ h=>h)) ap hc).mono ?_;rintro e w6 ⟨rfl,aw⟩;have Y:=M.trans (aw.mono M.size);rw[<-hS];exact⟨rfl,⟨Qq Y av.1,Qq Y av.2.1,Qq Y av.2.2⟩,Y⟩
    ·refine(Qi8 W' c X V.cap x ab S (co.below M) aS O ck).mono ?_;rintro e r ⟨rfl,ax,ay⟩;have al:Keep (λk=>k=c.mb) w4 r:=(Q.transBelow M).trans ay (λk e=>.inr O);exact⟨rfl,⟨al.cell a5 (λe=>a6 e.symm),al.cell a0 (by show b≠c.mb;omega),al.cell a4 (by show b≠c.mb;omega)⟩,O,ax,al,aA.keep al (λk i e=>by have:=ar.out k i;omega)⟩

   clear aB aA K e0 e1 e2 e3 aV aW aX;go_wp2_with fail
   go_region_held3 (λw'=>w'.cell? ⟨v,1,none⟩=some (.pointer (some ⟨c.lb,0,none⟩))/\w'.cell? ⟨b,0,none⟩=some (I x.id)/\w'.cell? ⟨b,1,none⟩=some (I x.size)) (first|with_reducible exact bT.out|with_reducible exact cr.out|with_reducible exact cs.out|with_reducible exact bS.out _ (QqA _ _)|with_reducible exact bS.out _ (QqA _ _).drew) (first|(go_at_call 70;refine(cn.out _ (QqA _ _).drew).mono ?_;rintro e t ⟨ab,rfl,bV,bW,bX⟩;have⟨cs,ct,cu⟩:=Q3 bV bW bX;clear bV bW bX)|(go_at_call 107;refine(ct.out _ (QqA _ _)).mono ?_;rintro e w6 ⟨rfl,bY,aw⟩;have⟨cr,cv⟩:=Q2 bY aw;clear bY aw)|(go_at_call 106;refine(cu.out _ cv.out).mono ?_;rintro e r ⟨rfl,bZ,aL,ax,ay,am⟩;have⟨bT,an,cw,a7,cx⟩:=Q5 bZ aL ax ay am;clear bZ aL ax ay am))

   have cy:r.cell? ⟨v,2,none⟩=some (.map (some c.tb)):=a7.out.cell (au.out.vo.obj.cell 2) (λe=>a6 e.symm);have cz:r.cell? ⟨b,0,none⟩=some (I x.id):=bT.out.2.1;have am:MapAt r c.tb (Z7 X):=au.out.vo.trs.keep a7.out (λe=>bR e.symm);have bA:(Z7 X).length<=1000000:=by simp[Z7];omega
   have bB:I64 x.id:=by unfold vo.I64;omega
   obtain⟨w8,c2,b3,ad,cF⟩:=(am.below ((QqA r.heap.size r).drew)).store Tryz.underlying113 bA bB p;have Z:Hid (∀W,Below r.heap.size r W->W.cell? ⟨v,2,none⟩=some (.map (some c.tb))/\W.cell? ⟨b,0,none⟩=some (I x.id)):=λW hb=>⟨Qq hb cy,Qq hb cz⟩;have cH:Hid (w8.cell? ⟨v,2,none⟩=some (.map (some c.tb))/\w8.cell? ⟨b,0,none⟩=some (I x.id)):=⟨ad.cell (show r.drew.cell? ⟨v,2,none⟩=_ from(Z.out _ (QqA _ _).drew).1) (λe=>cm e.symm),ad.cell (Z.out _ (QqA _ _).drew).2 (by show b≠c.tb;omega)⟩;have cK:Hid (LdW w v c w.heap.size #[I at_,I pk,I ps,I py,I pq,.string pb] (.slice (some ⟨gi,0,none⟩) m d1) l V (j+1) (X++[((⟨x.id,x.size,S,T⟩:Sp),(⟨ab,p,F⟩:Bl))]) w8):=by
    have b4:Keep (λk=>k=c.mb\/k=c.tb) wr w8:=((((Keep.below (F:=λk=>k=c.mb\/k=c.tb) (aT.out.trans ((N.out.trans (bQ.out.mono N.out.size)).mono aT.out.size))).trans (a7.out.mono (G:=λk=>k=c.mb\/k=c.tb) (λk _ e=>.inl e)) (λk e=>.inl e))).transBelow ((QqA r.heap.size r).drew)).trans ad (λk e=>.inl (.inr e));refine o.out.add cc.out hx aS b4 ?_ b3 (TrAt.keep (TrAt.keep cx.out (Keep.below (F:=λ_=>False) ((QqA r.heap.size r).drew)) (λ_ _ h=>h)) ad (λk i e=>by have:=ar.out k i;omega)) ap hc (by have:=an.out;omega) (λk i=>by have:=ar.out k i;omega) (λi=>by have:=aZ.out.lt ab i;have:=an.out;omega);refine(cw.out.below ((QqA r.heap.size r).drew)).keep ad (λk i e=>?_);subst e;rcases i with e|e|⟨y,hy,e⟩
    ·have R:=o.out.vo.nd;unfold Dl at R;simp only[QqP,QqF,QqJ,QuE]at R;exact R.2.1.2.1 e.symm
    ·exact bR e.symm
    ·rcases Ep hy with rfl|hy
     ·have e':ab=c.tb:=e;have:=an.out;omega
     ·obtain⟨z,hz,rfl⟩:=QqS.1 hy;have R:=o.out.vo.nd;unfold Dl at R;simp only[QqP,QqF,QqJ,QuE]at R;refine R.2.2.2.1.2 (QqX.2 ⟨z,hz,?_⟩);have e':z.2.a=c.tb:=e;simp[e']
   clear am b3 ad cF bA;go_wp2_with fail
   go_region_held3 (λw'=>w'.cell? ⟨v,2,none⟩=some (.map (some c.tb))/\w'.cell? ⟨b,0,none⟩=some (I x.id)) (first|with_reducible exact cH.out|with_reducible exact Z.out _ (QqA _ _)|with_reducible exact Z.out _ (QqA _ _).drew) (fail)
   go_wp2_with fail
   have a8:m-(intOf (I ((j:Int)+1))).toNat<m-(intOf (I (j:Int))).toNat:=by simp[intOf];omega
   refine⟨⟨j+1,X++[((⟨x.id,x.size,S,T⟩:Sp),(⟨ab,p,F⟩:Bl))],O,by go_num,?_,?_,?_⟩,a8⟩
   ·show _=_;rw[QqK,HX.out];rfl
   ·rw[QqY];exact cl.out
   ·with_reducible exact cK
  ·obtain rfl:j=m:=O;have b0:wr.cell? ⟨w.heap.size,0,none⟩=some (I at_):=o.out.box.cell 0;have v3:=o.out.vo.obj.cell 3;have v4:=o.out.vo.obj.cell 4;have f3:=o.out.vo.obj.fz 3;have f4:=o.out.vo.obj.fz 4;simp[Qe]at v3 v4;go_wp2_with fail
   have c3:l.drop j=[]:=List.drop_eq_nil_of_le (by have:=HM.out;omega);have b5:X.map (·.1)=L:=by rw[aR.out];exact QkT (by have:=HM.out;have:=af.out.len;omega)
   have cL:Hid (Ej X):=⟨by rw[HX.out];exact bg,λx hx=>cd.out x.1 (by rw[<-b5];exact QqS.2 ⟨x,hx,rfl⟩)⟩;have a9:Keep (λk=>k=v) wr ((wr.setCell ⟨v,3,none⟩ (I g)).setCell ⟨v,4,none⟩ (I at_)).drew:=((Keep.set1 wr v 3 _).setCell (.inl rfl) _).drew;have cM:=Q7h a9;have ba:Hid (VoIn ((wr.setCell ⟨v,3,none⟩ (I g)).setCell ⟨v,4,none⟩ (I at_)).drew v c X ({V with l:=X.map (λy:Sp×Bl=>y.1),gen:=g,root:=at_}:Vo)):=o.out.vo.setV a9 (show Whole ((wr.setCell ⟨v,3,none⟩ (I g)).setCell ⟨v,4,none⟩ (I at_)) v _ _ by simpa[Qe]using(o.out.vo.obj.set 3 (I g)).set 4 (I at_)) rfl rfl rfl rfl;have cN:=Q7h (Oa _ v c X _ ba.out cL.out);clear a9;go_region
   go_wp2_with fail
   refine cN.out.mono ?_;rintro e t ⟨v',L,rfl,b6,bb,bc⟩;have⟨cQ,b7,cR,az⟩:=Q4 b6 bb bc (ba.out.below bc);have f5:=az.out.obj.fz 5;have c5:=az.out.obj.cell 5;simp[Qe]at c5;obtain⟨A5,d5,rfl⟩:=Qk bb;clear b6 bb bc v3 v4 f3 f4 b0;go_wp2_with fail
   go_ret
   subst b5;have be:Keep (λk=>k=v) t (t.setCell ⟨v,5,none⟩ (.slice A5 L.length d5)):=Keep.set1 t v 5 _;have b8:((wr.setCell ⟨v,3,none⟩ (I g)).setCell ⟨v,4,none⟩ (I at_)).drew.heap.size=wr.heap.size:=by show((wr.setCell ⟨v,3,none⟩ (I g)).setCell ⟨v,4,none⟩ (I at_)).heap.size=_;simp only[World.size_setCell]
   have aF:∀q,(Value.slice A5 L.length d5).ownBlock=some q->wr.heap.size<=q/\¬vF v c X q:=λq hq=>by
    have h1:=(b7.out.lt q hq).1;have h2:=ba.out.lt;rw[b8]at h1;exact⟨h1,λhv=>by have:=h2 q hv;rw[b8]at this;omega⟩
   have c4:v<wr.heap.size:=o.out.vo.obj.lt;have c6:w.heap.size<=wr.heap.size:=o.out.mv.keep.size;have aM:=H0.out;have ca:vF v c X v:= .inr (by simp[Dl]);refine⟨X,.slice A5 L.length d5,L,rfl,rfl,cQ.out,az.out.relast be (by simpa[Qe]using az.out.obj.set 5 (.slice A5 L.length d5)) rfl rfl rfl (Qa (Qr b7.out (QqM _)) be (λq hq e=>by have:=(aF q hq).1;omega)) (λq hq=>⟨(aF q hq).2,by have:=(aF q hq).1;omega⟩),?_⟩;have aH:Mv (vF v c []) w (vF v c X) t:=⟨(o.out.mv.keep.trans cM.out (λk i=>o.out.mv.sub k (by subst i;exact ca))).transBelow cR.out,o.out.mv.sub⟩;refine⟨aH.keep.trans be (λk i=>aH.sub k (by subst i;exact ca)),λk i=>?_⟩;rcases i with i|i
   ·exact aH.sub k (.inl i)
   ·rcases Dt i with i|i
    ·exact aH.sub k (.inr i)
    ·exact .inr (by have:=(aF k i).1;omega)
end vo
namespace vo
open Go.RowKit Go.Maps er st tr nd pg ge
theorem Qa0(w:World)(q p:Nat)(sv vv:Value)(N:Nat->Prop)(s:Sto)(h:StoIn w q p sv vv N s)(g:LaidT w)(k:s.n.down=false)(i:∀a,(s.n.read a).2.size<=70368744177664):
  C 60 #[(q,0)] w λe w'=>∃A c,e= .returned (.tuple #[.slice A (Ql s.n (s.n.blocks*s.n.per)).length c,.nilIface])/\w'.ownsRow w.heap.size 109 6 (.slice A (Ql s.n (s.n.blocks*s.n.per)).length c) (Ql s.n (s.n.blocks*s.n.per)).length (Qv (Ql s.n (s.n.blocks*s.n.per)))/\Below w w w':=by
 have⟨H,l,m⟩:=Q3 h g i;have c0:=h.cells.c0;have hq:=Qhy q;clear h g i;go_in
 go_wp2_with fail
 refine(Qoy _ _ _ _ H.o.arr).mono ?_;rw[k];rintro e w1 ⟨rfl,rfl⟩;go_wp2_with fail
 refine(Qy4 _ _ _ _ _ _ _ H.o l.o m.o).mono ?_;rintro e w1 ⟨A,c,rfl,j,hb⟩;have⟨r,t⟩:=Q2 j hb;obtain⟨n,b⟩:=Zx ((Ql s.n (s.n.blocks*s.n.per)).length);have f:=Q7h b;rw[b];clear j hb b;go_wp2_with fail
 obtain rfl:=f.o;obtain⟨n,b⟩:=Zx ((Ql s.n (s.n.blocks*s.n.per)).length);have d:=r.o;rw[b]at d ⊢;go_returns;exact⟨A,c,rfl,d,t.o⟩
def Ll(s:Sto):Vo:={s:=s,cap:=Ye s.n.blocks s.n.per,l:=[],gen:=0,root:= -1,last:=[],sure:=true}
def Q80(s:Sto)(f:Fnd)(g:Int)(L:List Sp):Prop:=∃ls,rt.Yf f.p.body=some (g,ls)/\Ldb s.n (Ye s.n.blocks s.n.per) ls L
def Q5k(s:Sto)(G:Fnd->Int)(S:Fnd->List Sp)(l:List Fnd)(X:XL)(V:Vo):Prop:=
 (∃(f:Fnd) (P:List Int),l.head? =some f/\X.map (·.1)=S f/\P.Perm (Yq X)/\V=Vo.kept {Ll s with l:=S f,gen:=G f,root:=f.at_,last:=P} X)\/
 (l=[]/\X=[]/\V=Ll s)
def Qlm(G:Fnd->Int)(S:Fnd->List Sp)(w:World)(p:Nat)(N:Nat->Prop)(n:Nand)(e:Ending)(w':World):Prop:=
 ∃v c X V l,e= .returned (.tuple #[(v,0),.nilIface])/\c.p=p/\VoIn w' v c X V/\l.Perm (rt.Y9 (Ql n (n.blocks*n.per)))/\l.Pairwise rt.newer/\Q5k (Ju n) G S l X V/\Mv N w (vF v c X) w'
structure OpW(w:World)(N:Nat->Prop)(q p:Nat)(sv vv:Value)(s:Sto)(rv:Value)(l:List Fnd)(wr:World):Prop where
 sto:StoIn wr q p sv vv N s
 laid:LaidT wr
 row:wr.ownsRow w.heap.size 109 6 rv l.length (Qv l)
 far:∀g,rv.ownBlock=some g->¬foot q sv vv N g
 new:∀k,foot q sv vv (λ_=>False) k->w.heap.size<=k
 zero:¬foot q sv vv N 0
 keep:Keep N w wr
section
variable {w:World} {N:Nat→Prop} {q p:Nat} {sv vv:Value} {s:Sto} {rv:Value} {l:List Fnd} {wr:World}
theorem OpW.sub(h:OpW w N q p sv vv s rv l wr):∀k,foot q sv vv N k->N k\/w.heap.size<=k:=by
 rintro k (a|a|a|a)
 ·exact .inr (h.new k (.inl a))
 ·exact .inr (h.new k (.inr (.inl a)))
 ·exact .inr (h.new k (.inr (.inr (.inl a))))
 ·exact .inl a
theorem OpW.below{w':World}(h:OpW w N q p sv vv s rv l wr)(hb:Below wr wr w'):OpW w N q p sv vv s rv l w':=
 ⟨h.sto.below hb,(Keep.below (F:=λ_=>False) hb).cell h.laid (λh=>h),own_below h.row hb,h.far,h.new,h.zero,h.keep.transBelow hb⟩
end
theorem Qda{w wr w1:World}{N:Nat->Prop}{q p:Nat}{sv vv:Value}{s:Sto}{rv:Value}{l:List Fnd}{v:Nat}{c:Pt}(h:OpW w N q p sv vv s rv l wr)(hb:Below wr wr w1)(b:c.q=q)(d:c.sv=sv)(e:c.vv=vv)(f:c.N=N)(g:∀k∈Dl v c [],wr.heap.size<=k):Mv N w (vF v c []) w1:=by
 subst b d e f;have i:=h.keep.size;refine⟨h.keep.transBelow hb,λk a=>?_⟩;rcases a with a|a
 ·exact h.sub k a
 ·exact .inr (by have:=g k a;omega)
theorem Qbp(X:XL):Yq X=(X.map (·.1)).flatMap λs=>Ik s.tr:=by unfold Yq;rw[QjB]
theorem Rl(G:Fnd->Int)(S:Fnd->List Sp)(w:World)(N:Nat->Prop)(p:Nat)(n:Nand)(h:NandAt w N p n)(hd:n.down=false)(hl:LaidT w)(h0:¬N 0)(h1:16<=n.blocks/\n.blocks<=64)(h2:8<=n.per/\n.per<=32)(ht:∀a,(n.read a).2.size<=70368744177664)(y:(Ql n (n.blocks*n.per)).length<=2048)(Z:∀f∈Ql n (n.blocks*n.per),f.p.body.size<=1000000)(z:rt.Na (rt.Y9 (Ql n (n.blocks*n.per))))
  (ah:∀l:List Fnd,l.Perm (rt.Y9 (Ql n (n.blocks*n.per)))->l.Pairwise rt.newer->∀f,l.head? =some f->Q80 (Ju n) f (G f) (S f)/\(∀s∈S f,Small s.tr)/\((S f).flatMap λs=>Ik s.tr).length<=100000):
  C 14 #[(p,0)] w (Qlm G S w p N n):=by
 have ai:=Q7h (Qdd w N p n h hd hl ht);have aX:=hl.lt;have HH:Hid (∀q sv vv w1,StoIn w1 q p sv vv N (Ju n)->Below w w w1->(∀k,foot q sv vv (λ_=>False) k->w.heap.size<=k)->C 60 #[(q,0)] w1 λe w2=>∃A c,e= .returned (.tuple #[.slice A (Ql n (n.blocks*n.per)).length c,.nilIface])/\C 61 #[.slice A (Ql n (n.blocks*n.per)).length c] w2 λe w3=>∃B k d l',e= .returned (.slice B k d)/\k=l'.length/\k<=2048/\l'.Perm (rt.Y9 (Ql n (n.blocks*n.per)))/\l'.Pairwise rt.newer/\OpW w N q p sv vv (Ju n) (.slice B k d) l' w3):=by
  intro q sv vv w1 t j i;have aY:=(Keep.below (F:=λ_=>False) j).cell hl (λh=>h);refine(Qa0 w1 q p sv vv N (Ju n) t aY hd ht).mono ?_;rintro e w2 ⟨A,c,rfl,aZ,aa⟩;refine⟨A,c,rfl,(rt.Qku (Ql n (n.blocks*n.per)) _ w2 _ aZ y Z z).mono ?_⟩;rintro e w3 ⟨v',l',rfl,k1,k2,k3,k4⟩;obtain⟨B,d,rfl⟩:=Qk k3;have V:=aa.trans (k4.mono aa.size);have aj:=j.trans (V.mono j.size);have bj:=aa.size;have bl:=j.size;refine⟨B,_,d,l',rfl,rfl,?_,k1,k2,t.below V,(Keep.below (F:=λ_=>False) aj).cell hl (λh=>h),Qr k3 O,λg hg m=>?_,i,λm=>?_,Keep.below aj⟩
  ·rw[k1.length_eq];exact QqR (QkE _ _) y
  ·have:=t.lt g m;have:=(k3.lt g hg).1;omega
  ·rcases m with m|m|m|m
   ·have:=i 0 (.inl m);omega
   ·have:=i 0 (.inr (.inl m));omega
   ·have:=i 0 (.inr (.inr (.inl m)));omega
   ·exact h0 m
 have⟨aA,HT,aB,ak,al⟩:=Q5 ah ht Z h1 h2;clear h hd hl h0 h1 h2 ht y Z z ah aX;obtain⟨sl,am⟩:=Zx ((Ql n (n.blocks*n.per)).length);rw[am]at HH;clear am;go_in
 go_wp2_with fail
 refine ai.o.mono ?_;rintro e w1 ⟨q,sv,vv,rfl,t,j,i⟩;have an:=Q7h (HH.o q sv vv w1 t j i);clear t j i HH ai;go_wp2_with fail
 refine an.o.mono ?_;rintro e w2 ⟨A,c2,rfl,ao⟩;have ap:=Q7h ao;clear ao an;go_wp2_with fail
 refine ap.o.mono ?_;rintro e w3 ⟨B,k,d,l',rfl,aq,bm,ar,au,av⟩;have⟨ab,Q,ac,a0⟩:=Q4 aq ar au av;clear aq ar au av ap;go_wp2_with fail
 go_loopw [8,9,31] (λ_ _ iv wr=>iv= I 0/\Hid (OpW w N q p sv vv (Ju n) (.slice B k d) l' wr)) (λ_ _ _ _=>0)
 case atStart=>exact⟨rfl,a0.o⟩
 case round=>
  obtain⟨rfl,HW⟩:=hrel;by_cases bn:0<k
  ·obtain⟨f,m⟩:∃f,l'[0]? =some f:=⟨_,QqC (by have:=ab.o;omega)⟩;have a4:=Q.o.mem_iff.1 (QqL m);have a5:=aB.o f (QzZ.1 a4).1;have a6:=Q7h (aA.o l' Q.o ac.o f (by rw[List.head?_eq_getElem?];exact m));obtain⟨⟨ls,aw,ax⟩,H,W⟩:=a6.o;generalize ay:G f=g at *;generalize az:S f=L at *;have ad:=Q7h (⟨ay,az⟩:_/\_);clear ay az;have Y:wr.ownsRow w.heap.size 109 6 (.slice B k d) k (Qv l'):=by
    have:=HW.o.row;rwa[<-ab.o]at this
   obtain⟨gi,rfl,_,_,_,b,_⟩:=Qx Y O;obtain⟨s0,s1,s2,s3,s4,s5⟩:=Y4 l' 0 f m;have q0:wr.cell? (gi,0)=some (I f.at_):=by have:=b _ _ s0;simpa using this
   have q1:wr.cell? (gi,1)=some (I f.p.kind):=by have:=b _ _ s1;simpa using this
   have q2:wr.cell? (gi,2)=some (I f.p.space):=by have:=b _ _ s2;simpa using this
   have q3:wr.cell? (gi,3)=some (I f.p.key):=by have:=b _ _ s3;simpa using this
   have q4:wr.cell? (gi,4)=some (I f.p.seq):=by have:=b _ _ s4;simpa using this
   have q5:wr.cell? (gi,5)=some (.string f.p.body):=by have:=b _ _ s5;simpa using this
   clear Y b s0 s1 s2 s3 s4 s5;obtain⟨W1,aF⟩:=Zx (wr.alloc (.cells #[I f.at_,I f.p.kind,I f.p.space,I f.p.key,I f.p.seq,.string f.p.body] 109));obtain⟨b8,a7⟩:=Zx wr.heap.size;have j:Below wr wr W1:=by rw[<-aF];exact B0.alloc N0 _
   have aH:Whole W1 b8 109 #[I f.at_,I f.p.kind,I f.p.space,I f.p.key,I f.p.seq,.string f.p.body]:=by rw[<-aF];exact Whole.new' _ _ _ _ a7
   have⟨aK,R⟩:=Q2 aH (HW.o.below j);have ae:=Q7h (Ra W1 q p sv vv N (Ju n) R.o.sto ak.o al.o R.o.laid R.o.zero);clear aH j;go_wp2_with fail
   refine ae.o.mono ?_;rintro e w4 ⟨v,c,rfl,e1,e2,e3,e4,e5,K,M,u⟩;have r:=aK.o.below u aK.o.lt;have c0:=r.cell 0;have c1:=r.cell 1;have a8:=r.cell 2;have c3:=r.cell 3;have c4:=r.cell 4;have c5:=r.cell 5;have⟨aL,af,HE⟩:=Q3 (Qu2 w4 v c (Ll (Ju n)) f K HT.o a5 g ls L aw ax H) (Qda R.o u e1 e3 e4 e5 M) (show c.q=q/\c.p=p/\c.sv=sv/\c.vv=vv/\c.N=N from⟨e1,e2,e3,e4,e5⟩);clear q0 q1 q2 q3 q4 q5 r K M u e1 e2 e3 e4 e5;have⟨HF,aM⟩:=Q2 m (⟨H,W⟩:_/\_);unfold Qxo at aL;clear aw ax H W;go_wp2_with fail
   refine aL.o.mono ?_;rintro e w5 ⟨X,lv,P,rfl,T,hP,ag,aN⟩;have aQ:X.length<=8:=by have:=ag.led.ok.len;simpa[Zq,Zd]using this
   have aR:Gb X ({(Ll (Ju n))with l:=L,gen:=g,root:=f.at_,last:=P}:Vo):=by
    refine⟨⟨aQ,λx hx=>aM.o.1 x.1 (by rw[<-T];exact QqS.2 ⟨x,hx,rfl⟩)⟩,?_⟩;show P.length<=100000;rw[hP.length_eq,Qbp,T];exact aM.o.2
   have a9:=Q7h (Iw w5 v {c with lv:=lv} X _ ag aR);have⟨ba,bb,bc⟩:=Q3 T hP aN;clear T hP ag aN aQ aR c0 c1 a8 c3 c4 c5;go_wp2_with fail
   refine a9.o.mono ?_;rintro e w6 ⟨rfl,aS,aT⟩;have⟨be,bf⟩:=Q2 aS aT;clear aS aT;go_wp2_with fail
   go_returns;refine ?_
   refine⟨v,{c with lv:=lv},X,_,l',rfl,HE.o.2.1,be.o,Q.o,ac.o,.inl ⟨f,P,by rw[List.head?_eq_getElem?];exact HF.o,by rw[ad.o.2];exact ba.o,bb.o,by rw[ad.o.1,ad.o.2]⟩,af.o.trans (bc.o.trans ⟨bf.o.mono (λk _ hk=>.inl hk),λk hk=>.inl hk⟩)⟩
  ·have aV:k=0:=O;have aW:=QjS (by rw[<-ab.o];exact aV);have bg:=Q7h aW;clear aW aV;have ae:=Q7h (Ra wr q p sv vv N (Ju n) HW.o.sto ak.o al.o HW.o.laid HW.o.zero);go_wp2_with fail
   refine ae.o.mono ?_;rintro e w4 ⟨v,c,rfl,e1,e2,e3,e4,e5,K,M,u⟩;have⟨af,bh,bi⟩:=Q3 (Qda HW.o u e1 e3 e4 e5 M) K e2;clear M u K e1 e2 e3 e4 e5;go_wp2_with fail
   go_returns;refine ?_
   exact⟨v,c,[],_,l',rfl,bi.o,bh.o,Q.o,ac.o,.inr ⟨bg.o,rfl,rfl⟩,af.o⟩
end vo
namespace vo
open Go.RowKit Go.Maps er st tr nd pg ge
theorem Da{n:Nand}{a:Int}(h:(Qj n a).2=0):0<=a/\a<(n.blocks*n.per:Nat):=by
 unfold Qj at h;split at h
 ·rename_i b;unfold Nand.read at b;split at b
  ·simp at b
  ·split at b
   ·simp at b
   ·rename_i h2;have h3:=Classical.not_not.1 h2;exact⟨h3.1,by push_cast;exact h3.2⟩
 ·rename_i b;exact absurd h b
theorem Qq8{n:Nand}{id a:Int}(h:Yd n id a≠none):(Qj n a).2=0:=by
 unfold Yd at h;split at h
 ·rename_i h2;exact h2.1
 ·exact absurd rfl h
def spS(s:Sp):rt.Space:=⟨s.id,s.size,Qxi s.tr,s.tr.high⟩
theorem Q1c(X:XL):X.map Ko=(X.map (·.1)).map spS:=by rw[QzR];rfl
theorem Jq(s:Sp)(b:List Sp):K9 (s::b)=s.used+K9 b:=by simp[K9]
theorem Rn:∀{L:List Sp},(∀s∈L,0<=s.used)->0<=K9 L
 |[],_=>by simp[K9]
 |s::r,h=>by
  have:=Rn (L:=r) (λx a=>h x (by simp[a]));have:=h s U;rw[Jq];omega
theorem Qul{n:Nand}(b:n.down=false)(hb:n.blocks=16)(c:n.per=16)(a:Int)(ha:¬(0<=a/\a<256)):n.read a=(1,⟨#[]⟩):=by
 unfold Nand.read;rw[QqE (by rw[b];simp),QqH (by rw[hb,c];exact ha)]
theorem Q3u:∀{l:List rt.Space},(l.Pairwise λa b=>a.id<b.id)->rt.upB l=true
 |[],_=>rfl
 |[_],_=>rfl
 |a::b::r,h=>by
  obtain⟨h1,h2⟩:=QzS.1 h;show(decide (a.id<b.id)&&rt.upB (b::r))=true;rw[Q3u h2,QxA (h1 b U)];rfl
theorem Quq(g:Int)(l:List rt.Space)(h:l.length<=8):Jd {Py g l with seq:=0}=true:=by
 have:=rt.Qiq g l;show Jd ⟨4,0,0,0,rt.Xc g l⟩=true;simp only[Jd,inB,QzC,QzD];omega
theorem Q1u(G:Fnd->Int)(S:Fnd->List Sp)(w:World)(N:Nat->Prop)(p:Nat)(n:Nand)(h:NandAt w N p n)(i:n.down=false)(j:LaidT w)(k:¬N 0)(hb:n.blocks=16)(e:n.per=16)(m:∀a,(n.read a).2.size<=128)(c:∀l:List Fnd,l.Perm (rt.Y9 (Ql n 256))->l.Pairwise rt.newer->∀f,l.head? =some f->Q80 (Ju n) f (G f) (S f)/\(∀s∈S f,Small s.tr)/\((S f).flatMap λs=>Ik s.tr).length<=100000):C 14 #[(p,0)] w (Qlm G S w p N n):=by
 have g:=Hg n (n.blocks*n.per);have o:n.blocks*n.per=256:=by rw[hb,e]
 have b:∀f∈Ql n (n.blocks*n.per),f.p.body.size<=1000000:=λf d=>by have:=(Xy (I6 n _ f d)).2.2.2.2.2.2.2.2;omega
 refine Rl G S w N p n h i j k (by rw[hb];decide) (by rw[e];decide) (λa=>by have:=m a;omega) O b (rt.Qbx ?_ ?_) (o▸c)
 ·exact QqR (QkE _ _) O
 ·intro f d;obtain⟨h1,h2⟩:=QzZ.1 d;unfold rt.Kw at h2;exact⟨(Bool.and_eq_true_iff.1 h2).2,b f h1⟩
end vo
namespace pl
open Go.RowKit er st vo nd pg we
def Qze(l:List Int)(k:Int):Nat->Int
 |0=>0
 |j+1=>Qze l k j+(if l.getD j 0==k then 1 else 0)
theorem Qyp(s:Sto):∀(k j:Nat),j<k->(Il s k)[j]? =some (Qfe s j)
 |0,j,h=>O
 |k+1,j,h=>by
  rw[Il];by_cases a:j<k
  ·rw[QzM (by rw[Ue];exact a)];exact Qyp s k j a
  ·obtain rfl:j=k:=O;rw[QzH (by rw[Ue];exact QqB _)];simp[Ue]
theorem Qan(s:Sto)(k:Int):∀j,j<=s.n.blocks->Nr (Zqm s) k j=Qze s.state k j
 |0,_=>rfl
 |j+1,h=>by
  rw[Nr,Qze,Qan s k j O,show(Zqm s)[j]? =some (Qfe s j)from Qyp s _ j O];rfl
theorem Ry(s:Sto)(k:Int):G6 (Zqm s) k=Qze s.state k s.n.blocks:=by
 rw[G6,show(Zqm s).length=s.n.blocks from Ue s _];exact Qan s k _ N0
theorem P7(l:List Int)(b i:Nat)(x:Int)(hb:b<l.length):(l.set b x).getD i 0=if i=b then x else l.getD i 0:=by
 rw[List.getD,List.getD,QuC];by_cases h:b=i
 ·subst h;simp[hb]
 ·rw[QqE h,QqE (λe=>h e.symm)]
theorem Ro(l:List Int)(b:Nat)(x k:Int)(hb:b<l.length):∀j,Qze (l.set b x) k j=Qze l k j+(if b<j then(if x==k then 1 else 0)-(if l.getD b 0==k then 1 else 0)else 0)
 |0=>by simp[Qze]
 |j+1=>by
  rw[Qze,Qze,Ro l b x k hb j,P7 l b j x hb];by_cases h:j=b
  ·rw[QqH h,QqE (show ¬b<j by omega),QqH (show b<j+1 by omega),h];generalize(if(x==k)=true then(1:Int)else 0)=X;generalize(if(l.getD b 0==k)=true then(1:Int)else 0)=Y;omega
  ·rw[QqE h];by_cases h2:b<j
   ·rw[QqH h2,QqH (show b<j+1 by omega)];generalize(if(x==k)=true then(1:Int)else 0)=X;generalize(if(l.getD b 0==k)=true then(1:Int)else 0)=Y;omega
   ·rw[QqE h2,QqE (show ¬b<j+1 by omega)];omega
theorem Mo(l:List Bk):∀j,0<=J4 l j->∃x,l[(J4 l j).toNat]? =some x/\x.st=0
 |0,h=>absurd h (by rw[J4];decide)
 |j+1,h=>by
  cases hx:l[j]? with
  |none=>
   rw[J4,hx]at h ⊢;exact Mo l j h
  |some x=>
   rw[J4,hx]at h ⊢;simp only at h ⊢;have c:l[((j:Nat):Int).toNat]? =some x:=by simpa using hx
   by_cases b:x.st=0
   ·have a:(x.st==0)=true:=by simpa using b
    simp only[a,QyC]at h ⊢;split at h
    ·rename_i h1;rw[QqH h1];exact⟨x,c,b⟩
    ·rename_i h1;rw[QqE h1];split at h
     ·rename_i h2;rw[QqH h2];exact⟨x,c,b⟩
     ·rename_i h2;rw[QqE h2];exact Mo l j h
   ·have a:¬(x.st==0)=true:=by simpa using b
    rw[QqE a]at h ⊢;exact Mo l j h
theorem Q72(l:List Int)(k:Int):∀j,0<=Qze l k j
 |0=>QxL _
 |j+1=>by
  have:=Q72 l k j;rw[Qze];split<;>omega
theorem Q0n(n:Nand)(i j:Nat)(x:Blk)(hi:i<n.b.length):(n.setB i x).blk j=if j=i then x else n.blk j:=by
 unfold Nand.setB Nand.blk;simp only[List.getD,QuC];by_cases h:i=j
 ·subst h;simp[hi]
 ·rw[QqE h,QqE (λe=>h e.symm)]
theorem Qmj(n:Nand):∀(k j:Nat),j<k->(Qkq n k)[j]? =some (Ov n j)
 |0,j,h=>O
 |k+1,j,h=>by
  rw[Qkq];by_cases a:j<k
  ·rw[QzM (by rw[Hq];exact a)];exact Qmj n k j a
  ·obtain rfl:j=k:=O;rw[QzH (by rw[Hq];exact QqB _)];simp[Hq]
theorem Qy3(n:Nand)(a:Nat)(p:Page)(h:Qj n a=(p,0)):∀k,a<k->⟨(a:Int),p⟩∈Ql n k
 |0,hk=>O
 |k+1,hk=>by
  rw[Ql];by_cases b:a<k
  ·have:=Qy3 n a p h k b;split
   ·exact List.mem_append_left _ this
   ·exact this
  ·obtain rfl:a=k:=O;rw[h,QqH rfl];exact List.mem_append_right _ (QzG.2 rfl)
theorem Qdk(n:Nand):∀(k:Nat) (f:Fnd),f∈Ql n k->∃a:Nat,a<k/\Qj n a=(f.p,0)
 |0,f,h=>by simp[Ql]at h
 |k+1,f,h=>by
  rw[Ql]at h;split at h
  ·rename_i c;rcases QqJ.1 h with h|h
   ·obtain⟨a,ha,b⟩:=Qdk n k f h;exact⟨a,O,b⟩
   ·rw[QzG.1 h];exact⟨k,O,by rw[<-c]⟩
  ·obtain⟨a,ha,b⟩:=Qdk n k f h;exact⟨a,O,b⟩
theorem Qbg(l:List Fnd):∀(j i:Nat) (f:Fnd),i<j->l[i]? =some f->f.p.seq+1<=Ur l j
 |0,i,f,h,_=>O
 |j+1,i,f,h,hf=>by
  rw[Ur];by_cases a:i<j
  ·have:=Qbg l j i f a hf;split<;>omega
  ·obtain rfl:i=j:=O;rw[hf];simp only;omega
theorem Quc(l:List Bk):∀j,J4 l j<0->Nr l 0 j=0
 |0,_=>rfl
 |j+1,h=>by
  rw[Nr];cases hx:l[j]? with
  |none=>
   rw[J4,hx]at h;rw[Quc l j h];rfl
  |some x=>
   rw[J4,hx]at h;simp only at h ⊢;by_cases a:(x.st==0)=true
   ·rw[QqH a]at h;split at h
    ·omega
    ·split at h<;>omega
   ·rw[QqE a]at h ⊢;rw[Quc l j h];rfl
def Q7s(l:List Mis)(o:Int):Nat:=(l.filter λm=>decide (o<m.at_)).length
theorem Q74(m:Mis)(l:List Mis)(k:Int):waits (m::l) k=if m.at_==k then m else waits l k:=by
 unfold waits;rw[QgE];split<;>simp_all
theorem Q7v(o:Int):∀l:List Mis,Q7s l (o+1)<=Q7s l o/\((waits l (o+1)).kind≠0->Q7s l (o+1)+1<=Q7s l o/\waits l (o+1)∈l)
 |[]=>⟨QqB _,λh=>absurd rfl h⟩
 |m::l=>by
  obtain⟨h1,h2⟩:=Q7v o l;have e:∀q,Q7s (m::l) q=(if q<m.at_ then 1 else 0)+Q7s l q:=λq=>by
   unfold Q7s;rw[QkX];by_cases h:q<m.at_
   ·rw[QqH (QxA h),QqH h,QzN];omega
   ·rw[QqE (by simpa using h),QqE h];omega
  rw[e,e,Q74];by_cases a:m.at_=o+1
  ·rw[QqE (show ¬o+1<m.at_ by omega),QqH (show o<m.at_ by omega),QqH (by simpa using a)];exact⟨O,λ_=>⟨O,U⟩⟩
  ·rw[QqE (show ¬(m.at_==o+1)=true by simpa using a)];refine⟨by split<;>split<;>omega,λb=>?_⟩;obtain⟨h3,h4⟩:=h2 b;exact⟨by split<;>split<;>omega,QzA _ h4⟩
def Q76(m:Mis):Prop:=m.kind=2/\∀p,Jd p=true->spoilt m (Kr p)=Kr p\/(Xh (spoilt m (Kr p))).2≠0
theorem Q70(m:Mis)(t:ByteArray):(spoilt m t).size<=128:=by
 unfold spoilt Vt;rw[QjJ];omega
structure FitP(s:Sto):Prop where
 b16:s.n.blocks=16
 p16:s.n.per=16
 bl:s.n.b.length=16
 sl:s.state.length=16
 up:s.n.down=false
 pn:∀m∈s.n.plan,Q76 m
 pl:∀i,(s.n.blk i).pages.length<=16
 gd:∀i,i<16->(s.n.blk i).bad=true->s.state.getD i 0=3
 sm:∀(i:Nat) (t:ByteArray),t∈(s.n.blk i).pages->t.size<=128
 fr:∀i,i<16->s.state.getD i 0=0->(s.n.blk i).pages=[]
 nb:Qze s.state 3 16+(Q7s s.n.plan s.n.ops:Int)<=2
 op:s.op= -1\/∃b:Nat,b<16/\s.op=(b:Int)/\s.state.getD b 0=1
abbrev pend(s:Sto):Nat:=Q7s s.n.plan s.n.ops
theorem FitP.two{s:Sto}(h:FitP s):pend s<=2:=by
 have:=Q72 s.state 3 16;have:=h.nb;show Q7s s.n.plan s.n.ops<=2;omega
def room(s:Sto):Int:=16*Qze s.state 0 16+(if 0<=s.op then 16-((s.n.blk s.op.toNat).pages.length:Int)else 0)-16*(pend s:Int)
def Q7t(s:Sto):Int:=s.n.ops+(pend s:Int)
theorem Qsc{s:Sto}(h:FitP s):16*G6 (Zqm s) 0<=room s+32:=by
 rw[Ry,h.b16];have:=h.two;unfold room;split
 ·have:=h.pl s.op.toNat
  omega
 ·omega
theorem Qdb{s:Sto}(h:FitP s)(b:Nat)(hb:b<16):s.n.next (b:Int)=((s.n.blk b).pages.length:Int):=by
 unfold Nand.next Nand.has;rw[h.b16,QxA (show(0:Int)<=(b:Int) by omega),QxA (show(b:Int)<((16:Nat):Int) by omega)];rfl
theorem Q4v{s:Sto}(h:FitP s):FitP s.full/\room s.full=room s/\(s.full.op= -1\/∃b:Nat,b<16/\s.full.op=(b:Int)/\s.full.state.getD b 0=1/\(s.n.blk b).pages.length<16):=by
 rcases h.op with c|⟨b,hb,c,f⟩
 ·have e:s.full=s:=by unfold Sto.full;rw[QqE O]
  rw[e];exact⟨h,rfl,.inl c⟩
 ·have g:=Qdb h b hb;have l:=h.pl b;by_cases j:(s.n.blk b).pages.length<16
  ·have e:s.full=s:=by unfold Sto.full;rw[c,g,h.p16,QqE O]
   rw[e];exact⟨h,rfl,.inr ⟨b,hb,c,f,j⟩⟩
  ·have e:s.full={s with state:=s.state.set b 2,op:= -1}:=by
    unfold Sto.full Sto.sealed;rw[c,g,h.p16,QqH O,QqH O];simp
   have a:b<s.state.length:=by rw[h.sl];exact hb
   have k:=h.nb;rw[e];refine⟨⟨h.b16,h.p16,h.bl,by simpa using h.sl,h.up,h.pn,h.pl,λi hi d=>?_,h.sm,λi hi d=>?_,?_,.inl rfl⟩,?_,.inl rfl⟩
   ·have:=h.gd i hi d;simp only[P7 _ _ _ _ a];rw[QqE (by rintro rfl;omega)];exact this
   ·simp only[P7 _ _ _ _ a]at d;split at d
    ·exact absurd d D
    ·exact h.fr i hi d
   ·show Qze (s.state.set b 2) 3 16+(Q7s s.n.plan s.n.ops:Int)<=2;simp only[Ro _ _ _ _ a,f];rw[QqH hb,show(if((2:Int)==3)=true then(1:Int)else 0)-(if((1:Int)==3)=true then 1 else 0)=0 by decide];omega
   ·unfold room;show 16*Qze (s.state.set b 2) 0 16+(if(0:Int)<=-1 then 16-((s.n.blk (-1:Int).toNat).pages.length:Int)else 0)-16*(Q7s s.n.plan s.n.ops:Int)=16*Qze s.state 0 16+(if 0<=s.op then 16-((s.n.blk s.op.toNat).pages.length:Int)else 0)-16*(Q7s s.n.plan s.n.ops:Int);simp only[Ro _ _ _ _ a,f,c];rw[QqH hb,show(if((2:Int)==0)=true then(1:Int)else 0)-(if((1:Int)==0)=true then 1 else 0)=0 by decide,QqE O,QqH O,show((b:Int)).toNat=b by omega];omega
theorem Q1t{s:Sto}(h:FitP s)(t:1<=room s):∃(u:Sto) (b:Nat),s.place? =some (u,((b*16+(s.n.blk b).pages.length:Nat):Int))/\FitP u/\room u=room s/\u.n=s.n/\u.seq=s.seq/\b<16/\u.op=(b:Int)/\u.state.getD b 0=1/\(s.n.blk b).pages.length<16:=by
 obtain⟨c,l,v⟩:=Q4v h;have d:=Qlj s;rcases v with m|⟨b,hb,m,w,f⟩
 ·have F:¬X9 (Zqm s.full)<0:=by
   intro q;have g:=Quc _ _ q;have h1:=Ry s.full 0;unfold G6 at h1;rw[g,c.b16]at h1;unfold room at l;rw[m,<-h1]at l;simp at l;unfold room at t;omega
  have h1:0<=X9 (Zqm s.full):=O;obtain⟨x,y,o⟩:=Mo (Zqm s.full) _ h1;have r:=(Db s.full).2 h1;rw[c.b16]at r;obtain⟨b,hb⟩:∃b:Nat,X9 (Zqm s.full)=(b:Int):=⟨(X9 (Zqm s.full)).toNat,O⟩;have p:(X9 (Zqm s.full)).toNat=b:=O;have a:b<16:=O;have j:s.full.state.getD b 0=0:=by
   have h5:(Zqm s.full)[b]? =some (Qfe s.full b):=Qyp s.full _ b (by rw[c.b16];exact a);have e:(Zqm s.full)[b]? =some x:=by
    have:(J4 (Zqm s.full) (Zqm s.full).length).toNat=b:=p;rw[<-this];exact y
   rw[h5]at e;injection e with e;rw[<-e]at o;exact o
  have k:=c.fr b a j;rw[d]at k;have f:b<s.full.state.length:=by rw[c.sl];exact a
  refine⟨s.full.opened b,b,?_,⟨c.b16,c.p16,c.bl,by simpa[Sto.opened]using c.sl,c.up,c.pn,c.pl,λi hi g=>?_,c.sm,λi hi g=>?_,?_,.inr ⟨b,a,rfl,?_⟩⟩,?_,d,P8 s,a,rfl,?_,by rw[k];decide⟩
  ·unfold Sto.place?;rw[QqE O,QqH h1,p,hb,Qdb c b a,d,h.p16];simp
  ·have:=c.gd i hi g;simp only[Sto.opened,P7 _ _ _ _ f];rw[QqE (by rintro rfl;omega)];exact this
  ·simp only[Sto.opened,P7 _ _ _ _ f]at g;split at g
   ·exact absurd g D
   ·exact c.fr i hi g
  ·have z:=c.nb;show Qze (s.full.state.set b 1) 3 16+(Q7s s.full.n.plan s.full.n.ops:Int)<=2;simp only[Ro _ _ _ _ f,j];rw[QqH a,show(if((1:Int)==3)=true then(1:Int)else 0)-(if((0:Int)==3)=true then 1 else 0)=0 by decide];omega
  ·simp only[Sto.opened,P7 _ _ _ _ f,QyC]
  ·rw[<-l];unfold room;show 16*Qze (s.full.state.set b 1) 0 16+(if 0<=(b:Int)then 16-((s.full.n.blk ((b:Int)).toNat).pages.length:Int)else 0)-16*(pend s.full:Int)=_;simp only[Ro _ _ _ _ f,j,m,d,QyD,k];rw[QqH a,show(if((1:Int)==0)=true then(1:Int)else 0)-(if((0:Int)==0)=true then 1 else 0)= -1 by decide,QqH O,QqE O];simp;omega
  ·simp only[Sto.opened,P7 _ _ _ _ f,QyC]
 ·refine⟨s.full,b,?_,c,l,d,P8 s,hb,m,w,f⟩;unfold Sto.place?;rw[QqH O,m,Qdb c b hb,d,h.p16];simp
theorem Qkg{n:Nand}(b:n.down=false)(hb:n.blocks=16)(c:n.per=16)(a:Nat)(ha:a<256):n.read (a:Int)=match(n.blk (a/16)).pages[a%16]? with|none=>(42,⟨#[]⟩)|some t=>(0,t):=by
 unfold Nand.read;rw[b,hb,c,QqE U,QqE O];simp only[QyD];generalize(n.blk (a/16)).pages[a%16]? =o;cases o<;>rfl
theorem Qvi{n b:Nand}{a:Int}(h:b.read a=n.read a):Qj b a=Qj n a:=by
 unfold Qj;rw[h]
def Rest(n n':Nand)(t:ByteArray)(b:Int):Prop:=n'.read b=n.read b\/(n.read b).1≠0/\(n'.read b=(0,t)\/(Qj n' b).2≠0)
structure Q7c(s:Sto)(t:ByteArray)(s':Sto)(a:Int):Prop where
 fit:FitP s'
 room:room s-1<=room s'
 ops:s.n.ops<s'.n.ops
 opp:Q7t s'<=Q7t s+1
 seq:s'.seq=s.seq
 rng:0<=a/\a<256
 was:(s.n.read a).1≠0
 now:s'.n.read a=(0,t)
 rest:∀b,b≠a->Rest s.n s'.n t b
theorem behind{n f:Nand}{b:Nat}{x:Blk}{y:ByteArray}(j:n.down=false)(d:n.blocks=16)(k:n.per=16)(hb:b<16)(z:(n.blk b).pages.length<16)(l:f.down=false)(o:f.blocks=16)(p:f.per=16)(c:∀i,f.blk i=if i=b then x else n.blk i)(t:x.pages=(n.blk b).pages++[y]){a:Nat}(ha:b*16+(n.blk b).pages.length=a):n.read a=(42,⟨#[]⟩)/\f.read a=(0,y)/\∀q,q≠(a:Int)->f.read q=n.read q:=by
 have hi:a/16=b:=O;have u:a%16=(n.blk b).pages.length:=O;have g:a<256:=O;refine⟨?_,?_,λq hq=>?_⟩
 ·rw[Qkg j d k a g,hi,u,QkY N0]
 ·rw[Qkg l o p a g,hi,u,c,QqH rfl,t];simp
 ·by_cases h:0<=q/\q<256
  ·obtain⟨m,rfl⟩:∃m:Nat,q=(m:Int):=⟨q.toNat,O⟩;rw[Qkg l o p m O,Qkg j d k m O,c];by_cases r:m/16=b
   ·rw[QqH r,t];have v:m%16≠(n.blk b).pages.length:=λe=>hq O;rw[r];rcases QyH (m%16) (n.blk b).pages.length with s|w
    ·rw[QzM s]
    ·rw[QkY (by simp;omega),QkY O]
   ·rw[QqE r]
  ·rw[Qul l o p q h,Qul j d k q h]
theorem Q7w{u:Sto}(d:FitP u){b:Nat}(hb:b<16)(h:u.state.getD b 0=1)(l:(u.n.blk b).pages.length<16){e:Nand}{x:Blk}{y:ByteArray}(a:∀i,e.blk i=if i=b then x else u.n.blk i)(g:x.pages=(u.n.blk b).pages++[y])(j:y.size<=128):(∀i,(e.blk i).pages.length<=16)/\(∀(i:Nat) (t:ByteArray),t∈(e.blk i).pages->t.size<=128)/\(∀i,i<16->u.state.getD i 0=0->(e.blk i).pages=[]):=by
 refine⟨λi=>?_,λi t c=>?_,λi f k=>?_⟩
 ·rw[a];split
  ·rw[g,QqK,List.length_singleton];omega
  ·exact d.pl i
 ·rw[a]at c;split at c
  ·rw[g]at c;rcases QqJ.1 c with c|c
   ·exact d.sm b t c
   ·rw[QzG.1 c];exact j
  ·exact d.sm i t c
 ·rw[a,QqE ?_]
  ·exact d.fr i f k
  ·rintro rfl;omega
theorem Q71{p:Page}(W:Jd p=true)(f:Nat){s:Sto}(h:FitP s)(hr:1<=room s)(Y:∀s2,FitP s2->1<=room s2->pend s2+1<=pend s->∃s' a,Tg f s2 (Kr p)=some (s',a,0,true)/\Q7c s2 (Kr p) s' a):∃s' a,Tg (f+1) s (Kr p)=some (s',a,0,true)/\Q7c s (Kr p) s' a:=by
 obtain⟨u,b,hp,g,Z,l,A,hb,T,L,hl⟩:=Q1t h hr;obtain⟨t,ht⟩:=Zx (Kr p);have ah:t.size<=128:=ht▸Ql8 W;obtain⟨a,ha⟩:=Zx (b*16+(s.n.blk b).pages.length);have hi:a/16=b:=O;have hk:a%16=(s.n.blk b).pages.length:=O;have an:a<256:=O;rw[ha]at hp;have ao:=g.nb;have ap:=Q72 u.state 3 16;have hw:Zzh s=false:=by
  have:=h.nb;unfold Zzh;rw[Ry,h.b16];exact QyF (show ¬(2:Int)<Qze s.state 3 16 by omega)
 have R:(u.n.blk b).bad=false:=by
  cases e:(u.n.blk b).bad
  ·rfl
  ·have:=g.gd b hb e;omega
 obtain⟨m,B⟩:=Zx (waits u.n.plan (u.n.ops+1));obtain⟨q1,q2⟩:=Q7v u.n.ops u.n.plan;rw[B]at q2;have aa:b<u.n.count.b.length:=by
  show b<u.n.b.length;rw[g.bl];exact hb
 have M:(u.n.blk b).pages.length<16:=by rw[l];exact hl
 have ab:b*16+(u.n.blk b).pages.length=a:=by rw[l];exact ha
 have ac:pend u=pend s:=by show Q7s u.n.plan u.n.ops=Q7s s.n.plan s.n.ops;rw[l]
 have ai:Q7t u=Q7t s:=by show u.n.ops+(pend u:Int)=s.n.ops+(pend s:Int);rw[ac,l]
 have S:waits s.n.plan (s.n.ops+1)=m:=by rw[<-l];exact B
 have y:(s.n.blk b).bad=false:=by rw[<-l];exact R
 rw[ht]at Y ⊢;by_cases aj:m.kind=0
 ·have N:u.n.program (a:Int) t=(0,u.n.count.setB b {u.n.blk b with pages:=(u.n.blk b).pages++[t]}):=by
   unfold Nand.program;rw[g.up,g.b16,g.p16,QqE U,QqE (by simp;omega)];simp only[QyD,hi,hk,l,S,y];rw[QqE U,QqE U,QqE O,QqE O]
  obtain⟨d,j⟩:∃d,u.n.count.setB b {u.n.blk b with pages:=(u.n.blk b).pages++[t]}=d:=⟨_,rfl⟩;have r:∀i,d.blk i=if i=b then {u.n.blk b with pages:=(u.n.blk b).pages++[t]}else u.n.blk i:=λi=>by
   rw[<-j,Q0n _ _ _ _ aa];rfl
  have e1:d.blocks=16:=by rw[<-j];exact g.b16
  have e2:d.per=16:=by rw[<-j];exact g.p16
  have e3:d.down=false:=by rw[<-j];exact g.up
  have V:d.ops=u.n.ops+1:=by rw[<-j];rfl
  have X:d.plan=u.n.plan:=by rw[<-j];rfl
  obtain⟨f1,f2,f3⟩:=Q7w g hb L M r rfl ah;obtain⟨g1,g2,g3⟩:=behind g.up g.b16 g.p16 hb M e3 e1 e2 r rfl ab;have z:pend {u with n:=d}<=pend u:=by
   show Q7s d.plan d.ops<=Q7s u.n.plan u.n.ops;rw[X,V];exact q1
  refine⟨{u with n:=d},a,?_,⟨⟨e1,e2,?_,g.sl,e3,λm W=>g.pn m (by rw[<-X];exact W),f1,λi F v=>?_,f2,f3,?_,g.op⟩,?_,?_,?_,A,O,?_,g2,λq hq=>.inl ?_⟩⟩
  ·rw[Tg,hw];simp only[hp];rw[QqE U,N,QqE (show ¬(0:Int)=41 by decide),j]
  ·rw[<-j];show(List.set _ _ _).length=16;rw[QoE];exact g.bl
  ·have v:(d.blk i).bad=true:=v;rw[r]at v;split at v
   ·rw[show({u.n.blk b with pages:=(u.n.blk b).pages++[t]}:Blk).bad=(u.n.blk b).bad from rfl,R]at v;cases v
   ·exact g.gd i F v
  ·have:Q7s d.plan d.ops<=Q7s u.n.plan u.n.ops:=z;show Qze u.state 3 16+(Q7s d.plan d.ops:Int)<=2;omega
  ·rw[<-Z];unfold room;have ad:Q7s d.plan d.ops<=Q7s u.n.plan u.n.ops:=z;show 16*Qze u.state 0 16+(if 0<=u.op then 16-((u.n.blk u.op.toNat).pages.length:Int)else 0)-16*(Q7s u.n.plan u.n.ops:Int)-1<=16*Qze u.state 0 16+(if 0<=u.op then 16-((d.blk u.op.toNat).pages.length:Int)else 0)-16*(Q7s d.plan d.ops:Int);rw[T,QqH O,QqH O,show((b:Int)).toNat=b by omega,r,QqH rfl];simp only[QqK,List.length_singleton];omega
  ·show s.n.ops<d.ops;rw[V,l];omega
  ·rw[<-ai];have ad:Q7s d.plan d.ops<=Q7s u.n.plan u.n.ops:=z;show d.ops+(Q7s d.plan d.ops:Int)<=u.n.ops+(Q7s u.n.plan u.n.ops:Int)+1;omega
  ·rw[<-l,g1];show(42:Int)≠0;decide
  ·rw[<-l];exact g3 q hq
 ·obtain⟨q3,q4⟩:=q2 aj;obtain⟨k2,k3⟩:=g.pn m q4;have N:u.n.program (a:Int) t=(41,u.n.count.setB b {u.n.blk b with pages:=(u.n.blk b).pages++[spoilt m t],bad:=true}):=by
   unfold Nand.program;rw[g.up,g.b16,g.p16,QqE U,QqE (by simp;omega)];simp only[QyD,hi,hk,l,S,y,k2];rw[QqE U,QqE U,QqE D,QqH trivial]
  obtain⟨x,hx⟩:∃x:Blk,({u.n.blk b with pages:=(u.n.blk b).pages++[spoilt m t],bad:=true}:Blk)=x:=⟨_,rfl⟩;have ae:x.pages=(u.n.blk b).pages++[spoilt m t]:=by rw[<-hx]
  rw[hx]at N;obtain⟨d,j⟩:=Zx (u.n.count.setB b x);have r:∀i,d.blk i=if i=b then x else u.n.blk i:=λi=>by
   rw[<-j,Q0n _ _ _ _ aa];rfl
  have e1:d.blocks=16:=by rw[<-j];exact g.b16
  have e2:d.per=16:=by rw[<-j];exact g.p16
  have e3:d.down=false:=by rw[<-j];exact g.up
  have V:d.ops=u.n.ops+1:=by rw[<-j];rfl
  have X:d.plan=u.n.plan:=by rw[<-j];rfl
  obtain⟨f1,f2,f3⟩:=Q7w g hb L M r ae (Q70 m t);obtain⟨g1,g2,g3⟩:=behind g.up g.b16 g.p16 hb M e3 e1 e2 r ae ab;have Q:b<u.state.length:=by rw[g.sl];exact hb
  obtain⟨s2,H⟩:∃s2,Sto.retire {u with n:=d} b=s2:=⟨_,rfl⟩;have o:s2.n=d:=by rw[<-H];rfl
  have K:s2.state=u.state.set b 3:=by rw[<-H];rfl
  have af:s2.op= -1:=by rw[<-H];show(if u.op=(b:Int)then -1 else u.op)= -1;rw[QqH T]
  have ak:s2.seq=u.seq:=by rw[<-H];rfl
  have z:pend s2+1<=pend s:=by
   rw[<-ac];show Q7s s2.n.plan s2.n.ops+1<=Q7s u.n.plan u.n.ops;rw[o,X,V];exact q3
  have ag:FitP s2:=by
   refine⟨by rw[o];exact e1,by rw[o];exact e2,?_,by rw[K,QoE];exact g.sl,by rw[o];exact e3,λm W=>g.pn m (by rw[<-X,<-o];exact W),by rw[o];exact f1,λi F v=>?_,by rw[o];exact f2,λi F v=>?_,?_,.inl af⟩
   ·rw[o,<-j];show(List.set _ _ _).length=16;rw[QoE];exact g.bl
   ·rw[o,r]at v;rw[K,P7 _ _ _ _ Q];by_cases e:i=b
    ·rw[QqH e]
    ·rw[QqE e]at v ⊢;exact g.gd i F v
   ·rw[K,P7 _ _ _ _ Q]at v;split at v
    ·exact absurd v D
    ·rw[o];exact f3 i F v
   ·have h2:Q7s s2.n.plan s2.n.ops+1<=Q7s u.n.plan u.n.ops:=by rw[o,X,V];exact q3
    rw[K];simp only[Ro _ _ _ _ Q,L];rw[QqH hb,show(if((3:Int)==3)=true then(1:Int)else 0)-(if((1:Int)==3)=true then 1 else 0)=1 by decide];omega
  have al:room s<=room s2:=by
   rw[<-Z];unfold room;rw[T,af,K,QqH O,QqE O];simp only[Ro _ _ _ _ Q,L];rw[QqH hb,show(if((3:Int)==0)=true then(1:Int)else 0)-(if((1:Int)==0)=true then 1 else 0)=0 by decide];omega
  have w:∀q,Rest s.n s2.n t q:=λq=>by
   rw[o];by_cases hq:q=(a:Int)
   ·rw[hq];refine .inr ⟨by rw[<-l,g1];show(42:Int)≠0;decide,?_⟩;rcases k3 p W with e|e
    ·rw[ht]at e;rw[e]at g2;exact .inl g2
    ·rw[ht]at e;refine .inr ?_;unfold Qj;rw[g2,QqH rfl];exact e
   ·exact .inl (by rw[<-l];exact g3 q hq)
  obtain⟨s',c,hc,k⟩:=Y s2 ag O z;have k5:=k.ops;have k6:=k.opp;have am:((a:Int)).toNat/u.n.per=b:=by rw[g.p16];omega
  refine⟨s',c,?_,⟨k.fit,by have:=k.room;omega,?_,?_,by rw[k.seq,ak,A],k.rng,?_,k.now,λq hq=>?_⟩⟩
  ·rw[Tg,hw];simp only[hp];rw[QqE U,N,QqH rfl,am,j,H];exact hc
  ·have:s2.n.ops=s.n.ops+1:=by rw[o,V,l]
   omega
  ·have:Q7t s2<=Q7t s:=by
    show s2.n.ops+(pend s2:Int)<=s.n.ops+(pend s:Int);rw[o,V,l];omega
   omega
  ·intro e;rcases w c with h3|h3
   ·rw[<-h3]at e;exact k.was e
   ·exact h3.1 e
  ·rcases k.rest q hq with h3|⟨h3,h4⟩
   ·rcases w q with h5|⟨h5,h6⟩
    ·exact .inl (h3.trans h5)
    ·refine .inr ⟨h5,?_⟩;rcases h6 with h6|h6
     ·exact .inl (h3.trans h6)
     ·exact .inr (by rw[Qvi h3];exact h6)
   ·rcases w q with h5|⟨h5,_⟩
    ·exact .inr ⟨by rw[<-h5];exact h3,h4⟩
    ·exact .inr ⟨h5,h4⟩
theorem Q5f{p:Page}(c:Jd p=true):∀(f:Nat) {s:Sto},FitP s->1<=room s->pend s<=f->∃s' a,Tg (f+1) s (Kr p)=some (s',a,0,true)/\Q7c s (Kr p) s' a
 |0,s,h,hr,hf=>Q71 c 0 h hr (λs2 h2 b d=>O)
 |f+1,s,h,hr,hf=>Q71 c (f+1) h hr (λs2 h2 b d=>Q5f c f h2 b O)
structure App1(s:Sto)(p:Page)(s':Sto)(a:Int):Prop where
 fit:FitP s'
 room:room s-1<=room s'
 ops:Q7t s'<=Q7t s+1
 seq:s'.seq=s.seq+1
 rng:0<=a/\a<256
 was:(Qj s.n a).2≠0
 now:Qj s'.n a=({p with seq:=s.seq},0)
 rest:∀b,b≠a->Qj s'.n b=Qj s.n b\/(Qj s.n b).2≠0/\(Qj s'.n b=({p with seq:=s.seq},0)\/(Qj s'.n b).2≠0)
theorem Q73{n:Nand}{a:Int}(h:(n.read a).1≠0):(Qj n a).2≠0:=by
 unfold Qj;rw[QqE h];exact h
theorem Qxy{s:Sto}(h:FitP s)(g:1<=room s){p:Page}(d:Jd {p with seq:=0}=true)(i:0<=s.seq)(hq:s.seq<=281474976710655)(f:Nat)(j:2<=f):∃s' a,Xv (f+1) s p=some (s',a,0)/\App1 s p s' a:=by
 have c:=Bn d i hq;obtain⟨s1,a,l,k⟩:=Q5f c f h g (QqR h.two j);have rd:∀{n:Nand} {b:Int},n.read b=(0,Kr {p with seq:=s.seq})->Qj n b=({p with seq:=s.seq},0):=λ{n b} e=>by
  unfold Qj;rw[e,QqH rfl,Be _ c]
 refine⟨{s1 with seq:=s1.seq+1},a,?_,⟨⟨k.fit.b16,k.fit.p16,k.fit.bl,k.fit.sl,k.fit.up,k.fit.pn,k.fit.pl,k.fit.gd,k.fit.sm,k.fit.fr,k.fit.nb,k.fit.op⟩,k.room,k.opp,by show s1.seq+1=_;rw[k.seq],k.rng,Q73 k.was,rd k.now,λb hb=>?_⟩⟩
 ·unfold Xv;rw[d,QqE U,l];have:=k.ops;simp only;rw[QqH O,QqH trivial]
 ·rcases k.rest b hb with e|⟨m,o⟩
  ·exact .inl (Qvi e)
  ·exact .inr ⟨Q73 m,o.imp rd id⟩
theorem Q4b{s:Sto}(h:FitP s):FitP (Ju s.n)/\0<=(Ju s.n).seq/\∀q:Int,0<=q->(∀a,(Qj s.n a).2=0->(Qj s.n a).1.seq<q)->(Ju s.n).seq<=q:=by
 have c:∀i,i<16->(Ju s.n).state.getD i 0=if(s.n.blk i).bad=true then 3 else if(s.n.blk i).pages.length=0 then 0 else 2:=λi hi=>by
  show(Qkq s.n s.n.blocks).getD i 0=_;rw[List.getD,Qmj _ _ _ (by rw[h.b16];exact hi)];show Ov s.n i=_;have m:s.n.badB (i:Int)=(s.n.blk i).bad:=by
   unfold Nand.badB Nand.has;rw[show((i:Nat):Int).toNat=i by omega,h.b16,QxA (show(0:Int)<=(i:Int) by omega),QxA (show(i:Int)<((16:Nat):Int) by omega)];rfl
  unfold Ov;rw[m,Qdb h i hi];split
  ·rfl
  ·by_cases e:(s.n.blk i).pages.length=0
   ·rw[QqH e,QqH O]
   ·rw[QqE e,QqE O]
 have o:∀(k:Nat),k<=16->Qze (Ju s.n).state 3 k<=Qze s.state 3 k:=λk=>by
  induction k with
  |zero=>intro _;exact QxL _
  |succ k ih=>
   intro p;have h1:=ih O;have h2:=h.gd k O;rw[Qze,Qze,c k O];split
   ·rename_i hb;rw[h2 hb];omega
   ·have:(if(((if(s.n.blk k).pages.length=0 then(0:Int)else 2))==3)=true then(1:Int)else 0)=0:=by split<;>decide
    rw[this];split<;>omega
 have d:(Ju s.n).seq=Ur (Ql s.n 256) (Ql s.n 256).length:=by
  unfold Ju;simp only[h.b16,h.p16]
 refine⟨⟨h.b16,h.p16,h.bl,by show(Qkq s.n s.n.blocks).length=16;rw[Hq];exact h.b16,h.up,h.pn,h.pl,λi hi b=>?_,h.sm,λi hi b=>?_,QiJ (Int.add_le_add_right (o 16 N0) _) h.nb,.inl rfl⟩,?_,λq b hq=>?_⟩
 ·rw[c i hi,QqH (show(s.n.blk i).bad=true from b)]
 ·rw[c i hi]at b;split at b
  ·exact absurd b D
  ·split at b
   ·rename_i e;exact QjS e
   ·exact absurd b D
 ·rw[d];exact(Qqq _ (λf g=>I6 _ _ f g) _).1
 ·rw[d];have:∀j,Ur (Ql s.n 256) j<=q:=λj=>by
   induction j with
   |zero=>exact b
   |succ j ih=>
    rw[Ur];cases g:(Ql s.n 256)[j]? with
    |none=>exact ih
    |some f=>
     simp only;obtain⟨a,ha,l⟩:=Qdk _ _ _ (QqL g);have:=hq a (by rw[l]);rw[l]at this;simp only at this;omega
  exact this _
theorem Qzj{s:Sto}(h:FitP s)(a:Int):(s.n.read a).2.size<=128:=by
 by_cases b:0<=a/\a<256
 ·obtain⟨m,rfl⟩:∃m:Nat,a=(m:Int):=⟨a.toNat,O⟩;rw[Qkg h.up h.b16 h.p16 m O];split
  ·exact QqM _
  ·rename_i t c;exact h.sm _ t (QqL c)
 ·rw[Qul h.up h.b16 h.p16 a b];exact QqM _
theorem Qgf{s:Sto}(h:FitP s)(l:List Int):FitP (s.need l):=⟨h.b16,h.p16,h.bl,h.sl,h.up,h.pn,h.pl,h.gd,h.sm,h.fr,h.nb,h.op⟩
end pl
namespace pl
open Go.RowKit er st nd pg fd ck
theorem Zzj(p:Page)(h:Jd p=true)(x:ByteArray):Uw ((⟨(Mj (numsOf p) 5).toArray⟩:ByteArray)++x) 4=p.body.size:=by
 have b:=Qkc h 4 D;have h1:=Qkf h 4 D;have:=Mw ((⟨(Mj (numsOf p) 5).toArray⟩:ByteArray)++x) (Qkb 4) (Tu 4) (numsOf p 4) b h1 D (λi hi=>by
  have c:=Qmo (numsOf p) 5 4 i D hi;obtain⟨a,d⟩:=QqD.1 c;rw[Qxq _ _ _ a,d];exact Qzb _ (Int.emod_nonneg _ D) (Int.emod_lt_of_pos _ D)) (Tu 4) N0
 rw[Uw,this,QyU];simp;rfl
theorem Zzz{r:ByteArray}(h:(Xl r).2=0):4<=r.size/\Bi (r.extract 0 (r.size-4))=r/\(Xl r).1=r.extract 0 (r.size-4):=by
 by_cases c1:r.size<4
 ·unfold Xl at h;rw[QqH c1]at h;exact absurd h D
 ·by_cases c2:((Bi (r.extract 0 (r.size-4))).toList==r.toList)=true
  ·have e:=eq_of_beq c2;rw[ByteArray.toList_eq,ByteArray.toList_eq]at e;refine⟨O,QyW (Array.toList_inj.1 e),?_⟩;unfold Xl;rw[QqE c1,QqH c2]
  ·unfold Xl at h;rw[QqE c1,QqE c2]at h;exact absurd h D
theorem Zq9{m:Mis}(H:m.kind=2)(V:m.junk.size<=2):Q76 m:=by
 refine⟨H,λp v=>?_⟩;by_cases h:(Xh (spoilt m (Kr p))).2=0
 ·refine .inl ?_;have hb:p.body.size<=100:=(Xy v).2.2.2.2.2.2.2.2;have hz:=Ce p;obtain⟨K,w⟩:=Zx (Qdn m (Kr p));have L:K<=(Kr p).size:=by rw[<-w];unfold Qdn;omega
  have d:((Kr p).extract 0 K++m.junk).size=K+m.junk.size:=by rw[QjT,QjJ];omega
  have y:spoilt m (Kr p)=((Kr p).extract 0 K++m.junk).extract 0 (min (K+m.junk.size) 128):=by
   unfold spoilt Vt;rw[w,d]
  have n:∀(a b:ByteArray) (i:Nat),i<=a.size->(a++b).extract 0 i=a.extract 0 i:=λa b i hi=>by
   rw[QiK,show i-a.size=0 by omega];apply QyW;simp
  have pre:∀i,i<=K->(spoilt m (Kr p)).extract 0 i=(Kr p).extract 0 i:=λi hi=>by
   have M:min (0+i) (min (K+m.junk.size) 128)=i:=O;rw[y,QiF,M,n _ _ _ (by rw[QjJ];omega),QiF,show min (0+i) K=i by omega]
  have o:(spoilt m (Kr p)).size=min (K+m.junk.size) 128:=by rw[y,QjJ,d];omega
  obtain⟨r,e⟩:=Zx (spoilt m (Kr p));rw[e]at h pre o ⊢;have z:(Xl r).2=0/\(Xf (Xl r).1).2=0:=by
   unfold Xh at h;split at h
   ·rename_i h1;exact⟨h1,h⟩
   ·rename_i h1;exact absurd h h1
  obtain⟨o1,o2,N⟩:=Zzz z.1;have hi:=z.2;rw[N]at hi;obtain⟨u,l⟩:=Zx (r.extract 0 (r.size-4));have Q:u.size=r.size-4:=by rw[<-l,QjJ];omega
  rw[l]at o2 hi;have R:16<=u.size/\Qqw (u.extract 2 u.size)=true:=by
   unfold Xf at hi;split at hi
   ·exact absurd hi D
   ·split at hi
    ·exact absurd hi D
    ·split at hi
     ·exact absurd hi D
     ·rename_i a1 _ a2;exact⟨O,by simpa using a2⟩
  have q:(Kr p).extract 0 16=Oy p:=by
   unfold Kr Bi;rw[QiL];exact QiG (Vm p).symm
  have f:u=Oy p++u.extract 16 u.size:=by
   have h1:u.extract 0 16=Oy p:=by
    rw[<-l,QiF,show min (0+16) (r.size-4)=16 by omega,show 0+0=0 from rfl,pre 16 O,q]
   have h2:=ByteArray.extract_append_extract (a:=u) (i:=0) (j:=16) (k:=u.size);rw[h1]at h2;rw[h2];apply QyW;simp
  obtain⟨x,F⟩:=Zx (u.extract 16 u.size);have S:x.size=u.size-16:=by rw[<-F,QjJ];omega
  rw[F]at f;have g:(⟨(Mj (numsOf p) 5).toArray⟩:ByteArray).size=14:=Ha _;have T:u.extract 2 u.size=(⟨(Mj (numsOf p) 5).toArray⟩:ByteArray)++x:=by
   rw[f,Oy,QiL];exact Ed ⟨#[83,99]⟩ _
  have c:=R.2;unfold Qqw at c;rw[T,Zzj p v x]at c;have c:=eq_of_beq c;rw[QjJ,QjT,g]at c;have s:r.size=(Kr p).size:=O;have t:u=Oy p++p.body:=by
   rw[<-l,pre _ O,s,hz];unfold Kr Bi;exact QiG (by rw[QjT,Vm];omega)
  rw[<-o2,t];rfl
 ·exact .inr h
end pl
namespace pl
open Go.RowKit er tr st vo nd pg
def Gr(n n':Nand):Prop:=∀a,(Qj n a).2=0->Qj n' a=Qj n a
theorem Gr.refl(n:Nand):Gr n n:=λ_ _=>rfl
theorem Gr.trans{a b c:Nand}(h:Gr a b)(k:Gr b c):Gr a c:=λx d=>by
 rw[k x (by rw[h x d];exact d),h x d]
theorem App1.gr{s s':Sto}{p:Page}{a:Int}(h:App1 s p s' a):Gr s.n s'.n:=λb hb=>(h.rest b (by rintro rfl;exact h.was hb)).elim id λe=>absurd hb e.1
theorem Gr.get{n c:Nand}(h:Gr n c){id a:Int}{p:Int×ByteArray}(b:Yd n id a=some p):Yd c id a=some p:=by
 unfold Yd at b ⊢;split at b
 ·rename_i d;rw[h a d.1,QqH d];exact b
 ·cases b
theorem Gr.std{n d:Nand}(h:Gr n d){id b a:Int}(c:Bg n id b a=true):Bg d id b a=true:=by
 have e:(Qj n a).2=0:=by
  unfold Bg at c;simp only[QzC,QzD]at c;exact c.1.1.1.1
 unfold Bg at c ⊢;rw[h a e];exact c
def NoRt(n n':Nand):Prop:=∀a,(Qj n' a).2=0->(Qj n a).2≠0->(Qj n' a).1.kind≠4
theorem En(n:Nand):NoRt n n:=λa h1 h2=>absurd h1 h2
theorem NoRt.trans{a b c:Nand}(h:NoRt a b)(d:Gr b c)(k:NoRt b c):NoRt a c:=λx h1 h2=>by
 by_cases hb:(Qj b x).2=0
 ·rw[d x hb];exact h x hb h2
 ·exact k x h1 hb
theorem App1.nort{s s':Sto}{p:Page}{a:Int}(h:App1 s p s' a)(c:p.kind≠4):NoRt s.n s'.n:=λb h1 h2=>by
 by_cases e:b=a
 ·rw[e,h.now];exact c
 ·rcases h.rest b e with h3|⟨_,h3|h3⟩
  ·rw[h3]at h1;exact absurd h1 h2
  ·rw[h3];exact c
  ·exact absurd h1 h3
structure Grw(s s':Sto)(j:Nat):Prop where
 fit:FitP s'
 room:room s-(j:Int)<=room s'
 ops:Q7t s'<=Q7t s+(j:Int)
 seq:s'.seq=s.seq+(j:Int)
 gr:Gr s.n s'.n
 sq:(∀a,(Qj s.n a).2=0->(Qj s.n a).1.seq<s.seq)->∀a,(Qj s'.n a).2=0->(Qj s'.n a).1.seq<s'.seq
theorem Grw.refl{s:Sto}(h:FitP s):Grw s s 0:=⟨h,U,U,U,Gr.refl _,λh=>h⟩
theorem Grw.trans{a b c:Sto}{i j:Nat}(h:Grw a b i)(k:Grw b c j):Grw a c (i+j):=by
 have h1:=h.room;have h2:=h.ops;have h3:=h.seq;have d:=k.room;have e:=k.ops;have f:=k.seq;exact⟨k.fit,O,O,O,h.gr.trans k.gr,λq=>k.sq (h.sq q)⟩
theorem App1.grw{s s':Sto}{p:Page}{a:Int}(h:App1 s p s' a):Grw s s' 1:=by
 refine⟨h.fit,h.room,h.ops,h.seq,h.gr,λq b hb=>?_⟩;have:=h.seq;by_cases e:b=a
 ·rw[e,h.now];show s.seq<s'.seq;omega
 ·rcases h.rest b e with h3|⟨_,h3|h3⟩
  ·rw[h3]at hb ⊢;have:=q b hb;omega
  ·rw[h3];show s.seq<s'.seq;omega
  ·exact absurd hb h3
theorem Q4f{f:Nat}{s s':Sto}{p:Page}{a:Int}(h:Xv f s p=some (s',a,0)):Jd {p with seq:=0}=true:=by
 unfold Xv at h;split at h
 ·injection h with h;have h2:(1:Int)=0:=congrArg (λr=>r.2.2) h;exact absurd h2 D
 ·rename_i e;simpa using e
theorem Q1v(p:Pg):I7 p≠4:=by
 cases p
 ·show(2:Int)≠4;decide
 ·show(3:Int)≠4;decide
structure Rm(s:Sto)(k:Nat):Prop where
 fit:FitP s
 room:(k:Int)<=room s
 q0:0<=s.seq
 q1:s.seq+(k:Int)<=1000000
 ops:Q7t s+(k:Int)<=1000000
theorem Rm.grw{s s':Sto}{i k:Nat}(h:Rm s k)(g:Grw s s' i)(hi:i<=k):Rm s' (k-i):=by
 have h1:=h.room;have h2:=h.q1;have h3:=h.ops;have h4:=h.q0;have a:=g.room;have b:=g.seq;have c:=g.ops;exact⟨g.fit,O,O,O,O⟩
theorem Rm.le{s:Sto}{i j:Nat}(h:Rm s j)(hi:i<=j):Rm s i:=by
 have h1:=h.room;have h2:=h.q1;have h3:=h.ops;exact⟨h.fit,O,h.q0,O,O⟩
abbrev PgL(n:Nand)(id a:Int)(pg:Pg):Prop:=Yd n id a=some (I7 pg,Pf pg)
theorem Zqa{L:Int->Pg->Prop}{T:Tree}(h:Gd L T):∀a∈T.nfs,∃pg,L a pg:=by
 intro a ha;obtain⟨h1,h2⟩:=QzZ.1 ha;have h2:a≠-1:=by simpa using h2
 cases T with
 |no=>simp[Tree.ats]at h1
 |one x=>
  obtain rfl:a=x.a:=by simpa[Tree.ats]using h1
  exact⟨_,h h2⟩
 |two b x y=>
  obtain⟨c,d,e⟩:=h;simp only[Tree.ats,QqF,QkU,QyA]at h1;rcases h1 with rfl|rfl|rfl
  ·exact⟨_,c h2⟩
  ·exact⟨_,d h2⟩
  ·exact⟨_,(e h2).2⟩
theorem Gd.more{L c:Int->Pg->Prop}(b:∀a p,L a p->c a p){T:Tree}(h:Gd L T):Gd c T:=by
 cases T with
 |no=>exact h
 |one x=>exact λe=>b _ _ (h e)
 |two a x y=>exact⟨λe=>b _ _ (h.1 e),λe=>b _ _ (h.2.1 e),λe=>⟨(h.2.2 e).1,b _ _ (h.2.2 e).2⟩⟩
theorem Zqy{n a:Nand}(h:Gr n a){id:Int}{T:Tree}(k:Gd (PgL n id) T):Gd (PgL a id) T:=Gd.more (λ_ _ e=>h.get e) k
theorem Zqx{n:Nand}{id:Int}{T:Tree}(h:Gd (PgL n id) T):∀a∈T.nfs,(Qj n a).2=0:=λa ha=>by
 obtain⟨pg,e⟩:=Zqa h a ha;exact Qq8 (id:=id) (by rw[e];simp)
theorem Q89{n:Nand}(hb:n.blocks=16)(b:n.per=16){id:Int}{T:Tree}(k:Gd (PgL n id) T):∀a∈T.nfs,0<=a/\a<256:=λa ha=>by
 have:=Da (Zqx k a ha);rw[hb,b]at this;omega
theorem Zqi{L:Int->Pg->Prop}{T:Tree}{j:Nat}{b:Int}{pg:Pg}(h:Gd L T)(ha:T.ats[j]? =some (-1))(d:T.pgs[j]? =some pg)(hb:L b pg)(c:∀i a,i<j->T.ats[i]? =some a->a≠-1):Gd L (T.setA j b):=by
 cases T with
 |no=>simp[Tree.ats]at ha
 |one x=>match j with
  |0=>
   obtain rfl:Pg.leaf x.l=pg:=by simpa[Tree.pgs]using d
   exact λ_=>hb
  |j+1=>simp[Tree.ats]at ha
 |two a x y=>
  obtain⟨g,k,m⟩:=h;match j with
  |0=>
   obtain rfl:Pg.leaf x.l=pg:=by simpa[Tree.pgs]using d
   have f:x.a= -1:=by simpa[Tree.ats]using ha
   exact⟨λ_=>hb,k,λe=>absurd f (m e).1.1⟩
  |1=>
   obtain rfl:Pg.leaf y.l=pg:=by simpa[Tree.pgs]using d
   have f:y.a= -1:=by simpa[Tree.ats]using ha
   exact⟨g,λ_=>hb,λe=>absurd f (m e).1.2⟩
  |2=>
   obtain rfl:Pg.inner (Q8u x y)=pg:=by simpa[Tree.pgs]using d
   exact⟨g,k,λ_=>⟨⟨c 0 x.a O rfl,c 1 y.a O rfl⟩,hb⟩⟩
  |j+3=>simp[Tree.ats]at ha
theorem Q95{T:Tree}{j:Nat}{b:Int}(ha:T.ats[j]? =some (-1))(hb:b≠-1):(T.setA j b).fr+1=T.fr:=by
 have key:∀(l:List Int) (j:Nat),l[j]? =some (-1)->((l.set j b).filter λa=>decide (a= -1)).length+1=(l.filter λa=>decide (a= -1)).length:=by
  intro l;induction l with
  |nil=>intro j h;simp at h
  |cons x l ih=>
   intro j h;match j with
   |0=>
    obtain rfl:x= -1:=by simpa using h
    simp[hb]
   |j+1=>
    have:=ih j (by simpa using h);rw[QuK,QkX,QkX];split
    ·rw[QzN,QzN];omega
    ·exact this
 unfold Tree.fr;rw[(Q8m T j b).1];exact key _ _ ha
structure WJ(id:Int)(T:Tree)(s:Sto)(j:Nat)(V:Tree)(v:Sto):Prop where
 g:∃i,V.fr+i=T.fr/\Grw s v i
 no:NoRt s.n v.n
 gd:Gd (PgL v.n id) V
 nd:V.nfs.Nodup
 lt:∀i a,i<j->V.ats[i]? =some a->a≠-1
theorem WJ.rm{id:Int}{T V:Tree}{s v:Sto}{j k:Nat}(w:WJ id T s j V v)(h:Rm s k)(a:T.fr<=k):Rm v (k-(T.fr-V.fr)):=by
 obtain⟨i,e,g⟩:=w.g;have:=h.grw g O;rw[show i=T.fr-V.fr by omega]at this;exact this
theorem Q96{T:Tree}{j:Nat}(ha:T.ats[j]? =some (-1)):1<=T.fr:=by
 have:=Q95 (b:=0) ha D;omega
theorem WJ.put{id:Int}{T V:Tree}{s v u:Sto}{j k:Nat}{pg:Pg}{b:Int}(w:WJ id T s j V v)(h:Rm s k)(x:T.fr<=k)(ha:V.ats[j]? =some (-1))(o:V.pgs[j]? =some pg)(f:Qkz 3 id v pg b u):WJ id T s (j+1) (V.setA j b) u/\(0<=b/\b<256)/\b∉V.nfs:=by
 have l:=w.rm h x;have F:=Q96 ha;obtain⟨i,e,g⟩:=w.g;have h1:=l.room;have h2:=l.q1;obtain⟨H,b',m,a1⟩:=Qxy l.fit O (Q4f f) l.q0 O 2 N0;have f:=f;rw[f]at m;injection m with m;obtain⟨u1,u2⟩:=Prod.mk.inj m;obtain⟨u3,_⟩:=Prod.mk.inj u2;subst u1 u3;have p:=a1.rng;have hb:b≠-1:=O;have r:b∉V.nfs:=λy=>a1.was (Zqx w.gd b y);have t:=(Q8m V j b).1;have z:=Q95 ha hb;have d:PgL u.n id b pg:=by
  show Yd u.n id b=_;unfold Yd;rw[a1.now];exact QqH ⟨rfl,rfl⟩
 refine⟨⟨⟨i+1,O,g.trans a1.grw⟩,w.no.trans a1.gr (a1.nort (Q1v pg)),Zqi (Zqy a1.gr w.gd) ha o d w.lt,?_,λi a hi c=>?_⟩,p,r⟩
 ·have o:=Q9g ha hb;rw[show(V.setA j b).nfs=(V.ats.set j b).filter λa=>decide (a≠-1) by unfold Tree.nfs;rw[t]];exact o.nodup_iff.2 (QqP.2 ⟨r,w.nd⟩)
 ·rw[t]at c;by_cases q:i=j
  ·subst q;rw[QiD (QqD.1 ha).1]at c;injection c with c;exact c▸hb
  ·rw[QxD (λh=>q h.symm)]at c;exact w.lt i a O c
theorem Q9d{id:Int}{T:Tree}{s:Sto}{k:Nat}(h:Rm s k)(l:T.fr<=k)(m:Gd (PgL s.n id) T)(f:T.nfs.Nodup):∀{j:Nat} {V:Tree} {v:Sto},WrTo (Qkz 3 id) j T s V v->WJ id T s j V v
 |0,V,v,hw=>by
  obtain⟨rfl,rfl⟩:=hw;exact⟨⟨0,rfl,Grw.refl h.fit⟩,En _,m,f,λi a hi=>absurd hi (Nat.not_lt_zero _)⟩
 |j+1,V,v,⟨U,u,hw,h2⟩=>by
  have w:=Q9d h l m f hw;rcases h2 with⟨a,ha,f,rfl,rfl⟩|⟨ha,pg,b,o,p,rfl⟩
  ·refine⟨w.g,w.no,w.gd,w.nd,λi c hi d=>?_⟩;by_cases e:i=j
   ·subst e;rw[ha]at d;injection d with d;exact d▸f
   ·exact w.lt i c O d
  ·exact(w.put h l ha o p).1
theorem Q0l{id:Int}(hi:1<=id/\id<=65535){T:Tree}{s:Sto}(h:Rm s T.fr)(c:T.Ok)(f:Chk T.flat)(p:Gd (PgL s.n id) T)(q:T.nfs.Nodup):Q9x (Qkz 3 id) (Qou 3 id) T s:=by
 refine⟨q,λa ha=>by have:=Q89 h.fit.b16 h.fit.p16 p a ha;omega,λj V v pg o ha k=>?_,λj V v pg b u o ha k m=>?_⟩
 ·have w:=Q9d h N0 p q o;obtain⟨F,H,_⟩:=o.same;have c:=H.2 c;rw[<-F]at f;have R:=Q96 ha;have d:=w.rm h N0;have h1:=d.room;have h2:=d.q1;have h3:=d.ops;obtain⟨i,e,g⟩:=w.g;have K:Qfp pg:=by
   cases V with
   |no=>simp[Tree.ats]at ha
   |one x=>match j with
    |0=>
     obtain rfl:Pg.leaf x.l=pg:=by simpa[Tree.pgs]using k
     exact⟨f,c⟩
    |j+1=>simp[Tree.ats]at ha
   |two a x y=>
    obtain⟨o1,o2,S⟩:=c;have r:Chk x.l:=⟨λe t=>f.one e (by simp[Tree.flat,t]),(QkA.1 f.ord).1⟩;have z:Chk y.l:=⟨λe t=>f.one e (by simp[Tree.flat,t]),(QkA.1 f.ord).2.1⟩;match j with
    |0=>
     obtain rfl:Pg.leaf x.l=pg:=by simpa[Tree.pgs]using k
     exact⟨r,O,O⟩
    |1=>
     obtain rfl:Pg.leaf y.l=pg:=by simpa[Tree.pgs]using k
     exact⟨z,O,O⟩
    |2=>
     obtain rfl:Pg.inner (Q8u x y)=pg:=by simpa[Tree.pgs]using k
     have L:=w.lt 0 x.a O rfl;have M:=w.lt 1 y.a O rfl;have m:[x.a,y.a].Sublist (Tree.two a x y).nfs:=by
      simp only[Tree.nfs,Tree.ats,QkX,L,M,ne_eq,QiC,QoY,QyC];exact(List.nil_sublist _).cons_cons _ |>.cons_cons _
     have W:=Q89 d.fit.b16 d.fit.p16 w.gd x.a (m.subset U);have X:=Q89 d.fit.b16 d.fit.p16 w.gd y.a (m.subset U);have N:=w.nd.sublist m;exact⟨_,_,rfl,Q93 f O O O O (by simpa using N)⟩
    |j+3=>simp[Tree.ats]at ha
  obtain⟨s',a,e,_⟩:=Qxy d.fit O (Qqn K O hi.2) d.q0 O 2 N0;exact⟨s',a,e,by unfold Q7t at h3;show v.n.ops+((3:Nat):Int)<=1000000000000000000;omega,O⟩
 ·obtain⟨_,q1,Q⟩:=(Q9d h N0 p q o).put h N0 ha k m;exact⟨O,Q⟩
structure Wd(id:Int)(T:Tree)(s:Sto)(T':Tree)(s':Sto)(k:Nat):Prop where
 rm:Rm s' (k-T.fr)
 g:Grw s s' T.fr
 no:NoRt s.n s'.n
 ok:T'.Ok
 flat:T'.flat=T.flat
 gd:Gd (PgL s'.n id) T'
 fr:T'.fr=0
 nd:T'.nfs.Nodup
theorem Qti{k:Nat}{id:Int}{T T':Tree}{s s':Sto}(h:Rm s k)(c:T.fr<=k)(b:T.Ok)(l:Gd (PgL s.n id) T)(m:T.nfs.Nodup)(d:Wrt 3 id T s T' s'):Wd id T s T' s' k:=by
 have w:=Q9d h c l m d;obtain⟨o,p,q,_⟩:=WrTo.same d;have f:=w.rm h c;obtain⟨i,e,g⟩:=w.g;have j:T'.fr=0:=by
  show(T'.ats.filter _).length=0;rw[QjX.2 λa ha=>?_]
  ·rfl
  ·obtain⟨i,hi⟩:=List.mem_iff_getElem?.1 ha;have:=w.lt i a (by have:=(QqD.1 hi).1;omega) hi;simpa using this
 rw[j]at f e;obtain rfl:i=T.fr:=O;exact⟨f,g,w.no,p.2 b,o,w.gd,j,w.nd⟩
end pl
end Go.Proofs.YtfialjmemcobjaaGreatDoor
