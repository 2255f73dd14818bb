/- A part of the proof. -/
import Derived.Test.YtfialjmemcobjaaGreatDoorPbVoP
import Derived.Test.YtfialjmemcobjaaGreatDoorPbVqB
import Derived.Defers
import Derived.Laws.Concat
set_option maxRecDepth 100000
set_option maxHeartbeats 16000000
set_option linter.unusedVariables false
set_option linter.unusedSimpArgs false
namespace Go.Proofs.YtfialjmemcobjaaGreatDoor
namespace vo
open Go.RowKit Go.Maps er st tr nd pg
structure LpW(w:World)(v:Nat)(c:Pt)(X:XL)(b4 b5 b8 b11:Nat)(id d:Int)(rv:Value)(rl:List Int)(cj:Pt)(Y:XL)(V:Vo)(wr:World):Prop where
 vo:VoIn wr v cj Y V
 x4:Whole wr b4 24 #[(v,0)]
 x5:Whole wr b5 3 #[I id]
 x8:Whole wr b8 34 #[.nilIface]
 x11:Whole wr b11 3 #[I d]
 row:wr.ownsRow (b11+1) 3 1 rv rl.length (ints rl)
 far:∀k,(k=b4\/k=b5\/k=b8\/k=b11\/rv.ownBlock=some k)->¬vF v cj Y k
 le:b4<b11/\b5<b11/\b8<b11/\w.heap.size<=b11
 mv:Mv (vF v c X) w (vF v cj Y) wr
section
variable {w:World} {v:Nat} {c:Pt} {X:XL} {b4 b5 b8 b11:Nat} {id d:Int} {rv:Value} {rl:List Int} {cj:Pt} {Y:XL} {V:Vo} {wr:World}
theorem LpW.lt(h:LpW w v c X b4 b5 b8 b11 id d rv rl cj Y V wr):∀k,(k=b4\/k=b5\/k=b8\/k=b11\/rv.ownBlock=some k)->k<wr.heap.size:=by
 rintro k (rfl|rfl|rfl|rfl|a)
 ·exact h.x4.lt
 ·exact h.x5.lt
 ·exact h.x8.lt
 ·exact h.x11.lt
 ·exact(h.row.lt k a).2
theorem LpW.move{w':World}{f:Pt}{Z:XL}{U:Vo}(h:LpW w v c X b4 b5 b8 b11 id d rv rl cj Y V wr)(l:VoIn w' v f Z U)(a:Mv (vF v cj Y) wr (vF v f Z) w'):LpW w v c X b4 b5 b8 b11 id d rv rl f Z U w':=by
 have m:=h.lt;have b:=h.far;refine⟨l,h.x4.keep a.keep (b _ (by simp)),h.x5.keep a.keep (b _ (by simp)),h.x8.keep a.keep (b _ (by simp)),h.x11.keep a.keep (b _ (by simp)),Qa h.row a.keep (λg n=>b g (by simp[n])),λk j i=>?_,h.le,h.mv.trans a⟩;rcases a.sub k i with e|e
 ·exact b k j e
 ·have:=m k j;omega
theorem LpW.below{w':World}(h:LpW w v c X b4 b5 b8 b11 id d rv rl cj Y V wr)(hb:Below wr wr w'):LpW w v c X b4 b5 b8 b11 id d rv rl cj Y V w':=h.move (h.vo.below hb) (Mv.below hb)
theorem LpW.cells(h:LpW w v c X b4 b5 b8 b11 id d rv rl cj Y V wr):wr.cell? (b4,0)=some (v,0)/\wr.cell? (b5,0)=some (I id)/\wr.cell? (b8,0)=some .nilIface/\wr.cell? (b11,0)=some (I d):=⟨h.x4.cell 0,h.x5.cell 0,h.x8.cell 0,h.x11.cell 0⟩
theorem LpW.grow{w':World}{g cap:Nat}{a:Int}(h:LpW w v c X b4 b5 b8 b11 id d rv rl cj Y V wr)(q:w'.ownsRow (b11+1) 3 1 (.slice (some (g,0)) (rl.length+1) cap) (rl.length+1) (ints rl++[I a]))(l:wr.grownBy w' rv.ownBlock)(m:rv.ownBlock=some g\/g=wr.heap.size):LpW w v c X b4 b5 b8 b11 id d (.slice (some (g,0)) (rl.length+1) cap) (rl++[a]) cj Y V w':=by
 have j:=h.far;have i:=h.row;have b:=Keep.grown (Keep.refl _ _) l (λg l=>.inl l);have f:∀k,k<=b11->¬rv.ownBlock=some k:=λk b e=>by have:=(i.lt k e).1;omega
 obtain⟨r,s,t,x⟩:=h.le;have n:(rl++[a]).length=rl.length+1:=U;have o:=h.vo.lt;refine⟨h.vo.keep b (λk b e=>?_),h.x4.keep b (f _ (Nat.le_of_lt r)),h.x5.keep b (f _ (Nat.le_of_lt s)),h.x8.keep b (f _ (Nat.le_of_lt t)),h.x11.keep b (f _ N0),?_,λk b=>?_,h.le,⟨?_,λk b=>?_⟩⟩
 ·rcases b with b|rfl
  ·exact j k (by simp[e]) b
  ·exact f 0 (QqM _) e
 ·rw[n,show ints (rl++[a])=ints rl++[I a] by simp[ints]];exact q
 ·have p:¬vF v cj Y g:=by
   rcases m with e|e
   ·exact j g (by simp[e])
   ·intro u;have:=o g u;omega
  rcases b with b|b|b|b|b
  ·exact j k (.inl b)
  ·exact j k (.inr (.inl b))
  ·exact j k (.inr (.inr (.inl b)))
  ·exact j k (.inr (.inr (.inr (.inl b))))
  ·have:g=k:=by simpa[Value.ownBlock]using b
   rw[<-this];exact p
 ·exact h.mv.keep.trans b (λk b=>.inr (by have:=(i.lt k b).1;omega))
 ·exact h.mv.sub k b
end
theorem LpW.start{w w2:World}{v:Nat}{c:Pt}{X Y:XL}{V:Vo}{b4 b5 b8:Nat}{id d:Int}(l:VoIn w2 v c Y V)(a:Keep (vF v c X) w w2)(g:∀k,vF v c Y k↔vF v c X k)(f:∀k,vF v c X k->k<w.heap.size)(o:0<w.heap.size)(x4:Whole w2 b4 24 #[(v,0)])(x5:Whole w2 b5 3 #[I id])(x8:Whole w2 b8 34 #[.nilIface])(h4:w.heap.size<=b4)(h5:w.heap.size<=b5)(q:w.heap.size<=b8)(m:b4≠b8)(n:b5≠b8):
  LpW w v c X b4 b5 b8 w2.heap.size id d (.slice none 0 0) [] c Y V ((w2.setCell (b8,0) .nilIface).alloc (.cells #[I d] 3)):=by
 have b:Keep (λk=>k=b8) w2 ((w2.setCell (b8,0) .nilIface).alloc (.cells #[I d] 3)):=((Keep.refl (λk=>k=b8) w2).setCell (p:=(b8,0)) (.inl rfl) _).alloc _;have h:∀k,vF v c Y k->k≠b8:=λk a e=>by have:=f k ((g k).1 a);omega
 have i:=a.size;have r:=x4.lt;have s:=x5.lt;have t:=x8.lt;refine⟨l.keep b (λk a e=>?_),x4.keep b m,x5.keep b n,?_,?_,⟨rfl,.inl ⟨rfl,rfl⟩⟩,λk a j=>?_,⟨O,O,O,i⟩,⟨a.trans b (λk a=>.inr O),λk a=>.inl ((g k).1 a)⟩⟩
 ·rcases a with a|rfl
  ·exact h k a e
  ·omega
 ·simpa using(x8.set 0 .nilIface).alloc _
 ·exact Whole.new' _ _ _ _ U
 ·have:=f k ((g k).1 j);rcases a with rfl|rfl|rfl|rfl|a
  ·omega
  ·omega
  ·omega
  ·omega
  ·simp[Value.ownBlock]at a
theorem Qls(w:World)(b8 b4 b5 b11:Nat)(u:FrameMode)(h:w.cell? (b8,0)=some .nilIface):
  CallsD Tryz.prog 157 #[(b8,0),(b4,0),(b5,0),(b11,0)] u w λe a w'=>a=u/\e= .returned (.tuple #[])/\w'=w:=by
 go_enter_d Tryz.func157,Tryz.ntmps157
 go_wp2_with fail
 go_end0
 exact⟨rfl,rfl⟩
end vo
namespace vo
open Go.RowKit Go.Maps er st tr nd pg
def pgW(id f:Int)(b:ByteArray)(j:Nat):Page:=⟨1,id,f+j,0,b.extract (32*j) (32*j+32)⟩
def Qn(T:Tree)(f:Int)(A:Nat->Int):Nat->Tree
 |0=>T
 |j+1=>(Qn T f A j).over ⟨f+j,1,2,A j⟩
def upto(A:Nat->Int)(n:Nat):List Int:=(List.range n).map A
theorem Qon(A:Nat->Int)(n:Nat):upto A (n+1)=upto A n++[A n]:=by simp[upto,QyS]
theorem G8(A:Nat->Int)(n:Nat):(upto A n).length=n:=by simp[upto]
def Oo(w:World)(v:Nat)(c:Pt)(X:XL)(V:Vo)(x:Sp×Bl)(f d:Int)(S:Nat->Sto)(A:Nat->Int)(n:Nat)(e:Ending)(w':World):Prop:=
 (V.cap-tot (Zd (Zq X))<d/\e= .returned (.iface 28 (I 71))/\Below w w w')\/
 (d<=V.cap-tot (Zd (Zq X))/\e= .returned .nilIface/\∃N' F,VoIn w' v {c with N:=N'} (Qo (Qt X x.1.id d) x.1.id (Qn x.1.tr f A n) F) {V with s:=S n,l:=(Qo (Qt X x.1.id d) x.1.id (Qn x.1.tr f A n) F).map (·.1)}/\Mv (vF v c X) w (vF v {c with N:=N'} (Qo (Qt X x.1.id d) x.1.id (Qn x.1.tr f A n) F)) w')
theorem Qob(w:World)(v:Nat)(c:Pt)(X:XL)(V:Vo)(x:Sp×Bl)(f:Int)(n:Nat)(b:ByteArray)(fu:Nat)(S:Nat->Sto)(A:Nat->Int)(h:VoIn w v c X V)(hx:x∈X)(hf:0<=f)(h1:1<=n)(h8:n<=8)(hb:b.size=32*n)(bi:f+n<=x.1.size)(aQ:S 0=V.s)(hS:∀j,j<n->Xv fu (S j) (pgW x.1.id f b j)=some (S (j+1),A j,0)/\(S j).n.ops+fu<=1000000000000000000/\(S j).seq<=281474976710655)(av:Qp x.1.tr f n<=V.cap-tot (Zd (Zq X))->∀j,j<=n->(Qn x.1.tr f A j).Ok/\Chk (Qn x.1.tr f A j).flat)(aw:Qp x.1.tr f n<=V.cap-tot (Zd (Zq X))->∀(m:Nat) (W:World) (F:List Nat),m<n->TrAt W F x.2.p (Qn x.1.tr f A m)->(Qn x.1.tr f A m).Ok->Chk (Qn x.1.tr f A m).flat->C 158 #[.pointer (some ⟨x.2.p,0,none⟩),.agg #[I (f+m),I 1,I 2,I (A m)]] W λe w'=>e= .returned (I 0)/\∃F',TrAt w' F' x.2.p (Qn x.1.tr f A (m+1))/\Mv (λk=>k∈F) W (λk=>k∈F') w'):
  C 82 #[.pointer (some ⟨v,0,none⟩),I x.1.id,I f,.string b] w (Oo w v c X V x f (Qp x.1.tr f n) S A n):=by
 have ha:=h.acc hx;have ai:=h.lt;have h0:=h.laid.lt;have HW:Hid (∀W,Below w.heap.size w W->C 74 #[.pointer (some ⟨v,0,none⟩),I x.1.id,I f,I n,.bool true] W λe w'=>e= .returned .nilIface/\Below W.heap.size W w'):=by
  intro W o;have:=Kj W v c X V x f n true (h.below o) hx (by unfold I64;omega) (by unfold I64;omega);rw[show Gt x.1.size f n true=0 by unfold Gt;rw[QqE (by simp;omega),QqE O]]at this;exact this
 obtain⟨i,t⟩:∃i,Qt X x.1.id (Qp x.1.tr f n)=i:=⟨_,rfl⟩;have ax:Hid (∀W,Below w.heap.size w W->C 156 #[.pointer (some ⟨v,0,none⟩),I x.1.id,I f,I n] W λe w'=>(e= .returned (.tuple #[I (Qp x.1.tr f n),.nilIface])/\Qp x.1.tr f n<=V.cap-tot (Zd (Zq X))/\VoIn w' v c i (V.re i)/\Keep (vF v c X) W w')\/(e= .returned (.tuple #[I (Qp x.1.tr f n),.iface 28 (I 71)])/\V.cap-tot (Zd (Zq X))<Qp x.1.tr f n/\Below W.heap.size W w')):=λW o=>(Nu W v c X V x f n (h.below o) hx hf O O).mono (λe w' hq=>by
  rw[<-t];rcases hq with⟨q1,H,q3,q4⟩|⟨q1,H,q3⟩
  ·exact .inl ⟨q1,H,q3,q4.keep⟩
  ·exact .inr ⟨q1,H,q3⟩)
 have aR:=Li (T:=x.1.tr) (f:=f) (n:=n) (h.tre x hx).2.2 hf O O;obtain⟨d,hd⟩:∃d,Qp x.1.tr f n=d:=⟨_,rfl⟩;rw[hd]at ax t aR av aw ⊢;have hD:∀q,vF v c i q↔vF v c X q:=λq=>by rw[<-t];unfold vF Qt;rw[Nc]
 have aS:Hid (∀(j:Nat) W N',j<n->VoIn W v {c with N:=N'} i {V.re i with s:=S j}->C 145 #[.pointer (some ⟨c.q,0,none⟩),.agg #[I 1,I x.1.id,I (f+j),I 0,.string (b.extract (32*j) (32*j+32))]] W λe w'=>∃N2,e= .returned (.tuple #[I (A j),.nilIface])/\VoIn w' v {c with N:=N2} i {V.re i with s:=S (j+1)}/\Mv (vF v {c with N:=N'} i) W (vF v {c with N:=N2} i) w'):=by
  intro j W N' aT hW;obtain⟨r1,r2,r3⟩:=hS j aT;refine(Ad W v {c with N:=N'} i _ (pgW x.1.id f b j) fu _ hW r1 r2 r3).mono ?_;rintro e w' ⟨u,N2,rfl,q1,H,q3⟩;rcases q3 with⟨_,rfl⟩|⟨q3,_⟩
  ·exact⟨N2,rfl,q1,El H⟩
  ·exact absurd rfl q3
 have Z:Hid (d<=V.cap-tot (Zd (Zq X))->∀(m:Nat) W N' F,m<n->VoIn W v {c with N:=N'} (Qo i x.1.id (Qn x.1.tr f A m) F) {V with s:=S n,l:=(Qo i x.1.id (Qn x.1.tr f A m) F).map (·.1)}->C 158 #[.pointer (some ⟨x.2.p,0,none⟩),.agg #[I (f+m),I 1,I 2,I (A m)]] W λe w'=>e= .returned (I 0)/\∃F',VoIn w' v {c with N:=N'} (Qo i x.1.id (Qn x.1.tr f A (m+1)) F') {V with s:=S n,l:=(Qo i x.1.id (Qn x.1.tr f A (m+1)) F').map (·.1)}/\Mv (vF v {c with N:=N'} (Qo i x.1.id (Qn x.1.tr f A m) F)) W (vF v {c with N:=N'} (Qo i x.1.id (Qn x.1.tr f A (m+1)) F')) w'):=by
  intro Q m W N' F hm hW;have B:(({({x.1 with used:=x.1.used+d}:Sp)with tr:=Qn x.1.tr f A m},{x.2 with F:=F}):Sp×Bl)∈Qo i x.1.id (Qn x.1.tr f A m) F:=by
   rw[<-t];exact Nt (Y5 (d:=d) hx)
  obtain⟨t1,t2,t3⟩:=hW.tre _ B;obtain⟨o1,o2⟩:=av Q (m+1) O;refine(aw Q m W F hm t1 t2 t3).mono ?_;rintro e w' ⟨rfl,F',hF,aV⟩;have q:=VoIn.grown hW B hF aV o1 o2;have H:=Cq (c:={c with N:=N'}) hW B (T:=Qn x.1.tr f A (m+1)) aV;have e1:Qo (Qo i x.1.id (Qn x.1.tr f A m) F) x.1.id (Qn x.1.tr f A (m+1)) F'=Qo i x.1.id (Qn x.1.tr f A (m+1)) F':=Qjx _ _ _ _ _ _;exact⟨rfl,F',by rw[<-e1];exact q,by rw[<-e1];exact H⟩
 have ay:Hid (∀(m:Nat) W N' F,VoIn W v {c with N:=N'} (Qo i x.1.id (Qn x.1.tr f A m) F) {V with s:=S n,l:=(Qo i x.1.id (Qn x.1.tr f A m) F).map (·.1)}->(Instr.lookup 113 (.map (some c.tb)) (I x.1.id) false).run Tryz.prog W= .ok (.pointer (some ⟨x.2.p,0,none⟩)) W/\W.cell? ⟨v,2,none⟩=some (.map (some c.tb))):=λm W N' F hW=>by
  have B:(({({x.1 with used:=x.1.used+d}:Sp)with tr:=Qn x.1.tr f A m},{x.2 with F:=F}):Sp×Bl)∈Qo i x.1.id (Qn x.1.tr f A m) F:=by
   rw[<-t];exact Nt (Y5 (d:=d) hx)
  have q:=hW.lookT B;exact⟨q,hW.obj.cell 2⟩
 have an:∃F,i=Qo i x.1.id (Qn x.1.tr f A 0) F:=by
  refine⟨x.2.F,?_⟩;rw[<-t];have bj:(Qt X x.1.id d).Pairwise λa b=>a.1.id<b.1.id:=by
   unfold Qt Gf;rw[QjP];refine h.up.imp (λ{a b} bl=>?_);have e:∀y:Sp×Bl,((if y.1.id=x.1.id then(({y.1 with used:=y.1.used+d}:Sp),y.2)else y):Sp×Bl).1.id=y.1.id:=λy=>by split<;>rfl
   rw[e,e];exact bl
  exact(Tv bj (Y5 (d:=d) hx)).symm
 have⟨aa,HD,aW,H0⟩:=Q4 an hD ai h0;have ao:Hid (∀w',V.cap-tot (Zd (Zq X))<d->Below w.heap.size w w'->Oo w v c X V x f d S A n (.returned (.iface 28 (I 71))) w'):=λw' q1 H=>.inl ⟨q1,rfl,H⟩;have L:Hid (∀w' N' F,d<=V.cap-tot (Zd (Zq X))->VoIn w' v {c with N:=N'} (Qo i x.1.id (Qn x.1.tr f A n) F) {V with s:=S n,l:=(Qo i x.1.id (Qn x.1.tr f A n) F).map (·.1)}->Mv (vF v c X) w (vF v {c with N:=N'} (Qo i x.1.id (Qn x.1.tr f A n) F)) w'->Oo w v c X V x f d S A n (.returned .nilIface) w'):=λw' N' F q1 H q3=>by
  rw[<-t]at H q3;exact .inr ⟨q1,rfl,N',F,H,q3⟩
 have bm:Hid (({V.re i with s:=S 0}:Vo)=V.re i):=by
  show _=_;rw[aQ];rfl
 have bY:IntKind.i64.wrap ((b.size:Int).tdiv 32)=n:=by rw[hb,Int.tdiv_eq_ediv_of_nonneg O,QqN];omega
 have bZ:IntKind.i64.wrap ((b.size:Int).tmod 32)=0:=by rw[hb,Int.tmod_eq_emod_of_nonneg O,QqN];omega
 have bB:(n:Int)<=8:=O;have bA:f+n<=16777216:=O;obtain⟨id,az⟩:∃id,x.1.id=id:=⟨_,rfl⟩;obtain⟨T,aX⟩:∃T,x.1.tr=T:=⟨_,rfl⟩;rw[az]at HW ax aS Z ay aa L;rw[aX]at Z ay aa L;obtain⟨P,hP⟩:∃P,Oo w v c X V x f d S A n=P:=⟨_,rfl⟩;rw[hP]at ao L ⊢;rw[az];clear aw av h hx ha ai h0 hD t hd hS aQ an aR bi hP aX az;obtain⟨b4,aF⟩:∃q,w.heap.size=q:=⟨_,rfl⟩;obtain⟨W3,ab⟩:∃W3,(((w.alloc (.cells #[.pointer (some ⟨v,0,none⟩)] 24)).alloc (.cells #[I id] 3)).alloc (.cells #[.nilIface] 34))=W3:=⟨_,rfl⟩;have aH:Hid (Below w.heap.size w W3):=by
  rw[<-ab];exact(((QqA _ _).alloc (QqB _) _).alloc U _).alloc (by simp;omega) _
 have aY:Hid (∀W,Below W3.heap.size W3 W->Below w.heap.size w W/\Whole W b4 24 #[.pointer (some ⟨v,0,none⟩)]/\Whole W (b4+1) 3 #[I id]/\Whole W (b4+1+1) 34 #[.nilIface]):=λW o=>by
  have y4:Whole W3 b4 24 #[.pointer (some ⟨v,0,none⟩)]:=by rw[<-ab];exact((Whole.new' w _ _ _ aF).alloc _).alloc _
  have y5:Whole W3 (b4+1) 3 #[I id]:=by rw[<-ab];exact(Whole.new' _ _ _ _ (by simp[aF])).alloc _
  have R:Whole W3 (b4+1+1) 34 #[.nilIface]:=by rw[<-ab];exact Whole.new' _ _ _ _ (by simp[aF])
  exact⟨aH.out.trans (o.mono aH.out.size),y4.below o y4.lt,y5.below o y5.lt,R.below o R.lt⟩
 have ac:Hid (∀k,¬k<w.heap.size->¬vF v c X k):=λk hk hv=>hk (aW.out k hv);go_enter_defers Tryz.func82,Tryz.ntmps82
 obtain⟨_,e4,e5,e8⟩:=aY.out W3 (QqA _ _);have z4:W3.cell? ⟨b4,0,none⟩=some (.pointer (some ⟨v,0,none⟩)):=e4.cell 0;have z5:W3.cell? ⟨b4+1,0,none⟩=some (I id):=e5.cell 0;clear e4 e5 e8;go_wp2_with fail
 with_reducible refine(HW.out _ aH.out).mono ?_
 rintro e w1 ⟨rfl,aZ⟩;obtain⟨aA,x4,x5,x8⟩:=aY.out w1 aZ;have c4:w1.cell? ⟨b4,0,none⟩=some (.pointer (some ⟨v,0,none⟩)):=x4.cell 0;have c5:w1.cell? ⟨b4+1,0,none⟩=some (I id):=x5.cell 0;have⟨bn,bo,aK,aj⟩:=Q4 x4 x5 x8 aA;clear aZ aA x4 x5 x8 z4 z5 ab;go_wp2_with fail
 refine(ax.out w1 aj.out).mono ?_;rintro e w2 (⟨rfl,Q,aB,ad⟩|⟨rfl,ap,aL⟩)
 ·have⟨bp,Z⟩:=Q2 Q (Z.out Q);clear Q;have y4:=bn.out.keep ad (ac.out _ O);have y5:=bo.out.keep ad (ac.out _ O);have R:=aK.out.keep ad (ac.out _ O);have a0:=Q7h (LpW.start (id:=id) (d:=d) aB ((Keep.below (F:=vF v c X) aj.out).trans ad (λk hk=>.inl hk)) HD.out aW.out H0.out y4 y5 R O O O O O);have d8:w2.cell? ⟨b4+1+1,0,none⟩=some .nilIface:=R.cell 0;have g8:=R.fz 0;have l8:=R.lt;clear aB ad y4 y5 R c4 c5;go_wp2_with fail
  obtain⟨b11,a4⟩:∃q,w2.heap.size=q:=⟨_,rfl⟩;rw[a4]at a0 ⊢;go_loopw [12,13,14,15,50] (λrv _ _ _ iv wr=>∃(j:Nat) (Ar:Option Addr) (q:Nat) (N':Nat->Prop),j<=n/\iv= I j/\rv= .slice Ar j q/\Hid (LpW w v c X b4 (b4+1) (b4+1+1) b11 id d (.slice Ar j q) (upto A j) {c with N:=N'} i {V.re i with s:=S j} wr)) (λ_ _ _ _ iv _=>n-(intOf iv).toNat)
  case atStart=>
   refine⟨0,none,0,c.N,QqM _,rfl,rfl,?_⟩;rw[bm.out];exact a0.out
  case round=>
   obtain⟨j,Ar,q,N',aT,rfl,rfl,HL⟩:=hrel;by_cases ai:j<n
   ·have b0:(j:Int)<(n:Int):=O;have b1:(0:Int)<=(j:Int):=QkD _;obtain⟨z4,z5,z8,ak⟩:=HL.out.cells;have zv:wr.cell? ⟨v,0,none⟩=some (.pointer (some ⟨c.q,0,none⟩)):=HL.out.vo.obj.cell 0;have h1:IntKind.i64.wrap (f+(j:Int))=f+j:=by rw[QqN];omega
    have h2:IntKind.i64.wrap ((j:Int)*32)=(j:Int)*32:=by rw[QqN];omega
    have h3:IntKind.i64.wrap ((j:Int)+1)=(j:Int)+1:=by rw[QqN];omega
    have h4:IntKind.i64.wrap (((j:Int)+1)*32)=((j:Int)+1)*32:=by rw[QqN];omega
    have bq:(0:Int)<=(j:Int)*32:=O;have a5:(j:Int)*32<=((j:Int)+1)*32:=O;have b2:((j:Int)+1)*32<=32*(n:Int):=O;have b3:(0:Int)<=((j:Int)+1)*32:=O;have br:((j:Int)*32).toNat=32*j:=O;have bs:(((j:Int)+1)*32).toNat=32*j+32:=O;have b5:∀W,(Instr.slice 9 (.string b) (some (I ((j:Int)*32))) (some (I (((j:Int)+1)*32))) none).run Tryz.prog W= .ok (.string (b.extract (32*j) (32*j+32))) W:=λW=>by rw[run_slice_string W 9 b .i64 .i64 _ _ Tryz.underlying9 bq a5 O,br,bs]
    have bu:=Q7h (aS.out j wr.drew N' ai (HL.out.vo.below (QqA _ _).drew));have HK:Hid (∀W,Below wr.heap.size wr W->W.cell? ⟨b4,0,none⟩=some (.pointer (some ⟨v,0,none⟩))/\W.cell? ⟨b4+1,0,none⟩=some (I id)/\W.cell? ⟨v,0,none⟩=some (.pointer (some ⟨c.q,0,none⟩))):=λW o=>⟨Qq o z4,Qq o z5,Qq o zv⟩;clear z8 ak;go_wp2_with fail
    go_region_held3 (λw'=>w'.cell? ⟨b4,0,none⟩=some (.pointer (some ⟨v,0,none⟩))/\w'.cell? ⟨b4+1,0,none⟩=some (I id)/\w'.cell? ⟨v,0,none⟩=some (.pointer (some ⟨c.q,0,none⟩))) (first|with_reducible exact aM.out|with_reducible exact HK.out _ (QqA _ _)|with_reducible exact HK.out _ (QqA _ _).drew) ((go_at_call 145;refine bu.out.mono ?_;rintro e Y ⟨N2,rfl,ae,af⟩;have al:=Q7h ((HL.out.below (QqA _ _).drew).move ae af);have aM:Hid (Y.cell? ⟨b4,0,none⟩=some (.pointer (some ⟨v,0,none⟩))/\Y.cell? ⟨b4+1,0,none⟩=some (I id)/\Y.cell? ⟨v,0,none⟩=some (.pointer (some ⟨c.q,0,none⟩))):=⟨al.out.cells.1,al.out.cells.2.1,al.out.vo.obj.cell 0⟩;clear ae af))
    have bv:Hid (∀(j':Nat) (u:Value),([I (A j)]:List Value)[j']? =some u->(Y.alloc (.cells #[I (A j)] 3)).cell? ((⟨Y.heap.size,0,none⟩:Addr).add j')=some u):=World.news_of_block (by simpa using QzY Y (.cells #[I (A j)] 3));have aq:∀u∈([I (A j)]:List Value),u.oneCell'=true:=by simp[Value.oneCell']
    have⟨a6,aN⟩:=Q2 aq (al.out.below ((QqA _ _).alloc (QqB _) (.cells #[I (A j)] 3)));have bx:Hid ((Y.alloc (.cells #[I (A j)] 3)).ownsRow (b11+1) 3 1 (.slice Ar j q) j (ints (upto A j))):=by
     have:=aN.out.row;rwa[G8]at this
    have bz:Hid (b11+1<=(Y.alloc (.cells #[I (A j)] 3)).heap.size):=aN.out.x11.lt;obtain⟨i0,a7,a8,a9,ba⟩:=QzX Ex;have⟨bF,bH,bK,bL⟩:=Q4 a7 a8 a9 ba;clear aq a7 a8 a9 ba;go_wp2_with (at_builtin;go_must (refine wpList_append_lies _ rfl (.tmp 76) (.tmp 78) 39 rfl (b11+1) 3 i0 _ 1 8 Tryz.underlying39 bF.out bH.out bK.out bL.out rfl O (.slice Ar j q) j (ints (upto A j)) rfl bx.out ⟨Y.heap.size,0,none⟩ 1 1 [I (A j)] rfl rfl bv.out a6.out O (by simp only[maxLen];omega) O bz.out _ rfl ?_;intro g2 H w6 ag bb ar _;have⟨bM,bN,bc⟩:=Q3 ag bb ar;clear ag bb ar))
    have bQ:Hid (LpW w v c X b4 (b4+1) (b4+1+1) b11 id d (.slice (some ⟨g2,0,none⟩) (j+1) H) (upto A (j+1)) {c with N:=N2} i {V.re i with s:=S (j+1)} w6):=by
     have q:=aN.out.grow (w':=w6) (g:=g2) (cap:=H) (a:=A j) (by rw[G8];exact bM.out) bN.out bc.out;rw[G8,<-Qon]at q;exact q
    have K:n-(intOf (I ((j:Int)+1))).toNat<n-(intOf (I (j:Int))).toNat:=by simp[intOf];omega
    exact⟨⟨j+1,some ⟨g2,0,none⟩,H,N2,O,by go_num,rfl,bQ.out⟩,K⟩
   ·obtain rfl:j=n:=O;obtain⟨F0,bR⟩:=aa.out;have bS:Hid (LpW w v c X b4 (b4+1) (b4+1+1) b11 id d (.slice Ar j q) (upto A j) {c with N:=N'} (Qo i id (Qn T f A 0) F0) {V with s:=S j,l:=(Qo i id (Qn T f A 0) F0).map (·.1)} wr):=by
     show LpW _ _ _ _ _ _ _ _ _ _ _ _ _ _ _ _;rw[<-bR];exact HL.out
    have z:wr.ownsRow (b11+1) 3 1 (.slice Ar j q) j (ints (upto A j)):=by
     have:=HL.out.row;rwa[G8]at this
    obtain⟨gi,rfl,_,_,_,r,_⟩:=Qx z O;clear z r HL;go_wp2_with fail
    go_loopw [16,17,83] (λ_ _ iv wr=>∃(m:Nat) (F:List Nat),m<=j/\iv= I m/\Hid (LpW w v c X b4 (b4+1) (b4+1+1) b11 id d (.slice (some ⟨gi,0,none⟩) j q) (upto A j) {c with N:=N'} (Qo i id (Qn T f A m) F) {V with s:=S j,l:=(Qo i id (Qn T f A m) F).map (·.1)} wr)) (λ_ _ iv _=>j-(intOf iv).toNat)
    case atStart=>exact⟨0,F0,QqM _,rfl,bS.out⟩
    case round=>
     obtain⟨m,F,b6,rfl,M⟩:=hrel;by_cases be:m<j
     ·have b7:(m:Int)<(j:Int):=O;have b8:(0:Int)<=(m:Int):=QkD _;obtain⟨z4,z5,z8,ak⟩:=M.out.cells;have z:wr.ownsRow (b11+1) 3 1 (.slice (some ⟨gi,0,none⟩) j q) j (ints (upto A j)):=by
       have:=M.out.row;rwa[G8]at this
      obtain⟨g',ah,_,_,_,r,_⟩:=Qx z O;injection ah with ah;injection ah with ah;subst ah;have ci:wr.cell? ⟨gi,m,none⟩=some (I (A m)):=by
       have:=r m (I (A m)) (by simp[ints,upto,be]);simpa using this
      have hl:=ay.out m wr.drew N' F (M.out.vo.below (QqA _ _).drew);obtain⟨a5,au⟩:=hl;have zv:wr.cell? ⟨v,2,none⟩=some (.map (some c.tb)):=au;have h1:IntKind.i64.wrap (f+(m:Int))=f+m:=by rw[QqN];omega
      have bT:=Q7h (Z.out m wr.drew N' F be (M.out.vo.below (QqA _ _).drew));have HK:Hid (∀W,Below wr.heap.size wr W->W.cell? ⟨b4,0,none⟩=some (.pointer (some ⟨v,0,none⟩))/\W.cell? ⟨b4+1,0,none⟩=some (I id)/\W.cell? ⟨v,2,none⟩=some (.map (some c.tb))):=λW o=>⟨Qq o z4,Qq o z5,Qq o zv⟩;clear z8 ak z r au;go_wp2_with fail
      go_region_held3 (λw'=>w'.cell? ⟨b4,0,none⟩=some (.pointer (some ⟨v,0,none⟩))/\w'.cell? ⟨b4+1,0,none⟩=some (I id)/\w'.cell? ⟨v,2,none⟩=some (.map (some c.tb))) (first|with_reducible exact aM.out|with_reducible exact HK.out _ (QqA _ _)|with_reducible exact HK.out _ (QqA _ _).drew) ((go_at_call 158;refine bT.out.mono ?_;rintro e Y ⟨rfl,F',ae,af⟩;have am:=Q7h ((M.out.below (QqA _ _).drew).move ae af);have aM:Hid (Y.cell? ⟨b4,0,none⟩=some (.pointer (some ⟨v,0,none⟩))/\Y.cell? ⟨b4+1,0,none⟩=some (I id)/\Y.cell? ⟨v,2,none⟩=some (.map (some c.tb))):=⟨am.out.cells.1,am.out.cells.2.1,am.out.vo.obj.cell 2⟩;clear ae af))
      go_wp2_with fail
      have K:j-(intOf (I ((m:Int)+1))).toNat<j-(intOf (I (m:Int))).toNat:=by simp[intOf];omega
      exact⟨⟨m+1,F',O,by go_num,am.out⟩,K⟩
     ·obtain rfl:m=j:=O;obtain⟨z4,z5,z8,ak⟩:=M.out.cells;have g8:=M.out.x8.fz 0;have l8:=M.out.x8.lt;go_wp2_with fail
      have bf:Keep (λq=>q=b4+1+1) wr (wr.setCell ⟨b4+1+1,0,none⟩ .nilIface):=Keep.set1 wr (b4+1+1) 0 _;have bV:Whole (wr.setCell ⟨b4+1+1,0,none⟩ .nilIface) (b4+1+1) 34 #[.nilIface]:=by simpa using M.out.x8.set 0 .nilIface
      have bg:(wr.setCell ⟨b4+1+1,0,none⟩ .nilIface).cell? ⟨b4+1+1,0,none⟩=some .nilIface:=bV.cell 0;have b9:=M.out.mv.keep.size;have bW:=M.out.vo.keep bf (λq hq e=>by
       rcases hq with hq|rfl
       ·exact M.out.far q (.inr (.inr (.inl e))) hq
       ·omega)
      refine leaves_cons (f:=157) (args:=#[.pointer (some ⟨b4+1+1,0,none⟩),.pointer (some ⟨b4,0,none⟩),.pointer (some ⟨b4+1,0,none⟩),.pointer (some ⟨b11,0,none⟩)]) U (by simp[go_sem]) ?_;refine(Qls _ _ _ _ _ _ bg).mono ?_;rintro e u' w' ⟨rfl,rfl,rfl⟩;exact⟨.nilIface,by simp[results,Tryz.results82,go_sem,bg],L.out _ N' F bp.out bW ⟨M.out.mv.keep.trans bf (λq hq=>.inr O),M.out.mv.sub⟩⟩
 ·have R:=aK.out.below aL aK.out.lt;have d8:w2.cell? ⟨b4+1+1,0,none⟩=some .nilIface:=R.cell 0;have g8:=R.fz 0;have l8:=R.lt;have bh:Hid (Below w.heap.size w w2):=aj.out.trans (aL.mono aj.out.size);have bX:=Q7h ap;clear ap aL R c4 c5;go_wp2_with fail
  refine⟨.iface 28 (I 71),by simp[results,Tryz.results82,go_sem,d8,l8],ao.out _ bX.out ?_⟩;have hs:=bh.out.size;exact bh.out.trans (Keep.toBelow ((((Keep.refl (λk=>k=b4+1+1) w2).setCell (p:=⟨b4+1+1,0,none⟩) (.inl rfl) _).setCell (p:=⟨b4+1+1,0,none⟩) (.inl rfl) _).alloc _) hs (λk hk=>O))
abbrev Qa1:ByteArray:=⟨#[119,114,105,116,101]⟩
def U9(X:XL)(x:Sp×Bl)(f d:Int)(A:Nat->Int)(n:Nat)(F:List Nat):XL:=Qo (Qt X x.1.id d) x.1.id (Qn x.1.tr f A n) F
def Q48(w:World)(v:Nat)(c:Pt)(X:XL)(V:Vo)(x:Sp×Bl)(f d:Int)(S:Nat->Sto)(A:Nat->Int)(n:Nat)(e:Ending)(w':World):Prop:=
 (V.cap-tot (Zd (Zq X))<d/\Ib w Qa1 x.1.id 71 e w')\/
 (d<=V.cap-tot (Zd (Zq X))/\e= .returned .nilIface/\∃N' F,VoIn w' v {c with N:=N'} (U9 X x f d A n F) (Vo.kept {V with s:=S n,l:=(U9 X x f d A n F).map (·.1),sure:=false} (U9 X x f d A n F))/\Mv (vF v c X) w (vF v {c with N:=N'} (U9 X x f d A n F)) w')
theorem Lr(w:World)(v:Nat)(c:Pt)(X:XL)(V:Vo)(x:Sp×Bl)(f:Int)(n:Nat)(b:ByteArray)(L:Nat)(S:Nat->Sto)(A:Nat->Int)(h:VoIn w v c X V)(hx:x∈X)(hf:0<=f)(h1:1<=n)(h8:n<=8)(hb:b.size=32*n)(M:f+n<=x.1.size)(Q:S 0=V.s)(hS:∀j,j<n->Xv L (S j) (pgW x.1.id f b j)=some (S (j+1),A j,0)/\(S j).n.ops+L<=1000000000000000000/\(S j).seq<=281474976710655)(i:Qp x.1.tr f n<=V.cap-tot (Zd (Zq X))->∀j,j<=n->(Qn x.1.tr f A j).Ok/\Chk (Qn x.1.tr f A j).flat)(l:Qp x.1.tr f n<=V.cap-tot (Zd (Zq X))->∀(m:Nat) (W:World) (F:List Nat),m<n->TrAt W F x.2.p (Qn x.1.tr f A m)->(Qn x.1.tr f A m).Ok->Chk (Qn x.1.tr f A m).flat->C 158 #[(x.2.p,0),.agg #[I (f+m),I 1,I 2,I (A m)]] W λe w'=>e= .returned (I 0)/\∃F',TrAt w' F' x.2.p (Qn x.1.tr f A (m+1))/\Mv (λk=>k∈F) W (λk=>k∈F') w')
  (a:Qp x.1.tr f n<=V.cap-tot (Zd (Zq X))->∀F,Ej (U9 X x f (Qp x.1.tr f n) A n F)) (q:V.last.length<=100000):
  C 28 #[(v,0),I x.1.id,I f,.string b] w (Q48 w v c X V x f (Qp x.1.tr f n) S A n):=by
 have r:=Q7h (Qob w v c X V x f n b L S A h hx hf h1 h8 hb M Q hS i l);obtain⟨d,hd⟩:=Zx (Qp x.1.tr f n);rw[hd]at r a ⊢;have⟨R,T⟩:=Q2 a q;have Y:Hid (∀w t y,C 72 #[(v,0),.string Qa1,I x.1.id,.iface t y] w λx w'=>x= .returned (.iface 183 (w,0))/\w.alloc (.cells #[.string Qa1,I _,.iface t y] 187)=w'):=λw t y=>C8 w _ _ _ t y;clear l i h hx hS a q hd;go_in
 go_wp2_with fail
 refine r.o.mono ?_;rintro e w1 (⟨q1,rfl,u⟩|⟨q1,rfl,N',F,u,q3⟩)
 ·have⟨g,z⟩:=Q2 q1 u;clear q1 u;go_wp2_with fail
  with_reducible refine(Y.o _ _ _).mono ?_
  rintro e w2 ⟨rfl,rfl⟩;go_wp2_with fail
  go_ret
  exact .inl ⟨g.o,_,rfl,Whole.new _ _ _,z.o.alloc z.o.size _⟩
 ·have HD:=Q7h (Nz w1 v {c with N:=N'} _ _ Qa1 x.1.id u ⟨R.o q1 F,T.o⟩);have⟨g,Z⟩:=Q2 q1 q3;clear q1 u q3;go_wp2_with fail
  with_reducible refine HD.o.mono ?_
  rintro e w2 ⟨rfl,H,K⟩;have⟨B,aa⟩:=Q2 H K;clear H K;go_wp2_with fail
  go_ret
  exact .inr ⟨g.o,rfl,N',F,B.o,Z.o.trans ⟨aa.o,λk hk=>.inl hk⟩⟩
end vo
namespace vo
open Go.RowKit Go.Maps er st tr nd pg ge
def ex1:Ext:=⟨3,1,2,0⟩
def tE(a:Int):Tree:= .one ⟨a,[ex1]⟩
theorem Qbw:Tree.no.over ex1=tE (-1):=J
theorem ok1(a:Int):(tE a).Ok:=⟨QqB 1,show(1:Nat)<=8 by decide⟩
theorem Q6z:Chk [ex1]:=Og _ J
theorem Qw0:Qp .no 3 1=1:=J
def xt:ByteArray:=strOfNums (List.replicate 32 120)
def p0:Page:=⟨1,1,3,0,xt⟩
theorem pg0:pgW 1 3 xt 0=p0:=J
theorem Q2k:Jd {p0 with seq:=0}=true:=J
def p1:Page:=Tf 1 (.leaf [ex1])
theorem Q4h:Jd {p1 with seq:=0}=true:=J
def sp1:rt.Space:=⟨1,10,1,1⟩
def p2:Page:=Py 1 [sp1]
theorem Qwe:Jd {p2 with seq:=0}=true:=J
theorem Q3c:rt.Bh 1 [sp1]=true:=J
def t0:ByteArray:=Kr {p0 with seq:=0}
def t1:ByteArray:=Kr {p1 with seq:=1}
def t2:ByteArray:=Kr {p2 with seq:=2}
theorem rf0:Xh t0=({p0 with seq:=0},0):=Be _ Q2k
theorem rf1:Xh t1=({p1 with seq:=1},0):=Be _ (Bn (p:=p1) Q4h D D)
theorem rf2:Xh t2=({p2 with seq:=2},0):=Be _ (Bn (p:=p2) Qwe D D)
theorem sz0:t0.size<=128:=Ql8 Q2k
theorem sz1:t1.size<=128:=Ql8 (Bn (p:=p1) Q4h D D)
theorem sz2:t2.size<=128:=Ql8 (Bn (p:=p2) Qwe D D)
abbrev nE:Nand:=nV [t0,t1,t2]
theorem rs0:Qj nE 0=({p0 with seq:=0},0):=by unfold Qj;rw[rd0];exact rf0
theorem rs1:Qj nE 1=({p1 with seq:=1},0):=by unfold Qj;rw[rd1];exact rf1
theorem Qvy:Ql nE (nE.blocks*nE.per)=[⟨0,{p0 with seq:=0}⟩,⟨1,{p1 with seq:=1}⟩,⟨2,{p2 with seq:=2}⟩]:=Q1l t0 t1 t2 _ _ _ rf0 rf1 rf2
def fE:Fnd:=⟨2,{p2 with seq:=2}⟩
theorem Q6q:rt.Yf fE.p.body=some (1,[sp1]):=rt.Qfz Q3c
theorem Q0q:rt.Y9 (Ql nE (nE.blocks*nE.per))=[fE]:=by
 rw[Qvy];have a:rt.Kw ⟨0,{p0 with seq:=0}⟩=false:=by unfold rt.Kw;rw[show decide (({p0 with seq:=0}:Page).kind=4)=false from rfl];rfl
 have a1:rt.Kw ⟨1,{p1 with seq:=1}⟩=false:=by unfold rt.Kw;rw[show decide (({p1 with seq:=1}:Page).kind=4)=false from rfl];rfl
 have a2:rt.Kw fE=true:=by
  unfold rt.Kw;rw[Q6q];rfl
 show List.filter rt.Kw [⟨0,{p0 with seq:=0}⟩,⟨1,{p1 with seq:=1}⟩,fE]=[fE];rw[QjH (by rw[a];simp),QjH (by rw[a1];simp),QxN a2];rfl
theorem Q7u:Yd nE 1 1=some (2,⟨(Kc [ex1]).toArray⟩):=by
 unfold Yd;rw[rs1];rfl
theorem Q53:Z8 nE 1 10 [ex1]=true:=by
 unfold Z8;show(O9 nE 1 10 ex1&&true)=true;unfold O9 Gx;show(true&&(false || (Bg nE 1 3 0&&true))&&true)=true;have:Bg nE 1 3 0=true:=by
  unfold Bg;rw[rs0];kernel_rfl
 rw[this];rfl
def spE:Sp:=⟨1,10,1,tE 1⟩
theorem Q5t:Ldb nE 10 [sp1] [spE] where
 len:=rfl
 sp:=λj x s c b=>by
  match j,c,b with
  |0,c,b=>
   obtain rfl:sp1=x:=by simpa using c
   obtain rfl:spE=s:=by simpa using b
   exact⟨rfl,⟨λa ha=>(by have e:a=1:=(by simpa[spE,tE,Tree.ats]using ha);subst e;omega),by simp[spE,tE,Tree.ats],λ_=>Q7u⟩,ok1 1,Q6z,Q53,rfl⟩
  |j+1,c,b=>simp at c
 room:=by show(1:Int)+0<=10;omega
 pos:=λs b=>by
  obtain rfl:s=spE:=(by simpa using b);show(0:Int)<=1;omega
theorem Zqf:Q80 (Ju nE) fE 1 [spE]:=⟨[sp1],Q6q,Q5t⟩
theorem Q5b(s:Sto):Iz s (tE 1) 2=Qz1:=by
 unfold Iz;rw[QqE (by rw[show(Zb (Tree.flat (tE 1)) 2).1=0 by kernel_rfl];decide)]
theorem Q5e(s:Sto)(h:s.n=nE):Iz s (tE 1) 3=xt:=by
 unfold Iz;rw[show Zb (Tree.flat (tE 1)) 3=(2,0) by kernel_rfl,QqH rfl,h,rs0];rfl
theorem Q67{vv:List Int}{T:Tree}{s:Sto}(h:Wrt 3 1 (tE (-1)) (sV [t0] vv) T s):T=tE 1/\s=sV [t0,t1] vv:=by
 obtain⟨_,_,⟨rfl,rfl⟩,⟨a,ha,d,_⟩|⟨ha,pg,b,e,f,rfl⟩⟩:=h
 ·exact absurd (by simpa[tE,Tree.ats]using ha.symm) d
 ·obtain rfl:Pg.leaf [ex1]=pg:=by simpa[tE,Tree.pgs]using e
  have c:Xv 3 (sV [t0] vv) p1=some (s,b,0):=f;rw[app1 t0 p1 vv Q4h]at c;injection c with c;injection c with h1 h2;injection h2 with h2 h3;subst h1 h2;exact⟨rfl,rfl⟩
theorem Q7a(vv:List Int):Q9x (Qkz 3 1) (Qou 3 1) (tE (-1)) (sV [t0] vv):=by
 have key:∀j V v,WrTo (Qkz 3 1) j (tE (-1)) (sV [t0] vv) V v->∀pg,V.ats[j]? =some (-1)->V.pgs[j]? =some pg->V=tE (-1)/\v=sV [t0] vv/\pg= .leaf [ex1]:=by
  intro j V v h pg ha c;match j with
  |0=>
   obtain⟨rfl,rfl⟩:=h;exact⟨rfl,rfl,by simpa[tE,Tree.pgs]using c.symm⟩
  |j+1=>
   have d:=h.same.2.2.1;have:=(QqD.1 ha).1;rw[d]at this;simp[tE,Tree.ats]at this
 refine⟨by simp[tE,Tree.nfs,Tree.ats],by simp[tE,Tree.nfs,Tree.ats],λj V v pg h ha c=>?_,λj V v pg b u h ha c e=>?_⟩
 ·obtain⟨_,rfl,rfl⟩:=key j V v h pg ha c;exact⟨_,_,app1 t0 p1 vv Q4h,by show(1:Int)+3<=_;decide,by show(1:Int)<=_;decide⟩
 ·obtain⟨rfl,rfl,rfl⟩:=key j V v h pg ha c;have a:Xv 3 (sV [t0] vv) p1=some (u,b,0):=e;rw[app1 t0 p1 vv Q4h]at a;injection a with a;injection a with h1 h2;injection h2 with h2 h3;subst h2;exact⟨O,by simp[tE,Tree.nfs,Tree.ats]⟩
theorem smE(a:Int):Small (tE a):=by
 have h1:(sorted (Tree.nfs (tE a))).length<=1:=by
  rw[Xd];unfold Tree.nfs;exact QqR (QkE _ _) (QqB 1)
 refine⟨show(1:Nat)<=4096 by decide,?_⟩;unfold Ik;rw[QqK];have h2:(Zo (Tree.flat (tE a))).length=1:=by show(Zo [ex1]).length=1;kernel_rfl
 omega
theorem smX(sp:Sp)(b:Bl)(a:Int)(h:sp.tr=tE a):Ej [(sp,b)]:=⟨by show 1<=8;decide,λx c=>by
 simp only[QzG]at c;subst c;show Small sp.tr;rw[h];exact smE a⟩
theorem Q4k(s:Sto)(h:s.n=nE):(⟨(Oz s (tE 1) 2 2).toArray⟩:ByteArray)=strOfNums (List.replicate 32 0)++xt:=by
 have e:Oz s (tE 1) 2 2=Qz1.data.toList++xt.data.toList:=by
  rw[show(2:Nat)=1+1 from rfl,Ob,show(1:Nat)=0+1 from rfl,Ob];rw[show((2:Int)+((0:Nat):Int))=2 from rfl,show((2:Int)+((0+1:Nat):Int))=3 from rfl,Q5b,Q5e s h];rfl
 rw[e];have k:(⟨(Qz1.data.toList++xt.data.toList).toArray⟩:ByteArray)=strOfNums (List.replicate 32 0)++xt:=J;exact k
theorem Qhn(w:World):C 38 #[] w λe w'=>e= .returned (.agg #[I 16,I 16])/\Below w w w':=by
 go_in
 go_wp2_with fail
 go_returns;exact⟨rfl,B0.alloc N0 _⟩
abbrev z16:List Int:=List.replicate 16 0
theorem Qbi:Ql (nV []) ((nV []).blocks*(nV []).per)=[]:=J
theorem Qxr(a:Int):((nV []).read a).2.size<=70368744177664:=by
 unfold Nand.read;rw[QqE (show ¬(nV []).down=true from λe=>by cases e)];split
 ·exact QqM _
 ·split
  ·exact QqM _
  ·rename_i h t d;have c:=QqL d;have:∀i,((nV []).blk i).pages=[]:=by
    intro i;unfold Nand.blk;by_cases hi:i<16
    ·have:=Qqd (f:=λi=>((nV []).b.getD i ⟨[],0,false⟩).pages) (g:=λ_=>([]:List ByteArray)) (n:=16) J i hi;exact this
    ·rw[List.getD,QkY (by show 16<=i;omega)];rfl
   rw[this]at c;cases c
def Q33(w:World)(e:Ending)(w':World):Prop:=∃v c,e= .returned (.tuple #[(c.p,0),(v,0)])/\VoIn w' v c [] (Ll (sE z16))/\Below w w w'/\∀k,vF v c [] k->w.heap.size<=k
theorem Qk0(w:World)(d:LaidT w):C 10 #[] w (Q33 w):=by
 have j:Hid (∀W,Below w w W->C 51 #[.agg #[I 16,I 16]] W λe w1=>∃p,e= .returned (.tuple #[(p,0),.nilIface])/\C 14 #[(p,0)] w1 λe w2=>∃(v:Nat) (c:Pt),c.p=p/\e= .returned (.tuple #[(v,0),.nilIface])/\Q33 w (.returned (.tuple #[(c.p,0),(v,0)])) w2):=by
  intro W a;refine(Q1q 16 16 O O O O W).mono ?_;rintro e w1 ⟨F,p,rfl,y,m,n⟩;have hb:=a.trans (m.mono a.size);have z:∀k,F k->w.heap.size<=k:=λk K=>QqR a.size (n k K);rw[Qw6]at y;have q:=(Keep.below (F:=λ_=>False) hb).cell d (λh=>h);have L:=d.lt;refine⟨p,rfl,(Rl (λ_=>0) (λ_=>[]) w1 F p (nV []) y rfl q (λh=>by have:=z 0 h;omega) ⟨D,D⟩ ⟨D,D⟩ Qxr (by rw[Qbi];exact QqM _) (by rw[Qbi];intro f b;cases b) (by rw[Qbi];exact rt.Qbj (QqM _)) (by rw[Qbi];intro l d _ f b;rw[d.eq_nil]at b;cases b)).mono ?_⟩;rintro e w2 ⟨v,c,X,V,l,rfl,M,N,g,_,r,Q⟩;rw[Qbi]at g;have s:=g.eq_nil;subst s;have t:X=[]/\V=Ll (sE z16):=by
   rcases r with⟨f,P,h,_⟩|⟨_,h1,h2⟩
   ·exact absurd h U
   ·rw[Q15]at h2;exact⟨h1,h2⟩
  obtain⟨rfl,rfl⟩:=t;obtain⟨t1,t2⟩:=Q.toBelow hb.size z;exact⟨v,c,M,rfl,v,c,rfl,N,hb.trans t1,t2⟩
 clear d;have u:=Q7h (Qhn w);go_in
 go_wp2_with fail
 with_reducible refine u.o.mono ?_
 rintro e w0 ⟨rfl,i⟩;have x:=Q7h (j.o w0 i);clear i;go_wp2_with fail
 refine x.o.mono ?_;rintro e w1 ⟨p,rfl,H⟩;have R:=Q7h H;clear H;go_wp2_with fail
 refine R.o.mono ?_;rintro e w2 ⟨v,c,rfl,rfl,b⟩;have S:=Q7h b;clear b;go_wp2_with fail
 go_returns;exact S.o
def Own(B:Nat)(w:World)(F:Nat->Prop)(w':World):Prop:=Below B w w'/\∀k,F k->B<=k
theorem Vd{B:Nat}{w a b:World}{F G:Nat->Prop}(h:Own B w F a)(d:B<=w.heap.size)(c:Mv F a G b):Own B w G b:=by
 obtain⟨h1,h2⟩:=h;have e:=h1.size;obtain⟨t1,t2⟩:=c.toBelow (B:=B) O h2;exact⟨h1.trans t1,t2⟩
def After1(B:Nat)(w:World)(v:Nat)(c:Pt)(w':World):Prop:=∃(b:Bl) (vv:List Int),VoIn w' v c [((⟨1,10,0,.no⟩:Sp),b)] {s:=sE vv,cap:=10,l:=[⟨1,10,0,.no⟩],gen:=0,root:= -1,last:=[],sure:=false}/\Own B w (vF v c [((⟨1,10,0,.no⟩:Sp),b)]) w'
theorem step1(w W:World)(v:Nat)(c:Pt)(h:VoIn W v c [] (Ll (sE z16)))(f:Own w.heap.size w (vF v c []) W):C 22 #[(v,0),I 1,I 10] W λe w'=>e= .returned .nilIface/\After1 w.heap.size w v c w':=by
 refine(Tw W v c [] _ 1 10 h ⟨⟨U,λx b=>by cases b⟩,QqM _⟩ ⟨D,D⟩ (λx b=>by cases b) rfl ⟨D,D⟩ U).mono ?_;rintro e w' ⟨rfl,ab,p,g,d,ha,j⟩;obtain⟨h1,h2⟩:=f;have i:=h1.size;obtain t1:=d.keep.toBelow i h2;refine⟨rfl,⟨ab,p,[p]⟩,_,g,h1.trans t1,λk d=>?_⟩;have a:=d;rcases a with a|a
 ·exact h2 k (.inl a)
 ·have:=(Qgs (v:=v) (c:=c) (X:=[]) (s:=(⟨1,10,0,.no⟩:Sp)) (ab:=ab) (p:=p) (λz hz=>by cases hz)).mem_iff.1 a;simp only[QqF]at this;rcases this with rfl|rfl|a
  ·omega
  ·omega
  ·exact h2 k (.inr a)
def T1:Tree:=tE (-1)
def Qoo(B:Nat)(w:World)(v:Nat)(c:Pt)(w':World):Prop:=∃(N:Nat->Prop) (b:Bl) (vv:List Int),VoIn w' v {c with N:=N} [((⟨1,10,1,T1⟩:Sp),b)] {s:=sV [t0] vv,cap:=10,l:=[⟨1,10,1,T1⟩],gen:=0,root:= -1,last:=[],sure:=false}/\Own B w (vF v {c with N:=N} [((⟨1,10,1,T1⟩:Sp),b)]) w'
theorem Q1y(b:Bl)(F:List Nat)(d:Int)(a:d=1):U9 [((⟨1,10,0,.no⟩:Sp),b)] ((⟨1,10,0,.no⟩:Sp),b) 3 d (λ_=>0) 1 F=[((⟨1,10,1,T1⟩:Sp),({b with F:=F}:Bl))]:=by
 subst a;show[((⟨1,10,0+1,Tree.no.over ex1⟩:Sp),({b with F:=F}:Bl))]=_;rw[Qbw];rfl
theorem step2(w W:World)(v:Nat)(c:Pt)(h:After1 w.heap.size w v c W):C 28 #[(v,0),I 1,I 3,.string xt] W λe w'=>e= .returned .nilIface/\Qoo w.heap.size w v c w':=by
 obtain⟨b,vv,i,f⟩:=h;have a:Qp (Tree.no) 3 ((1:Nat):Int)=1:=Qw0;refine(Lr W v c _ _ ((⟨1,10,0,.no⟩:Sp),b) 3 1 xt 3 (λj=>if j=0 then sE vv else sV [t0] vv) (λ_=>0) i U D (QqB 1) D J (by show(3:Int)+((1:Nat):Int)<=10;decide) rfl (λj k=>?_) (λ_ j k=>?_) (λ_ m l F q n _ _=>?_) (λ_ F=>?_) (QqM _)).mono ?_
 ·obtain rfl:j=0:=O;refine⟨?_,by show(0:Int)+3<=_;decide,by show(0:Int)<=_;decide⟩;show Xv 3 (sE vv) (pgW 1 3 xt 0)=some (sV [t0] vv,0,0);rw[pg0];exact app0 p0 vv Q2k
 ·rcases(show j=0\/j=1 by omega)with rfl|rfl
  ·exact⟨trivial,Dk⟩
  ·show(Tree.no.over ex1).Ok/\Chk (Tree.no.over ex1).flat
   rw[Qbw];exact⟨ok1 _,Q6z⟩
 ·obtain rfl:m=0:=O;exact Eh l F b.p .no ex1 n trivial Dk J (by show(1:Nat)<=10;decide)
 ·rw[Q1y b F _ a];exact smX _ _ (-1) rfl
 ·rintro e w' (⟨o,_⟩|⟨_,rfl,N',F,q1,g⟩)
  ·exfalso;have d:(10:Int)-tot (Zd (Zq [((⟨1,10,0,.no⟩:Sp),b)]))<Qp (Tree.no) 3 ((1:Nat):Int):=o;rw[a]at d;have:tot (Zd (Zq [((⟨1,10,0,.no⟩:Sp),b)]))=0:=rfl;omega
  ·rw[Q1y b F _ a]at q1 g;have r:=f.1.size;exact⟨rfl,N',{b with F:=F},_,q1,Vd f N0 g⟩
def Q1j(B:Nat)(w:World)(p:Nat)(w':World):Prop:=∃(N:Nat->Prop),NandAt w' N p nE/\LaidT w'/\¬N 0/\Own B w N w'
theorem Q3i(w W:World)(v:Nat)(c:Pt)(S:0<w.heap.size)(h:Qoo w.heap.size w v c W):C 23 #[(v,0)] W λe w'=>e= .returned .nilIface/\Q1j w.heap.size w c.p w':=by
 obtain⟨N,b,vv,n,o⟩:=h;have t:∀(j:Nat) (x:Sp×Bl),[((⟨1,10,1,T1⟩:Sp),b)][j]? =some x->j=0/\x=((⟨1,10,1,T1⟩:Sp),b):=by
  intro j x f;cases j with
  |zero=>injection f with f;exact⟨rfl,f.symm⟩
  |succ j=>cases f
 have g:∀(Y:XL) (s:Sto),Fs 3 [((⟨1,10,1,T1⟩:Sp),b)] (sV [t0] vv) Y s->Y=[((⟨1,10,1,tE 1⟩:Sp),b)]/\s=sV [t0,t1] vv:=by
  rintro Y s ⟨T,s1,V,rfl,i,rfl,rfl⟩;obtain⟨rfl,rfl⟩:=Q67 i;exact⟨rfl,rfl⟩
 refine(Qjg W v {c with N:=N} _ _ 3 n (show(0:Int)<=0 by decide) (show(0:Int)<1099511627775 by decide) (λ_=>⟨λj x A s f u=>?_,λY s l=>?_⟩) (QqM _)).mono ?_
 ·obtain⟨rfl,rfl⟩:=t j x f;obtain⟨_,rfl⟩:=u;exact Q7a vv
 ·obtain⟨rfl,rfl⟩:=g Y s l;refine⟨Q3c,⟨smX _ _ 1 rfl,?_⟩,by show(2:Int)+3<=_;decide,by show(2:Int)<=_;decide,_,Q3z t0 t1 p2 vv Qwe⟩;show(Ik (tE 1)++[]).length<=100000;rw[QzT];exact(smE 1).2
 ·rintro e w' (⟨⟨h,_⟩,_⟩|⟨Y,s,r,N',lv,L,rfl,q1,y,X,Z,m,z⟩|⟨_,_,_,Y,s,N',_,_,_,_,q⟩)
  ·cases h
  ·obtain⟨rfl,rfl⟩:=g Y s q1;have d:Xv 3 (sV [t0,t1] vv) p2=some r:=y;rw[Q3z t0 t1 p2 vv Qwe]at d;injection d with d;subst d;have hz:¬stF {({c with N:=N}:Pt)with N:=N',lv:=lv} 0:=m.zero;obtain⟨o1,o2⟩:=o;have F:=o1.size;obtain⟨u1,u2⟩:=z.toBelow (B:=w.heap.size) F o2;exact⟨rfl,N',m.sto.arr,m.laid,λh=>hz (.inr (.inr (.inr h))),o1.trans u1,λk H=>u2 k (.inl (.inr (.inr (.inr H))))⟩
  ·exfalso;obtain⟨s1,a,K,M,Q,R⟩:=q;obtain⟨rfl,rfl⟩:=g Y s1 M;have d:Xv 3 (sV [t0,t1] vv) p2=some (s,a,K):=Q;rw[Q3z t0 t1 p2 vv Qwe]at d;injection d with d;injection d with _ d;injection d with _ d;exact R d.symm
def Q5u(B:Nat)(w:World)(v:Nat)(c:Pt)(w':World):Prop:=∃(b:Bl) (V:Vo),VoIn w' v c [(spE,b)] V/\V.s.n=nE/\V.gen=1/\Below B w w'
theorem Q3o(w W:World)(p:Nat)(y:0<w.heap.size)(h:Q1j w.heap.size w p W):C 14 #[(p,0)] W λe w'=>∃v c,e= .returned (.tuple #[(v,0),.nilIface])/\Q5u w.heap.size w v c w':=by
 obtain⟨N,ha,i,r,n⟩:=h;have j:=Zqf;refine(Rl (λ_=>1) (λ_=>[spE]) W N p nE ha rfl i r ⟨D,D⟩ ⟨D,D⟩ (Qml t0 t1 t2 sz0 sz1 sz2) (by rw[Qvy];decide) (λf d=>?_) (by rw[Q0q];exact rt.Qbj (QqB 1)) (λl i _ f d=>?_)).mono ?_
 ·rw[Qvy]at d;simp only[QqF,QkU,QyA]at d;rcases d with rfl|rfl|rfl
  ·exact QxM J
  ·exact QxM J
  ·exact QxM J
 ·rw[Q0q]at i;obtain rfl:l=[fE]:=List.perm_singleton.1 i;obtain rfl:fE=f:=by simpa using d
  refine⟨j,λs o=>?_,?_⟩
  ·obtain rfl:s=spE:=by simpa using o
   exact smE 1
  ·show(Ik (tE 1)++[]).length<=100000;rw[QzT];exact(smE 1).2
 ·rintro e w' ⟨v,c,X,V,l,rfl,_,t,g,_,k,u⟩;rw[Q0q]at g;have m:=List.perm_singleton.1 g;subst m;have o:=n.1.size;have hb:=(Vd n N0 u).1;rcases k with⟨f,P,q,a,_,rfl⟩|⟨q,_⟩
  ·cases X with
   |nil=>cases a
   |cons x X=>
    simp only[QzE,QoV,List.map_eq_nil_iff]at a;obtain⟨a,rfl⟩:=a;obtain⟨x1,b⟩:=x;simp only at a;subst a;exact⟨v,c,rfl,b,_,t,rfl,rfl,hb⟩
  ·cases q
theorem Q3g(W:World)(v:Nat)(c:Pt)(b:Bl)(V:Vo)(h:VoIn W v c [(spE,b)] V)(f:V.s.n=nE):C 24 #[(v,0),I 1,I 2,I 2] W λe w'=>e= .returned (.tuple #[.string (strOfNums (List.replicate 32 0)++xt),.nilIface])/\Below W W w':=by
 have g:∀k:Nat,k<2->k=0\/k=1:=λk g=>O;refine(V8 W v c [(spE,b)] V (spE,b) 2 2 h U D D D (show(2:Int)+((2:Nat):Int)<=10 by decide) (λk d i=>?_) (λa=>by rw[f];exact Qml t0 t1 t2 sz0 sz1 sz2 a) (λk d=>?_)).mono ?_
 ·rcases g k d with rfl|rfl
  ·have:(Zb [ex1] 2).1=2:=i;rw[show(Zb [ex1] 2).1=0 by kernel_rfl]at this;cases this
  ·show(Qj V.s.n (Zb [ex1] 3).2).2=0;rw[show(Zb [ex1] 3).2=0 by kernel_rfl,f,rs0]
 ·rcases g k d with rfl|rfl
  ·show(Iz V.s (tE 1) 2).size=32;rw[Q5b];kernel_rfl
  ·show(Iz V.s (tE 1) 3).size=32;rw[Q5e V.s f];kernel_rfl
 ·rintro e w' ⟨rfl,hb⟩;refine⟨?_,hb⟩;have:=Q4k V.s f;have j:(⟨(Oz V.s (spE,b).1.tr 2 2).toArray⟩:ByteArray)=strOfNums (List.replicate 32 0)++xt:=this;rw[j]
end vo
end Go.Proofs.YtfialjmemcobjaaGreatDoor
namespace Go.Proofs.YtfialjmemcobjaaGreatDoor
namespace vo
open Go.RowKit Go.Maps er st tr nd pg ge
theorem After1.below{B:Nat}{w W a:World}{v:Nat}{c:Pt}(h:After1 B w v c W)(d:B<=w.heap.size)(hb:Below W W a):After1 B w v c a:=by
 obtain⟨b,vv,h1,h2⟩:=h;exact⟨b,vv,h1.below hb,Vd h2 d (Mv.below hb)⟩
theorem Qav(w:World)(M:LaidT w):C 11 #[] w λe w'=>e= .returned (.bool true)/\Below w w w':=by
 have l:=M.lt;have⟨H0,N⟩:=Q2 l (Qk0 w M);have Q:Hid (∀W,C 52 #[I 1,.int .u8 120] W λe w'=>e= .returned (.string xt)/\Below W W w'):=λW=>Rs 120 W D D;have HZ:Hid (∀W,C 52 #[I 1,.int .u8 0] W λe w'=>e= .returned (.string (strOfNums (List.replicate 32 0)))/\Below W W w'):=λW=>Rs 0 W D D;have m:Hid (∀W v c,After1 w.heap.size w v c W->C 28 #[(v,0),I 1,I 3,.string xt] W λe w'=>e= .returned .nilIface/\Qoo w.heap.size w v c w'):=λW v c h=>step2 w W v c h;have d:Hid (∀W v c b V,VoIn W v c [(spE,b)] V->V.s.n=nE->C 24 #[(v,0),I 1,I 2,I 2] W λe w'=>e= .returned (.tuple #[.string (strOfNums (List.replicate 32 0)++xt),.nilIface])/\Below W W w'):=λW v c b V h1 h2=>Q3g W v c b V h1 h2;have q:(strOfNums (List.replicate 32 0)).size+xt.size<=100:=QxM J;obtain⟨X,hX⟩:=Zx xt;obtain⟨Z,hZ⟩:=Zx (strOfNums (List.replicate 32 0));rw[hX]at Q m d q;rw[hZ]at HZ d q;clear M l hX hZ;go_in
 go_wp2_with fail
 refine N.o.mono ?_;rintro e w1 ⟨v,c,rfl,hv,hb,hn⟩;have R:=Cg v;have S:=Q7h (step1 w w1 v c hv ⟨hb,hn⟩);clear hv hb hn;go_wp2_with fail
 refine S.o.mono ?_;rintro e w2 ⟨rfl,ha⟩;have HA:=Q7h ha;clear ha;go_wp2_with fail
 refine(Q.o _).mono ?_;rintro e w3 ⟨rfl,r⟩;have T:=Q7h (m.o w3 v c (HA.o.below N0 r));clear r;go_wp2_with fail
 refine T.o.mono ?_;rintro e w4 ⟨rfl,ha⟩;have Y:=Q7h (Q3i w w4 v c H0.o ha);clear ha;go_wp2_with fail
 refine Y.o.mono ?_;rintro e w5 ⟨rfl,ha⟩;have A:=Q7h (Q3o w w5 c.p H0.o ha);clear ha;go_wp2_with fail
 refine A.o.mono ?_;rintro e w6 ⟨v2,c2,rfl,b,V,f,t,B,u⟩;have⟨aa,x,ab⟩:=Q3 f u (d.o w6 v2 c2 b V f t);clear f t u R;go_wp2_with fail
 refine ab.o.mono ?_;rintro e w7 ⟨rfl,g⟩;have⟨y,z⟩:=Q2 (aa.o.below g) (x.o.trans (g.mono x.o.size));have ac:=Q7h (V9 w7 v2 c2 _ V (spE,b) y.o U);clear g;go_wp2_with fail
 refine ac.o.mono ?_;rintro e w8 ⟨rfl,i⟩;have⟨ad,F⟩:=Q2 (y.o.below i) (z.o.trans (i.mono z.o.size));clear i;go_wp2_with fail
 refine(HZ.o _).mono ?_;rintro e w9 ⟨rfl,j⟩;have⟨ae,H⟩:=Q2 (ad.o.below j) (F.o.trans (j.mono F.o.size));clear j;go_wp2_with fail
 refine(Q.o _).mono ?_;rintro e k ⟨rfl,a⟩;have⟨K,L⟩:=Q2 (ae.o.below a) (H.o.trans (a.mono H.o.size));clear a;have ag:∀W,(binOp .add 9 (.string Z) (.string X)).run Tryz.prog W= .ok (.string (Z++X)) W:=λW=>by rw[binOp_string_add];exact run_string_add_sum W Z X O
 have af:Hid (C 21 #[(v2,0)] k λe w'=>e= .returned (I 1)/\k=w'):=by
  have:=Qev k v2 c2 _ V K.o;rwa[B]at this
 go_wp2_with fail
 refine af.o.mono ?_;rintro e ah ⟨rfl,rfl⟩;go_wp2_with fail
 go_ret
 exact⟨rfl,L.o⟩
end vo
end Go.Proofs.YtfialjmemcobjaaGreatDoor
