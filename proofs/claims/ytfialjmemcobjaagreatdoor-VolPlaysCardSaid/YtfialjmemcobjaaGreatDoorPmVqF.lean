/- A part of the proof. -/
import Derived.Test.YtfialjmemcobjaaGreatDoorPmVoP
import Derived.Defers
import Derived.Laws.Concat
set_option maxRecDepth 100000
set_option maxHeartbeats 16000000
set_option linter.unusedVariables false
set_option linter.unusedSimpArgs false
namespace Go.Proofs.YtfialjmemcobjaaGreatDoor
namespace vo
open Go.RowKit Go.Maps er st tr nd pg
structure LpW(w:World)(v:Nat)(c:Pt)(X:XL)(b4 b5 b8 b11:Nat)(id d:Int)(rv:Value)(rl:List Int)(cj:Pt)(Y:XL)(V:Vo)(wr:World):Prop where
 vo:VoIn wr v cj Y V
 x4:Whole wr b4 24 #[(v,0)]
 x5:Whole wr b5 3 #[I id]
 x8:Whole wr b8 34 #[.nilIface]
 x11:Whole wr b11 3 #[I d]
 row:wr.ownsRow (b11+1) 3 1 rv rl.length (ints rl)
 far:∀k,(k=b4\/k=b5\/k=b8\/k=b11\/rv.ownBlock=some k)->¬vF v cj Y k
 le:b4<b11/\b5<b11/\b8<b11/\w.heap.size<=b11
 mv:Mv (vF v c X) w (vF v cj Y) wr
section
variable {w:World} {v:Nat} {c:Pt} {X:XL} {b4 b5 b8 b11:Nat} {id d:Int} {rv:Value} {rl:List Int} {cj:Pt} {Y:XL} {V:Vo} {wr:World}
theorem LpW.lt(h:LpW w v c X b4 b5 b8 b11 id d rv rl cj Y V wr):∀k,(k=b4\/k=b5\/k=b8\/k=b11\/rv.ownBlock=some k)->k<wr.heap.size:=by
 rintro k (rfl|rfl|rfl|rfl|a)
 ·exact h.x4.lt
 ·exact h.x5.lt
 ·exact h.x8.lt
 ·exact h.x11.lt
 ·exact(h.row.lt k a).2
theorem LpW.move{w':World}{f:Pt}{Z:XL}{U:Vo}(h:LpW w v c X b4 b5 b8 b11 id d rv rl cj Y V wr)(l:VoIn w' v f Z U)(a:Mv (vF v cj Y) wr (vF v f Z) w'):LpW w v c X b4 b5 b8 b11 id d rv rl f Z U w':=by
 have m:=h.lt;have b:=h.far;refine⟨l,h.x4.keep a.keep (b _ (by simp)),h.x5.keep a.keep (b _ (by simp)),h.x8.keep a.keep (b _ (by simp)),h.x11.keep a.keep (b _ (by simp)),Qa h.row a.keep (λg n=>b g (by simp[n])),λk j i=>?_,h.le,h.mv.trans a⟩;rcases a.sub k i with e|e
 ·exact b k j e
 ·have:=m k j;omega
theorem LpW.below{w':World}(h:LpW w v c X b4 b5 b8 b11 id d rv rl cj Y V wr)(hb:Below wr wr w'):LpW w v c X b4 b5 b8 b11 id d rv rl cj Y V w':=h.move (h.vo.below hb) (Mv.below hb)
theorem LpW.cells(h:LpW w v c X b4 b5 b8 b11 id d rv rl cj Y V wr):wr.cell? (b4,0)=some (v,0)/\wr.cell? (b5,0)=some (I id)/\wr.cell? (b8,0)=some .nilIface/\wr.cell? (b11,0)=some (I d):=⟨h.x4.cell 0,h.x5.cell 0,h.x8.cell 0,h.x11.cell 0⟩
theorem LpW.grow{w':World}{g cap:Nat}{a:Int}(h:LpW w v c X b4 b5 b8 b11 id d rv rl cj Y V wr)(q:w'.ownsRow (b11+1) 3 1 (.slice (some (g,0)) (rl.length+1) cap) (rl.length+1) (ints rl++[I a]))(l:wr.grownBy w' rv.ownBlock)(m:rv.ownBlock=some g\/g=wr.heap.size):LpW w v c X b4 b5 b8 b11 id d (.slice (some (g,0)) (rl.length+1) cap) (rl++[a]) cj Y V w':=by
 have j:=h.far;have i:=h.row;have b:=Keep.grown (Keep.refl _ _) l (λg l=>.inl l);have f:∀k,k<=b11->¬rv.ownBlock=some k:=λk b e=>by have:=(i.lt k e).1;omega
 obtain⟨r,s,t,x⟩:=h.le;have n:(rl++[a]).length=rl.length+1:=U;have o:=h.vo.lt;refine⟨h.vo.keep b (λk b e=>?_),h.x4.keep b (f _ (Nat.le_of_lt r)),h.x5.keep b (f _ (Nat.le_of_lt s)),h.x8.keep b (f _ (Nat.le_of_lt t)),h.x11.keep b (f _ N0),?_,λk b=>?_,h.le,⟨?_,λk b=>?_⟩⟩
 ·rcases b with b|rfl
  ·exact j k (by simp[e]) b
  ·exact f 0 (QqM _) e
 ·rw[n,show ints (rl++[a])=ints rl++[I a] by simp[ints]];exact q
 ·have p:¬vF v cj Y g:=by
   rcases m with e|e
   ·exact j g (by simp[e])
   ·intro u;have:=o g u;omega
  rcases b with b|b|b|b|b
  ·exact j k (.inl b)
  ·exact j k (.inr (.inl b))
  ·exact j k (.inr (.inr (.inl b)))
  ·exact j k (.inr (.inr (.inr (.inl b))))
  ·have:g=k:=by simpa[Value.ownBlock]using b
   rw[<-this];exact p
 ·exact h.mv.keep.trans b (λk b=>.inr (by have:=(i.lt k b).1;omega))
 ·exact h.mv.sub k b
end
theorem LpW.start{w w2:World}{v:Nat}{c:Pt}{X Y:XL}{V:Vo}{b4 b5 b8:Nat}{id d:Int}(l:VoIn w2 v c Y V)(a:Keep (vF v c X) w w2)(g:∀k,vF v c Y k↔vF v c X k)(f:∀k,vF v c X k->k<w.heap.size)(o:0<w.heap.size)(x4:Whole w2 b4 24 #[(v,0)])(x5:Whole w2 b5 3 #[I id])(x8:Whole w2 b8 34 #[.nilIface])(q:w.heap.size<=b4)(r:w.heap.size<=b5)(s:w.heap.size<=b8)(m:b4≠b8)(n:b5≠b8):
  LpW w v c X b4 b5 b8 w2.heap.size id d (.slice none 0 0) [] c Y V ((w2.setCell (b8,0) .nilIface).alloc (.cells #[I d] 3)):=by
 have b:Keep (λk=>k=b8) w2 ((w2.setCell (b8,0) .nilIface).alloc (.cells #[I d] 3)):=((Keep.refl (λk=>k=b8) w2).setCell (p:=(b8,0)) (.inl rfl) _).alloc _;have h:∀k,vF v c Y k->k≠b8:=λk a e=>by have:=f k ((g k).1 a);omega
 have i:=a.size;have t:=x4.lt;have u:=x5.lt;have x:=x8.lt;refine⟨l.keep b (λk a e=>?_),x4.keep b m,x5.keep b n,?_,?_,⟨rfl,.inl ⟨rfl,rfl⟩⟩,λk a j=>?_,⟨O,O,O,i⟩,⟨a.trans b (λk a=>.inr O),λk a=>.inl ((g k).1 a)⟩⟩
 ·rcases a with a|rfl
  ·exact h k a e
  ·omega
 ·simpa using(x8.set 0 .nilIface).alloc _
 ·exact Whole.new' _ _ _ _ U
 ·have:=f k ((g k).1 j);rcases a with rfl|rfl|rfl|rfl|a
  ·omega
  ·omega
  ·omega
  ·omega
  ·simp[Value.ownBlock]at a
theorem Qls(w:World)(b8 b4 b5 b11:Nat)(u:FrameMode)(h:w.cell? (b8,0)=some .nilIface):
  CallsD Tryz.prog 157 #[(b8,0),(b4,0),(b5,0),(b11,0)] u w λe a w'=>a=u/\e= .returned (.tuple #[])/\w'=w:=by
 go_enter_d Tryz.func157,Tryz.ntmps157
 go_wp2_with fail
 go_end0
 exact⟨rfl,rfl⟩
end vo
namespace vo
open Go.RowKit Go.Maps er st tr nd pg
def pgW(id f:Int)(b:ByteArray)(j:Nat):Page:=⟨1,id,f+j,0,b.extract (32*j) (32*j+32)⟩
def Qn(T:Tree)(f:Int)(A:Nat->Int):Nat->Tree
 |0=>T
 |j+1=>(Qn T f A j).over ⟨f+j,1,2,A j⟩
def upto(A:Nat->Int)(n:Nat):List Int:=(List.range n).map A
theorem Qon(A:Nat->Int)(n:Nat):upto A (n+1)=upto A n++[A n]:=by simp[upto,QyS]
theorem G8(A:Nat->Int)(n:Nat):(upto A n).length=n:=by simp[upto]
def Oo(w:World)(v:Nat)(c:Pt)(X:XL)(V:Vo)(x:Sp×Bl)(f d:Int)(S:Nat->Sto)(A:Nat->Int)(n:Nat)(e:Ending)(w':World):Prop:=
 (V.cap-tot (Zd (Zq X))<d/\e= .returned (.iface 28 (I 71))/\Below w w w')\/
 (d<=V.cap-tot (Zd (Zq X))/\e= .returned .nilIface/\∃N' F,VoIn w' v {c with N:=N'} (Qo (Qt X x.1.id d) x.1.id (Qn x.1.tr f A n) F) {V with s:=S n,l:=(Qo (Qt X x.1.id d) x.1.id (Qn x.1.tr f A n) F).map (·.1)}/\Mv (vF v c X) w (vF v {c with N:=N'} (Qo (Qt X x.1.id d) x.1.id (Qn x.1.tr f A n) F)) w')
theorem Qob(w:World)(v:Nat)(c:Pt)(X:XL)(V:Vo)(x:Sp×Bl)(f:Int)(n:Nat)(b:ByteArray)(fu:Nat)(S:Nat->Sto)(A:Nat->Int)(h:VoIn w v c X V)(hx:x∈X)(hf:0<=f)(h1:1<=n)(h8:n<=8)(hb:b.size=32*n)(bi:f+n<=x.1.size)(aQ:S 0=V.s)(hS:∀j,j<n->Xv fu (S j) (pgW x.1.id f b j)=some (S (j+1),A j,0)/\(S j).n.ops+fu<=1000000000000000000/\(S j).seq<=281474976710655)(av:Qp x.1.tr f n<=V.cap-tot (Zd (Zq X))->∀j,j<=n->(Qn x.1.tr f A j).Ok/\Chk (Qn x.1.tr f A j).flat)(aw:Qp x.1.tr f n<=V.cap-tot (Zd (Zq X))->∀(m:Nat) (W:World) (F:List Nat),m<n->TrAt W F x.2.p (Qn x.1.tr f A m)->(Qn x.1.tr f A m).Ok->Chk (Qn x.1.tr f A m).flat->C 158 #[.pointer (some ⟨x.2.p,0,none⟩),.agg #[I (f+m),I 1,I 2,I (A m)]] W λe w'=>e= .returned (I 0)/\∃F',TrAt w' F' x.2.p (Qn x.1.tr f A (m+1))/\Mv (λk=>k∈F) W (λk=>k∈F') w'):
  C 82 #[.pointer (some ⟨v,0,none⟩),I x.1.id,I f,.string b] w (Oo w v c X V x f (Qp x.1.tr f n) S A n):=by
 have ha:=h.acc hx;have ai:=h.lt;have h0:=h.laid.lt;have HW:Hid (∀W,Below w.heap.size w W->C 74 #[.pointer (some ⟨v,0,none⟩),I x.1.id,I f,I n,.bool true] W λe w'=>e= .returned .nilIface/\Below W.heap.size W w'):=by
  intro W o;have:=Kj W v c X V x f n true (h.below o) hx (by unfold I64;omega) (by unfold I64;omega);rw[show Gt x.1.size f n true=0 by unfold Gt;rw[QqE (by simp;omega),QqE O]]at this;exact this
 obtain⟨i,t⟩:∃i,Qt X x.1.id (Qp x.1.tr f n)=i:=⟨_,rfl⟩;have ax:Hid (∀W,Below w.heap.size w W->C 156 #[.pointer (some ⟨v,0,none⟩),I x.1.id,I f,I n] W λe w'=>(e= .returned (.tuple #[I (Qp x.1.tr f n),.nilIface])/\Qp x.1.tr f n<=V.cap-tot (Zd (Zq X))/\VoIn w' v c i (V.re i)/\Keep (vF v c X) W w')\/(e= .returned (.tuple #[I (Qp x.1.tr f n),.iface 28 (I 71)])/\V.cap-tot (Zd (Zq X))<Qp x.1.tr f n/\Below W.heap.size W w')):=λW o=>(Nu W v c X V x f n (h.below o) hx hf O O).mono (λe w' hq=>by
  rw[<-t];rcases hq with⟨q1,H,q3,q4⟩|⟨q1,H,q3⟩
  ·exact .inl ⟨q1,H,q3,q4.keep⟩
  ·exact .inr ⟨q1,H,q3⟩)
 have aR:=Li (T:=x.1.tr) (f:=f) (n:=n) (h.tre x hx).2.2 hf O O;obtain⟨d,hd⟩:∃d,Qp x.1.tr f n=d:=⟨_,rfl⟩;rw[hd]at ax t aR av aw ⊢;have hD:∀q,vF v c i q↔vF v c X q:=λq=>by rw[<-t];unfold vF Qt;rw[Nc]
 have aS:Hid (∀(j:Nat) W N',j<n->VoIn W v {c with N:=N'} i {V.re i with s:=S j}->C 145 #[.pointer (some ⟨c.q,0,none⟩),.agg #[I 1,I x.1.id,I (f+j),I 0,.string (b.extract (32*j) (32*j+32))]] W λe w'=>∃N2,e= .returned (.tuple #[I (A j),.nilIface])/\VoIn w' v {c with N:=N2} i {V.re i with s:=S (j+1)}/\Mv (vF v {c with N:=N'} i) W (vF v {c with N:=N2} i) w'):=by
  intro j W N' aT hW;obtain⟨r1,r2,r3⟩:=hS j aT;refine(Ad W v {c with N:=N'} i _ (pgW x.1.id f b j) fu _ hW r1 r2 r3).mono ?_;rintro e w' ⟨u,N2,rfl,q1,H,q3⟩;rcases q3 with⟨_,rfl⟩|⟨q3,_⟩
  ·exact⟨N2,rfl,q1,El H⟩
  ·exact absurd rfl q3
 have Z:Hid (d<=V.cap-tot (Zd (Zq X))->∀(m:Nat) W N' F,m<n->VoIn W v {c with N:=N'} (Qo i x.1.id (Qn x.1.tr f A m) F) {V with s:=S n,l:=(Qo i x.1.id (Qn x.1.tr f A m) F).map (·.1)}->C 158 #[.pointer (some ⟨x.2.p,0,none⟩),.agg #[I (f+m),I 1,I 2,I (A m)]] W λe w'=>e= .returned (I 0)/\∃F',VoIn w' v {c with N:=N'} (Qo i x.1.id (Qn x.1.tr f A (m+1)) F') {V with s:=S n,l:=(Qo i x.1.id (Qn x.1.tr f A (m+1)) F').map (·.1)}/\Mv (vF v {c with N:=N'} (Qo i x.1.id (Qn x.1.tr f A m) F)) W (vF v {c with N:=N'} (Qo i x.1.id (Qn x.1.tr f A (m+1)) F')) w'):=by
  intro Q m W N' F hm hW;have B:(({({x.1 with used:=x.1.used+d}:Sp)with tr:=Qn x.1.tr f A m},{x.2 with F:=F}):Sp×Bl)∈Qo i x.1.id (Qn x.1.tr f A m) F:=by
   rw[<-t];exact Nt (Y5 (d:=d) hx)
  obtain⟨t1,t2,t3⟩:=hW.tre _ B;obtain⟨o1,o2⟩:=av Q (m+1) O;refine(aw Q m W F hm t1 t2 t3).mono ?_;rintro e w' ⟨rfl,F',hF,aV⟩;have q:=VoIn.grown hW B hF aV o1 o2;have H:=Cq (c:={c with N:=N'}) hW B (T:=Qn x.1.tr f A (m+1)) aV;have e1:Qo (Qo i x.1.id (Qn x.1.tr f A m) F) x.1.id (Qn x.1.tr f A (m+1)) F'=Qo i x.1.id (Qn x.1.tr f A (m+1)) F':=Qjx _ _ _ _ _ _;exact⟨rfl,F',by rw[<-e1];exact q,by rw[<-e1];exact H⟩
 have ay:Hid (∀(m:Nat) W N' F,VoIn W v {c with N:=N'} (Qo i x.1.id (Qn x.1.tr f A m) F) {V with s:=S n,l:=(Qo i x.1.id (Qn x.1.tr f A m) F).map (·.1)}->(Instr.lookup 113 (.map (some c.tb)) (I x.1.id) false).run Tryz.prog W= .ok (.pointer (some ⟨x.2.p,0,none⟩)) W/\W.cell? ⟨v,2,none⟩=some (.map (some c.tb))):=λm W N' F hW=>by
  have B:(({({x.1 with used:=x.1.used+d}:Sp)with tr:=Qn x.1.tr f A m},{x.2 with F:=F}):Sp×Bl)∈Qo i x.1.id (Qn x.1.tr f A m) F:=by
   rw[<-t];exact Nt (Y5 (d:=d) hx)
  have q:=hW.lookT B;exact⟨q,hW.obj.cell 2⟩
 have an:∃F,i=Qo i x.1.id (Qn x.1.tr f A 0) F:=by
  refine⟨x.2.F,?_⟩;rw[<-t];have bj:(Qt X x.1.id d).Pairwise λa b=>a.1.id<b.1.id:=by
   unfold Qt Gf;rw[QjP];refine h.up.imp (λ{a b} bl=>?_);have e:∀y:Sp×Bl,((if y.1.id=x.1.id then(({y.1 with used:=y.1.used+d}:Sp),y.2)else y):Sp×Bl).1.id=y.1.id:=λy=>by split<;>rfl
   rw[e,e];exact bl
  exact(Tv bj (Y5 (d:=d) hx)).symm
 have aa:=Q7h an;have HD:=Q7h hD;have aW:=Q7h ai;have H0:=Q7h h0;have ao:Hid (∀w',V.cap-tot (Zd (Zq X))<d->Below w.heap.size w w'->Oo w v c X V x f d S A n (.returned (.iface 28 (I 71))) w'):=λw' q1 H=>.inl ⟨q1,rfl,H⟩;have L:Hid (∀w' N' F,d<=V.cap-tot (Zd (Zq X))->VoIn w' v {c with N:=N'} (Qo i x.1.id (Qn x.1.tr f A n) F) {V with s:=S n,l:=(Qo i x.1.id (Qn x.1.tr f A n) F).map (·.1)}->Mv (vF v c X) w (vF v {c with N:=N'} (Qo i x.1.id (Qn x.1.tr f A n) F)) w'->Oo w v c X V x f d S A n (.returned .nilIface) w'):=λw' N' F q1 H q3=>by
  rw[<-t]at H q3;exact .inr ⟨q1,rfl,N',F,H,q3⟩
 have bm:Hid (({V.re i with s:=S 0}:Vo)=V.re i):=by
  show _=_;rw[aQ];rfl
 have bX:IntKind.i64.wrap ((b.size:Int).tdiv 32)=n:=by rw[hb,Int.tdiv_eq_ediv_of_nonneg O,QqN];omega
 have bY:IntKind.i64.wrap ((b.size:Int).tmod 32)=0:=by rw[hb,Int.tmod_eq_emod_of_nonneg O,QqN];omega
 have bA:(n:Int)<=8:=O;have bZ:f+n<=16777216:=O;obtain⟨id,az⟩:∃id,x.1.id=id:=⟨_,rfl⟩;obtain⟨T,aX⟩:∃T,x.1.tr=T:=⟨_,rfl⟩;rw[az]at HW ax aS Z ay aa L;rw[aX]at Z ay aa L;obtain⟨P,hP⟩:∃P,Oo w v c X V x f d S A n=P:=⟨_,rfl⟩;rw[hP]at ao L ⊢;rw[az];clear aw av h hx ha ai h0 hD t hd hS aQ an aR bi hP aX az;obtain⟨b4,aF⟩:∃q,w.heap.size=q:=⟨_,rfl⟩;obtain⟨W3,ab⟩:∃W3,(((w.alloc (.cells #[.pointer (some ⟨v,0,none⟩)] 24)).alloc (.cells #[I id] 3)).alloc (.cells #[.nilIface] 34))=W3:=⟨_,rfl⟩;have aH:Hid (Below w.heap.size w W3):=by
  rw[<-ab];exact(((QqA _ _).alloc (QqB _) _).alloc U _).alloc (by simp;omega) _
 have aY:Hid (∀W,Below W3.heap.size W3 W->Below w.heap.size w W/\Whole W b4 24 #[.pointer (some ⟨v,0,none⟩)]/\Whole W (b4+1) 3 #[I id]/\Whole W (b4+1+1) 34 #[.nilIface]):=λW o=>by
  have y4:Whole W3 b4 24 #[.pointer (some ⟨v,0,none⟩)]:=by rw[<-ab];exact((Whole.new' w _ _ _ aF).alloc _).alloc _
  have y5:Whole W3 (b4+1) 3 #[I id]:=by rw[<-ab];exact(Whole.new' _ _ _ _ (by simp[aF])).alloc _
  have R:Whole W3 (b4+1+1) 34 #[.nilIface]:=by rw[<-ab];exact Whole.new' _ _ _ _ (by simp[aF])
  exact⟨aH.out.trans (o.mono aH.out.size),y4.below o y4.lt,y5.below o y5.lt,R.below o R.lt⟩
 have ac:Hid (∀k,¬k<w.heap.size->¬vF v c X k):=λk hk hv=>hk (aW.out k hv);go_enter_defers Tryz.func82,Tryz.ntmps82
 obtain⟨_,e4,e5,e8⟩:=aY.out W3 (QqA _ _);have z4:W3.cell? ⟨b4,0,none⟩=some (.pointer (some ⟨v,0,none⟩)):=e4.cell 0;have z5:W3.cell? ⟨b4+1,0,none⟩=some (I id):=e5.cell 0;clear e4 e5 e8;go_wp2_with fail
 with_reducible refine(HW.out _ aH.out).mono ?_
 rintro e w1 ⟨rfl,aZ⟩;obtain⟨aA,x4,x5,x8⟩:=aY.out w1 aZ;have c4:w1.cell? ⟨b4,0,none⟩=some (.pointer (some ⟨v,0,none⟩)):=x4.cell 0;have c5:w1.cell? ⟨b4+1,0,none⟩=some (I id):=x5.cell 0;have bn:=Q7h x4;have bo:=Q7h x5;have aK:=Q7h x8;have aj:=Q7h aA;clear aZ aA x4 x5 x8 z4 z5 ab;go_wp2_with fail
 refine(ax.out w1 aj.out).mono ?_;rintro e w2 (⟨rfl,Q,aB,ad⟩|⟨rfl,ap,aL⟩)
 ·have bp:=Q7h Q;have Z:=Q7h (Z.out Q);clear Q;have y4:=bn.out.keep ad (ac.out _ O);have y5:=bo.out.keep ad (ac.out _ O);have R:=aK.out.keep ad (ac.out _ O);have a0:=Q7h (LpW.start (id:=id) (d:=d) aB ((Keep.below (F:=vF v c X) aj.out).trans ad (λk hk=>.inl hk)) HD.out aW.out H0.out y4 y5 R O O O O O);have d8:w2.cell? ⟨b4+1+1,0,none⟩=some .nilIface:=R.cell 0;have g8:=R.fz 0;have l8:=R.lt;clear aB ad y4 y5 R c4 c5;go_wp2_with fail
  obtain⟨b11,a4⟩:∃q,w2.heap.size=q:=⟨_,rfl⟩;rw[a4]at a0 ⊢;go_loopw [12,13,14,15,50] (λrv _ _ _ iv wr=>∃(j:Nat) (Ar:Option Addr) (q:Nat) (N':Nat->Prop),j<=n/\iv= I j/\rv= .slice Ar j q/\Hid (LpW w v c X b4 (b4+1) (b4+1+1) b11 id d (.slice Ar j q) (upto A j) {c with N:=N'} i {V.re i with s:=S j} wr)) (λ_ _ _ _ iv _=>n-(intOf iv).toNat)
  case atStart=>
   refine⟨0,none,0,c.N,QqM _,rfl,rfl,?_⟩;rw[bm.out];exact a0.out
  case round=>
   obtain⟨j,Ar,q,N',aT,rfl,rfl,HL⟩:=hrel;by_cases ai:j<n
   ·have bB:(j:Int)<(n:Int):=O;have b0:(0:Int)<=(j:Int):=QkD _;obtain⟨z4,z5,z8,ak⟩:=HL.out.cells;have zv:wr.cell? ⟨v,0,none⟩=some (.pointer (some ⟨c.q,0,none⟩)):=HL.out.vo.obj.cell 0;have h1:IntKind.i64.wrap (f+(j:Int))=f+j:=by rw[QqN];omega
    have h2:IntKind.i64.wrap ((j:Int)*32)=(j:Int)*32:=by rw[QqN];omega
    have h3:IntKind.i64.wrap ((j:Int)+1)=(j:Int)+1:=by rw[QqN];omega
    have h4:IntKind.i64.wrap (((j:Int)+1)*32)=((j:Int)+1)*32:=by rw[QqN];omega
    have bq:(0:Int)<=(j:Int)*32:=O;have a5:(j:Int)*32<=((j:Int)+1)*32:=O;have b1:((j:Int)+1)*32<=32*(n:Int):=O;have b2:(0:Int)<=((j:Int)+1)*32:=O;have br:((j:Int)*32).toNat=32*j:=O;have bs:(((j:Int)+1)*32).toNat=32*j+32:=O;have b3:∀W,(Instr.slice 9 (.string b) (some (I ((j:Int)*32))) (some (I (((j:Int)+1)*32))) none).run Tryz.prog W= .ok (.string (b.extract (32*j) (32*j+32))) W:=λW=>by rw[run_slice_string W 9 b .i64 .i64 _ _ Tryz.underlying9 bq a5 O,br,bs]
    have bt:=Q7h (aS.out j wr.drew N' ai (HL.out.vo.below (QqA _ _).drew));have HK:Hid (∀W,Below wr.heap.size wr W->W.cell? ⟨b4,0,none⟩=some (.pointer (some ⟨v,0,none⟩))/\W.cell? ⟨b4+1,0,none⟩=some (I id)/\W.cell? ⟨v,0,none⟩=some (.pointer (some ⟨c.q,0,none⟩))):=λW o=>⟨Qq o z4,Qq o z5,Qq o zv⟩;clear z8 ak;go_wp2_with fail
    go_region_held3 (λw'=>w'.cell? ⟨b4,0,none⟩=some (.pointer (some ⟨v,0,none⟩))/\w'.cell? ⟨b4+1,0,none⟩=some (I id)/\w'.cell? ⟨v,0,none⟩=some (.pointer (some ⟨c.q,0,none⟩))) (first|with_reducible exact aM.out|with_reducible exact HK.out _ (QqA _ _)|with_reducible exact HK.out _ (QqA _ _).drew) ((go_at_call 145;refine bt.out.mono ?_;rintro e Y ⟨N2,rfl,ae,af⟩;have al:=Q7h ((HL.out.below (QqA _ _).drew).move ae af);have aM:Hid (Y.cell? ⟨b4,0,none⟩=some (.pointer (some ⟨v,0,none⟩))/\Y.cell? ⟨b4+1,0,none⟩=some (I id)/\Y.cell? ⟨v,0,none⟩=some (.pointer (some ⟨c.q,0,none⟩))):=⟨al.out.cells.1,al.out.cells.2.1,al.out.vo.obj.cell 0⟩;clear ae af))
    have bu:Hid (∀(j':Nat) (u:Value),([I (A j)]:List Value)[j']? =some u->(Y.alloc (.cells #[I (A j)] 3)).cell? ((⟨Y.heap.size,0,none⟩:Addr).add j')=some u):=World.news_of_block (by simpa using QzY Y (.cells #[I (A j)] 3));have aq:∀u∈([I (A j)]:List Value),u.oneCell'=true:=by simp[Value.oneCell']
    have a6:=Q7h aq;have aN:=Q7h (al.out.below ((QqA _ _).alloc (QqB _) (.cells #[I (A j)] 3)));have bv:Hid ((Y.alloc (.cells #[I (A j)] 3)).ownsRow (b11+1) 3 1 (.slice Ar j q) j (ints (upto A j))):=by
     have:=aN.out.row;rwa[G8]at this
    have bw:Hid (b11+1<=(Y.alloc (.cells #[I (A j)] 3)).heap.size):=aN.out.x11.lt;obtain⟨i0,a7,a8,a9,ba⟩:=QzX Ex;have bz:=Q7h a7;have bF:=Q7h a8;have bH:=Q7h a9;have bK:=Q7h ba;clear aq a7 a8 a9 ba;go_wp2_with (at_builtin;go_must (refine wpList_append_lies _ rfl (.tmp 76) (.tmp 78) 39 rfl (b11+1) 3 i0 _ 1 8 Tryz.underlying39 bz.out bF.out bH.out bK.out rfl O (.slice Ar j q) j (ints (upto A j)) rfl bv.out ⟨Y.heap.size,0,none⟩ 1 1 [I (A j)] rfl rfl bu.out a6.out O (by simp only[maxLen];omega) O bw.out _ rfl ?_;intro g2 H w6 ag bb ar _;have bL:=Q7h ag;have bM:=Q7h bb;have bc:=Q7h ar;clear ag bb ar))
    have bN:Hid (LpW w v c X b4 (b4+1) (b4+1+1) b11 id d (.slice (some ⟨g2,0,none⟩) (j+1) H) (upto A (j+1)) {c with N:=N2} i {V.re i with s:=S (j+1)} w6):=by
     have q:=aN.out.grow (w':=w6) (g:=g2) (cap:=H) (a:=A j) (by rw[G8];exact bL.out) bM.out bc.out;rw[G8,<-Qon]at q;exact q
    have K:n-(intOf (I ((j:Int)+1))).toNat<n-(intOf (I (j:Int))).toNat:=by simp[intOf];omega
    exact⟨⟨j+1,some ⟨g2,0,none⟩,H,N2,O,by go_num,rfl,bN.out⟩,K⟩
   ·obtain rfl:j=n:=O;obtain⟨F0,bQ⟩:=aa.out;have bR:Hid (LpW w v c X b4 (b4+1) (b4+1+1) b11 id d (.slice Ar j q) (upto A j) {c with N:=N'} (Qo i id (Qn T f A 0) F0) {V with s:=S j,l:=(Qo i id (Qn T f A 0) F0).map (·.1)} wr):=by
     show LpW _ _ _ _ _ _ _ _ _ _ _ _ _ _ _ _;rw[<-bQ];exact HL.out
    have z:wr.ownsRow (b11+1) 3 1 (.slice Ar j q) j (ints (upto A j)):=by
     have:=HL.out.row;rwa[G8]at this
    obtain⟨gi,rfl,_,_,_,r,_⟩:=Qx z O;clear z r HL;go_wp2_with fail
    go_loopw [16,17,83] (λ_ _ iv wr=>∃(m:Nat) (F:List Nat),m<=j/\iv= I m/\Hid (LpW w v c X b4 (b4+1) (b4+1+1) b11 id d (.slice (some ⟨gi,0,none⟩) j q) (upto A j) {c with N:=N'} (Qo i id (Qn T f A m) F) {V with s:=S j,l:=(Qo i id (Qn T f A m) F).map (·.1)} wr)) (λ_ _ iv _=>j-(intOf iv).toNat)
    case atStart=>exact⟨0,F0,QqM _,rfl,bR.out⟩
    case round=>
     obtain⟨m,F,b5,rfl,M⟩:=hrel;by_cases be:m<j
     ·have b6:(m:Int)<(j:Int):=O;have b7:(0:Int)<=(m:Int):=QkD _;obtain⟨z4,z5,z8,ak⟩:=M.out.cells;have z:wr.ownsRow (b11+1) 3 1 (.slice (some ⟨gi,0,none⟩) j q) j (ints (upto A j)):=by
       have:=M.out.row;rwa[G8]at this
      obtain⟨g',ah,_,_,_,r,_⟩:=Qx z O;injection ah with ah;injection ah with ah;subst ah;have ci:wr.cell? ⟨gi,m,none⟩=some (I (A m)):=by
       have:=r m (I (A m)) (by simp[ints,upto,be]);simpa using this
      have hl:=ay.out m wr.drew N' F (M.out.vo.below (QqA _ _).drew);obtain⟨a5,au⟩:=hl;have zv:wr.cell? ⟨v,2,none⟩=some (.map (some c.tb)):=au;have h1:IntKind.i64.wrap (f+(m:Int))=f+m:=by rw[QqN];omega
      have bS:=Q7h (Z.out m wr.drew N' F be (M.out.vo.below (QqA _ _).drew));have HK:Hid (∀W,Below wr.heap.size wr W->W.cell? ⟨b4,0,none⟩=some (.pointer (some ⟨v,0,none⟩))/\W.cell? ⟨b4+1,0,none⟩=some (I id)/\W.cell? ⟨v,2,none⟩=some (.map (some c.tb))):=λW o=>⟨Qq o z4,Qq o z5,Qq o zv⟩;clear z8 ak z r au;go_wp2_with fail
      go_region_held3 (λw'=>w'.cell? ⟨b4,0,none⟩=some (.pointer (some ⟨v,0,none⟩))/\w'.cell? ⟨b4+1,0,none⟩=some (I id)/\w'.cell? ⟨v,2,none⟩=some (.map (some c.tb))) (first|with_reducible exact aM.out|with_reducible exact HK.out _ (QqA _ _)|with_reducible exact HK.out _ (QqA _ _).drew) ((go_at_call 158;refine bS.out.mono ?_;rintro e Y ⟨rfl,F',ae,af⟩;have am:=Q7h ((M.out.below (QqA _ _).drew).move ae af);have aM:Hid (Y.cell? ⟨b4,0,none⟩=some (.pointer (some ⟨v,0,none⟩))/\Y.cell? ⟨b4+1,0,none⟩=some (I id)/\Y.cell? ⟨v,2,none⟩=some (.map (some c.tb))):=⟨am.out.cells.1,am.out.cells.2.1,am.out.vo.obj.cell 2⟩;clear ae af))
      go_wp2_with fail
      have K:j-(intOf (I ((m:Int)+1))).toNat<j-(intOf (I (m:Int))).toNat:=by simp[intOf];omega
      exact⟨⟨m+1,F',O,by go_num,am.out⟩,K⟩
     ·obtain rfl:m=j:=O;obtain⟨z4,z5,z8,ak⟩:=M.out.cells;have g8:=M.out.x8.fz 0;have l8:=M.out.x8.lt;go_wp2_with fail
      have bf:Keep (λq=>q=b4+1+1) wr (wr.setCell ⟨b4+1+1,0,none⟩ .nilIface):=Keep.set1 wr (b4+1+1) 0 _;have bT:Whole (wr.setCell ⟨b4+1+1,0,none⟩ .nilIface) (b4+1+1) 34 #[.nilIface]:=by simpa using M.out.x8.set 0 .nilIface
      have bg:(wr.setCell ⟨b4+1+1,0,none⟩ .nilIface).cell? ⟨b4+1+1,0,none⟩=some .nilIface:=bT.cell 0;have b8:=M.out.mv.keep.size;have bV:=M.out.vo.keep bf (λq hq e=>by
       rcases hq with hq|rfl
       ·exact M.out.far q (.inr (.inr (.inl e))) hq
       ·omega)
      refine leaves_cons (f:=157) (args:=#[.pointer (some ⟨b4+1+1,0,none⟩),.pointer (some ⟨b4,0,none⟩),.pointer (some ⟨b4+1,0,none⟩),.pointer (some ⟨b11,0,none⟩)]) U (by simp[go_sem]) ?_;refine(Qls _ _ _ _ _ _ bg).mono ?_;rintro e u' w' ⟨rfl,rfl,rfl⟩;exact⟨.nilIface,by simp[results,Tryz.results82,go_sem,bg],L.out _ N' F bp.out bV ⟨M.out.mv.keep.trans bf (λq hq=>.inr O),M.out.mv.sub⟩⟩
 ·have R:=aK.out.below aL aK.out.lt;have d8:w2.cell? ⟨b4+1+1,0,none⟩=some .nilIface:=R.cell 0;have g8:=R.fz 0;have l8:=R.lt;have bh:Hid (Below w.heap.size w w2):=aj.out.trans (aL.mono aj.out.size);have bW:=Q7h ap;clear ap aL R c4 c5;go_wp2_with fail
  refine⟨.iface 28 (I 71),by simp[results,Tryz.results82,go_sem,d8,l8],ao.out _ bW.out ?_⟩;have hs:=bh.out.size;exact bh.out.trans (Keep.toBelow ((((Keep.refl (λk=>k=b4+1+1) w2).setCell (p:=⟨b4+1+1,0,none⟩) (.inl rfl) _).setCell (p:=⟨b4+1+1,0,none⟩) (.inl rfl) _).alloc _) hs (λk hk=>O))
abbrev Qa1:ByteArray:=⟨#[119,114,105,116,101]⟩
def U9(X:XL)(x:Sp×Bl)(f d:Int)(A:Nat->Int)(n:Nat)(F:List Nat):XL:=Qo (Qt X x.1.id d) x.1.id (Qn x.1.tr f A n) F
def Q48(w:World)(v:Nat)(c:Pt)(X:XL)(V:Vo)(x:Sp×Bl)(f d:Int)(S:Nat->Sto)(A:Nat->Int)(n:Nat)(e:Ending)(w':World):Prop:=
 (V.cap-tot (Zd (Zq X))<d/\Ib w Qa1 x.1.id 71 e w')\/
 (d<=V.cap-tot (Zd (Zq X))/\e= .returned .nilIface/\∃N' F,VoIn w' v {c with N:=N'} (U9 X x f d A n F) (Vo.kept {V with s:=S n,l:=(U9 X x f d A n F).map (·.1),sure:=false} (U9 X x f d A n F))/\Mv (vF v c X) w (vF v {c with N:=N'} (U9 X x f d A n F)) w')
theorem Lr(w:ν)(v:Nat)(c:Pt)(X:XL)(V:Vo)(x:Sp×Bl)(f:Int)(n:Nat)(b:β)(L:Nat)(S:Nat->Sto)(A:Nat->Int)(h:VoIn w v c X V)(hx:x∈X)(hf:0<=f)(h1:1<=n)(h8:n<=8)(hb:b.size=32*n)(M:f+n<=x.1.size)(Q:S 0=V.s)(hS:∀j,j<n->Xv L (S j) (pgW x.1.id f b j)=some (S (j+1),A j,0)/\(S j).n.ops+L<=1000000000000000000/\(S j).seq<=281474976710655)(i:Qp x.1.tr f n<=V.cap-tot (Zd (Zq X))->∀j,j<=n->(Qn x.1.tr f A j).Ok/\Chk (Qn x.1.tr f A j).flat)(l:Qp x.1.tr f n<=V.cap-tot (Zd (Zq X))->∀(m:Nat) (W:ν) (F:List Nat),m<n->TrAt W F x.2.p (Qn x.1.tr f A m)->(Qn x.1.tr f A m).Ok->Chk (Qn x.1.tr f A m).flat->C 158 #[(x.2.p,0),.agg #[I (f+m),I 1,I 2,I (A m)]] W λe w'=>e=ρ (I 0)/\∃F',TrAt w' F' x.2.p (Qn x.1.tr f A (m+1))/\Mv (λk=>k∈F) W (λk=>k∈F') w')
  (a:Qp x.1.tr f n<=V.cap-tot (Zd (Zq X))->∀F,Ej (U9 X x f (Qp x.1.tr f n) A n F)) (q:V.last.length<=100000):
  C 28 #[(v,0),I x.1.id,I f,.string b] w (Q48 w v c X V x f (Qp x.1.tr f n) S A n):=by
 have r:=Qob w v c X V x f n b L S A h hx hf h1 h8 hb M Q hS i l;obtain⟨d,hd⟩:=Zx (Qp x.1.tr f n);rw[hd]at r a ⊢;have Y:∀w t y,C 72 #[(v,0),.string Qa1,I x.1.id,.iface t y] w λx w'=>x=ρ (.iface 183 (w,0))/\w.alloc (.cells #[.string Qa1,I _,.iface t y] 187)=w':=λw t y=>C8 w _ _ _ t y;clear l i h hx hS hd;go_in
 go_wp2_with fail
 refine r.mono ?_;rintro e w1 (⟨q1,rfl,u⟩|⟨q1,rfl,N',F,u,q3⟩)
 ·have g:=q1;have z:=u;clear q1 u;go_wp2_with fail
  with_reducible refine(Y _ _ _).mono ?_
  rintro e w2 ⟨rfl,rfl⟩;go_wp2
  go_ret
  exact .inl ⟨g,_,rfl,Whole.new _ _ _,z.alloc z.size _⟩
 ·have HD:=Nz w1 v {c with N:=N'} _ _ Qa1 x.1.id u ⟨a q1 F,q⟩;have g:=q1;have Z:=q3;clear q1 u q3;go_wp2_with fail
  with_reducible refine HD.mono ?_
  rintro e w2 ⟨rfl,H,K⟩;have B:=Q7h H;have aa:=Q7h K;go_wp2
  go_ret
  exact .inr ⟨g,rfl,N',F,B,Z.trans ⟨aa,λk hk=>.inl hk⟩⟩
end vo
namespace vo
open Go.RowKit Go.Maps er st tr nd pg ge
def ex1:Ext:=⟨3,1,2,0⟩
def tE(a:Int):Tree:= .one ⟨a,[ex1]⟩
theorem Qbw:Tree.no.over ex1=tE (-1):=J
theorem ok1(a:Int):(tE a).Ok:=⟨QqB 1,show(1:Nat)<=8 by decide⟩
theorem Q6z:Chk [ex1]:=Og _ J
theorem Qw0:Qp .no 3 1=1:=J
def xt:ByteArray:=strOfNums (List.replicate 32 120)
def p0:Page:=⟨1,1,3,0,xt⟩
theorem pg0:pgW 1 3 xt 0=p0:=J
theorem Q2k:Jd {p0 with seq:=0}=true:=J
def p1:Page:=Tf 1 (.leaf [ex1])
theorem Q4h:Jd {p1 with seq:=0}=true:=J
def sp1:rt.Space:=⟨1,10,1,1⟩
def p2:Page:=Py 1 [sp1]
theorem Qwe:Jd {p2 with seq:=0}=true:=J
theorem Q3c:rt.Bh 1 [sp1]=true:=J
def t0:ByteArray:=Kr {p0 with seq:=0}
def t1:ByteArray:=Kr {p1 with seq:=1}
def t2:ByteArray:=Kr {p2 with seq:=2}
theorem rf0:Xh t0=({p0 with seq:=0},0):=Be _ Q2k
theorem rf1:Xh t1=({p1 with seq:=1},0):=Be _ (Bn (p:=p1) Q4h D D)
theorem rf2:Xh t2=({p2 with seq:=2},0):=Be _ (Bn (p:=p2) Qwe D D)
theorem sz0:t0.size<=128:=Ql8 Q2k
theorem sz1:t1.size<=128:=Ql8 (Bn (p:=p1) Q4h D D)
theorem sz2:t2.size<=128:=Ql8 (Bn (p:=p2) Qwe D D)
abbrev nE:Nand:=nV [t0,t1,t2]
theorem rs0:Qj nE 0=({p0 with seq:=0},0):=by unfold Qj;rw[rd0];exact rf0
theorem rs1:Qj nE 1=({p1 with seq:=1},0):=by unfold Qj;rw[rd1];exact rf1
theorem Qvy:Ql nE (nE.blocks*nE.per)=[⟨0,{p0 with seq:=0}⟩,⟨1,{p1 with seq:=1}⟩,⟨2,{p2 with seq:=2}⟩]:=Q1l t0 t1 t2 _ _ _ rf0 rf1 rf2
def fE:Fnd:=⟨2,{p2 with seq:=2}⟩
theorem Q6q:rt.Yf fE.p.body=some (1,[sp1]):=rt.Qfz Q3c
theorem Q0q:rt.Y9 (Ql nE (nE.blocks*nE.per))=[fE]:=by
 rw[Qvy];have a:rt.Kw ⟨0,{p0 with seq:=0}⟩=false:=by unfold rt.Kw;rw[show decide (({p0 with seq:=0}:Page).kind=4)=false from rfl];rfl
 have a1:rt.Kw ⟨1,{p1 with seq:=1}⟩=false:=by unfold rt.Kw;rw[show decide (({p1 with seq:=1}:Page).kind=4)=false from rfl];rfl
 have a2:rt.Kw fE=true:=by
  unfold rt.Kw;rw[Q6q];rfl
 show List.filter rt.Kw [⟨0,{p0 with seq:=0}⟩,⟨1,{p1 with seq:=1}⟩,fE]=[fE];rw[QjH (by rw[a];simp),QjH (by rw[a1];simp),QxN a2];rfl
theorem Q7u:Yd nE 1 1=some (2,⟨(Kc [ex1]).toArray⟩):=by
 unfold Yd;rw[rs1];rfl
theorem Q53:Z8 nE 1 10 [ex1]=true:=by
 unfold Z8;show(O9 nE 1 10 ex1&&true)=true;unfold O9 Gx;show(true&&(false || (Bg nE 1 3 0&&true))&&true)=true;have:Bg nE 1 3 0=true:=by
  unfold Bg;rw[rs0];kernel_rfl
 rw[this];rfl
def spE:Sp:=⟨1,10,1,tE 1⟩
theorem Q5t:Ldb nE 10 [sp1] [spE] where
 len:=rfl
 sp:=λj x s c b=>by
  match j,c,b with
  |0,c,b=>
   obtain rfl:sp1=x:=by simpa using c
   obtain rfl:spE=s:=by simpa using b
   exact⟨rfl,⟨λa ha=>(by have e:a=1:=(by simpa[spE,tE,Tree.ats]using ha);subst e;omega),by simp[spE,tE,Tree.ats],λ_=>Q7u⟩,ok1 1,Q6z,Q53,rfl⟩
  |j+1,c,b=>simp at c
 room:=by show(1:Int)+0<=10;omega
 pos:=λs b=>by
  obtain rfl:s=spE:=(by simpa using b);show(0:Int)<=1;omega
theorem Zqf:Q80 (Ju nE) fE 1 [spE]:=⟨[sp1],Q6q,Q5t⟩
theorem Q5b(s:Sto):Iz s (tE 1) 2=Qz1:=by
 unfold Iz;rw[QqE (by rw[show(Zb (Tree.flat (tE 1)) 2).1=0 by kernel_rfl];decide)]
theorem Q5e(s:Sto)(h:s.n=nE):Iz s (tE 1) 3=xt:=by
 unfold Iz;rw[show Zb (Tree.flat (tE 1)) 3=(2,0) by kernel_rfl,QqH rfl,h,rs0];rfl
theorem Q67{vv:List Int}{T:Tree}{s:Sto}(h:Wrt 3 1 (tE (-1)) (sV [t0] vv) T s):T=tE 1/\s=sV [t0,t1] vv:=by
 obtain⟨_,_,⟨rfl,rfl⟩,⟨a,ha,e,_⟩|⟨ha,pg,b,f,g,rfl⟩⟩:=h
 ·exact absurd (by simpa[tE,Tree.ats]using ha.symm) e
 ·obtain rfl:Pg.leaf [ex1]=pg:=by simpa[tE,Tree.pgs]using f
  have c:Xv 3 (sV [t0] vv) p1=some (s,b,0):=g;rw[app1 t0 p1 vv Q4h]at c;injection c with c;injection c with i d;injection d with d j;subst i d;exact⟨rfl,rfl⟩
theorem Q7a(vv:List Int):Q9x (Qkz 3 1) (Qou 3 1) (tE (-1)) (sV [t0] vv):=by
 have key:∀j V v,WrTo (Qkz 3 1) j (tE (-1)) (sV [t0] vv) V v->∀pg,V.ats[j]? =some (-1)->V.pgs[j]? =some pg->V=tE (-1)/\v=sV [t0] vv/\pg= .leaf [ex1]:=by
  intro j V v h pg ha c;match j with
  |0=>
   obtain⟨rfl,rfl⟩:=h;exact⟨rfl,rfl,by simpa[tE,Tree.pgs]using c.symm⟩
  |j+1=>
   have e:=h.same.2.2.1;have:=(QqD.1 ha).1;rw[e]at this;simp[tE,Tree.ats]at this
 refine⟨by simp[tE,Tree.nfs,Tree.ats],by simp[tE,Tree.nfs,Tree.ats],λj V v pg h ha c=>?_,λj V v pg b u h ha c f=>?_⟩
 ·obtain⟨_,rfl,rfl⟩:=key j V v h pg ha c;exact⟨_,_,app1 t0 p1 vv Q4h,by show(1:Int)+3<=_;decide,by show(1:Int)<=_;decide⟩
 ·obtain⟨rfl,rfl,rfl⟩:=key j V v h pg ha c;have a:Xv 3 (sV [t0] vv) p1=some (u,b,0):=f;rw[app1 t0 p1 vv Q4h]at a;injection a with a;injection a with g d;injection d with d i;subst d;exact⟨O,by simp[tE,Tree.nfs,Tree.ats]⟩
theorem smE(a:Int):Small (tE a):=by
 have b:(sorted (Tree.nfs (tE a))).length<=1:=by
  rw[Xd];unfold Tree.nfs;exact QqR (QkE _ _) (QqB 1)
 refine⟨show(1:Nat)<=4096 by decide,?_⟩;unfold Ik;rw[QqK];have c:(Zo (Tree.flat (tE a))).length=1:=by show(Zo [ex1]).length=1;kernel_rfl
 omega
theorem smX(sp:Sp)(b:Bl)(a:Int)(h:sp.tr=tE a):Ej [(sp,b)]:=⟨by show 1<=8;decide,λx c=>by
 simp only[QzG]at c;subst c;show Small sp.tr;rw[h];exact smE a⟩
theorem Q4k(s:Sto)(h:s.n=nE):(⟨(Oz s (tE 1) 2 2).toArray⟩:ByteArray)=strOfNums (List.replicate 32 0)++xt:=by
 have e:Oz s (tE 1) 2 2=Qz1.data.toList++xt.data.toList:=by
  rw[show(2:Nat)=1+1 from rfl,Ob,show(1:Nat)=0+1 from rfl,Ob];rw[show((2:Int)+((0:Nat):Int))=2 from rfl,show((2:Int)+((0+1:Nat):Int))=3 from rfl,Q5b,Q5e s h];rfl
 rw[e];have k:(⟨(Qz1.data.toList++xt.data.toList).toArray⟩:ByteArray)=strOfNums (List.replicate 32 0)++xt:=J;exact k
end vo
namespace pl
open Go.RowKit er tr st vo dc
variable {α:Type} {P:Int→α} {z:α} {B:Int→ByteArray}
def doc(B:Int->ByteArray)(s:Sp):Spc:=⟨s.id,s.size,exp B s.tr.flat⟩
def Xo(B:Int->ByteArray)(L:List Sp):List Spc:=L.map (doc B)
def Up(L:List Sp):Prop:=L.Pairwise λa b=>a.id<b.id
def Om(L:List Sp)(s:Sp):List Sp:=L.map λy=>if y.id=s.id then s else y
def Lu(L:List Sp)(s:Sp):List Sp:=L.filter (λy=>decide (y.id<s.id))++s::L.filter λy=>decide (s.id<y.id)
def Qxa(L:List Sp)(id:Int):List Sp:=L.filter λy=>decide (y.id≠id)
theorem Sw{L:List Sp}{s:Sp}(h:Up L)(b:s∈L):∃i,Iq (Xo B L) s.id=some i/\(Xo B L)[i]? =some (doc B s):=by
 obtain⟨i,hi,a⟩:=QkL.1 b;have c:(Xo B L)[i]? =some (doc B s):=by
  unfold Xo;rw[QzF,QqC hi,a];rfl
 refine⟨i,QkP.2 ⟨by simpa[Xo]using hi,?_,λj d=>?_⟩,c⟩
 ·simp only[Xo,List.getElem_map,a];exact QxA rfl
 ·have:=QkZ.1 h j i O hi d;simp only[Xo,List.getElem_map,doc];rw[a]at this;simp;omega
theorem Qk5{L:List Sp}{id:Int}(h:∀s∈L,s.id≠id):Iq (Xo B L) id=none:=by
 refine QjV.2 λx a=>?_;obtain⟨s,b,rfl⟩:=QqS.1 a;exact QyF (h s b)
theorem Hz{L:List Sp}{s:Sp}(h:Up L)(a:s∈L):Vx (Xo B L) s.id=doc B s:=by
 obtain⟨i,b,c⟩:=Sw (B:=B) h a;unfold Vx;rw[b];simp only;rw[QkH,c];rfl
theorem Qao{L:List Sp}{s:Sp}(h:Up L)(a:s∈L):0<=Ky (Xo B L) s.id:=by
 obtain⟨i,b,_⟩:=Sw (B:=B) h a;unfold Ky;rw[b];simp only;omega
theorem Qai{L:List Sp}{id:Int}(h:∀s∈L,s.id≠id):Ky (Xo B L) id= -1:=by
 unfold Ky;rw[Qk5 h]
theorem Qf1{L:List Sp}{s:Sp}(h:Up L)(a:s∈L)(f n:Int)(m:Bool):Qm (Xo B L) s.id f n m=Gt s.size f n m:=by
 obtain⟨i,b,c⟩:=Sw (B:=B) h a;unfold Qm Gt;rw[b];simp only;rw[QkH,c];rfl
theorem Qf2{L:List Sp}{id:Int}(h:∀s∈L,s.id≠id)(f n:Int)(m:Bool):Qm (Xo B L) id f n m=4:=by
 unfold Qm;rw[Qk5 h]
theorem Qjy(L:List Sp)(id:Int):Zj (Xo B L) id=Xo B (Qxa L id):=by
 unfold Zj Xo Qxa;rw[QxF];rfl
theorem Qmp{s:Sp}:∀{L:List Sp},Up L->Yc (doc B s) (Xo B (Qxa L s.id))=Xo B (Lu L s)
 |[],_=>rfl
 |a::L,h=>by
  have j:=Qmp (s:=s) (QzS.1 h).2;have d:=(QzS.1 h).1;unfold Qxa Lu at j ⊢;rcases QgR a.id s.id with k|l|f
  ·rw[QxN (by simp;omega),QxN (by simp;omega),QjH (by simp;omega)];show(if s.id<a.id then _ else doc B a::Yc (doc B s) _)=_;rw[QqE O,show(List.map (doc B) (L.filter λy=>decide (y.id≠s.id)))=Xo B (L.filter λy=>decide (y.id≠s.id))from rfl,j];rfl
  ·have e:∀p:Sp->Bool,(∀y∈L,p y=true)->L.filter p=L:=λp g=>QjD.2 g;have i:L.filter (λy=>decide (y.id<s.id))=[]:=QjX.2 λy c=>by have:=d y c;simp;omega
   rw[QjH (by simp;omega),QjH (by simp;omega),QjH (by simp;omega),i,e _ (λy c=>by have:=d y c;simp;omega),e _ (λy c=>by have:=d y c;simp;omega)];cases L with
   |nil=>rfl
   |cons b r=>
    have:=d b U;show(if s.id<b.id then _ else _)=_;rw[QqH O];rfl
  ·have e:∀p:Sp->Bool,(∀y∈L,p y=true)->L.filter p=L:=λp g=>QjD.2 g;have i:L.filter (λy=>decide (y.id<s.id))=[]:=QjX.2 λy c=>by have:=d y c;simp;omega
   rw[QxN (by simp;omega),QjH (by simp;omega),QxN (by simp;omega),i,e _ (λy c=>by have:=d y c;simp;omega),e _ (λy c=>by have:=d y c;simp;omega)];show(if s.id<a.id then _ else _)=_;rw[QqH f];rfl
theorem Qqs{s:Sp}:∀{L:List Sp},Up L->(∃y∈L,y.id=s.id)->Lu L s=Om L s
 |[],_,⟨y,b,_⟩=>by cases b
 |a::L,h,hm=>by
  have c:=(QzS.1 h).1;unfold Lu Om;rcases QgR a.id s.id with g|d|i
  ·have f:=Qqs (s:=s) (QzS.1 h).2 (by
    obtain⟨y,b,e⟩:=hm;rcases QqF.1 b with rfl|b
    ·omega
    ·exact⟨y,b,e⟩)
   unfold Lu Om at f;rw[QxN (by simp;omega),QjH (by simp;omega),QzE,QqE O,QjW,f]
  ·have j:L.filter (λy=>decide (y.id<s.id))=[]:=QjX.2 λy b=>by have:=c y b;simp;omega
   have k:L.filter (λy=>decide (s.id<y.id))=L:=QjD.2 λy b=>by have:=c y b;simp;omega
   rw[QjH (by simp;omega),QjH (by simp;omega),j,k,QzE,QqH d];refine congrArg (s::·) ?_;have:L.map (λy=>if y.id=s.id then s else y)=L.map id:=QkF λy b=>by
    have:=c y b;rw[QqE O];rfl
   rw[this,List.map_id]
  ·obtain⟨y,b,e⟩:=hm;rcases QqF.1 b with rfl|b
   ·omega
   ·have:=c y b;omega
theorem V6{L:List Sp}{s:Sp}(h:Up L):Z9 (Xo B L) (doc B s)=Xo B (Lu L s):=by
 unfold Z9;show Yc (doc B s) (Zj (Xo B L) s.id)=_;rw[Qjy];exact Qmp h
theorem Qcy{L:List Sp}(a:∀s∈L,Chk s.tr.flat/\s.used=Q5 s.tr.flat):Ug ⟨10,Xo B L⟩=10-K9 L:=by
 unfold Ug K9 Xo;rw[QzR];refine congrArg (λl:List Int=>10-l.sum) (QkF λs b=>?_);show((exp B s.tr.flat).length:Int)=s.used;rw[(a s b).2];exact U7 λe c=>by have:=Ut ((a s b).1.one e c);omega
theorem Q0k{B':Int->ByteArray}{l:List Ext}(h:∀e∈l,e.kind=2->∀i:Nat,(i:Int)<e.n->B' (e.at_+i)=B (e.at_+i)):exp B' l=exp B l:=by
 unfold exp;induction l with
 |nil=>rfl
 |cons e l ih=>
  rw[QqV,QqV,ih λx b=>h x (by simp[b])];refine congrArg (· ++_) (QkF λi hi=>?_);have hi:=QuX.1 hi;unfold Ns;by_cases a:e.kind=2
  ·rw[QqH a,QqH a,show e.at_+(e.fr+(i:Int)-e.fr)=e.at_+(i:Int) by omega,h e U a i O]
  ·rw[QqE a,QqE a]
theorem Ph{l:List Ext}{f n:Int}{a:Int}(d:Chk l)(b:0<=f)(c:f+1<=16777216)(ha:0<=a/\a<2048):Qb ⟨f,1,2,a⟩=true:=Qup b (by show(1:Int)<=1;omega) c (.inr ⟨rfl,ha.1,by show a+1<=2048;omega⟩)
def ovL(l:List Ext)(f:Int)(A:Nat->Int):Nat->List Ext
 |0=>l
 |j+1=>Gw (ovL l f A j) ⟨f+j,1,2,A j⟩
theorem Q8z {l:List Ext} {f:Int} {A:Nat→Int} (e:Chk l) (k:0≤f):∀(n:Nat),f+(n:Int)≤16777216→(∀j,j < n→0≤A j∧A j < 2048)→Chk (ovL l f A n)∧∀q d,Cov P z (ovL l f A n) q d↔(Cov P z l q d∧(q < f∨f+(n:Int)≤q))∨∃i:Nat,i < n∧q=f+(i:Int)∧d=P (A i)
 |0,_,_=>⟨e,fun q d=>by
  constructor
  ·intro h;exact .inl ⟨h,by omega⟩
  ·rintro (⟨h,_⟩|⟨i,h,_⟩)
   ·exact h
   ·omega⟩
 |n+1,h1,hA=>by
  obtain ⟨a2,a3⟩:=Q8z e k n (by omega) (fun j m=>hA j (by omega))
  have g:Qb ⟨f+(n:Int),1,2,A n⟩=true:=Ph (n:=0) a2 (by omega) (by omega) (hA n (by omega))
  refine ⟨Bc a2 g,fun q d=>?_⟩
  show Cov P z (Gw (ovL l f A n) ⟨f+(n:Int),1,2,A n⟩) q d↔_
  rw [Rx a2 (Ut g),a3,C9]
  simp only [Ext.end_,Ns]
  constructor
  ·rintro (⟨⟨b,a⟩|⟨i,b,a,c⟩,o⟩|⟨b,a⟩)
   ·exact .inl ⟨b,by omega⟩
   ·exact .inr ⟨i,by omega,a,c⟩
   ·refine .inr ⟨n,by omega,by omega,?_⟩
    rw [a]
    simp only [if_true]
    exact congrArg P (by omega)
  ·rintro (⟨b,a⟩|⟨i,b,a,c⟩)
   ·exact .inl ⟨.inl ⟨b,by omega⟩,by omega⟩
   ·by_cases hi:i < n
    ·exact .inl ⟨.inr ⟨i,hi,a,c⟩,by omega⟩
    ·obtain rfl:i=n:=by omega
     refine .inr ⟨by omega,?_⟩
     rw [c]
     simp only [if_true]
     exact congrArg P (by omega)
theorem Qnu{s:Spc}{f:Int}{d:List ByteArray}:((Ic s f d).s.length:Int)=(s.s.length:Int)-dIn s f (f+(d.length:Int))+(d.length:Int):=by
 have h:=congrArg List.length (List.takeWhile_append_dropWhile (p:=λx:Sec=>decide (x.at_<f)) (l:=(Ou s f (f+(d.length:Int))).s));unfold Ic dIn Ti;simp only[QqK,QqT,List.length_range]at h ⊢;omega
theorem Qnx:∀{l:List Ext},Chk l->(l.length:Int)<=Q5 l
 |[],_=>by simp[Q5]
 |e::l,h=>by
  have a:=Qnx h.tail;have:=Ut (h.one e U);simp only[Q5,QzE,QxX,QzN]at a ⊢;omega
theorem Q8e{l:List Ext}(h:Chk l):((exp B l).length:Int)=Q5 l:=U7 λe a=>by have:=Ut (h.one e a);omega
theorem Q9q{l:List Ext}{f:Int}{m:Nat}(h:Chk l)(a:0<=f)(e:1<=m)(hb:f+(m:Int)<=16777216):Chk (Gw l ⟨f,m,1,0⟩)/\Q5 (Gw l ⟨f,m,1,0⟩)=Q5 l+((m:Int)-Q5 (parts l f (f+m))):=by
 have g:Qb ⟨f,m,1,0⟩=true:=Qup a (by show(1:Int)<=(m:Int);omega) (by show f+(m:Int)<=16777216;omega) (.inl ⟨rfl,rfl⟩);have b:=Bc h g;have i:=Qeh (B:=λ_=>Zm) (id:=0) (size:=0) h a e hb;have c:=Qnu (s:=⟨0,0,exp (λ_=>Zm) l⟩) (f:=f) (d:=List.replicate m Zm);rw[i,List.length_replicate,Qq2 h a O hb]at c;have j:=Q8e (B:=λ_=>Zm) h;have k:=Q8e (B:=λ_=>Zm) b;simp only at c;exact⟨b,O⟩
theorem Q8n{l:List Ext}{f:Int}{A:Nat->Int}{n:Nat}(h:Chk l)(c:0<=f)(g:1<=n)(hb:f+(n:Int)<=16777216)(k:∀j,j<n->0<=A j/\A j<2048):Q5 (ovL l f A n)=Q5 l+((n:Int)-Q5 (parts l f (f+n))):=by
 obtain⟨c1,c2⟩:=Q8z (P:=λ_:Int=>Zm) (z:=Zm) h c n hb k;obtain⟨d,m⟩:=Q9q h c g hb;have e:exp (λ_=>Zm) (ovL l f A n)=exp (λ_=>Zm) (Gw l ⟨f,n,1,0⟩):=Qqz (Dq c1) (Dq d) λx=>by
  rw[U6,U6,c2,Rx h (show 1<=(n:Int) by omega),C9];refine or_congr QoX ⟨?_,?_⟩
  ·rintro⟨i,q1,a,b⟩;exact⟨⟨by show f<=x.at_;omega,by show x.at_<f+(n:Int);omega⟩,b⟩
  ·rintro⟨⟨q1,a⟩,b⟩;have a:x.at_<f+(n:Int):=a;have q1:f<=x.at_:=q1;exact⟨(x.at_-f).toNat,O,O,b⟩
 rw[<-m,<-Q8e (B:=λ_=>Zm) c1,<-Q8e (B:=λ_=>Zm) d,e]
theorem Zqg{l:List Ext}{f:Int}{a:Int}(h:Chk l)(c:0<=f)(hb:f+1<=16777216)(ha:0<=a/\a<2048):Q5 l<=Q5 (Gw l ⟨f,1,2,a⟩):=by
 have b:=Q8n (A:=λ_=>a) (n:=1) h c (QqB 1) hb (λ_ _=>ha);have d:=(Li (T:= .one ⟨-1,l⟩) (f:=f) (n:=1) h c D hb).1;have e:ovL l f (λ_=>a) 1=Gw l ⟨f,1,2,a⟩:=by
  show Gw l ⟨f+((0:Nat):Int),1,2,a⟩=_;rw[show f+((0:Nat):Int)=f by omega]
 rw[e]at b;have d:0<=1-Q5 (parts l f (f+1)):=d;have b:Q5 (Gw l ⟨f,1,2,a⟩)=Q5 l+(1-Q5 (parts l f (f+1))):=b;omega
theorem Q79{T:Tree}{f:Int}{A:Nat->Int}(a:T.Ok)(d:Chk T.flat)(g:0<=f):∀(n:Nat),f+(n:Int)<=16777216->(∀j,j<n->0<=A j/\A j<2048)->Q5 (ovL T.flat f A n)<=10->(∀j,j<=n->Q5 (ovL T.flat f A j)<=10)/\(Qn T f A n).flat=ovL T.flat f A n/\(Qn T f A n).Ok/\Kp T (Qn T f A n)
 |0,_,_,hs=>⟨λj b=>(by have e:j=0:=O;rw[e];exact hs),rfl,a,Kp.refl _⟩
 |n+1,h1,hA,hs=>by
  have a2:=(Q8z (P:=λ_:Int=>(0:Int)) (z:=0) (A:=A) d g n O (λj b=>hA j O)).1;have h:Qb ⟨f+(n:Int),1,2,A n⟩=true:=Ph (n:=0) a2 O O (hA n O);have m:=Zqg a2 (f:=f+(n:Int)) O O (hA n O);have i:Q5 (Gw (ovL T.flat f A n) ⟨f+(n:Int),1,2,A n⟩)<=10:=hs;obtain⟨q1,c,k,l⟩:=Q79 a d g n O (λj b=>hA j O) O;have o:=Qnx (Bc a2 h);have t:=Qz6 k (by rw[c];exact a2) h (by rw[c];omega);rw[c]at t;refine⟨λj b=>?_,t.1,t.2,l.trans (Qj9 _ _ _)⟩;by_cases e:j=n+1
  ·subst e;exact hs
  ·exact q1 j O
end pl
namespace vo
open Go.RowKit Go.Maps er st tr nd pg ge
theorem Qhn(w:World):C 38 #[] w λe w'=>e= .returned (.agg #[I 16,I 16])/\Below w w w':=by
 go_in
 go_wp2_with fail
 go_returns;exact⟨rfl,B0.alloc N0 _⟩
abbrev z16:List Int:=List.replicate 16 0
theorem Qbi:Ql (nV []) ((nV []).blocks*(nV []).per)=[]:=J
theorem Qxr(a:Int):((nV []).read a).2.size<=70368744177664:=by
 unfold Nand.read;rw[QqE (show ¬(nV []).down=true from λe=>by cases e)];split
 ·exact QqM _
 ·split
  ·exact QqM _
  ·rename_i h t d;have c:=QqL d;have:∀i,((nV []).blk i).pages=[]:=by
    intro i;unfold Nand.blk;by_cases hi:i<16
    ·have:=Qqd (f:=λi=>((nV []).b.getD i ⟨[],0,false⟩).pages) (g:=λ_=>([]:List ByteArray)) (n:=16) J i hi;exact this
    ·rw[List.getD,QkY (by show 16<=i;omega)];rfl
   rw[this]at c;cases c
def Q33(w:World)(e:Ending)(w':World):Prop:=∃v c,e= .returned (.tuple #[(c.p,0),(v,0)])/\VoIn w' v c [] (Ll (sE z16))/\Below w w w'/\∀k,vF v c [] k->w.heap.size<=k
theorem Qk0(w:ν)(d:LaidT w):C 10 #[] w (Q33 w):=by
 have j:Hid (∀W,Below w w W->C 51 #[.agg #[I 16,I 16]] W λe w1=>∃p,e=ρ (τ #[(p,0),()])/\C 14 #[(p,0)] w1 λe w2=>∃(v:Nat) (c:Pt),c.p=p/\e=ρ (τ #[(v,0),()])/\Q33 w (ρ (τ #[(c.p,0),(v,0)])) w2):=by
  intro W a;refine(Q1q 16 16 O O O O W).mono ?_;rintro e w1 ⟨F,p,rfl,y,m,n⟩;have hb:=a.trans (m.mono a.size);have z:∀k,F k->w.heap.size<=k:=λk L=>QqR a.size (n k L);rw[Qw6]at y;have q:=(Keep.below (F:=λ_=>False) hb).cell d (λh=>h);have M:=d.lt;refine⟨p,rfl,(Rl (λ_=>0) (λ_=>[]) w1 F p (nV []) y rfl q (λh=>by have:=z 0 h;omega) ⟨D,D⟩ ⟨D,D⟩ Qxr (by rw[Qbi];exact QqM _) (by rw[Qbi];intro f b;cases b) (by rw[Qbi];exact rt.Qbj (QqM _)) (by rw[Qbi];intro l d _ f b;rw[d.eq_nil]at b;cases b)).mono ?_⟩;rintro e w2 ⟨v,c,X,V,l,rfl,N,Q,g,_,r,R⟩;rw[Qbi]at g;have s:=g.eq_nil;subst s;have t:X=[]/\V=Ll (sE z16):=by
   rcases r with⟨f,P,h,_⟩|⟨_,S,H⟩
   ·exact absurd h U
   ·rw[Q15]at H;exact⟨S,H⟩
  obtain⟨rfl,rfl⟩:=t;obtain⟨t1,t2⟩:=R.toBelow hb.size z;exact⟨v,c,N,rfl,v,c,rfl,Q,hb.trans t1,t2⟩
 clear d;have u:=Q7h (Qhn w);go_in
 go_wp2_with fail
 with_reducible refine u.o.mono ?_
 rintro e w0 ⟨rfl,i⟩;have x:=Q7h (j.o w0 i);clear i;go_wp2_with fail
 refine x.o.mono ?_;rintro e w1 ⟨p,rfl,K⟩;have T:=Q7h K;clear K;go_wp2_with fail
 refine T.o.mono ?_;rintro e w2 ⟨v,c,rfl,rfl,b⟩;have Y:=Q7h b;clear b;go_wp2_with fail
 go_returns;exact Y.o
def Own(B:Nat)(w:World)(F:Nat->Prop)(w':World):Prop:=Below B w w'/\∀k,F k->B<=k
theorem Vd{B:Nat}{w a b:World}{F G:Nat->Prop}(h:Own B w F a)(f:B<=w.heap.size)(d:Mv F a G b):Own B w G b:=by
 obtain⟨c,e⟩:=h;have g:=c.size;obtain⟨t1,t2⟩:=d.toBelow (B:=B) O e;exact⟨c.trans t1,t2⟩
def After1(B:Nat)(w:World)(v:Nat)(c:Pt)(w':World):Prop:=∃(b:Bl) (vv:List Int),VoIn w' v c [((⟨1,10,0,.no⟩:Sp),b)] {s:=sE vv,cap:=10,l:=[⟨1,10,0,.no⟩],gen:=0,root:= -1,last:=[],sure:=false}/\Own B w (vF v c [((⟨1,10,0,.no⟩:Sp),b)]) w'
theorem step1(w W:World)(v:Nat)(c:Pt)(h:VoIn W v c [] (Ll (sE z16)))(i:Own w.heap.size w (vF v c []) W):C 22 #[(v,0),I 1,I 10] W λe w'=>e= .returned .nilIface/\After1 w.heap.size w v c w':=by
 refine(Tw W v c [] _ 1 10 h ⟨⟨U,λx b=>by cases b⟩,QqM _⟩ ⟨D,D⟩ (λx b=>by cases b) rfl ⟨D,D⟩ U).mono ?_;rintro e w' ⟨rfl,ab,p,j,d,ha,m⟩;obtain⟨g,f⟩:=i;have l:=g.size;obtain t1:=d.keep.toBelow l f;refine⟨rfl,⟨ab,p,[p]⟩,_,j,g.trans t1,λk d=>?_⟩;have a:=d;rcases a with a|a
 ·exact f k (.inl a)
 ·have:=(Qgs (v:=v) (c:=c) (X:=[]) (s:=(⟨1,10,0,.no⟩:Sp)) (ab:=ab) (p:=p) (λz hz=>by cases hz)).mem_iff.1 a;simp only[QqF]at this;rcases this with rfl|rfl|a
  ·omega
  ·omega
  ·exact f k (.inr a)
def T1:Tree:=tE (-1)
def Qoo(B:Nat)(w:World)(v:Nat)(c:Pt)(w':World):Prop:=∃(N:Nat->Prop) (b:Bl) (vv:List Int),VoIn w' v {c with N:=N} [((⟨1,10,1,T1⟩:Sp),b)] {s:=sV [t0] vv,cap:=10,l:=[⟨1,10,1,T1⟩],gen:=0,root:= -1,last:=[],sure:=false}/\Own B w (vF v {c with N:=N} [((⟨1,10,1,T1⟩:Sp),b)]) w'
theorem Q1y(b:Bl)(F:List Nat)(d:Int)(a:d=1):U9 [((⟨1,10,0,.no⟩:Sp),b)] ((⟨1,10,0,.no⟩:Sp),b) 3 d (λ_=>0) 1 F=[((⟨1,10,1,T1⟩:Sp),({b with F:=F}:Bl))]:=by
 subst a;show[((⟨1,10,0+1,Tree.no.over ex1⟩:Sp),({b with F:=F}:Bl))]=_;rw[Qbw];rfl
theorem step2(w W:World)(v:Nat)(c:Pt)(h:After1 w.heap.size w v c W):C 28 #[(v,0),I 1,I 3,.string xt] W λe w'=>e= .returned .nilIface/\Qoo w.heap.size w v c w':=by
 obtain⟨b,vv,i,f⟩:=h;have a:Qp (Tree.no) 3 ((1:Nat):Int)=1:=Qw0;refine(Lr W v c _ _ ((⟨1,10,0,.no⟩:Sp),b) 3 1 xt 3 (λj=>if j=0 then sE vv else sV [t0] vv) (λ_=>0) i U D (QqB 1) D J (by show(3:Int)+((1:Nat):Int)<=10;decide) rfl (λj k=>?_) (λ_ j k=>?_) (λ_ m l F q n _ _=>?_) (λ_ F=>?_) (QqM _)).mono ?_
 ·obtain rfl:j=0:=O;refine⟨?_,by show(0:Int)+3<=_;decide,by show(0:Int)<=_;decide⟩;show Xv 3 (sE vv) (pgW 1 3 xt 0)=some (sV [t0] vv,0,0);rw[pg0];exact app0 p0 vv Q2k
 ·rcases(show j=0\/j=1 by omega)with rfl|rfl
  ·exact⟨trivial,Dk⟩
  ·show(Tree.no.over ex1).Ok/\Chk (Tree.no.over ex1).flat
   rw[Qbw];exact⟨ok1 _,Q6z⟩
 ·obtain rfl:m=0:=O;exact Eh l F b.p .no ex1 n trivial Dk J (by show(1:Nat)<=10;decide)
 ·rw[Q1y b F _ a];exact smX _ _ (-1) rfl
 ·rintro e w' (⟨o,_⟩|⟨_,rfl,N',F,q1,g⟩)
  ·exfalso;have d:(10:Int)-tot (Zd (Zq [((⟨1,10,0,.no⟩:Sp),b)]))<Qp (Tree.no) 3 ((1:Nat):Int):=o;rw[a]at d;have:tot (Zd (Zq [((⟨1,10,0,.no⟩:Sp),b)]))=0:=rfl;omega
  ·rw[Q1y b F _ a]at q1 g;have r:=f.1.size;exact⟨rfl,N',{b with F:=F},_,q1,Vd f N0 g⟩
def Q1j(B:Nat)(w:World)(p:Nat)(w':World):Prop:=∃(N:Nat->Prop),NandAt w' N p nE/\LaidT w'/\¬N 0/\Own B w N w'
theorem Q3i(w W:World)(v:Nat)(c:Pt)(S:0<w.heap.size)(h:Qoo w.heap.size w v c W):C 23 #[(v,0)] W λe w'=>e= .returned .nilIface/\Q1j w.heap.size w c.p w':=by
 obtain⟨N,b,vv,n,o⟩:=h;have t:∀(j:Nat) (x:Sp×Bl),[((⟨1,10,1,T1⟩:Sp),b)][j]? =some x->j=0/\x=((⟨1,10,1,T1⟩:Sp),b):=by
  intro j x f;cases j with
  |zero=>injection f with f;exact⟨rfl,f.symm⟩
  |succ j=>cases f
 have g:∀(Y:XL) (s:Sto),Fs 3 [((⟨1,10,1,T1⟩:Sp),b)] (sV [t0] vv) Y s->Y=[((⟨1,10,1,tE 1⟩:Sp),b)]/\s=sV [t0,t1] vv:=by
  rintro Y s ⟨T,s1,V,rfl,i,rfl,rfl⟩;obtain⟨rfl,rfl⟩:=Q67 i;exact⟨rfl,rfl⟩
 refine(Qjg W v {c with N:=N} _ _ 3 n (show(0:Int)<=0 by decide) (show(0:Int)<1099511627775 by decide) (λ_=>⟨λj x A s f u=>?_,λY s l=>?_⟩) (QqM _)).mono ?_
 ·obtain⟨rfl,rfl⟩:=t j x f;obtain⟨_,rfl⟩:=u;exact Q7a vv
 ·obtain⟨rfl,rfl⟩:=g Y s l;refine⟨Q3c,⟨smX _ _ 1 rfl,?_⟩,by show(2:Int)+3<=_;decide,by show(2:Int)<=_;decide,_,Q3z t0 t1 p2 vv Qwe⟩;show(Ik (tE 1)++[]).length<=100000;rw[QzT];exact(smE 1).2
 ·rintro e w' (⟨⟨h,_⟩,_⟩|⟨Y,s,r,N',lv,L,rfl,q1,y,X,Z,m,z⟩|⟨_,_,_,Y,s,N',_,_,_,_,q⟩)
  ·cases h
  ·obtain⟨rfl,rfl⟩:=g Y s q1;have d:Xv 3 (sV [t0,t1] vv) p2=some r:=y;rw[Q3z t0 t1 p2 vv Qwe]at d;injection d with d;subst d;have hz:¬stF {({c with N:=N}:Pt)with N:=N',lv:=lv} 0:=m.zero;obtain⟨o1,o2⟩:=o;have F:=o1.size;obtain⟨u1,u2⟩:=z.toBelow (B:=w.heap.size) F o2;exact⟨rfl,N',m.sto.arr,m.laid,λh=>hz (.inr (.inr (.inr h))),o1.trans u1,λk H=>u2 k (.inl (.inr (.inr (.inr H))))⟩
  ·exfalso;obtain⟨s1,a,K,M,Q,R⟩:=q;obtain⟨rfl,rfl⟩:=g Y s1 M;have d:Xv 3 (sV [t0,t1] vv) p2=some (s,a,K):=Q;rw[Q3z t0 t1 p2 vv Qwe]at d;injection d with d;injection d with _ d;injection d with _ d;exact R d.symm
def Q5u(B:Nat)(w:World)(v:Nat)(c:Pt)(w':World):Prop:=∃(b:Bl) (V:Vo),VoIn w' v c [(spE,b)] V/\V.s.n=nE/\V.gen=1/\Below B w w'
theorem Q3o(w W:ν)(p:Nat)(y:0<w.heap.size)(h:Q1j w w p W):C 14 #[(p,0)] W λe w'=>∃v c,e=ρ (τ #[(v,0),()])/\Q5u w w v c w':=by
 obtain⟨N,ha,i,r,n⟩:=h;have j:=Zqf;refine(Rl (λ_=>1) (λ_=>[spE]) W N p nE ha rfl i r ⟨D,D⟩ ⟨D,D⟩ (Qml t0 t1 t2 sz0 sz1 sz2) (by rw[Qvy];decide) (λf d=>?_) (by rw[Q0q];exact rt.Qbj (QqB 1)) (λl i _ f d=>?_)).mono ?_
 ·rw[Qvy]at d;simp only[QqF,QkU,QyA]at d;rcases d with rfl|rfl|rfl
  ·exact QxM J
  ·exact QxM J
  ·exact QxM J
 ·rw[Q0q]at i;obtain rfl:l=[fE]:=List.perm_singleton.1 i;obtain rfl:fE=f:=by simpa using d
  refine⟨j,λs o=>?_,?_⟩
  ·obtain rfl:s=spE:=by simpa using o
   exact smE 1
  ·show(Ik (tE 1)++[]).length<=100000;rw[QzT];exact(smE 1).2
 ·rintro e w' ⟨v,c,X,V,l,rfl,_,t,g,_,k,u⟩;rw[Q0q]at g;have m:=List.perm_singleton.1 g;subst m;have o:=n.1.size;have hb:=(Vd n N0 u).1;rcases k with⟨f,P,q,a,_,rfl⟩|⟨q,_⟩
  ·cases X with
   |nil=>cases a
   |cons x X=>
    simp only[QzE,QoV,List.map_eq_nil_iff]at a;obtain⟨a,rfl⟩:=a;obtain⟨z,b⟩:=x;simp only at a;subst a;exact⟨v,c,rfl,b,_,t,rfl,rfl,hb⟩
  ·cases q
theorem Q3g(W:World)(v:Nat)(c:Pt)(b:Bl)(V:Vo)(h:VoIn W v c [(spE,b)] V)(f:V.s.n=nE):C 24 #[(v,0),I 1,I 2,I 2] W λe w'=>e= .returned (.tuple #[.string (strOfNums (List.replicate 32 0)++xt),.nilIface])/\Below W W w':=by
 have g:∀k:Nat,k<2->k=0\/k=1:=λk g=>O;refine(V8 W v c [(spE,b)] V (spE,b) 2 2 h U D D D (show(2:Int)+((2:Nat):Int)<=10 by decide) (λk d i=>?_) (λa=>by rw[f];exact Qml t0 t1 t2 sz0 sz1 sz2 a) (λk d=>?_)).mono ?_
 ·rcases g k d with rfl|rfl
  ·have:(Zb [ex1] 2).1=2:=i;rw[show(Zb [ex1] 2).1=0 by kernel_rfl]at this;cases this
  ·show(Qj V.s.n (Zb [ex1] 3).2).2=0;rw[show(Zb [ex1] 3).2=0 by kernel_rfl,f,rs0]
 ·rcases g k d with rfl|rfl
  ·show(Iz V.s (tE 1) 2).size=32;rw[Q5b];kernel_rfl
  ·show(Iz V.s (tE 1) 3).size=32;rw[Q5e V.s f];kernel_rfl
 ·rintro e w' ⟨rfl,hb⟩;refine⟨?_,hb⟩;have:=Q4k V.s f;have j:(⟨(Oz V.s (spE,b).1.tr 2 2).toArray⟩:ByteArray)=strOfNums (List.replicate 32 0)++xt:=this;rw[j]
end vo
namespace pl
open Go.RowKit er tr st vo nd pg ge dc
structure FineS(n:Nand)(s:Sp):Prop where
 id:1<=s.id/\s.id<=65535
 size:0<=s.size/\s.size<=16777216
 ok:s.tr.Ok
 chk:Chk s.tr.flat
 used:s.used=Q5 s.tr.flat
 hold:Z8 n s.id s.size s.tr.flat=true
 gd:Gd (PgL n s.id) s.tr
 nd:s.tr.nfs.Nodup
structure Fine(n:Nand)(L:List Sp):Prop where
 up:Up L
 sp:∀s∈L,FineS n s
 cap:K9 L<=10
 len:L.length<=8
theorem Qnp{n d:Nand}(h:Gr n d){id size:Int}{l:List Ext}(b:Z8 n id size l=true):Z8 d id size l=true:=by
 unfold Z8 at b ⊢;rw[QxK]at b ⊢;intro e f;have a:=b e f;unfold O9 at a ⊢;simp only[QzC,QuT,QzD]at a ⊢;refine⟨a.1,a.2.imp (λh=>h) λc=>?_⟩;unfold Gx at c ⊢;rw[QxK]at c ⊢;exact λi hi=>h.std (c i hi)
theorem FineS.gr{n a:Nand}(h:Gr n a){s:Sp}(k:FineS n s):FineS a s:=⟨k.id,k.size,k.ok,k.chk,k.used,Qnp h k.hold,Zqy h k.gd,k.nd⟩
theorem Fine.gr{n a:Nand}(h:Gr n a){L:List Sp}(k:Fine n L):Fine a L:=⟨k.up,λs b=>(k.sp s b).gr h,k.cap,k.len⟩
theorem Qcn{n:Nand}{id size:Int}{l:List Ext}(h:Z8 n id size l=true):∀e∈l,e.end_<=size:=by
 intro e a;unfold Z8 at h;rw[QxK]at h;have:=h e a;unfold O9 at this;simp only[QzC,QzD]at this;exact this.1
theorem Qq5{n:Nand}{id size:Int}{l:List Ext}(h:Z8 n id size l=true){e:Ext}(b:e∈l)(c:e.kind=2){i:Int}(d:0<=i)(hi:i<e.n):Bg n id (e.fr+i) (e.at_+i)=true:=by
 unfold Z8 at h;rw[QxK]at h;have:=h e b;unfold O9 at this;simp only[QzC,QuT,QzD]at this;rcases this.2 with a|a
 ·exact absurd c a
 ·have:=Mk n id e (k:=i.toNat) a O;rw[show((i.toNat:Nat):Int)=i by omega]at this;exact this
abbrev bd(n:Nand):Int->ByteArray:=λa=>(Qj n a).1.body
theorem Wp{n:Nand}{id b a:Int}(h:Bg n id b a=true):(Qj n a).2=0/\(Qj n a).1.kind=1/\(Qj n a).1.space=id/\(Qj n a).1.key=b/\(Qj n a).1.body.size=32:=by
 unfold Bg at h;simp only[QzC,QzD]at h;obtain⟨⟨⟨⟨c,d⟩,e⟩,f⟩,g⟩:=h;refine⟨c,d,e,f,?_⟩;have:((Qj n a).1.body.size:Int)=32:=by simpa using g
 omega
theorem Q40{n a:Nand}(h:Gr n a){s:Sp}(k:FineS n s):doc (bd a) s=doc (bd n) s:=by
 unfold doc;rw[Q0k (B:=bd n) (B':=bd a) λe b c i hi=>?_];have:=(Wp (Qq5 k.hold b c (i:=(i:Int)) O hi)).1;show(Qj a _).1.body=(Qj n _).1.body;rw[h _ this]
theorem Qza{n a:Nand}(h:Gr n a){L:List Sp}(k:Fine n L):Xo (bd a) L=Xo (bd n) L:=QkF λs b=>Q40 h (k.sp s b)
theorem Ls{n:Nand}{s:Sp}(k:FineS n s):0<=s.used/\(s.tr.flat.length:Int)<=s.used:=by
 have:=Qnx k.chk;rw[k.used];omega
theorem Wq{n:Nand}:∀{L:List Sp},(∀s∈L,FineS n s)->∀s∈L,s.used<=K9 L
 |a::L,h,s,b=>by
  have c:=Rn (L:=L) λs b=>(Ls (h s (by simp[b]))).1;have d:=(Ls (h a U)).1;rw[Jq];rcases QqF.1 b with rfl|b
  ·omega
  ·have:=Wq (λs b=>h s (by simp[b])) s b;omega
theorem Q9l{n:Nand}:∀{L:List Sp},(∀s∈L,FineS n s)->∀{s:Sp},s∈L->s.used<=K9 L:=λh _ a=>Wq h _ a
theorem Vr:∀{l:List Ext},Chk l->((Zo l).length:Int)<=Q5 l
 |[],_=>by simp[Zo,Q5]
 |e::l,h=>by
  have a:=Vr h.tail;have b:=Ut (h.one e U);unfold Zo at a ⊢;rw[QqV,QqK];simp only[Q5,QzE,QxX]at a ⊢;have:(J7 e e.n.toNat).length<=e.n.toNat:=by
   unfold J7;split<;>simp
  omega
theorem Qdj(n:Nand):∀(k:Nat) (f:Fnd),f∈Ql n k->Qj n f.at_=(f.p,0)
 |0,f,h=>by simp[Ql]at h
 |k+1,f,h=>by
  rw[Ql]at h;split at h
  ·rename_i a;rcases QqJ.1 h with h|h
   ·exact Qdj n k f h
   ·rw[QzG.1 h];exact Prod.ext rfl a
  ·exact Qdj n k f h
abbrev fnd(n:Nand)(a:Int):Fnd:=⟨a,(Qj n a).1⟩
structure Rooted(n:Nand)(g:Int)(L:List Sp):Prop where
 g0:0<=g
 fine:Fine n L
 wr:∀s∈L,s.tr.fr=0
 all:∀a,(Qj n a).2=0->rt.Kw (fnd n a)=true->0<g/\rt.Fe (fnd n a)<=g
 non:g=0->L=[]
 has:0<g->∃a,(Qj n a).2=0/\rt.Kw (fnd n a)=true/\rt.Yf (Qj n a).1.body=some (g,L.map spS)/\∀b,(Qj n b).2=0->rt.Kw (fnd n b)=true->rt.Fe (fnd n b)=g->b=a
theorem Qrm{f:Fnd}(h:rt.Kw f=true):f.p.kind=4:=by
 unfold rt.Kw at h;simp only[QzC,QzD]at h;exact h.1.1.1
theorem Q3f{n:Nand}(hb:n.blocks=16)(g:n.per=16){s:Sp}(k:FineS n s)(h:s.tr.fr=0):Zqc n (spS s) s/\rt.spB (spS s)=true:=by
 have b:∀a∈s.tr.ats,a≠-1:=λa ha e=>by
  have:=QjX.1 (QjS h) a ha;simp[e]at this
 have d:s.tr.nfs=s.tr.ats:=QjD.2 λa ha=>by simpa using b a ha
 have f:=k.nd;have c:=Q89 hb g k.gd;rw[d]at f c;refine⟨⟨rfl,⟨λa ha=>by have:=c a ha;omega,f,k.gd⟩,k.ok,k.chk,k.hold,k.used⟩,?_⟩;have hi:=k.id;have hz:=k.size;unfold rt.spB spS;simp only[QzC,QzD];refine⟨by have:=(Q8g s.tr).2.2;omega,?_⟩;cases hT:s.tr with
 |no=>rfl
 |one x=>
  have:=c x.a (by rw[hT];simp[Tree.ats]);show(decide (0<=x.a)&&decide (x.a<=2047))=true;simp;omega
 |two a x y=>
  have:=c a (by rw[hT];simp[Tree.ats]);show(decide (0<=a)&&decide (a<=2047))=true;simp;omega
theorem Q9b{n:Nand}{s:Sp}(h:FineS n s)(a:s.used<=10):(Ik s.tr).length<=20:=by
 have b:=Vr h.chk;have c:=(Q8g s.tr).1;have:=h.used;unfold Ik;rw[QqK,vo.Xd];omega
theorem Y8{n:Nand}{s:Sp}(h:FineS n s)(a:s.used<=10):Small s.tr:=by
 have:=(Ls h).2;exact⟨O,by have:=Q9b h a;omega⟩
theorem Qko{n:Nand}:∀{L:List Sp},(∀s∈L,FineS n s/\s.used<=10)->(L.flatMap λs=>Ik s.tr).length<=20*L.length
 |[],_=>QqB _
 |s::L,h=>by
  have b:=Qko (L:=L) λy a=>h y (by simp[a]);have:=Q9b (h s U).1 (h s U).2;rw[QqV,QqK,QzN];omega
theorem Rooted.more{n c:Nand}(h:Gr n c)(l:NoRt n c){g:Int}{L:List Sp}(k:Rooted n g L):Rooted c g L:=by
 have old:∀a,(Qj c a).2=0->rt.Kw (fnd c a)=true->(Qj n a).2=0/\fnd c a=fnd n a:=λa e d=>by
  by_cases f:(Qj n a).2=0
  ·exact⟨f,by unfold fnd;rw[h a f]⟩
  ·exact absurd (Qrm d) (l a e f)
 refine⟨k.g0,k.fine.gr h,k.wr,λa e d=>?_,k.non,λm=>?_⟩
 ·obtain⟨i,j⟩:=old a e d;rw[j]at d ⊢;exact k.all a i d
 ·obtain⟨a,a1,a2,a3,o⟩:=k.has m;refine⟨a,by rw[h a a1];exact a1,by unfold fnd;rw[h a a1];exact a2,by rw[h a a1];exact a3,λb b1 b2 b3=>?_⟩;obtain⟨i,j⟩:=old b b1 b2;rw[j]at b2 b3;exact o b i b2 b3
theorem newest{n:Nand}{g:Int}{L:List Sp}(k:Rooted n g L)(hb:n.blocks=16)(y:n.per=16){l:List Fnd}(z:l.Perm (rt.Y9 (Ql n 256)))(F:l.Pairwise rt.newer):(∀f,l.head? =some f->rt.Yf f.p.body=some (g,L.map spS))/\(l=[]->L=[]/\g=0):=by
 have c:∀f,f∈l↔f=fnd n f.at_/\(Qj n f.at_).2=0/\rt.Kw f=true:=by
  intro f;rw[z.mem_iff];unfold rt.Y9;rw[QzZ];constructor
  ·rintro⟨j,o⟩;have b:=Qdj _ _ _ j;exact⟨by unfold fnd;rw[b],by rw[b],o⟩
  ·rintro⟨e,b,o⟩;refine⟨?_,o⟩;have q:=Da b;rw[hb,y]at q;obtain⟨m,c⟩:∃m:Nat,f.at_=(m:Int):=⟨f.at_.toNat,O⟩;rw[e];unfold fnd;rw[c]at b ⊢;exact Qy3 n m _ (Prod.ext rfl b) 256 O
 refine⟨λf j=>?_,λH=>?_⟩
 ·cases l with
  |nil=>cases j
  |cons x l=>
   obtain rfl:x=f:=by simpa using j
   obtain⟨d,t,u⟩:=(c x).1 U;obtain⟨K,f5⟩:=k.all x.at_ t (by rw[<-d];exact u);obtain⟨a,a1,a2,a3,v⟩:=k.has K;have ha:rt.Fe (fnd n a)=g:=by unfold rt.Fe;rw[a3]
   rcases QqF.1 ((c (fnd n a)).2 ⟨rfl,a1,a2⟩)with h|h
   ·rw[<-h];exact a3
   ·have r:=(QzS.1 F).1 _ h;have s:rt.Fe x=g:=by
     rw[<-d]at f5;rcases r with M|⟨M,_⟩<;>omega
    have:=v x.at_ t (by rw[<-d];exact u) (by rw[<-d];exact s);rw[d,this];exact a3
 ·subst H;have w:¬0<g:=λw=>by
   obtain⟨a,a1,a2,a3,v⟩:=k.has w;have:=(c (fnd n a)).2 ⟨rfl,a1,a2⟩;cases this
  have i:g=0:=by have:=k.g0;omega
  exact⟨k.non i,i⟩
theorem Q9k{n:Nand}{g:Int}{L:List Sp}(k:Rooted n g L)(hb:n.blocks=16)(b:n.per=16){l:List Fnd}(h:l.Perm (rt.Y9 (Ql n 256)))(i:l.Pairwise rt.newer)(f:Fnd)(m:l.head? =some f):Q80 (Ju n) f g L/\(∀s∈L,Small s.tr)/\(L.flatMap λs=>Ik s.tr).length<=100000:=by
 have c:∀s∈L,FineS n s/\s.used<=10:=λs a=>⟨k.fine.sp s a,Int.le_trans (Wq k.fine.sp s a) k.fine.cap⟩;refine⟨⟨_,(newest k hb b h i).1 f m,U,λj x s d a=>?_,?_,λs a=>(Ls (k.fine.sp s a)).1⟩,λs a=>Y8 (c s a).1 (c s a).2,?_⟩
 ·rw[QzF,a]at d;obtain rfl:spS s=x:=by simpa using d
  have e:=QqL a;exact(Q3f hb b (k.fine.sp s e) (k.wr s e)).1
 ·have o:Ye n.blocks n.per=10:=by rw[hb,b];exact Q0f
  show K9 L<=Ye n.blocks n.per;rw[o];exact k.fine.cap
 ·have:=Qko c;have:=k.fine.len;omega
theorem reopen{n:Nand}{g:Int}{L:List Sp}(k:Rooted n g L)(hb:n.blocks=16)(a:n.per=16){l:List Fnd}{X:XL}{V:Vo}(b:l.Perm (rt.Y9 (Ql n 256)))(c:l.Pairwise rt.newer)(h:Q5k (Ju n) (λ_=>g) (λ_=>L) l X V):X.map (·.1)=L/\V.l=L/\V.gen=g/\V.cap=10/\V.sure=true/\(∃vv,V.s={Ju n with valid:=vv})/\V.last.length<=100000:=by
 have d:Ye n.blocks n.per=10:=by rw[hb,a];exact Q0f
 rcases h with⟨f,P,i,e,j,rfl⟩|⟨rfl,rfl,rfl⟩
 ·refine⟨e,rfl,rfl,d,rfl,⟨_,rfl⟩,?_⟩;have:=(Q9k k hb a b c f i).2.2;show P.length<=_;rw[j.length_eq,Qbp,e];exact this
 ·obtain⟨rfl,rfl⟩:=(newest k hb a b c).2 rfl;exact⟨rfl,rfl,rfl,d,rfl,⟨_,rfl⟩,QqM _⟩
end pl
namespace pl
open Go.RowKit er tr st vo nd pg dc
theorem La{n:Nand}{id size:Int}{l:List Ext}(f:∀e∈l,1<=e.n):Z8 n id size l=true↔∀q d,Cov some none l q d->q<size/\∀p,d=some p->Bg n id q p=true:=by
 constructor
 ·rintro h q d ⟨e,a,g,b⟩;have k:=Qcn h e a;refine⟨O,λp j=>?_⟩;subst j;unfold Ns at b;split at b
  ·rename_i c;injection b with b;have:=Qq5 h a c (i:=q-e.fr) O (by unfold Ext.end_ at g;omega);rw[show e.fr+(q-e.fr)=q by omega,<-b]at this;exact this
  ·cases b
 ·intro h;unfold Z8;rw[QxK];intro e a;have m:=f e a;unfold O9;simp only[QzC,QuT,QzD];refine⟨?_,?_⟩
  ·have:=(h (e.end_-1) _ ⟨e,a,⟨by unfold Ext.end_;omega,O⟩,rfl⟩).1;omega
  ·by_cases c:e.kind=2
   ·refine .inr ?_;unfold Gx;rw[QxK];intro i hi;have hi:=QuX.1 hi;refine(h (e.fr+(i:Int)) _ ⟨e,a,⟨O,by unfold Ext.end_;omega⟩,rfl⟩).2 _ ?_;unfold Ns;rw[QqH c];exact congrArg some O
   ·exact .inl c
theorem Sn{n:Nand}{s s':Sp}(k:FineS n s)(b:s'.id=s.id)(hz:0<=s'.size/\s'.size<=16777216)(c:s'.tr.Ok)(g:Chk s'.tr.flat)(j:s'.used=Q5 s'.tr.flat)(l:Gd (PgL n s.id) s'.tr)(m:s'.tr.nfs.Nodup)
  (o:∀q p,Cov some none s'.tr.flat q p->q<s'.size/\(Cov some none s.tr.flat q p\/∀a,p=some a->Bg n s.id q a=true)):FineS n s':=by
 refine⟨by rw[b];exact k.id,hz,c,g,j,?_,by rw[b];exact l,m⟩;rw[b];refine(La λe d=>Ut (g.one e d)).2 λq p h=>?_;obtain⟨i,f|f⟩:=o q p h
 ·exact⟨i,((La λe d=>Ut (k.chk.one e d)).1 k.hold q p f).2⟩
 ·exact⟨i,f⟩
theorem Qwb(L:List Sp)(s:Sp):∀y∈Om L s,y=s\/y∈L:=by
 intro y a;obtain⟨z,hz,rfl⟩:=QqS.1 a;split
 ·exact .inl rfl
 ·exact .inr hz
theorem Q2u{L:List Sp}{s:Sp}(h:Up L):Up (Om L s):=by
 refine QjP.2 (h.imp λ{a b} c=>?_);have e:∀y:Sp,(if y.id=s.id then s else y).id=y.id:=λy=>by
  split
  ·rename_i d;exact d.symm
  ·rfl
 rw[e,e];exact c
theorem Aq{x s:Sp}:∀{L:List Sp},Up L->x∈L->s.id=x.id->K9 (Om L s)=K9 L-x.used+s.used
 |a::L,h,b,hid=>by
  have c:=(QzS.1 h).1;unfold Om;rw[QzE,Jq,Jq];rcases QqF.1 b with rfl|b
  ·have:L.map (λy=>if y.id=s.id then s else y)=L.map id:=QkF λy e=>by
    have:=c y e;rw[QqE O];rfl
   rw[QqH hid.symm,this,List.map_id];omega
  ·have:=c x b;have d:=Aq (s:=s) (QzS.1 h).2 b hid;unfold Om at d;rw[QqE O,d];omega
theorem Rk{n:Nand}{L:List Sp}{x s:Sp}(k:Fine n L)(b:x∈L)(a:s.id=x.id)(c:FineS n s)(d:K9 L-x.used+s.used<=10):Fine n (Om L s):=
 ⟨Q2u k.up,λy f=>(Qwb L s y f).elim (λe=>e▸c) (k.sp y),by rw[Aq k.up b a];exact d,by unfold Om;rw[QqT];exact k.len⟩
theorem Qr9{L:List Sp}{s:Sp}(a:∀y∈L,y.id≠s.id):(Lu L s).Perm (s::L):=by
 unfold Lu;refine List.perm_middle.trans (.cons _ ?_);have:L.filter (λy=>decide (s.id<y.id))=L.filter (λy=>!decide (y.id<s.id)):=QgN λy b=>by
  have:=a y b;by_cases c:y.id<s.id<;>by_cases d:s.id<y.id<;>simp[c,d]<;>omega
 rw[this];exact QgB _ L
theorem Q2g{L:List Sp}{s:Sp}(h:Up L):Up (Lu L s):=by
 refine QkA.2 ⟨h.filter _,QzS.2 ⟨λy c=>by simpa using(QzZ.1 c).2,h.filter _⟩,λa ha b hb=>?_⟩;have d:a.id<s.id:=by simpa using(QzZ.1 ha).2
 rcases QqF.1 hb with rfl|hb
 ·exact d
 ·have e:s.id<b.id:=by simpa using(QzZ.1 hb).2
  omega
theorem Qrx{L c:List Sp}(h:L.Perm c):K9 L=K9 c:=by
 induction h with
 |nil=>rfl
 |cons x _ ih=>rw[Jq,Jq,ih]
 |swap x y l=>simp only[Jq];omega
 |trans _ _ a b=>exact a.trans b
theorem Qw8{n:Nand}{L:List Sp}{s:Sp}(k:Fine n L)(c:∀y∈L,y.id≠s.id)(d:FineS n s)(e:s.used=0)(f:L.length<8):Fine n (Lu L s):=by
 have a:=Qr9 c;refine⟨Q2g k.up,λy b=>?_,?_,?_⟩
 ·rcases QqF.1 (a.mem_iff.1 b)with rfl|b
  ·exact d
  ·exact k.sp y b
 ·rw[Qrx a,Jq,e];have:=k.cap;omega
 ·rw[a.length_eq,QzN];omega
theorem Qew:∀{L:List Sp} (p:Sp->Bool),(∀s∈L,0<=s.used)->K9 (L.filter p)<=K9 L
 |[],_,_=>QxL _
 |a::L,p,h=>by
  have c:=Qew (L:=L) p λs b=>h s (by simp[b]);have d:=h a U;rw[QkX];split
  ·rw[Jq,Jq];omega
  ·rw[Jq];omega
theorem Qw9{n:Nand}{L:List Sp}(k:Fine n L)(id:Int):Fine n (Qxa L id):=
 ⟨k.up.filter _,λy a=>k.sp y (QzZ.1 a).1,Int.le_trans (Qew _ λs b=>(Ls (k.sp s b)).1) k.cap,QqR (QkE _ _) k.len⟩
structure Lw(k:Nat)(V:Vo)(r su:Dv):Prop where
 cap:V.cap=10
 fit:Ef V.s
 q0:0<=V.s.seq
 q1:V.s.seq<=64*(k:Int)
 ops:V.s.n.ops<=64*(k:Int)
 sq:∀a,(Qj V.s.n a).2=0->(Qj V.s.n a).1.seq<V.s.seq
 fine:Fine V.s.n V.l
 r:r=⟨10,Xo (bd V.s.n) V.l⟩
 rt:∃L,Rooted V.s.n V.gen L/\su=⟨10,Xo (bd V.s.n) L⟩/\(V.sure=true->L=V.l)
 gen:V.gen<=(k:Int)
 last:V.last.length<=100000
theorem Lw.chg{k:Nat}{V b:Vo}{r su r':Dv}(h:Lw k V r su){s1:Sto}{j:Nat}(a:Grw V.s s1 j)(f:NoRt V.s.n s1.n)(u:j<=64)(d:∃l,b.s=s1.need l)(i:b.cap=V.cap)(g:b.gen=V.gen)(m:b.sure=false)(o:b.last=V.last)(p:Fine s1.n b.l)(q:r'=⟨10,Xo (bd s1.n) b.l⟩):Lw (k+1) b r' su:=by
 obtain⟨l,d⟩:=d;have c:b.s.n=s1.n:=by rw[d];rfl
 have hq:b.s.seq=s1.seq:=by rw[d];rfl
 have v:=h.q0;have w:=h.q1;have x:=h.ops;have y:=h.gen;have z:=a.seq;have F:=a.ops;refine⟨i.trans h.cap,d▸Qgf a.fit l,by rw[hq];omega,by rw[hq];omega,by rw[c];omega,by rw[c,hq];exact a.sq h.sq,by rw[c];exact p,by rw[c];exact q,?_,by rw[g];omega,by rw[o];exact h.last⟩;obtain⟨L,q1,t,_⟩:=h.rt;exact⟨L,by rw[c,g];exact q1.more a.gr f,by rw[c,t,Qza a.gr q1.fine],λe=>by rw[m]at e;cases e⟩
theorem Lw.same{k:Nat}{V:Vo}{r su:Dv}(h:Lw k V r su):Lw (k+1) V r su:=by
 have a:=h.q1;have b:=h.ops;have c:=h.gen;exact⟨h.cap,h.fit,h.q0,O,O,h.sq,h.fine,h.r,h.rt,O,h.last⟩
end pl
end Go.Proofs.YtfialjmemcobjaaGreatDoor
namespace Go.Proofs.YtfialjmemcobjaaGreatDoor
namespace vo
open Go.RowKit Go.Maps er st tr nd pg ge
theorem After1.below{B:Nat}{w W a:World}{v:Nat}{c:Pt}(h:After1 B w v c W)(d:B<=w.heap.size)(hb:Below W W a):After1 B w v c a:=by
 obtain⟨b,vv,e,f⟩:=h;exact⟨b,vv,e.below hb,Vd f d (Mv.below hb)⟩
theorem Qav(w:ν)(M:LaidT w):C 11 #[] w λe w'=>e=ρ (.bool true)/\Below w w w':=by
 have l:=M.lt;have H0:=Q7h l;have N:=Qk0 w M;have Q:∀W,C 52 #[I 1,.int .u8 120] W λe w'=>e=ρ (.string xt)/\Below W W w':=λW=>Rs 120 W D D;have HZ:∀W,C 52 #[I 1,.int .u8 0] W λe w'=>e=ρ (.string (strOfNums (List.replicate 32 0)))/\Below W W w':=λW=>Rs 0 W D D;have m:∀W v c,After1 w w v c W->C 28 #[(v,0),I 1,I 3,.string xt] W λe w'=>e=ρ ()/\Qoo w w v c w':=λW v c h=>step2 w W v c h;have d:∀W v c b V,VoIn W v c [(spE,b)] V->V.s.n=nE->C 24 #[(v,0),I 1,I 2,I 2] W λe w'=>e=ρ (τ #[.string (strOfNums (List.replicate 32 0)++xt),()])/\Below W W w':=λW v c b V h1 h2=>Q3g W v c b V h1 h2;have q:(strOfNums (List.replicate 32 0)).size+xt.size<=100:=QxM J;obtain⟨X,hX⟩:=Zx xt;obtain⟨Z,hZ⟩:=Zx (strOfNums (List.replicate 32 0));rw[hX]at Q m d q;rw[hZ]at HZ d q;clear M hX hZ;go_in
 go_wp2_with fail
 refine N.mono ?_;rintro e w1 ⟨v,c,rfl,hv,hb,hn⟩;have R:=Cg v;have S:=step1 w w1 v c hv ⟨hb,hn⟩;clear hv hb hn;go_wp2_with fail
 refine S.mono ?_;rintro e w2 ⟨rfl,ha⟩;have HA:=Q7h ha;go_wp2_with fail
 refine(Q _).mono ?_;rintro e w3 ⟨rfl,r⟩;have T:=m w3 v c (HA.below N0 r);clear r;go_wp2_with fail
 refine T.mono ?_;rintro e w4 ⟨rfl,ha⟩;have Y:=Q3i w w4 v c H0 ha;clear ha;go_wp2_with fail
 refine Y.mono ?_;rintro e w5 ⟨rfl,ha⟩;have A:=Q3o w w5 c.p H0 ha;clear ha;go_wp2_with fail
 refine A.mono ?_;rintro e w6 ⟨v2,c2,rfl,b,V,f,t,B,u⟩;have aa:=Q7h f;have x:=Q7h u;have ab:=d w6 v2 c2 b V aa t;clear t R;go_wp2_with fail
 refine ab.mono ?_;rintro e w7 ⟨rfl,g⟩;have y:=aa.below g;have z:=x.trans (g.mono x.size);have ac:=V9 w7 v2 c2 _ V (spE,b) y U;clear g;go_wp2_with fail
 refine ac.mono ?_;rintro e w8 ⟨rfl,i⟩;have ad:=y.below i;have F:=z.trans (i.mono z.size);clear i;go_wp2_with fail
 refine(HZ _).mono ?_;rintro e w9 ⟨rfl,j⟩;have ae:=ad.below j;have H:=F.trans (j.mono F.size);clear j;go_wp2_with fail
 refine(Q _).mono ?_;rintro e k ⟨rfl,a⟩;have K:=ae.below a;have L:=H.trans (a.mono H.size);clear a;have ag:∀W,(binOp .add 9 (.string Z) (.string X)).run Tryz.prog W= .ok (.string (Z++X)) W:=λW=>by rw[binOp_string_add];exact run_string_add_sum W Z X O
 have af:C 21 #[(v2,0)] k λe w'=>e=ρ (I 1)/\k=w':=by
  have:=Qev k v2 c2 _ V K;rwa[B]at this
 go_wp2_with fail
 refine af.mono ?_;rintro e ah ⟨rfl,rfl⟩;go_wp2
 go_ret
 exact⟨rfl,L⟩
end vo
namespace pl
open Go.RowKit er st vo dc
theorem Qv5(w:ν):C 89 #[I 16,I 16] w λe w'=>e=ρ (.agg #[I 256,I 2,I 10,I 7,I 8])/\Below w w w':=by
 go_in
 go_wp2
 go_loopw [7] (λa wr=>(a= I 0\/a= I 1\/a= I 2\/a= I 3)/\wr=(w.alloc (.cells #[I 0,I 0,I 0,I 0,I 0] 143)).alloc (.cells #[I 256,I 2,I 10,I 0,I 0] 143)) (λa _=>3-(intOf a).toNat)
 case atStart=>exact⟨.inl rfl,rfl⟩
 case round=>
  obtain⟨h,rfl⟩:=hrel;rcases h with rfl|rfl|rfl|rfl
  ·go_wp2
   exact⟨⟨.inr (.inl (by go_num)),trivial⟩,D⟩
  ·go_wp2
   exact⟨⟨.inr (.inr (.inl (by go_num))),trivial⟩,D⟩
  ·go_wp2
   exact⟨⟨.inr (.inr (.inr (by go_num))),trivial⟩,D⟩
  ·go_wp2
   go_returns;refine⟨rfl,?_⟩
   exact(by repeat(first|exact QqA _ _|refine QjK ?_ E _))
structure PlIn(B:Nat)(w0 w:World)(b v:Nat)(c:Pt)(X:XL)(V:Vo)(F:Nat->Prop)(r su:Dv):Prop where
 vo:VoIn w v c X V
 own:Own B w0 (vF v c X) w
 obj:∃rl sl,Whole w b 66 #[(c.p,0),(v,0),I r.cap,rl,I su.cap,sl]/\SpcsAt w F rl r.l/\SpcsAt w F sl su.l
 lt:∀k,F k->k<w.heap.size
 far:∀k,vF v c X k->¬F k/\k≠b
 fb:¬F b
 bb:B<=b
 b0:b≠0
 bs:B<=w0.heap.size
theorem Qvn(W:World):(Instr.field 143 (.agg #[I 256,I 2,I 10,I 7,I 8]) 2).run Tryz.prog W= .ok (I 10) W:=J
theorem Qsb(w:ν)(H:LaidT w):C 33 #[] w λe w'=>∃b v c,e=ρ (b,0)/\PlIn w w w' b v c [] (Ll (sE z16)) (λ_=>False) ⟨10,[]⟩ ⟨10,[]⟩:=by
 have l:=Qk0 w H;have m:=Qv5;have K:=Qvn;go_in
 go_wp2_with fail
 refine l.mono ?_;rintro e w1 ⟨v,c,rfl,u,hb,x⟩;have L:=Cg v;have y:=Q7h u;have z:=Q7h hb;have M:=Q7h x;go_wp2_with fail
 refine(m _).mono ?_;rintro e w2 ⟨rfl,i⟩;have d:=Q7h i;go_wp2
 go_ret
 obtain⟨g,f⟩:=Zx (w2.alloc (.cells #[I 10,.slice none 0 0] 64));rw[f];have n:Below w2 w2 g:=by rw[<-f];exact B0.alloc N0 _
 have q:g.heap.size=w2.heap.size+1:=by rw[<-f];simp
 obtain⟨N,j⟩:=Zx (g.alloc (.cells #[(c.p,0),(v,0),I 10,.slice none 0 0,I 10,.slice none 0 0] 66));have r:=Whole.new g 66 #[(c.p,0),(v,0),I 10,.slice none 0 0,I 10,.slice none 0 0];have s:Below g g N:=by rw[<-j];exact B0.alloc N0 _
 rw[j]at r ⊢;rw[q]at r;have a:=d.trans ((n.trans (s.mono O)).mono d.size);have Q:=d.size;have t:=z.size;have F:∀w:ν,SpcsAt w (λ_=>False) (.slice none 0 0) []:=λw=>⟨none,0,rfl,U,λh=>by simp at h⟩;exact⟨w2.heap.size+1,v,c,rfl,y.below a,⟨z.trans (a.mono t),M⟩,⟨_,_,r,F _,F _⟩,λk h=>h.elim,λk R=>⟨id,by have:=y.lt k R;omega⟩,id,O,O,QqB _⟩
theorem Qsv(d:Nat)(s:ByteArray)(a:Int)(w:World):(Op.equalIn (d+2) 185 (.agg #[.string s,I a]) (.agg #[.string s,I a])).run Tryz.prog w= .ok true w:=by
 rw[run_equalIn_agg w (d+1) 185 _ _ J J];simp only[Program.fieldsOf,Tryz.underlying185];go_simp
theorem Qn8(s:ByteArray)(a:Int)(w:World):(binOp .eql 185 (.agg #[.string s,I a]) (.agg #[.string s,I a])).run Tryz.prog w= .ok (.bool true) w:=by
 have h:=Qsv 9998 s a w;simp[binOp,Op.equal,Op.maxDepth,h]
theorem Qnt:Tryz.prog.eqGuardType Tryz.prog.depth 185=false:=J
theorem Q2h(op:ByteArray)(a:Int)(w:World):C 91 #[.nilIface,I 0,.string op,I a] w λe w'=>e= .returned (.bool true)/\w=w':=by
 go_in
 go_wp2_with fail
 go_ret
 exact⟨rfl,rfl⟩
theorem Qn3(op:β)(a e:Int)(b:Nat)(w:ν)(n:e≠0)(m:Whole w b 187 #[.string op,I a,.iface 28 (I e)])(h:LaidT w)(v:-9223372036854775808<=e/\e<=9223372036854775807):
  C 91 #[.iface 183 (b,0),I e,.string op,I a] w λx w'=>x=ρ (.bool true)/\Below w w w':=by
 have f:ErrAt w [b] [(op,a)] e (.iface 183 (b,0)):=⟨rfl,_,m,rfl⟩;have p:=Q7h (Qe3 _ _ _ _ w f h U);have q:Hid (∀W,Below w w W->C 25 #[.iface 183 (b,0)] W λx w'=>x=ρ (I e)/\Below W W w'):=λW hb=>Qej _ _ _ _ W (f.below hb) (h.below hb h.lt);have r:(e==0)=false:=by simpa using n
 have t:=Qnt;have u:=Qn8 op a;clear f m h;go_in
 go_wp2_with fail
 refine p.o.mono ?_;rintro x w1 ⟨s,rfl,i,hb⟩;obtain⟨A,c,rfl⟩:=Qk i;obtain⟨g,rfl,_,_,_,j,_⟩:=Qx i U;have c0:w1 (g,0)=some (.string op):=by simpa using j 0 (.string op) rfl
 have c1:w1 (g,1)=I a:=by simpa using j 1 (I a) rfl
 have k:=Q7h hb;clear i j hb;go_wp2_with fail
 refine(q.o _ k.o).mono ?_;rintro x w2 ⟨rfl,d⟩;have y:=Qq d c0;have z:=Qq d c1;have l:=Q7h (k.o.trans (d.mono k.o.size));clear d c0 c1;go_wp2_with fail
 go_ret
 exact⟨rfl,l.o⟩
theorem Qct(w:ν)(q p:Nat)(sv vv:Value)(N:φ)(s:Sto)(h:StoIn w q p sv vv N s):
  C 44 #[(q,0)] w λe w'=>e=ρ (I (we.G6 (Q6 s) 0))/\Below w w w':=by
 go_in
 go_wp2_with (first|(go_at_call 49;refine(Ym _ _ _ _ _ _ _ h).mono ?_;rintro e w1 ⟨v,rfl,d,a⟩;have g:=Q7h d;have f:=Q7h a)|(go_at_call 102;refine(we.Sr _ _ _ _ g).mono ?_;rintro e w2 ⟨rfl,b⟩;have c:=f.trans (b.mono f.size);clear b))
 go_ret
 exact⟨rfl,c⟩
structure Ac where
 k:Int
 id:Int
 fr:Int
 n:Int
 d:ByteArray
def Ac.val(x:Ac):Value:= .agg #[I x.k,I x.id,I x.fr,I x.n,.string x.d]
theorem Qi4{B:Nat}{w0:ν}(w:ν)(b v:Nat)(c:Pt)(X:XL)(V:Vo)(F:φ)(r su:Dv)(x:Ac)(h:PlIn B w0 w b v c X V F r su):
  C 34 #[(b,0),x.val] w λe w'=>e=ρ (.bool (decide (x.d.size<=1000)&&decide (4<=we.G6 (Q6 V.s) 0)))/\Below w w w':=by
 obtain⟨k,id,fr,n,d⟩:=x;show C 34 #[.pointer (some ⟨b,0,none⟩),.agg #[I k,I id,I fr,I n,.string d]] w _;obtain⟨rl,sl,j,_,_⟩:=h.obj;have a:Below w w (w.alloc (.cells #[I k,I id,I fr,I n,.string d] 60)):=B0.alloc N0 _;have c1:(w.alloc (.cells #[I k,I id,I fr,I n,.string d] 60)) (b,1)=some (v,0):=(j.below a j.lt).cell 1;have f:=a;have H:=h.vo.below a;obtain⟨m,l⟩:=Zx (we.G6 (Q6 V.s) 0);obtain⟨L,K⟩:=Zx d.size;rw[l];have p:=λW (t:VoIn W v c X V)=>Qya W v c X V t;have u:∀W,VoIn W v c X V->C 44 #[(c.q,0)] W λe w'=>e=ρ (I m)/\Below W W w':=λW t=>by
  have:=Qct W _ _ _ _ _ _ t.sto;rwa[l]at this
 clear h j a l;by_cases hz:d.size<=1000
 ·have y:(d.size:Int)<=1000:=O;have g:decide (d.size<=1000)=true:=QxA hz;rw[g];go_in
  go_wp2_with fail
  refine(p _ H).mono ?_;rintro e w2 ⟨rfl,rfl⟩;go_wp2_with fail
  refine(u _ H).mono ?_;rintro e M ⟨rfl,i⟩;have z:=Q7h i;go_wp2
  go_ret
  exact⟨U,f.trans (z.mono f.size)⟩
 ·have y:¬(d.size:Int)<=1000:=O;have g:decide (d.size<=1000)=false:=QyF hz;rw[g];go_in
  go_wp2
  go_ret
  exact⟨U,f⟩
end pl
end Go.Proofs.YtfialjmemcobjaaGreatDoor
