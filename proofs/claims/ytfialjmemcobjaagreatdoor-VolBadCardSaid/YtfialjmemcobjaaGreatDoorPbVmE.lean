/- A part of the proof. -/
import Derived.Test.YtfialjmemcobjaaGreatDoorPbVmD
import Derived.Test.YtfialjmemcobjaaGreatDoorPbYsP
set_option maxRecDepth 100000
set_option maxHeartbeats 16000000
set_option linter.unusedVariables false
set_option linter.unusedSimpArgs false
namespace Go.Proofs.YtfialjmemcobjaaGreatDoor
namespace vo
open Go.RowKit er tr
def J7(e:Ext)(q:Nat):List Int:=if e.kind=2 then(List.range q).map λ(i:Nat)=>e.at_+i else[]
def Zo(l:List Ext):List Int:=l.flatMap λe=>J7 e e.n.toNat
theorem Qj2{l:List Ext}{j:Nat}{e:Ext}(h:l[j]? =some e):Zo (l.take (j+1))=Zo (l.take j)++J7 e e.n.toNat:=by
 unfold Zo;rw[QzW,h];simp
theorem Qy6(e:Ext)(q:Nat)(h:e.kind=2):J7 e (q+1)=J7 e q++[e.at_+q]:=by
 unfold J7;rw[QqH h,QqH h,QyS,QqY];rfl
theorem Qy7(e:Ext)(q:Nat)(h:e.kind≠2):J7 e q=[]:=QqE h
theorem Qkx(e:Ext)(q:Nat):(J7 e q).length<=q:=by unfold J7;split<;>simp
theorem Ck:∀{l:List Ext},(∀e∈l,Qb e=true)->(Zo l).length<=2048*l.length
 |[],_=>by simp[Zo]
 |e::r,h=>by
  have f:=Ck (l:=r) (λx c=>h x (by simp[c]));have a:=h e U;have d:Zo (e::r)=J7 e e.n.toNat++Zo r:=rfl;rw[d,QqK,QzN];have:(J7 e e.n.toNat).length<=2048:=by
   by_cases b:e.kind=2
   ·have:=Qkx e e.n.toNat
    unfold Qb at a;simp[b]at a;omega
   ·rw[Qy7 e _ b];simp
  omega
theorem Qbv{w w2:World}{o:Obj}{base:Nat}{e:TypeId}{size:Nat}{v:Value}{n:Nat}{xs:List Value}(a:w.ownsRow base e size v n xs)(d:(w.alloc o).grownBy w2 v.ownBlock)(hb:base<=w.heap.size){g:Nat}{t:TypeId}{cs:Array Value}(c:Whole w g t cs)(b:e≠t):Whole w2 g t cs:=
 (c.alloc o).grown d (own_ne a c b)
theorem Vs(l:List Ext)(v:Value)(w:World)(h:ExtsAt w v l)(hc:Chk l)(hl:l.length<=4096):
  C 164 #[v] w λx w'=>∃v',x= .returned v'/\w'.ownsRow w.heap.size 3 1 v' (Zo l).length ((Zo l).map (Value.int .i64))/\Below w w w':=by
 have aa:Hid (C 197 #[v] w λx w'=>x= .returned (.bool true)/\Below w w w'):=by
  have:=Y0 l v w h O;rw[Uo _ hc]at this;exact this
 have H1:=Q7h hc.one;obtain⟨A,c,rfl,ab⟩:=h;have HC:=Q7h ab;have ac:=Q7h (Ck (l:=l) hc.one);obtain⟨n,hn⟩:=Zx l.length;rw[hn]at hl ac aa ⊢;have HN:=Q7h hn;have aV:(n:Int)<=4096:=O;have aq:Hid (∀j,(Zo (l.take j)).length<=2048*j):=λj=>QqR (Ck (λe he=>hc.one e (QjF he))) (Nat.mul_le_mul_left _ (by rw[QzJ];omega));obtain⟨i0,ad,ae,af,ag⟩:=QzX Ex;have⟨ar,au,av,aw⟩:=Q4 ad ae af ag;clear hc ab hn ad ae af ag;go_in
 go_wp2_with fail
 with_reducible refine aa.o.mono ?_
 rintro e w1 ⟨rfl,ah⟩;have ax:=Q7h ah;clear ah;go_wp2_with fail
 go_loopw [3,5,6,12] (λov _ _ i wr=>∃(j m:Nat) (B:Option Addr) (d:Nat),j<=n/\i= I j/\ov= .slice B m d/\Hid ((Zo (l.take j)).length=m)/\Hid (wr.ownsRow w.heap.size 3 1 (.slice B m d) m ((Zo (l.take j)).map (Value.int .i64)))/\Hid (Below w w wr)) (λ_ _ _ i _=>n-(intOf i).toNat)
 case atStart=>exact⟨0,0,none,0,QqM _,rfl,rfl,rfl,⟨rfl,.inl ⟨rfl,rfl⟩⟩,ax⟩
 case round=>
  obtain⟨j,m,B,d,hj,rfl,rfl,Y,HO,HB⟩:=hrel;by_cases ay:j<n
  ·have aW:(j:Int)<(n:Int):=O;obtain⟨gr,og,rfl,p⟩:=HC.o (by rw[HN.o];omega);obtain⟨e,hf⟩:∃e,l[j]? =some e:=⟨_,QqC (by rw[HN.o];exact ay)⟩;obtain⟨c0,c1,c2,c3⟩:=(p j e hf).below HB.o;have HT:=Q7h (Qj2 hf);have a:=H1.o e (QqL hf);have az:=aq.o j;rw[Y.o]at az;obtain⟨N,hN⟩:∃N:Nat,e.n=(N:Int):=⟨e.n.toNat,by unfold Qb Yp at a;simp at a;omega⟩;have ai:Hid (e.n.toNat=N):=by show _=_;omega
   have R:e.kind=2->0<=e.at_/\e.at_+N<=2048:=λz=>by unfold Qb at a;simp[z]at a;omega
   have aT:(N:Int)<=16777216:=by unfold Qb Yp at a;simp at a;omega
   have HE:Hid (∀q,J7 e q=if e.kind=2 then(List.range q).map λ(i:Nat)=>e.at_+i else[]):=λq=>rfl;rw[ai.o]at HT;have S:Hid (J7 e 0=[]):=by show _=_;unfold J7;simp
   have T:Hid (∀q,e.kind=2->J7 e (q+1)=J7 e q++[e.at_+q]):=λq h=>Qy6 e q h;have F:Hid (∀q,e.kind≠2->J7 e q=[]):=λq h=>Qy7 e q h;have aj:Hid (∀q,(J7 e q).length<=q):=λq=>Qkx e q;obtain⟨P,hP⟩:=Zx (J7 e);rw[hP]at HT S T F aj HE;obtain⟨f,en,k,t⟩:=e;simp only at c0 c1 c2 c3 hN R T F;subst hN;clear hf p a hP ai;obtain⟨qb,aF⟩:=Zx wr.heap.size;obtain⟨wx,ak⟩:∃wx,wx=wr.alloc (.cells #[I f,I (N:Int),I k,I t] 255):=⟨_,rfl⟩;have H:Hid (Whole wx qb 255 #[I f,I (N:Int),I k,I t]/\Below wr wr wx/\Below w w wx):=by
    show _/\_/\_;rw[ak,<-aF];exact⟨Whole.new _ _ _,B0.alloc N0 _,HB.o.alloc HB.o.size _⟩
   have al:=Q7h (own_below HO.o H.o.2.1);have x1:=H.o.1.cell 1;simp at x1;have b:n-(intOf (I ((j:Int)+1))).toNat<n-(intOf (I (j:Int))).toNat:=by simp[intOf];omega
   have aH:=Q7h b;clear b;go_wp2_with fail
   clear c0 c1 c2 c3;obtain⟨L,hL⟩:=Zx (Zo (l.take j));rw[hL]at HT Y HO al;have am:=Y.o;rw[<-ak];clear HO Y;go_loopw [3,6,18] (λov _ i wy=>∃(q r:Nat) (Z:Option Addr) (d2:Nat),q<=N/\i= I q/\ov= .slice Z r d2/\Hid ((L++P q).length=r)/\Hid (wy.ownsRow w.heap.size 3 1 (.slice Z r d2) r ((L++P q).map (Value.int .i64)))/\Hid (Whole wy qb 255 #[I f,I (N:Int),I k,I t])/\Hid (Below w w wy)) (λ_ _ i _=>N-(intOf i).toNat)
   case atStart=>exact⟨0,m,B,d,QqM _,rfl,rfl,by rw[S.o,QzT];exact am,by rw[S.o,QzT];exact al.o,H.o.1,H.o.2.2⟩
   case round=>
    obtain⟨q,r,Z,d2,hq,rfl,rfl,K,s,M,Q⟩:=hrel;by_cases aX:q<N
    ·have aY:(q:Int)<(N:Int):=O;have x2:=M.o.cell 2;have x3:=M.o.cell 3;simp at x2 x3;have b:N-(intOf (I ((q:Int)+1))).toNat<N-(intOf (I (q:Int))).toNat:=by simp[intOf];omega
     by_cases z:k=2
     ·have aK:(k==2)=true:=by simpa using z
      have hr:=R z;have aZ:r<=m+q:=by rw[<-K.o,<-am,QqK];have:=aj.o q;omega
      have y:=Q7h (T.o q z);subst z;have an:=Q.o.size;have V:=Q7h an;clear an;have aL:=Q7h (s.o.alloc (.cells #[I (t+q)] 3));have aM:Hid (w.heap.size<=(wr.alloc (.cells #[I (t+q)] 3)).heap.size):=by show _<=_;simp only[QqW];exact Nat.le_succ_of_le V.o
      have ao:Hid (∀u∈([I (t+q)]:List Value),u.oneCell'=true):=by show ∀_,_;simp[Value.oneCell']
      go_wp2_with (at_builtin;go_must (refine QkW _ rfl (.tmp 24) (.tmp 29) 39 rfl w.heap.size 3 i0 _ 1 8 Tryz.underlying39 ar.o au.o av.o aw.o rfl O (.slice Z r d2) r ((L++P q).map (Value.int .i64)) rfl aL.o (wr,0) 1 1 [I (t+q)] rfl rfl (Z4 _ _ _) ao.o (by simp only[maxLen];omega) O aM.o ?_;intro v2 w6 g W _;have⟨aN,aQ,aR⟩:=Q3 g (Qy s.o W V.o) (Qbv s.o W V.o M.o D);obtain⟨A2,aS,e2⟩:=Qk g;subst e2;clear g W))
      refine⟨⟨q+1,r+1,A2,aS,?_,?_,rfl,?_,?_,aR.o,?_⟩,b⟩
      ·omega
      ·go_num
      ·show _=_;rw[y.o,<-QqU,QqK,K.o];rfl
      ·show World.ownsRow _ _ _ _ _ _ _;rw[y.o,<-QqU,QqY];exact aN.o
      ·exact Q.o.trans aQ.o
     ·have aK:(k==2)=false:=by simpa using z
      have⟨y,ap⟩:=Q2 (F.o (q+1) z) (F.o q z);go_wp2_with fail
      refine⟨⟨q+1,r,Z,d2,?_,?_,rfl,?_,?_,M.o,Q.o⟩,b⟩
      ·omega
      ·go_num
      ·show _=_;rw[y.o,<-ap.o];exact K.o
      ·show World.ownsRow _ _ _ _ _ _ _;rw[y.o,<-ap.o];exact s.o
    ·obtain rfl:q=N:=O;go_wp2_with fail
     refine⟨⟨j+1,r,Z,d2,?_,?_,rfl,?_,?_,Q.o⟩,aH.o⟩
     ·omega
     ·go_num
     ·show _=_;rw[HT.o];exact K.o
     ·show World.ownsRow _ _ _ _ _ _ _;rw[HT.o];exact s.o
  ·obtain rfl:j=n:=O;have X:l.take j=l:=by rw[<-HN.o];exact QzU
   rw[X]at Y HO;go_wp2_with fail
   go_ret
   exact⟨_,rfl,by rw[Y.o];exact HO.o,HB.o⟩
end vo
end Go.Proofs.YtfialjmemcobjaaGreatDoor
