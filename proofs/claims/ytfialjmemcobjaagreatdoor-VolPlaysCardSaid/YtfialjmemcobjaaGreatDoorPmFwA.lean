/- A part of the proof. -/
import Derived.Test.YtfialjmemcobjaaGreatDoorPmFlL
import Derived.Test.YtfialjmemcobjaaGreatDoorPmShA
import Derived.Deep.RegionHeld3
set_option maxRecDepth 100000
set_option maxHeartbeats 16000000
set_option linter.unusedVariables false
set_option linter.unusedSimpArgs false
namespace Go.Proofs.YtfialjmemcobjaaGreatDoor
namespace er
open Go.RowKit
theorem F5(n:Int)(w:World):
  C 184 #[I n] w λe w'=>e= .returned (.bool (decide (1<=n)&&decide (n<=8)))/\w=w':=by
 go_in
 by_cases a:1<=n
 ·by_cases b:n<=8
  ·go_wp2_with fail
   go_ret
   exact⟨by simp[a,b],rfl⟩
  ·go_wp2_with fail
   go_ret
   exact⟨by simp[a,b],rfl⟩
 ·have c:n<1:=O;go_wp2_with fail
  go_ret
  exact⟨by simp;omega,rfl⟩
theorem Qp7(n:Int)(w:World):
  C 113 #[I n] w λe w'=>e= .returned (.bool (!(decide (1<=n)&&decide (n<=8))))/\w=w':=by
 go_in
 go_wp2_with fail
 refine(F5 n _).mono ?_;rintro e w' ⟨rfl,rfl⟩;go_wp2_with fail
 go_ret
 exact⟨U,rfl⟩
def bytesOf(k:Nat)(n:Int):List Int:=(List.range k).map λ(j:Nat)=>n/(256^j:Int)%256
theorem bytesOf_length(k:Nat)(n:Int):(bytesOf k n).length=k:=by simp[bytesOf]
def Qs8(k:Nat)(n:Int):List Int:=(List.range 8).map λ(j:Nat)=>if j<k then n/(256^j:Int)%256 else 0
theorem Q3h(k:Nat)(n:Int)(w:World)(d:1<=k)(b:k<=6)(f:0<=n)(c:n<256^k):
  C 115 #[.int .u64 n,I k] w λe w'=>e= .returned (.string (strOfNums (bytesOf k n)))/\Below w w w':=by
 have a:=QyY (P:=Tryz.prog) (w.alloc (.cells ((Qs8 k n).map (Value.int .u8)).toArray 278)) 127 5 Tryz.underlying127 Tryz.underlying5 w.heap.size 0 k 8 (bytesOf k n) (bytesOf_length k n) (λi hi=>by
  rw[QkG,(Whole.new w 278 _).cell i,QyG,QzF,Qs8,QzF,QxV O];simp only[Option.map_some,QqH hi,bytesOf];rw[List.getD,QzF,QxV hi];rfl) 9 Tryz.underlying9
 clear c;obtain rfl|rfl|rfl|rfl|rfl|rfl:k=1\/k=2\/k=3\/k=4\/k=5\/k=6:=O;all_goals
  simp[Qs8,QyS]at a;go_in
  go_wp2_with fail
  go_ret
  exact⟨rfl,B0.alloc N0 _⟩
theorem Q3t(k:Nat)(n:Int)(w:World)(c:1<=k)(a:k<=6)(d:0<=n)(b:n<256^k):
  C 114 #[.int .u64 n,I k] w λe w'=>e= .returned (.bool true)/\w=w':=by
 obtain rfl|rfl|rfl|rfl|rfl|rfl:k=1\/k=2\/k=3\/k=4\/k=5\/k=6:=O;all_goals
  simp at b;go_in
  go_wp2_with fail
  go_ret
  exact⟨by simp;omega,rfl⟩
def Jc(l:List (Nat×Int)):List UInt8:=l.flatMap λp=>(bytesOf p.1 p.2).map λx=>UInt8.ofNat x.toNat
theorem Qmi:∀(l:List (Nat×Int)),(∀p∈l,p.1<=6)->(Jc l).length<=6*l.length
 |[],_=>by simp[Jc]
 |p::l,h=>by
  have:=Qmi l (λq hq=>h q (by simp[hq]));have a:=h p U;have e:(Jc (p::l)).length=p.1+(Jc l).length:=by simp[Jc,bytesOf_length]
  rw[e,QzN];omega
theorem Qrl{l:List (Nat×Int)}{j:Nat}{p:Nat×Int}(h:l[j]? =some p):Jc (l.take (j+1))=Jc (l.take j)++(bytesOf p.1 p.2).map λx=>UInt8.ofNat x.toNat:=by
 unfold Jc;rw[QzW,h];simp
theorem Qhi{l:List (Nat×Int)}{j:Nat}{p:Nat×Int}(h:l[j]? =some p):Lib.byteCells (Jc (l.take (j+1)))=Lib.byteCells (Jc (l.take j))++Lib.strCells (strOfNums (bytesOf p.1 p.2)):=by
 rw[Qrl h];simp[Lib.byteCells,Lib.strCells,strOfNums_data]
theorem Fp{T e:TypeId}{B b:Nat}{bs:List Value}{w w':World}(h:Lib.IsBuilder T e B b bs w)(hb:Below w w w'):Lib.IsBuilder T e B b bs w':=by
 have f:∀p,Lib.BuilderAt T e B b p bs w->Lib.BuilderAt T e B b p bs w':=by
  rintro p ⟨g,v,a,c,d⟩;exact⟨g,v,(hb.block b (QyB.1 a).1).trans a,own_below c hb,d⟩
 exact h.imp (f _) (f _)
def WidAt(w:World)(g:Nat)(l:List (Nat×Int)):Prop:=∀(j:Nat) (p:Nat×Int),l[j]? =some p->w.cell? (g,j)=some (I p.1)
def Cx(w:World)(g:Nat)(l:List (Nat×Int)):Prop:=∀(j:Nat) (p:Nat×Int),l[j]? =some p->w.cell? (g,j)=some (.int .u64 p.2)
theorem WidAt.below{w w':World}{g:Nat}{l:List (Nat×Int)}(h:WidAt w g l)(hb:Below w w w'):WidAt w' g l:=λj p a=>Qq hb (h j p a)
structure Qee(l:List (Nat×Int)):Prop where
 lo:∀p∈l,1<=p.1
 hi:∀p∈l,p.1<=6
 ps:∀p∈l,0<=p.2
 up:∀p∈l,p.2<256^p.1
 len:l.length<=8
theorem Q4s(g c:Nat)(l:List (Nat×Int))(w:ν)(m:WidAt w g l)(h:Qee l)(n:Nat)(q:l.length=n):
  C 183 #[.slice (some (g,0)) n c,.func (.func 113) #[] #[]] w λe w'=>e=ρ (I (-1))/\w=w':=by
 have x:(n:Int)<=8:=by have:=h.len;omega
 go_in
 go_wp2
 go_loopw [8] (λi wr=>∃j:Nat,j<=n/\i= I j/\w=wr) (λi _=>n-(intOf i).toNat)
 case atStart=>exact⟨0,QqM _,rfl,rfl⟩
 case round=>
  obtain⟨j,z,rfl,rfl⟩:=hrel;by_cases k:j<n
  ·have y:(j:Int)<(n:Int):=O;obtain⟨p,d⟩:∃p,l[j]? =some p:=⟨_,QqC (by rw[q];exact k)⟩;have c0:=m j p d;have s:(1:Int)<=(p.1:Int):=by have:=h.lo p (QqL d);omega
   have t:(p.1:Int)<=8:=by have:=h.hi p (QqL d);omega
   have a:∀f,C 113 #[I p.1] f λe w'=>e=ρ (.bool false)/\f=w':=by
    intro f;have:=Qp7 p.1 f;simpa[s,t]using this
   clear d s t;obtain⟨pw,b⟩:∃pw:Nat,p.1=pw:=⟨_,rfl⟩;rw[b]at c0 a;clear b;go_wp2_with fail
   with_reducible refine(a _).mono ?_
   rintro e w2 ⟨rfl,rfl⟩;go_wp2
   go_roundw
   case rel=>exact⟨j+1,O,by go_num,trivial⟩
   case measure=>simp[intOf];omega
  ·obtain rfl:j=n:=O;go_wp2
   go_ret
   exact⟨rfl,rfl⟩
theorem Qk8(g c:Nat)(l:List (Nat×Int))(w:World)(a:WidAt w g l)(b:Qee l)(n:Nat)(d:l.length=n):
  C 112 #[.slice (some (g,0)) n c,.func (.func 113) #[] #[]] w λe w'=>e= .returned (.bool false)/\w=w':=by
 have H:=Q7h (Q4s g c l w a b n d);clear a b d;go_in
 go_wp2_with fail
 with_reducible refine H.o.mono ?_
 rintro e w2 ⟨rfl,rfl⟩;go_wp2_with fail
 go_ret
 exact⟨rfl,rfl⟩
theorem Qdx(l:List (Nat×Int))(Y cn gw Z:Nat)(w:ν)(F:WidAt w gw l)(A:Cx w Y l)(y:Qee l)(n:Nat)(H:l.length=n):
  C 54 #[.slice (some (Y,0)) n cn,.slice (some (gw,0)) n Z] w λe w'=>e=ρ (τ #[.string ⟨(Jc l).toArray⟩,I 0])/\Below w w w':=by
 have K:=Qk8 gw Z l w F y n H;have aa:(n:Int)<=8:=by have:=y.len;omega
 go_in
 go_wp2_with fail
 with_reducible refine K.mono ?_
 rintro e w2 ⟨rfl,rfl⟩;go_wp2_with fail
 go_loopw [20] (λi wr=>∃j:Nat,j<=n/\i= I j/\Hid (Lib.IsBuilder 129 5 w.heap.size w.heap.size (Lib.byteCells (Jc (l.take j))) wr)/\Hid (Below w w wr)) (λi _=>n-(intOf i).toNat)
 case atStart=>exact⟨0,QqM _,rfl,by exact Lib.fresh_isBuilder _ _ w,B0.alloc N0 _⟩
 case round=>
  obtain⟨j,hj,rfl,L,a⟩:=hrel;by_cases M:j<n
  ·have ab:(j:Int)<(n:Int):=O;obtain⟨p,r⟩:∃p,l[j]? =some p:=⟨_,QqC (by rw[H];exact M)⟩;have c0:=Qq a (F j p r);have c1:=Qq a (A j p r);have c:=QqL r;have p1:=y.lo p c;have p2:=y.hi p c;have N:=y.ps p c;have z:=y.up p c;have s:=λQ=>Q3t p.1 p.2 Q p1 p2 N z;have t:=λQ=>Q3h p.1 p.2 Q p1 p2 N z;have u:(Lib.byteCells (Jc (l.take j))).length+(strOfNums (bytesOf p.1 p.2)).size<=140737488355328:=by
    show _<=_;have:=Qmi (l.take j) (λq hq=>y.hi q (QjF hq));have h2:(l.take j).length<=8:=by rw[QzJ];have:=y.len;omega
    rw[strOfNums_size,bytesOf_length,Lib.byteCells_length];omega
   have v:=Qhi r;have R:(p.1:Int)<=6:=O;have S:(1:Int)<=(p.1:Int):=O;have T:p.2<281474976710656:=by
    obtain h|h|h|h|h|h:p.1=1\/p.1=2\/p.1=3\/p.1=4\/p.1=5\/p.1=6:=O;all_goals (rw[h]at z;omega)
   obtain⟨pk,pn⟩:=p;simp only at c0 c1 s t u v R S T N;clear r c p1 p2 z;go_wp2_with fail
   with_reducible refine(s _).mono ?_
   rintro e w2 ⟨rfl,rfl⟩;go_wp2_with fail
   with_reducible refine(t _).mono ?_
   rintro e w2 ⟨rfl,b⟩;have V:=Fp L b;have d:=a.trans (b.mono a.size);clear b;go_wp2_with fail
   refine(Tryz.Builder_WriteString _ _ _ _ _ V u (by have:=d.size;omega)).mono ?_;rintro e w3 ⟨rfl,x,f⟩;have W:Lib.IsBuilder 129 5 w.heap.size w.heap.size (Lib.byteCells (Jc (l.take (j+1)))) w3:=by
    show Lib.IsBuilder _ _ _ _ _ _;rw[v];exact .inr x
   have k:=d.trans f;clear x f;go_wp2
   go_roundw
   case rel=>exact⟨j+1,O,by go_num,W,k⟩
   case measure=>simp[intOf];omega
  ·obtain rfl:j=n:=O;have g:l.take j=l:=by rw[<-H];exact QzU
   rw[g]at L;clear g;go_wp2_with fail
   refine(Tryz.Builder_String_any _ _ _ _ L a.size).mono ?_;rintro e w2 ⟨rfl,b⟩;have X:=a.trans b;clear b;go_wp2
   go_returns;exact⟨rfl,X⟩
end er
end Go.Proofs.YtfialjmemcobjaaGreatDoor
