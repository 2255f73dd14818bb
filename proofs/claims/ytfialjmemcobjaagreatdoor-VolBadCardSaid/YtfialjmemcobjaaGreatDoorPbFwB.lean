/- A part of the proof. -/
import Derived.Test.YtfialjmemcobjaaGreatDoorPbFlL
import Derived.Test.YtfialjmemcobjaaGreatDoorPbShA
import Derived.Deep.RegionHeld3
import Derived.Laws.BitsAllLaws
set_option maxRecDepth 100000
set_option maxHeartbeats 16000000
set_option linter.unusedVariables false
set_option linter.unusedSimpArgs false
namespace Go.Proofs.YtfialjmemcobjaaGreatDoor
namespace er
open Go.RowKit
theorem F5(n:Int)(w:World):
  C 184 #[I n] w λe w'=>e= .returned (.bool (decide (1<=n)&&decide (n<=8)))/\w=w':=by
 go_in
 by_cases h1:1<=n
 ·by_cases a:n<=8
  ·go_wp2_with fail
   go_ret
   exact⟨by simp[h1,a],rfl⟩
  ·go_wp2_with fail
   go_ret
   exact⟨by simp[h1,a],rfl⟩
 ·have b:n<1:=O;go_wp2_with fail
  go_ret
  exact⟨by simp;omega,rfl⟩
theorem Qp7(n:Int)(w:World):
  C 113 #[I n] w λe w'=>e= .returned (.bool (!(decide (1<=n)&&decide (n<=8))))/\w=w':=by
 go_in
 go_wp2_with fail
 refine(F5 n _).mono ?_;rintro e w' ⟨rfl,rfl⟩;go_wp2_with fail
 go_ret
 exact⟨U,rfl⟩
def bytesOf(k:Nat)(n:Int):List Int:=(List.range k).map λ(j:Nat)=>n/(256^j:Int)%256
theorem bytesOf_length(k:Nat)(n:Int):(bytesOf k n).length=k:=by simp[bytesOf]
def Qs8(k:Nat)(n:Int):List Int:=(List.range 8).map λ(j:Nat)=>if j<k then n/(256^j:Int)%256 else 0
theorem Q3h(k:Nat)(n:Int)(w:World)(c:1<=k)(b:k<=6)(d:0<=n)(h1:n<256^k):
  C 115 #[.int .u64 n,I k] w λe w'=>e= .returned (.string (strOfNums (bytesOf k n)))/\Below w w w':=by
 have a:=QyY (P:=Tryz.prog) (w.alloc (.cells ((Qs8 k n).map (Value.int .u8)).toArray 278)) 127 5 Tryz.underlying127 Tryz.underlying5 w.heap.size 0 k 8 (bytesOf k n) (bytesOf_length k n) (λi hi=>by
  rw[QkG,(Whole.new w 278 _).cell i,QyG,QzF,Qs8,QzF,QxV O];simp only[Option.map_some,QqH hi,bytesOf];rw[List.getD,QzF,QxV hi];rfl) 9 Tryz.underlying9
 clear h1;obtain rfl|rfl|rfl|rfl|rfl|rfl:k=1\/k=2\/k=3\/k=4\/k=5\/k=6:=O;all_goals
  simp[Qs8,QyS]at a;go_in
  go_wp2_with fail
  go_ret
  exact⟨rfl,B0.alloc N0 _⟩
theorem Q3t(k:Nat)(n:Int)(w:World)(b:1<=k)(a:k<=6)(c:0<=n)(h1:n<256^k):
  C 114 #[.int .u64 n,I k] w λe w'=>e= .returned (.bool true)/\w=w':=by
 obtain rfl|rfl|rfl|rfl|rfl|rfl:k=1\/k=2\/k=3\/k=4\/k=5\/k=6:=O;all_goals
  simp at h1;go_in
  go_wp2_with fail
  go_ret
  exact⟨by simp;omega,rfl⟩
def Jc(l:List (Nat×Int)):List UInt8:=l.flatMap λp=>(bytesOf p.1 p.2).map λx=>UInt8.ofNat x.toNat
theorem Qmi:∀(l:List (Nat×Int)),(∀p∈l,p.1<=6)->(Jc l).length<=6*l.length
 |[],_=>by simp[Jc]
 |p::l,h=>by
  have:=Qmi l (λq hq=>h q (by simp[hq]));have a:=h p U;have e:(Jc (p::l)).length=p.1+(Jc l).length:=by simp[Jc,bytesOf_length]
  rw[e,QzN];omega
theorem Qrl{l:List (Nat×Int)}{j:Nat}{p:Nat×Int}(h:l[j]? =some p):Jc (l.take (j+1))=Jc (l.take j)++(bytesOf p.1 p.2).map λx=>UInt8.ofNat x.toNat:=by
 unfold Jc;rw[QzW,h];simp
theorem Qhi{l:List (Nat×Int)}{j:Nat}{p:Nat×Int}(h:l[j]? =some p):Lib.byteCells (Jc (l.take (j+1)))=Lib.byteCells (Jc (l.take j))++Lib.strCells (strOfNums (bytesOf p.1 p.2)):=by
 rw[Qrl h];simp[Lib.byteCells,Lib.strCells,strOfNums_data]
theorem Fp{T e:TypeId}{B b:Nat}{d:List Value}{w w':World}(h:Lib.IsBuilder T e B b d w)(hb:Below w w w'):Lib.IsBuilder T e B b d w':=by
 have h1:∀p,Lib.BuilderAt T e B b p d w->Lib.BuilderAt T e B b p d w':=by
  rintro p ⟨g,v,a,c,f⟩;exact⟨g,v,(hb.block b (QyB.1 a).1).trans a,own_below c hb,f⟩
 exact h.imp (h1 _) (h1 _)
def WidAt(w:World)(g:Nat)(l:List (Nat×Int)):Prop:=∀(j:Nat) (p:Nat×Int),l[j]? =some p->w.cell? (g,j)=some (I p.1)
def Cx(w:World)(g:Nat)(l:List (Nat×Int)):Prop:=∀(j:Nat) (p:Nat×Int),l[j]? =some p->w.cell? (g,j)=some (.int .u64 p.2)
theorem WidAt.below{w w':World}{g:Nat}{l:List (Nat×Int)}(h:WidAt w g l)(hb:Below w w w'):WidAt w' g l:=λj p a=>Qq hb (h j p a)
structure Qee(l:List (Nat×Int)):Prop where
 lo:∀p∈l,1<=p.1
 hi:∀p∈l,p.1<=6
 ps:∀p∈l,0<=p.2
 up:∀p∈l,p.2<256^p.1
 len:l.length<=8
theorem Q4s(g c:Nat)(l:List (Nat×Int))(w:World)(m:WidAt w g l)(h:Qee l)(n:Nat)(q:l.length=n):
  C 183 #[.slice (some (g,0)) n c,.func (.func 113) #[] #[]] w λe w'=>e= .returned (I (-1))/\w=w':=by
 have⟨s,r,t⟩:=Q3 m h q;have u:(n:Int)<=8:=by have:=h.len;omega
 clear m h q;go_in
 go_wp2_with fail
 go_loopw [8] (λi wr=>∃j:Nat,j<=n/\i= I j/\w=wr) (λi _=>n-(intOf i).toNat)
 case atStart=>exact⟨0,QqM _,rfl,rfl⟩
 case round=>
  obtain⟨j,x,rfl,rfl⟩:=hrel;by_cases k:j<n
  ·have v:(j:Int)<(n:Int):=O;obtain⟨p,d⟩:∃p,l[j]? =some p:=⟨_,QqC (by rw[t.o];exact k)⟩;have c0:=s.o j p d;have h1:(1:Int)<=(p.1:Int):=by have:=r.o.lo p (QqL d);omega
   have h2:(p.1:Int)<=8:=by have:=r.o.hi p (QqL d);omega
   have a:Hid (∀f,C 113 #[I p.1] f λe w'=>e= .returned (.bool false)/\f=w'):=by
    intro f;have:=Qp7 p.1 f;simpa[h1,h2]using this
   clear d h1 h2;obtain⟨pw,b⟩:∃pw:Nat,p.1=pw:=⟨_,rfl⟩;rw[b]at c0 a;clear b;go_wp2_with fail
   with_reducible refine(a.o _).mono ?_
   rintro e w2 ⟨rfl,rfl⟩;go_wp2_with fail
   go_roundw
   case rel=>exact⟨j+1,O,by go_num,trivial⟩
   case measure=>simp[intOf];omega
  ·obtain rfl:j=n:=O;go_wp2_with fail
   go_ret
   exact⟨rfl,rfl⟩
theorem Qk8(g c:Nat)(l:List (Nat×Int))(w:World)(a:WidAt w g l)(b:Qee l)(n:Nat)(d:l.length=n):
  C 112 #[.slice (some (g,0)) n c,.func (.func 113) #[] #[]] w λe w'=>e= .returned (.bool false)/\w=w':=by
 have H:=Q7h (Q4s g c l w a b n d);clear a b d;go_in
 go_wp2_with fail
 with_reducible refine H.o.mono ?_
 rintro e w2 ⟨rfl,rfl⟩;go_wp2_with fail
 go_ret
 exact⟨rfl,rfl⟩
theorem Qdx(l:List (Nat×Int))(Y cn gw Z:Nat)(w:World)(F:WidAt w gw l)(A:Cx w Y l)(y:Qee l)(n:Nat)(H:l.length=n):
  C 54 #[.slice (some (Y,0)) n cn,.slice (some (gw,0)) n Z] w λe w'=>e= .returned (.tuple #[.string ⟨(Jc l).toArray⟩,I 0])/\Below w w w':=by
 have⟨K,HW,HN,m,B⟩:=Q5 (Qk8 gw Z l w F y n H) F A y H;have aa:(n:Int)<=8:=by have:=y.len;omega
 clear F A y H;go_in
 go_wp2_with fail
 with_reducible refine K.o.mono ?_
 rintro e w2 ⟨rfl,rfl⟩;go_wp2_with fail
 go_loopw [20] (λi wr=>∃j:Nat,j<=n/\i= I j/\Hid (Lib.IsBuilder 129 5 w.heap.size w.heap.size (Lib.byteCells (Jc (l.take j))) wr)/\Hid (Below w w wr)) (λi _=>n-(intOf i).toNat)
 case atStart=>exact⟨0,QqM _,rfl,by exact Lib.fresh_isBuilder _ _ w,B0.alloc N0 _⟩
 case round=>
  obtain⟨j,hj,rfl,L,a⟩:=hrel;by_cases M:j<n
  ·have ab:(j:Int)<(n:Int):=O;obtain⟨p,r⟩:∃p,l[j]? =some p:=⟨_,QqC (by rw[B.o];exact M)⟩;have c0:=Qq a.o (HW.o j p r);have c1:=Qq a.o (HN.o j p r);have c:=QqL r;have p1:=m.o.lo p c;have p2:=m.o.hi p c;have N:=m.o.ps p c;have z:=m.o.up p c;have s:=Q7h (λQ=>Q3t p.1 p.2 Q p1 p2 N z);have t:=Q7h (λQ=>Q3h p.1 p.2 Q p1 p2 N z);have u:Hid ((Lib.byteCells (Jc (l.take j))).length+(strOfNums (bytesOf p.1 p.2)).size<=140737488355328):=by
    show _<=_;have:=Qmi (l.take j) (λq hq=>m.o.hi q (QjF hq));have h2:(l.take j).length<=8:=by rw[QzJ];have:=m.o.len;omega
    rw[strOfNums_size,bytesOf_length,Lib.byteCells_length];omega
   have v:=Q7h (Qhi r);have R:(p.1:Int)<=6:=O;have S:(1:Int)<=(p.1:Int):=O;have T:p.2<281474976710656:=by
    obtain h|h|h|h|h|h:p.1=1\/p.1=2\/p.1=3\/p.1=4\/p.1=5\/p.1=6:=O;all_goals (rw[h]at z;omega)
   obtain⟨pk,pn⟩:=p;simp only at c0 c1 s t u v R S T N;clear r c p1 p2 z;go_wp2_with fail
   with_reducible refine(s.o _).mono ?_
   rintro e w2 ⟨rfl,rfl⟩;go_wp2_with fail
   with_reducible refine(t.o _).mono ?_
   rintro e w2 ⟨rfl,b⟩;have⟨V,d⟩:=Q2 (Fp L.o b) (a.o.trans (b.mono a.o.size));clear b;go_wp2_with fail
   refine(Tryz.Builder_WriteString _ _ _ _ _ V.o u.o (by have:=d.o.size;omega)).mono ?_;rintro e w3 ⟨rfl,x,f⟩;have W:Hid (Lib.IsBuilder 129 5 w.heap.size w.heap.size (Lib.byteCells (Jc (l.take (j+1)))) w3):=by
    show Lib.IsBuilder _ _ _ _ _ _;rw[v.o];exact .inr x
   have k:=Q7h (d.o.trans f);clear x f;go_wp2_with fail
   go_roundw
   case rel=>exact⟨j+1,O,by go_num,W,k⟩
   case measure=>simp[intOf];omega
  ·obtain rfl:j=n:=O;have g:l.take j=l:=by rw[<-B.o];exact QzU
   rw[g]at L;clear g;go_wp2_with fail
   refine(Tryz.Builder_String_any _ _ _ _ L.o a.o.size).mono ?_;rintro e w2 ⟨rfl,b⟩;have X:=Q7h (a.o.trans b);clear b;go_wp2_with fail
   go_returns;exact⟨rfl,X.o⟩
end er
end Go.Proofs.YtfialjmemcobjaaGreatDoor
namespace Go.Proofs.YtfialjmemcobjaaGreatDoor
namespace er
open Go.RowKit
def Za(s:ByteArray)(i:Nat):Int:=if h:i<s.size then s[i].toNat else 0
def Av(x b:Int):Int:=bits .or .u64 (IntKind.u64.wrap (x*256)) (IntKind.u64.wrap b)
def Qq7(s:ByteArray)(a k:Nat):Nat->Int
 |0=>0
 |d+1=>Av (Qq7 s a k d) (Za s (a+(k-1-d)))
theorem Qkv(s:ByteArray)(a k:Nat)(w:World)(c:1<=k)(b:k<=8)(ha:a<=s.size)(d:s.size<=70368744177664)(h:s.size<a+k):
  C 177 #[.string s,I a,I k] w λe w'=>e= .returned (.tuple #[.int .u64 0,I 5])/\w=w':=by
 have f:(1:Int)<=(k:Int):=O;have g:(k:Int)<=8:=O;have h1:(s.size:Int)-(a:Int)<(k:Int):=O;go_in
 go_wp2_with fail
 refine(F5 k _).mono ?_;rintro e w' ⟨rfl,rfl⟩;go_wp2_with fail
 go_returns;exact⟨rfl,rfl⟩
theorem Qgo(s:ByteArray)(a k:Nat)(w:World)(F:1<=k)(m:k<=8)(H:s.size<=70368744177664)(h:a+k<=s.size):
  C 177 #[.string s,I a,I k] w λe w'=>e= .returned (.tuple #[.int .u64 (Qq7 s a k k),I 0])/\w=w':=by
 have K:(1:Int)<=(k:Int):=O;have L:(k:Int)<=8:=O;have M:(0:Int)<=(a:Int):=O;have a1:(a:Int)<=(s.size:Int):=O;have h1:(k:Int)<=(s.size:Int)-(a:Int):=O;have n:decide ((a:Int)<0)=false:=U;have p:decide (s.size<a)=false:=by simp;omega
 have q:decide ((s.size:Int)-(a:Int)<(k:Int))=false:=by simp;omega
 go_enter Tryz.func177,Tryz.ntmps177
 go_wp2_with fail
 refine(F5 k _).mono ?_;rintro e w' ⟨rfl,rfl⟩;go_wp2_with fail
 go_loopw [8,9] (λnv i wr=>∃(d:Nat) (x:Int),d<=k/\i= I ((k:Int)-1-(d:Int))/\nv= .int .u64 x/\0<=x/\x<18446744073709551616/\Hid (x=Qq7 s a k d)/\w=wr) (λ_ i _=>(intOf i+1).toNat)
 case atStart=>exact⟨0,0,O,U,rfl,O,O,rfl,rfl⟩
 case round=>
  obtain⟨d,x,N,rfl,rfl,r,t,g,rfl⟩:=hrel;by_cases u:d<k
  ·obtain⟨i,hi⟩:∃i:Nat,a+i<s.size/\(k:Int)-1-(d:Int)=(i:Int)/\k-1-d=i:=⟨k-1-d,O,O,rfl⟩;obtain⟨j,b,c⟩:=hi;rw[b];have y:Hid (Av x s[a+i].toNat=Qq7 s a k (d+1)):=by show _=Av _ _;rw[c,<-g.o];unfold Za;rw[dif_pos j]
   have⟨l,f⟩:=Q2 b (bits_within .or .u64 (IntKind.u64.wrap (x*256)) (IntKind.u64.wrap s[a+i].toNat));clear b c;have Q:(0:Int)<=(i:Int):=O;have R:(a:Int)+(i:Int)<(s.size:Int):=O;go_wp2_with fail
   go_roundw
   case rel=>exact⟨d+1,Av x s[a+i].toNat,O,by rw[<-l.o];congr 1;push_cast;omega,rfl,f.o.1,by have:=f.o.2;exact Int.lt_of_le_of_lt this D,y.o,trivial⟩
   case measure=>simp[intOf]<;>omega
  ·obtain rfl:d=k:=O;have z:Hid (x=Qq7 s a d d):=g.o;clear g;have e:(d:Int)-1-(d:Int)= -1:=O;rw[e];go_wp2_with fail
   refine QqG (v:= .tuple #[.int .u64 x,I 0]) (by simp[results,Tryz.results177,go_sem]) rfl ⟨by rw[z.o],rfl⟩
theorem wrap_u64{n:Int}(a:0<=n)(h1:n<18446744073709551616):IntKind.u64.wrap n=n:=by
 show n%18446744073709551616=n;omega
theorem Qlq(x b:Int)(d:0<=x)(h1:x<72057594037927936)(h2:0<=b)(h3:b<256):Av x b=x*256+b:=by
 unfold Av;rw[wrap_u64 O O,wrap_u64 O O,u64_or _ _ O O h2 O];obtain⟨m,rfl⟩:∃m:Nat,x=(m:Int):=⟨x.toNat,O⟩;obtain⟨c,rfl⟩:∃c:Nat,b=(c:Int):=⟨b.toNat,O⟩;have a:((m:Int)*256).toNat=m <<< 8:=by rw[Nat.shiftLeft_eq];omega
 rw[a,QyD,<-Nat.shiftLeft_add_eq_or_of_lt (show c<2^8 by omega),Nat.shiftLeft_eq,show(2:Nat)^8=256 from rfl];omega
theorem Que(k:Nat):(0:Int)<256^k:=Int.pow_pos D
theorem Mw(s:ByteArray)(a k:Nat)(n:Int)(b:0<=n)(h1:n<256^k)(f:k<=7)(hb:∀i,i<k->Za s (a+i)=n/256^i%256):∀d,d<=k->Qq7 s a k d=n/256^(k-d)
 |0,_=>by
  show 0=n/256^k;rw[Int.ediv_eq_zero_of_lt b h1]
 |d+1,hd=>by
  have g:=Mw s a k n b h1 f hb d O;show Av (Qq7 s a k d) (Za s (a+(k-1-d)))=_;rw[g,hb _ O];have e:k-d=(k-1-d)+1:=O;have h:k-(d+1)=k-1-d:=O;rw[h,e,Int.pow_succ,<-Int.ediv_ediv_of_nonneg (Int.le_of_lt (Que _))];obtain⟨y,c⟩:=Zx (n/256^(k-1-d));have j:0<=y:=by rw[<-c];exact Int.ediv_nonneg b (Int.le_of_lt (Que _))
  have l:y<=n:=by rw[<-c];exact Int.ediv_le_self _ b
  have o:n<72057594037927936:=by
   have m:∀k,k<=7->(256:Int)^k<=72057594037927936:=D;have:=m k f;omega
  rw[c,Qlq _ _ O O O O];omega
theorem Qxq(l:List UInt8)(r:ByteArray)(i:Nat)(h:i<l.length):Za ((⟨l.toArray⟩:ByteArray)++r) i=(l[i].toNat:Int):=by
 have a:i<((⟨l.toArray⟩:ByteArray)++r).size:=by rw[QjT];show i<l.toArray.size+_;simp;omega
 unfold Za;rw[dif_pos a];have:((⟨l.toArray⟩:ByteArray)++r)[i]=l[i]:=by
  rw[ByteArray.getElem_append_left (by show i<l.toArray.size;simpa using h)];show l.toArray[i]=l[i];simp
 rw[this]
theorem Qzb(x:Int)(a:0<=x)(h1:x<256):((UInt8.ofNat x.toNat).toNat:Int)=x:=by
 rw[UInt8.toNat_ofNat'];omega
def leN(s:ByteArray):Nat->Nat->Int
 |_,0=>0
 |a,k+1=>Za s a+256*leN s (a+1) k
theorem Vv(s:ByteArray)(i:Nat):0<=Za s i/\Za s i<256:=by
 unfold Za;split
 ·have:=UInt8.toNat_lt s[i];omega
 ·omega
theorem Kh(s:ByteArray):∀(k a:Nat),0<=leN s a k/\leN s a k<256^k
 |0,a=>by show(0:Int)<=0/\(0:Int)<256^0;omega
 |k+1,a=>by
  have b:=Kh s k (a+1);have hb:=Vv s a;show 0<=Za s a+256*leN s (a+1) k/\Za s a+256*leN s (a+1) k<256^(k+1);rw[Int.pow_succ];omega
theorem Qi7(s:ByteArray):∀(k a i:Nat),i<k->Za s (a+i)=leN s a k/256^i%256
 |0,a,i,h=>O
 |k+1,a,0,h=>by
  have hb:=Vv s a;show Za s a=(Za s a+256*leN s (a+1) k)/256^0%256;rw[Int.pow_zero,Int.ediv_one];omega
 |k+1,a,i+1,h=>by
  have b:=Qi7 s k (a+1) i O;have hb:=Vv s a;show Za s (a+(i+1))=(Za s a+256*leN s (a+1) k)/256^(i+1)%256;rw[show a+(i+1)=a+1+i by omega,b,Int.pow_succ,Int.mul_comm (256^i) 256,<-Int.ediv_ediv_of_nonneg O];congr 2;omega
theorem Cv(s:ByteArray)(a k:Nat)(b:k<=7):Qq7 s a k k=leN s a k:=by
 have h:=Kh s k a;have:=Mw s a k (leN s a k) h.1 h.2 b (λi hi=>Qi7 s k a i hi) k N0;rw[this,QyU,Int.pow_zero,Int.ediv_one]
theorem Br(s:ByteArray)(a k:Nat)(n:Int)(c:0<=n)(h1:n<256^k)(b:k<=7)(hb:∀i,i<k->Za s (a+i)=n/256^i%256):leN s a k=n:=by
 rw[<-Cv s a k b,Mw s a k n c h1 b hb k N0,QyU,Int.pow_zero,Int.ediv_one]
theorem Qg7(s:ByteArray)(a i:Nat)(h:a+i<s.size):Za (s.extract a s.size) i=Za s (a+i):=by
 unfold Za;have h1:i<(s.extract a s.size).size:=by rw[QjJ];omega
 rw[dif_pos h1,dif_pos h];congr 2;exact ByteArray.getElem_extract h1
theorem Zg(s:ByteArray)(a:Nat):∀(k o:Nat),a+o+k<=s.size->leN (s.extract a s.size) o k=leN s (a+o) k
 |0,_,_=>rfl
 |k+1,o,h=>by
  show Za _ o+256*leN _ (o+1) k=Za s (a+o)+256*leN s (a+o+1) k;rw[Qg7 s a o O,Zg s a k (o+1) O];rfl
def Ht(ws:List Nat)(j:Nat):Nat:=(ws.take j).sum
def Uv(s:ByteArray)(ws:List Nat)(j:Nat):List Value:=(List.range j).map λi=>.int .u64 (leN s (Ht ws i) (ws.getD i 0))
theorem Qkd{a:List Nat}{j k:Nat}(h:a[j]? =some k):Ht a (j+1)=Ht a j+k:=by
 unfold Ht;rw[QzW,h];simp
theorem Qmw{a:List Nat}(h:∀k∈a,k<=6):∀j,Ht a j<=6*j
 |0=>by simp[Ht]
 |j+1=>by
  have b:=Qmw h j;cases hk:a[j]? with
  |none=>unfold Ht at b ⊢;rw[QzW,hk];simp;omega
  |some k=>rw[Qkd hk];have:=h k (QqL hk);omega
theorem Qqa(a:List Nat)(n:Nat)(h:a.length=n):Ht a n=a.sum:=by unfold Ht;rw[<-h,QzU]
theorem Qke(a:List Nat):∀(i d:Nat),Ht a i<=Ht a (i+d)
 |i,0=>QqB _
 |i,d+1=>by
  have:=Qke a i d;unfold Ht at this ⊢;rw[<-QxW,QzW,QuS];omega
theorem Qus{s:ByteArray}{a:List Nat}{j k:Nat}(h:a[j]? =some k):Uv s a (j+1)=Uv s a j++[.int .u64 (leN s (Ht a j) k)]:=by
 unfold Uv;rw[QyS,QqY];simp[List.getD,h]
theorem Ql0:(Tryz.prog.info? 98).map (λi=>(i.zero,i.size,i.bytes))=some (some (.int .u64 0),1,8):=J
def Fz(s:ByteArray)(ws:List Nat)(w:World)(x:Ending)(w':World):Prop:=
 (ws.sum<=s.size/\∃A c,x= .returned (.tuple #[.slice A ws.length c,.string (s.extract ws.sum s.size),I 0])/\w'.ownsRow w.heap.size 98 1 (.slice A ws.length c) ws.length (Uv s ws ws.length)/\Below w w w')\/
 (s.size<ws.sum/\x= .returned (.tuple #[.slice none 0 0,.string ⟨#[]⟩,I 5])/\Below w w w')
theorem Ud(s:ByteArray)(a:List Nat)(gw cw:Nat)(w:World)(W:WidAt w gw (a.map λk=>(k,0)))(h1:∀k∈a,1<=k)(h4:∀k∈a,k<=6)(h8:a.length<=8)(hs:s.size<=70368744177664):
  C 104 #[.string s,.slice (some (gw,0)) a.length cw] w (Fz s a w):=by
 have r:Qee (a.map λk=>(k,(0:Int))):=by
  refine⟨λp T=>?_,λp T=>?_,λp T=>?_,λp T=>?_,by rw[QqT];exact h8⟩;all_goals (obtain⟨k,q,rfl⟩:=QqS.1 T)
  ·exact h1 k q
  ·exact h4 k q
  ·exact QxL _
  ·exact Int.pow_pos D
 have z:=Q7h (Qk8 gw cw _ w W r a.length (by rw[QqT]));have HW:Hid (∀(j k:Nat),a[j]? =some k->w.cell? (gw,j)=some (I k)):=λj k q=>W j (k,0) (by rw[QzF,q];rfl);have HK:=Q7h (λ(j k:Nat) (h:a[j]? =some k)=>(show 1<=k/\k<=6 from⟨h1 k (QqL h),h4 k (QqL h)⟩));have t:=Q7h (Qqa a a.length rfl);have F:Hid (∀j,j<=a.length->Ht a j<=a.sum):=λj hj=>by
  rw[<-Qqa a a.length rfl];have:=Qke a j (a.length-j);rw[show j+(a.length-j)=a.length by omega]at this;exact this
 have f:Hid (∀x w',Fz s a w x w'↔((a.sum<=s.size/\∃A c,x= .returned (.tuple #[.slice A a.length c,.string (s.extract a.sum s.size),I 0])/\w'.ownsRow w.heap.size 98 1 (.slice A a.length c) a.length (Uv s a a.length)/\Below w w w')\/
 (s.size<a.sum/\x= .returned (.tuple #[.slice none 0 0,.string ⟨#[]⟩,I 5])/\Below w w w'))):=λx w'=>QoX
 obtain⟨n,X⟩:=Zx a.length;have HN:=Q7h X;rw[X]at z h8 t F f ⊢;have aj:(n:Int)<=8:=O;obtain⟨i0,H,K,L,M⟩:=QzX Ql0;have⟨Y,Z,B,aa,HS⟩:=Q5 H K L M hs;have ak:(s.size:Int)<=70368744177664:=O;clear W h1 h4 r X H K L M hs;go_in
 go_wp2_with fail
 with_reducible refine z.o.mono ?_
 rintro e w2 ⟨rfl,rfl⟩;go_wp2_with fail
 go_loopw [4,7,9,10,11,16] (λnv av s9 al am i wr=>∃(j:Nat) (A:Option Addr) (c o:Nat),j<=n/\nv= .slice A j c/\av= I o/\Hid (o=Ht a j)/\o<=s.size/\i= I j/\Hid (wr.ownsRow w.heap.size 98 1 (.slice A j c) j (Uv s a j))/\Hid (Below w w wr)) (λ_ _ _ _ _ i _=>n-(intOf i).toNat)
 case atStart=>exact⟨0,none,0,0,QqM _,rfl,rfl,rfl,QqM _,rfl,⟨rfl,.inl ⟨rfl,rfl⟩⟩,QqA _ _⟩
 case round=>
  obtain⟨j,A,c,o,hj,rfl,rfl,y,ab,rfl,g,b⟩:=hrel;have ai:(o:Int)<=(s.size:Int):=O;by_cases ac:j<n
  ·have an:(j:Int)<(n:Int):=O;obtain⟨k,q⟩:∃k,a[j]? =some k:=⟨_,QqC (by rw[HN.o];exact ac)⟩;have c0:=Qq b.o (HW.o j k q);obtain⟨k1,k4⟩:=HK.o j k q;have N:Hid (o+k=Ht a (j+1)):=by show _=_;rw[Qkd q,y.o]
   have Q:Hid (Uv s a (j+1)=Uv s a j++[.int .u64 (leN s o k)]):=by show _=_;rw[Qus q,y.o]
   clear q;by_cases ad:o+k<=s.size
   ·have V:Hid (C 177 #[.string s,I o,I k] wr λe w'=>e= .returned (.tuple #[.int .u64 (leN s o k),I 0])/\wr=w'):=by
     have:=Qgo s o k wr k1 O HS.o ad;rw[Cv s o k O]at this;exact this
    obtain⟨x,hx⟩:=Zx (leN s o k);rw[hx]at V Q;have v:∀u∈[Value.int .u64 x],u.oneCell'=true:=by simp[Value.oneCell']
    have⟨R,ae⟩:=Q2 v (g.o.alloc (.cells #[.int .u64 x] 98));have af:Hid (w.heap.size<=(wr.alloc (.cells #[.int .u64 x] 98)).heap.size):=by show _<=_;have:=b.o.size;simp only[QqW];omega
    clear v hx;go_wp2_with fail
    refine V.o.mono ?_;rintro e w2 ⟨rfl,rfl⟩;go_wp2_with (at_builtin;go_must (refine QkW _ rfl (.tmp 30) (.tmp 32) 99 rfl w.heap.size 98 i0 _ 1 8 Tryz.underlying99 Y.o Z.o B.o aa.o rfl O (.slice A j c) j (Uv s a j) rfl ae.o (wr,0) 1 1 [.int .u64 x] rfl rfl (Z4 _ _ _) R.o (by simp only[maxLen];omega) O af.o ?_;intro v2 w2 d S _;have⟨ag,ah⟩:=Q2 d (Qy g.o S b.o.size);obtain⟨A2,c2,e2⟩:=Qk d;subst e2;clear d S))
    go_roundw
    case rel=>exact⟨j+1,A2,c2,o+k,O,rfl,by show _=Value.int .i64 _;push_cast;go_num,N.o,O,by go_num,by rw[Q.o];with_reducible exact ag,b.o.trans (ah.o)⟩
    case measure=>simp[intOf];omega
   ·have V:=Q7h (Qkv s o k wr k1 O ab HS.o O);have l:Hid (Fz s a w (.returned (.tuple #[.slice none 0 0,.string ⟨#[]⟩,I 5])) wr):=by
     refine(f.o _ _).2 (.inr ⟨?_,rfl,b.o⟩);have:=F.o (j+1) O;have:=N.o;omega
    go_wp2_with fail
    refine V.o.mono ?_;rintro e w2 ⟨rfl,rfl⟩;go_wp2_with fail
    go_returns;exact l.o
  ·obtain rfl:j=n:=O;have l:Hid (∀m,Fz s a w (.returned (.tuple #[.slice A j c,.string (s.extract o s.size),I 0])) (wr.drewN m)):=by
    intro m;have h1:=t.o;have h2:=y.o;refine(f.o _ _).2 (.inl ⟨O,A,c,by rw[show o=a.sum by omega],?_,below_drewN b.o m⟩);exact Qa g.o (Keep.drewN (Keep.refl (λ_=>False) _) m) (λ_ _ h=>h)
   go_wp2_with fail
   go_quiet (fail)
   go_wp2_with fail
   go_returns;exact(l.o _)
end er
namespace fd
open Go.RowKit er
def WidthsAt(w:World)(g:Nat):Prop:=Whole w g 3 #[I 1,I 2,I 4,I 6,I 1]
def Tu:Nat->Nat|0=>1|1=>2|2=>4|3=>6|_=>1
def Mj(n:Nat->Int):Nat->List UInt8
 |0=>[]
 |k+1=>Mj n k++(bytesOf (Tu k) (n k)).map λx=>UInt8.ofNat x.toNat
def Qut(n:Nat->Int):List (Nat×Int):=[(1,n 0),(2,n 1),(4,n 2),(6,n 3),(1,n 4)]
theorem WidthsAt.wid{w:World}{g:Nat}(h:WidthsAt w g)(l:List (Nat×Int))(a:l.map (·.1)=[1,2,4,6,1]):WidAt w g l:=λj p b=>by
 rw[Whole.cell h j];have:(l.map (·.1))[j]? =some p.1:=by rw[QzF,b];rfl
 rw[a]at this;match j with
 |0=>simp at this;simp[<-this]
 |1=>simp at this;simp[<-this]
 |2=>simp at this;simp[<-this]
 |3=>simp at this;simp[<-this]
 |4=>simp at this;simp[<-this]
 |j+5=>simp at this
theorem Qmg(d gw:Nat)(n:Nat->Int)(w:World)(f:WidthsAt w gw)(b:∀j,j<5->w.cell? (d,j)=some (.int .u64 (n j)))(c:∀j,j<5->0<=n j)(h1:∀j,j<5->n j<256^Tu j):
  C 54 #[.slice (some (d,0)) 5 5,.slice (some (gw,0)) 5 5] w λe w'=>e= .returned (.tuple #[.string ⟨(Mj n 5).toArray⟩,I 0])/\Below w w w':=by
 have e:Jc (Qut n)=Mj n 5:=by simp[Jc,Qut,Mj,Tu]
 rw[<-e];refine Qdx (Qut n) d 5 gw 5 w (f.wid _ rfl) (λj p a=>?_) ⟨?_,?_,?_,?_,by simp[Qut]⟩ 5 rfl
 ·match j with
  |0=>simp[Qut]at a;rw[<-a];exact b 0 O
  |1=>simp[Qut]at a;rw[<-a];exact b 1 O
  |2=>simp[Qut]at a;rw[<-a];exact b 2 O
  |3=>simp[Qut]at a;rw[<-a];exact b 3 O
  |4=>simp[Qut]at a;rw[<-a];exact b 4 O
  |j+5=>simp[Qut]at a
 all_goals
  intro p a;simp only[Qut,QqF,QkU,QyA]at a;rcases a with rfl|rfl|rfl|rfl|rfl
 iterate 10 (· simp)
 ·exact c 0 O
 ·exact c 1 O
 ·exact c 2 O
 ·exact c 3 O
 ·exact c 4 O
 ·exact h1 0 O
 ·exact h1 1 O
 ·exact h1 2 O
 ·exact h1 3 O
 ·exact h1 4 O
def Qkb:Nat->Nat
 |0=>0
 |k+1=>Qkb k+Tu k
def Ql5(s:ByteArray):Nat->List Value
 |0=>[]
 |k+1=>Ql5 s k++[.int .u64 (Qq7 s (Qkb k) (Tu k) (Tu k))]
theorem Wh(s:ByteArray)(gw:Nat)(w:World)(a:WidthsAt w gw)(b:14<=s.size)(d:s.size<=70368744177664):
  C 104 #[.string s,.slice (some (gw,0)) 5 5] w λe w'=>∃A cap,e= .returned (.tuple #[.slice A 5 cap,.string (s.extract 14 s.size),I 0])/\w'.ownsRow w.heap.size 98 1 (.slice A 5 cap) 5 (Ql5 s 5)/\Below w w w':=by
 refine(Ud s [1,2,4,6,1] gw 5 w (a.wid _ rfl) D D D d).mono ?_;rintro e w' (⟨_,A,c,rfl,h2,h3⟩|⟨h1,_⟩)
 ·refine⟨A,c,rfl,?_,h3⟩;have e:Ql5 s 5=Uv s [1,2,4,6,1] 5:=by
   simp only[Ql5,Uv,QyS,List.range_zero,QjL,QzE,QqY,QjE,QjW,Qkb,Tu,Ht];rw[Cv _ _ 1 O,Cv _ _ 2 O,Cv _ _ 4 O,Cv _ _ 6 O,Cv _ _ 1 O];rfl
  rw[e];exact h2
 ·exact absurd h1 (by simp;omega)
end fd
namespace rt
open Go.RowKit er
structure Space where
 id:Int
 size:Int
 top:Int
 high:Int
def spB(s:Space):Bool:=decide (1<=s.id)&&decide (s.id<=65535)&&decide (0<=s.size)&&decide (s.size<=16777216)&&decide (0<=s.high)&&decide (s.high<=6)&&(if s.high=0 then decide (s.top= -1)else decide (0<=s.top)&&decide (s.top<=2047))
def upB:List Space->Bool
 |a::b::r=>decide (a.id<b.id)&&upB (b::r)
 |_=>true
def Bh(g:Int)(l:List Space):Bool:=decide (0<=g)&&decide (g<=1099511627775)&&decide (l.length<=8)&&l.all spB&&upB l
def Vz(s:Space):Int:=if s.top<0 then 0 else s.top
def Kg(s:Space):List (Nat×Int):=[(2,s.id),(4,s.size),(2,Vz s),(1,s.high)]
def Jg(g:Int)(k:Int):List (Nat×Int):=[(5,g),(1,k)]
def Xc(g:Int)(l:List Space):ByteArray:=⟨(Jc (Jg g l.length++l.flatMap Kg)).toArray⟩
def Qrb(s:ByteArray)(a:Nat):Space:=⟨leN s a 2,leN s (a+2) 4,if leN s (a+8) 1=0 then -1 else leN s (a+6) 2,leN s (a+8) 1⟩
def Y2(s:ByteArray)(k:Nat):List Space:=(List.range k).map λi=>Qrb s (6+9*i)
def Yf(s:ByteArray):Option (Int×List Space):=
 if s.size<6 then none else
 if 8<leN s 5 1 then none else
 if s.size<6+9*(leN s 5 1).toNat then none else
 if Bh (leN s 0 5) (Y2 s (leN s 5 1).toNat)&&(Xc (leN s 0 5) (Y2 s (leN s 5 1).toNat)).toList==s.toList then some (leN s 0 5,Y2 s (leN s 5 1).toNat)else none
theorem Bd:∀L:List (Nat×Int),(Jc L).length=(L.map (·.1)).sum
 |[]=>rfl
 |p::L=>by
  have:=Bd L;have e:Jc (p::L)=((bytesOf p.1 p.2).map λx=>UInt8.ofNat x.toNat)++Jc L:=by simp[Jc]
  rw[e,QqK,this];simp[bytesOf_length]
theorem Sd(A B:List (Nat×Int))(k:Nat)(n:Int)(b:k<=7)(c:0<=n)(h1:n<256^k):leN ⟨(Jc (A++(k,n)::B)).toArray⟩ (A.map (·.1)).sum k=n:=by
 refine Br _ _ k n c h1 b (λi hi=>?_);have e:Jc (A++(k,n)::B)=Jc A++(((bytesOf k n).map λx=>UInt8.ofNat x.toNat)++Jc B):=by simp[Jc]
 have d:(Jc A).length+i<(Jc (A++(k,n)::B)).length:=by
  rw[e,QqK,QqK,QqT,bytesOf_length];omega
 have hb:=Qxq (Jc (A++(k,n)::B)) ⟨#[]⟩ ((Jc A).length+i) d;have f:(⟨(Jc (A++(k,n)::B)).toArray⟩:ByteArray)++⟨#[]⟩=⟨(Jc (A++(k,n)::B)).toArray⟩:=by
  apply QyW;simp
 rw[f]at hb;rw[<-Bd,hb];have g:(Jc (A++(k,n)::B))[(Jc A).length+i]? =some (UInt8.ofNat (n/256^i%256).toNat):=by
  rw[e,QzH O,QiB,QzM (by simp[bytesOf_length];exact hi),QzF];simp[bytesOf,hi]
 have a:=(QqD.1 g).2;rw[a];exact Qzb _ (Int.emod_nonneg _ D) (Int.emod_lt_of_pos _ D)
theorem Al{s:Space}(h:spB s=true):1<=s.id/\s.id<=65535/\0<=s.size/\s.size<=16777216/\0<=s.high/\s.high<=6/\(s.high=0->s.top= -1)/\(s.high≠0->0<=s.top/\s.top<=2047):=by
 simp only[spB,QzC,QzD]at h;obtain⟨⟨⟨⟨⟨⟨h1,h2⟩,h3⟩,h4⟩,h5⟩,b⟩,a⟩:=h;refine⟨h1,h2,h3,h4,h5,b,λe=>?_,λe=>?_⟩
 ·rw[QqH e]at a;simpa using a
 ·rw[QqE e]at a;simpa using a
theorem Lx{g:Int}{l:List Space}(h:Bh g l=true):0<=g/\g<=1099511627775/\l.length<=8/\(∀s∈l,spB s=true)/\upB l=true:=by
 simp only[Bh,QzC,QzD,QxK]at h;obtain⟨⟨⟨⟨h1,h2⟩,h3⟩,h4⟩,h5⟩:=h;exact⟨h1,h2,h3,h4,h5⟩
theorem Wo{s:Space}(h:spB s=true):0<=Vz s/\Vz s<=2047:=by
 have:=Al h;unfold Vz;by_cases e:s.high=0
 ·have:=this.2.2.2.2.2.2.1 e;split<;>omega
 ·have:=this.2.2.2.2.2.2.2 e;split<;>omega
theorem Qvq(l:List Space):((l.flatMap Kg).map (·.1)).sum=9*l.length:=by
 induction l with
 |nil=>rfl
 |cons s r ih=>
  rw[QqV,QqY,QuS,ih];simp[Kg];omega
theorem Qiq(g:Int)(l:List Space):(Xc g l).size=6+9*l.length:=by
 show(Jc _).toArray.size=_;rw[QjR,Bd,QqY,QuS,Qvq];rfl
theorem Qvg{g:Int}{l:List Space}(a:0<=g)(h1:g<=1099511627775):leN (Xc g l) 0 5=g:=
 Sd [] ((1,(l.length:Int))::l.flatMap Kg) 5 g O a O
theorem Qvo{g:Int}{l:List Space}(h:l.length<=8):leN (Xc g l) 5 1=(l.length:Int):=
 Sd [(5,g)] (l.flatMap Kg) 1 l.length O O O
theorem Q1n{g:Int}(A B:List Space)(s:Space)(h:spB s=true):Qrb (Xc g (A++s::B)) (6+9*A.length)=s:=by
 have i:=Al h;have n:=Wo h;have e:Jg g ((A++s::B).length:Nat)++(A++s::B).flatMap Kg=(Jg g ((A++s::B).length:Nat)++A.flatMap Kg)++((2,s.id)::(4,s.size)::(2,Vz s)::(1,s.high)::B.flatMap Kg):=by simp[Kg]
 have m:((Jg g ((A++s::B).length:Nat)++A.flatMap Kg).map (·.1)).sum=6+9*A.length:=by
  rw[QqY,QuS,Qvq];rfl
 obtain⟨H,o⟩:=Zx (Jg g ((A++s::B).length:Nat)++A.flatMap Kg);rw[o]at m e;have p:Xc g (A++s::B)=⟨(Jc (H++((2,s.id)::(4,s.size)::(2,Vz s)::(1,s.high)::B.flatMap Kg))).toArray⟩:=by unfold Xc;rw[e]
 have q1:=Sd H ((4,s.size)::(2,Vz s)::(1,s.high)::B.flatMap Kg) 2 s.id O O O;have j:=Sd (H++[(2,s.id)]) ((2,Vz s)::(1,s.high)::B.flatMap Kg) 4 s.size O O O;have k:=Sd (H++[(2,s.id),(4,s.size)]) ((1,s.high)::B.flatMap Kg) 2 (Vz s) O O O;have l:=Sd (H++[(2,s.id),(4,s.size),(2,Vz s)]) (B.flatMap Kg) 1 s.high O O O;simp only[QqU,QjW,QjL,QqY,QuS,QzE,QjE,QxX,List.sum_nil,m]at q1 j k l;rw[<-p]at q1 j k l;unfold Qrb;rw[q1,show 6+9*A.length+2=6+9*A.length+(2+0)from rfl,j,show 6+9*A.length+8=6+9*A.length+(2+(4+(2+0)))from rfl,l,show 6+9*A.length+6=6+9*A.length+(2+(4+0))from rfl,k];obtain⟨a,b,c,d⟩:=s;simp only at i n ⊢;congr 1;by_cases f:d=0
 ·rw[QqH f,i.2.2.2.2.2.2.1 f]
 ·rw[QqE f];have:=i.2.2.2.2.2.2.2 f;unfold Vz;simp only;rw[QqE O]
theorem Qvu{g:Int}{l:List Space}(h:∀s∈l,spB s=true):Y2 (Xc g l) l.length=l:=by
 unfold Y2;apply QyR;intro i;by_cases hi:i<l.length
 ·rw[QzF,QxV hi,QqC hi,Option.map_some];have:=Q1n (g:=g) (l.take i) (l.drop (i+1)) l[i] (h _ (List.getElem_mem hi));rw[QzJ,QuR O,List.getElem_cons_drop,QkB]at this;rw[this]
 ·rw[QkY (by simp;omega),QkY O]
theorem Qfz{g:Int}{l:List Space}(h:Bh g l=true):Yf (Xc g l)=some (g,l):=by
 obtain⟨h1,h2,h3,h4,h5⟩:=Lx h;unfold Yf;rw[Qvg h1 h2,Qvo h3,QyD,Qvu h4,Qiq];rw[QqE O,QqE O,QqE O,QqH (by simp[h])]
def inR(n a b:Int):Bool:=decide (a<=n)&&decide (n<=b)
theorem Yv(n a b:Int)(w:World):
  C 255 #[I n,I a,I b] w λe w'=>e= .returned (.bool (inR n a b))/\w=w':=by
 unfold inR;go_in
 by_cases h1:a<=n
 ·by_cases h2:n<=b
  ·go_wp2_with fail
   go_ret
   exact⟨by simp[h1,h2],rfl⟩
  ·go_wp2_with fail
   go_ret
   exact⟨by simp[h1,h2],rfl⟩
 ·have c:n<a:=O;go_wp2_with fail
  go_ret
  exact⟨by simp;omega,rfl⟩
theorem Qq6(w:World):
  C 191 #[] w λe w'=>∃g,e= .returned (.slice (some (g,0)) 2 2)/\(∀l:List (Nat×Int),l.map (·.1)=[5,1]->WidAt w' g l)/\w.heap.size<=g/\Below w w w':=by
 go_in
 go_wp2_with fail
 go_ret
 refine⟨w.heap.size,rfl,λl a j p b=>?_,QqB _,B0.alloc N0 _⟩;have:(l.map (·.1))[j]? =some p.1:=by rw[QzF,b];rfl
 rw[a]at this;rw[(Whole.new w 3 _).cell j];match j with
 |0=>simp at this;simp[<-this]
 |1=>simp at this;simp[<-this]
 |j+2=>simp at this
theorem Ga(w:World):
  C 192 #[] w λe w'=>∃g,e= .returned (.slice (some (g,0)) 4 4)/\(∀l:List (Nat×Int),l.map (·.1)=[2,4,2,1]->WidAt w' g l)/\w.heap.size<=g/\Below w w w':=by
 go_in
 go_wp2_with fail
 go_ret
 refine⟨w.heap.size,rfl,λl a j p b=>?_,QqB _,B0.alloc N0 _⟩;have:(l.map (·.1))[j]? =some p.1:=by rw[QzF,b];rfl
 rw[a]at this;rw[(Whole.new w 3 _).cell j];match j with
 |0=>simp at this;simp[<-this]
 |1=>simp at this;simp[<-this]
 |2=>simp at this;simp[<-this]
 |3=>simp at this;simp[<-this]
 |j+4=>simp at this
theorem Ql4(at_ high:Int)(w:World)(a:0<=at_)(h1:at_<9223372036854775808):
  C 193 #[.int .u64 at_,.int .u64 high] w λe w'=>e= .returned (I (if high=0 then -1 else at_))/\w=w':=by
 have b:IntKind.i64.wrap at_=at_:=by rw[QqN];omega
 go_in
 by_cases h:high=0
 ·subst h;go_wp2_with fail
  go_ret
  exact⟨rfl,rfl⟩
 ·have c:(high==0)=false:=by simpa using h
  go_wp2_with fail
  go_ret
  exact⟨rfl,rfl⟩
def Space.val(s:Space):Value:= .agg #[I s.id,I s.size,I s.top,I s.high]
theorem Q39(s:Space):spB s=(inR s.id 1 65535&&inR s.size 0 16777216&&inR s.high 0 6&&(if s.high=0 then decide (s.top= -1)else inR s.top 0 2047)):=by
 unfold spB inR;simp only[Bool.and_assoc]
theorem Qow(s:Space)(w:World):
  C 256 #[s.val] w λe w'=>e= .returned (.bool (spB s))/\Below w w w':=by
 rw[Q39];obtain⟨i,z,t,h⟩:=s;show C 256 #[.agg #[I i,I z,I t,I h]] w _;have f:=Q7h ((QqA w.heap.size w).alloc N0 (.cells #[I i,I z,I t,I h] 206));obtain⟨b1,a⟩:=Zx (inR i 1 65535);obtain⟨b2,b⟩:=Zx (inR z 0 16777216);obtain⟨b3,c⟩:=Zx (inR h 0 6);obtain⟨b4,d⟩:=Zx (inR t 0 2047);have⟨g,j,k,l⟩:=Q4 a b c d;simp only;rw[a,b,c,d];clear a b c d;by_cases hz:h=0
 ·subst hz;rw[QqH rfl];cases b1<;>cases b2<;>cases b3;all_goals
   go_in
   go_wp2_with (go_at_call 255;refine(Yv _ _ _ _).mono ?_;(first|rw[g.o]|rw[j.o]|rw[k.o]);rintro e w' ⟨rfl,rfl⟩)
   go_ret
   exact⟨by simp<;>rfl,f.o⟩
 ·rw[QqE hz];have m:(h==0)=false:=by simpa using hz
  cases b1<;>cases b2<;>cases b3<;>cases b4;all_goals
   go_in
   go_wp2_with (go_at_call 255;refine(Yv _ _ _ _).mono ?_;(first|rw[g.o]|rw[j.o]|rw[k.o]|rw[l.o]);rintro e w' ⟨rfl,rfl⟩)
   go_ret
   exact⟨by simp<;>rfl,f.o⟩
end rt
end Go.Proofs.YtfialjmemcobjaaGreatDoor
