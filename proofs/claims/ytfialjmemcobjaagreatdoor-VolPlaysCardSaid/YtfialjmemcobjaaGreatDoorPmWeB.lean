/- A part of the proof. -/
import Derived.Test.YtfialjmemcobjaaGreatDoorPmRg
import Derived.Test.YtfialjmemcobjaaGreatDoorPmWeA
set_option maxRecDepth 100000
set_option maxHeartbeats 16000000
set_option linter.unusedVariables false
set_option linter.unusedSimpArgs false
namespace Go.Proofs.YtfialjmemcobjaaGreatDoor
namespace we
open Go.RowKit er
def TabAt(w:ν)(v:Value)(l:List Bk):Prop:=∃A cap,v= .slice A l.length cap/\l.length<=64/\(0<l.length->∃g,A=some ⟨g,0,none⟩/\∀(j:Nat) (m:Bk),l[j]? =some m->w ⟨g,j*3,none⟩=I m.st/\w ⟨g,j*3+1,none⟩=I m.va/\w ⟨g,j*3+2,none⟩=I m.wo)
theorem TabAt.below{w w':World}{v:Value}{l:List Bk}(h:TabAt w v l)(hb:Below w w w'):TabAt w' v l:=by
 obtain⟨A,cap,rfl,c,d⟩:=h;refine⟨A,cap,rfl,c,λe=>?_⟩;obtain⟨g,rfl,a⟩:=d e;exact⟨g,rfl,λj m b=>⟨Qq hb (a j m b).1,Qq hb (a j m b).2.1,Qq hb (a j m b).2.2⟩⟩
theorem TabAt.own {w:World} {B:Nat} {A:Option Addr} {cap n:Nat} {l:List Bk} (h:w.ownsRow B 92 3 (.slice A n cap) l.length (Uk l)) (b:l.length≤64):TabAt w (.slice A n cap) l:=by
 obtain rfl:=Q12 h
 refine ⟨A,cap,rfl,b,fun c=>?_⟩
 obtain ⟨g,rfl,_,_,_,a,_⟩:=Qx h c
 exact ⟨g,rfl,fun j m d=>by
  obtain ⟨e,f,i⟩:=Qoq l j m d
  exact ⟨a _ _ e,a _ _ f,a _ _ i⟩⟩
def Nr(l:List Bk)(k:Int):Nat->Int
 |0=>0
 |j+1=>Nr l k j+(match l[j]? with|some x=>if(x.st==k)=true then 1 else 0|none=>0)
def G6(l:List Bk)(k:Int):Int:=Nr l k l.length
theorem Sr(l:List Bk)(v:Value)(k:Int)(w:ν)(h:TabAt w v l):
  C 102 #[v,I k] w λe w'=>e=ρ (I (G6 l k))/\Below w w w':=by
 obtain⟨A,cap,rfl,H,p⟩:=h;have y:=Q7h p;go_in
 go_wp2
 go_loopw [5,10] (λnv i wr=>∃(j:Nat) (x:Int),j<=l.length/\i= I j/\nv= I x/\0<=x/\x<=j/\Hid (x=Nr l k j)/\Hid (Below w w wr)) (λ_ i _=>l.length-(intOf i).toNat)
 case atStart=>exact⟨0,0,QqM _,rfl,rfl,O,O,rfl,QqA _ _⟩
 case round=>
  obtain⟨j,x,K,rfl,rfl,c,z,q,a⟩:=hrel;by_cases d:j<l.length
  ·obtain⟨m,f⟩:∃m,l[j]? =some m:=⟨l[j],QqC d⟩;obtain⟨g,rfl,b⟩:=y O;obtain⟨r,s,t⟩:=b j m f;have c0:=Qq a r;have c1:=Qq a s;have c2:=Qq a t;have u:Nr l k (j+1)=x+(if(m.st==k)=true then 1 else 0):=by show _=_;rw[q];simp only[Nr,f]
   have F:(j:Int)<(l.length:Int):=O;clear r s t b f;cases hq:(m.st==k)
   ·have n:=hq;go_wp2
    go_roundw
    case rel=>exact⟨j+1,x,O,by go_num,rfl,c,O,by show x=_;rw[u,n];simp,a.alloc a.size _⟩
    case measure=>simp[intOf];omega
   ·have n:=hq;go_wp2
    go_roundw
    case rel=>exact⟨j+1,x+1,O,by go_num,rfl,O,O,by show x+1=_;rw[u,n];simp,a.alloc a.size _⟩
    case measure=>simp[intOf];omega
  ·obtain rfl:j=l.length:=O;go_wp2
   go_ret
   exact⟨by rw[q];rfl,a⟩
def Qlc(l:List Bk)(j:Int):Bk:=l.getD j.toNat ⟨0,0,0⟩
def J4(l:List Bk):Nat->Int
 |0=> -1
 |j+1=>match l[j]? with
  |some x=>if(x.st==0)=true then(if J4 l j<0 then(j:Int)else if Lib.compareInt (Ip x) (Ip (Qlc l (J4 l j)))<0 then(j:Int)else J4 l j)else J4 l j
  |none=>J4 l j
def X9(l:List Bk):Int:=J4 l l.length
theorem Qif(l:List Bk):∀j,-1<=J4 l j/\J4 l j<j\/j=0/\J4 l j= -1
 |0=>.inr ⟨rfl,rfl⟩
 |j+1=>by
  left;have h:=Qif l j;unfold J4;split
  ·split
   ·split
    ·omega
    ·split<;>omega
   ·omega
  ·omega
theorem Qi5(l:List Bk)(v:Value)(Q:Nat)(w:ν)(h:TabAt w v l)(hk:w (Q,0)=I 0):
  C 327 #[v,.func (.func 338) #[] #[(Q,0)],.func (.func 329) #[] #[]] w λe w'=>e=ρ (I (X9 l))/\Below w w w':=by
 obtain⟨A,cap,rfl,hl,hc⟩:=h;have HC:=Q7h hc;go_in
 go_wp2
 go_loopw [7,12] (λbv i wr=>∃(j:Nat) (x:Int),j<=l.length/\i= I j/\bv= I x/\-1<=x/\x<j+1/\Hid (x=J4 l j)/\Hid (x<j\/x<0)/\Hid (Below w w wr)) (λ_ i _=>l.length-(intOf i).toNat)
 case atStart=>exact⟨0,-1,QqM _,rfl,rfl,O,O,rfl,.inr D,QqA _ _⟩
 case round=>
  obtain⟨j,x,hj,rfl,rfl,R,ag,HX,S,c⟩:=hrel;by_cases B:j<l.length
  ·obtain⟨m,hm⟩:∃m,l[j]? =some m:=⟨l[j],QqC B⟩;obtain⟨g,rfl,d⟩:=HC O;obtain⟨e0,e1,e2⟩:=d j m hm;have c0:=Qq c e0;have c1:=Qq c e1;have c2:=Qq c e2;have T:J4 l (j+1)=if(m.st==0)=true then(if x<0 then(j:Int)else if Lib.compareInt (Ip m) (Ip (Qlc l x))<0 then(j:Int)else x)else x:=by show _=_;rw[HX];simp only[J4,hm]
   have ah:(j:Int)<(l.length:Int):=O;have q:=Whole.new wr 92 #[I m.st,I m.va,I m.wo];have f:=c.alloc c.size (.cells #[I m.st,I m.va,I m.wo] 92);have F:=Qq f hk;have H:=f.size;have aa:=d;clear e0 e1 e2 d hm;have k:=(QqA (wr.alloc (.cells #[I m.st,I m.va,I m.wo] 92)).heap.size (wr.alloc (.cells #[I m.st,I m.va,I m.wo] 92))).drew;have L:∀w',Below (wr.alloc (.cells #[I m.st,I m.va,I m.wo] 92)).heap.size (wr.alloc (.cells #[I m.st,I m.va,I m.wo] 92)) w'->(w' (wr,0)=I m.st/\w' (wr,1)=I m.va/\w' (wr,2)=I m.wo):=λw' hb=>⟨Qq hb (q.cell 0),Qq hb (q.cell 1),Qq hb (q.cell 2)⟩;cases hq:(m.st==0)
   ·have M:=hq;go_wp2_with fail
    refine rg.rgB (λw'=>w' (wr,0)=I m.st/\w' (wr,1)=I m.va/\w' (wr,2)=I m.wo) (L _ k) (λp=>?_);iterate 2 refine rg.Ta ?_
    refine rg.rgC (λK V=>?_);rw[QqH (by rfl)];go_simp
    ((go_at_call 338;refine(Eo Q 0 m _ (Qq k F)).mono ?_;rw[M];rintro e w2 ⟨rfl,b⟩;have a:=k.trans (b.mono k.size);clear b))
    refine V _ _ (L _ a) (λp=>?_);clear V K;try simp only[Go.Act.put,rg.qa,rg.qb,rg.qc]
    iterate 1 refine rg.Ta ?_
    iterate 12 refine rg.Sa ?_
    iterate 1 refine rg.Ta ?_
    refine rg.rgD ?_;go_wp2
    go_roundw
    case rel=>exact⟨j+1,x,O,by go_num,rfl,R,O,by show x=_;rw[T,M];simp,by show x<((j+1:Nat):Int)\/_;rcases S with h|h<;>omega,f.trans (a.mono H)⟩
    case measure=>simp[intOf];omega
   ·have M:=hq;by_cases s:x<0
    ·go_wp2_with fail
     refine rg.rgB (λw'=>w' ⟨wr.heap.size,0,none⟩=I m.st/\w' ⟨wr.heap.size,1,none⟩=I m.va/\w' ⟨wr.heap.size,2,none⟩=I m.wo) (L _ k) (λp=>?_);iterate 2 (refine rg.rgT ?_ ?_ ?_;rotate_left;(focus(intro wz t;(try dsimp only at t);go_simp;(try with_reducible rfl)));(try simp only[Go.Act.put,rg.qa,rg.qb,rg.qc]))
     refine rg.rgC (λK V=>?_);rw[QqH (by rfl)];go_simp
     ((go_at_call 338;refine(Eo Q 0 m _ (Qq k F)).mono ?_;rw[M];rintro e w2 ⟨rfl,b⟩;have a:=k.trans (b.mono k.size);clear b))
     refine V _ _ (L _ a) (λp=>?_);clear V K;try simp only[Go.Act.put,rg.qa,rg.qb,rg.qc]
     iterate 4 (refine rg.rgT ?_ ?_ ?_;rotate_left;(focus(intro wz t;(try dsimp only at t);go_simp;(try with_reducible rfl)));(try simp only[Go.Act.put,rg.qa,rg.qb,rg.qc]))
     iterate 8 (refine rg.rgS ?_;(try simp only[Go.Act.put,rg.qa,rg.qb,rg.qc]))
     iterate 2 (refine rg.rgT ?_ ?_ ?_;rotate_left;(focus(intro wz t;(try dsimp only at t);go_simp;(try with_reducible rfl)));(try simp only[Go.Act.put,rg.qa,rg.qb,rg.qc]))
     refine rg.rgD ?_;go_wp2
     go_roundw
     case rel=>exact⟨j+1,j,O,by go_num,rfl,O,O,by show(j:Int)=_;rw[T,M];simp[s],.inl (by show(j:Int)<((j+1:Nat):Int);omega),f.trans (a.mono H)⟩
     case measure=>simp[intOf];omega
    ·have ai:0<=x:=O;obtain⟨y,hy⟩:∃y:Nat,x=(y:Int):=⟨x.toNat,O⟩;subst hy;have ab:y<l.length:=by rcases S with h|h<;>omega
     have af:(y:Int)<(l.length:Int):=O;obtain⟨n,hn⟩:∃n,l[y]? =some n:=⟨l[y],QqC ab⟩;have W:Qlc l (y:Int)=n:=by unfold Qlc;rw[QyD,List.getD,hn];rfl
     obtain⟨n0,n1,n2⟩:=aa y n hn;have ac:=Qq f n0;have ad:=Qq f n1;have ae:=Qq f n2;have r:∀w',Below (wr.alloc (.cells #[I m.st,I m.va,I m.wo] 92)).heap.size (wr.alloc (.cells #[I m.st,I m.va,I m.wo] 92)) w'->(w' ⟨wr.heap.size,0,none⟩=I m.st/\w' ⟨wr.heap.size,1,none⟩=I m.va/\w' ⟨wr.heap.size,2,none⟩=I m.wo/\w' ⟨g,y*3,none⟩=I n.st/\w' ⟨g,y*3+1,none⟩=I n.va/\w' ⟨g,y*3+2,none⟩=I n.wo):=λw' hb=>⟨Qq hb (q.cell 0),Qq hb (q.cell 1),Qq hb (q.cell 2),Qq hb ac,Qq hb ad,Qq hb ae⟩;obtain⟨Z,N⟩:∃Z,Lib.compareInt (Ip m) (Ip n)=Z:=⟨_,rfl⟩;have X:∀Y,C 329 #[m.val,n.val] Y λe w'=>e=ρ (I Z)/\Below Y Y w':=λY=>N▸Qg8 m n Y;have aj:=s;rw[W,N]at T;clear n0 n1 n2 hn W N s;cases hd:decide (Z<0)
     ·have HD:=hd;go_wp2_with fail
      go_region_held3 (λw'=>w' ⟨wr.heap.size,0,none⟩=I m.st/\w' ⟨wr.heap.size,1,none⟩=I m.va/\w' ⟨wr.heap.size,2,none⟩=I m.wo/\w' ⟨g,y*3,none⟩=I n.st/\w' ⟨g,y*3+1,none⟩=I n.va/\w' ⟨g,y*3+2,none⟩=I n.wo) (first|exact r _ k|exact r _ u|exact r _ a) (first|(go_at_call 329;refine(X _).mono ?_;rintro e w3 ⟨rfl,z⟩;have u:=a.trans (z.mono a.size);clear z)|(go_at_call 338;refine(Eo Q 0 m _ (Qq k F)).mono ?_;rw[M];rintro e w2 ⟨rfl,b⟩;have a:=k.trans (b.mono k.size);clear b))
      go_wp2
      go_roundw
      case rel=>exact⟨j+1,y,O,by go_num,rfl,R,O,by show(y:Int)=_;rw[T,M,QqH rfl,QqE (Int.not_lt.2 (QkD y)),QqE (of_decide_eq_false HD)],by show(y:Int)<((j+1:Nat):Int)\/_;omega,f.trans (u.mono H)⟩
      case measure=>simp[intOf];omega
     ·have HD:=hd;go_wp2_with fail
      go_region_held3 (λw'=>w' ⟨wr.heap.size,0,none⟩=I m.st/\w' ⟨wr.heap.size,1,none⟩=I m.va/\w' ⟨wr.heap.size,2,none⟩=I m.wo/\w' ⟨g,y*3,none⟩=I n.st/\w' ⟨g,y*3+1,none⟩=I n.va/\w' ⟨g,y*3+2,none⟩=I n.wo) (first|exact r _ k|exact r _ u|exact r _ a) (first|(go_at_call 329;refine(X _).mono ?_;rintro e w3 ⟨rfl,z⟩;have u:=a.trans (z.mono a.size);clear z)|(go_at_call 338;refine(Eo Q 0 m _ (Qq k F)).mono ?_;rw[M];rintro e w2 ⟨rfl,b⟩;have a:=k.trans (b.mono k.size);clear b))
      go_wp2
      go_roundw
      case rel=>exact⟨j+1,j,O,by go_num,rfl,O,O,by show(j:Int)=_;rw[T,M,QqH rfl,QqE (Int.not_lt.2 (QkD y)),QqH (QxM HD)],.inl (by show(j:Int)<((j+1:Nat):Int);omega),f.trans (u.mono H)⟩
      case measure=>simp[intOf];omega
  ·obtain rfl:j=l.length:=O;go_wp2
   go_ret
   exact⟨by rw[HX];rfl,c⟩
theorem Dc(l:List Bk)(v:Value)(w:World)(h:TabAt w v l):
  C 315 #[v] w λe w'=>e= .returned (I (X9 l))/\Below w w w':=by
 have H:=Q7h h;obtain⟨A,cap,rfl,_⟩:=h;go_in
 go_wp2_with (first|(go_at_call 328;refine(Q4p 0 _).mono ?_;rintro e w1 ⟨g,rfl,f,c,a⟩;have j:=Q7h (H.o.below a);have k:=Q7h f;have i:=Q7h a;clear a f c)|(go_at_call 327;refine(Qi5 l _ g _ j.o k.o).mono ?_;rintro e w2 ⟨rfl,b⟩;have d:=Q7h (i.o.trans (b.mono i.o.size));clear b))
 go_ret
 exact⟨rfl,d.o⟩
end we
end Go.Proofs.YtfialjmemcobjaaGreatDoor
