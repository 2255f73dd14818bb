/- A part of the proof. -/
import Derived.Test.YtfialjmemcobjaaGreatDoorPbFlB
import Derived.Test.YtfialjmemcobjaaGreatDoorPbShA
import Derived.Deep.RegionHeld3
import Derived.Test.YtfialjmemcobjaaGreatDoorPbRg
set_option maxRecDepth 100000
set_option maxHeartbeats 16000000
set_option linter.unusedVariables false
set_option linter.unusedSimpArgs false
namespace Go.Proofs.YtfialjmemcobjaaGreatDoor
namespace we
open Go.RowKit er
structure Bk where
 st:Int
 va:Int
 wo:Int
def Bk.val(b:Bk):Value:= .agg #[I b.st,I b.va,I b.wo]
def Uk(l:List Bk):List Value:=l.flatMap λb=>[I b.st,I b.va,I b.wo]
theorem Qoq:∀(l:List Bk) (j:Nat) (m:Bk),l[j]? =some m->
  (Uk l)[j*3]? =some (I m.st)/\(Uk l)[j*3+1]? =some (I m.va)/\(Uk l)[j*3+2]? =some (I m.wo)
 |[],_,_,h=>by simp at h
 |x::r,0,m,h=>by
  simp at h;subst h;simp[Uk]
 |x::r,j+1,m,h=>by
  have a:=Qoq r j m (by simpa using h);have e:Uk (x::r)= I x.st::I x.va::I x.wo::Uk r:=by simp[Uk]
  rw[e,show(j+1)*3=j*3+3 from by omega];simpa using a
theorem Qzf(l:List Bk)(m:Bk):Uk (l++[m])=Uk l++[I m.st,I m.va,I m.wo]:=by simp[Uk]
def Ip(b:Bk):Int:=max b.wo 0
theorem Qep(b:Bk)(w:World):
  C 339 #[b.val] w λe w'=>e= .returned (I (Ip b))/\Below w w w':=by
 obtain⟨s,v,o⟩:=b;show C 339 #[.agg #[I s,I v,I o]] w _;go_in
 go_wp2_with fail
 go_returns;exact⟨rfl,B0.alloc N0 _⟩
theorem Qg8(a b:Bk)(w:World):
  C 329 #[a.val,b.val] w λe w'=>e= .returned (I (Lib.compareInt (Ip a) (Ip b)))/\Below w w w':=by
 obtain⟨s,v,o⟩:=a;obtain⟨t,x,p⟩:=b;show C 329 #[.agg #[I s,I v,I o],.agg #[I t,I x,I p]] w _;have h:Hid (∀w',Below ((w.alloc (.cells #[I s,I v,I o] 92)).alloc (.cells #[I t,I x,I p] 92)).heap.size ((w.alloc (.cells #[I s,I v,I o] 92)).alloc (.cells #[I t,I x,I p] 92)) w'->(w'.cell? (w,0)=some (I s)/\w'.cell? (w,1)=some (I v)/\w'.cell? (w,2)=some (I o)/\w'.cell? (w.heap.size+1,0)=some (I t)/\w'.cell? (w.heap.size+1,1)=some (I x)/\w'.cell? (w.heap.size+1,2)=some (I p))):=by
  intro w' hb;have h1:Whole ((w.alloc (.cells #[I s,I v,I o] 92)).alloc (.cells #[I t,I x,I p] 92)) w.heap.size 92 #[I s,I v,I o]:=(Whole.new w _ _).alloc _;have h2:Whole ((w.alloc (.cells #[I s,I v,I o] 92)).alloc (.cells #[I t,I x,I p] 92)) (w.heap.size+1) 92 #[I t,I x,I p]:=Whole.new' _ _ _ _ U;exact⟨Qq hb (h1.cell 0),Qq hb (h1.cell 1),Qq hb (h1.cell 2),Qq hb (h2.cell 0),Qq hb (h2.cell 1),Qq hb (h2.cell 2)⟩
 have⟨i,k⟩:=Q2 (QqA ((w.alloc (.cells #[I s,I v,I o] 92)).alloc (.cells #[I t,I x,I p] 92)).heap.size ((w.alloc (.cells #[I s,I v,I o] 92)).alloc (.cells #[I t,I x,I p] 92))).drew (((QqA w.heap.size w).alloc N0 (.cells #[I s,I v,I o] 92)).alloc U (.cells #[I t,I x,I p] 92));have j:=Q7h k.o.size;go_in
 go_wp2_with fail
 go_region_held3 (λw'=>w'.cell? (w,0)=some (I s)/\w'.cell? (w,1)=some (I v)/\w'.cell? (w,2)=some (I o)/\w'.cell? (w.heap.size+1,0)=some (I t)/\w'.cell? (w.heap.size+1,1)=some (I x)/\w'.cell? (w.heap.size+1,2)=some (I p)) (first|exact h.o _ i.o|exact h.o _ d.o|exact h.o _ c.o) (first|(go_at_call 129;refine(Tryz.cmp_Compare_int _ _ _).mono ?_;rintro e l ⟨rfl,rfl⟩)|(go_at_call 339;have h1:=c;refine(Qep ⟨t,x,p⟩ _).mono ?_;rintro e w2 ⟨rfl,f⟩;have d:=Q7h (c.o.trans (f.mono c.o.size));clear f)|(go_at_call 339;refine(Qep ⟨s,v,o⟩ _).mono ?_;rintro e w1 ⟨rfl,g⟩;have c:=Q7h (i.o.trans (g.mono i.o.size));clear g))
 go_wp2_with fail
 go_ret
 exact⟨rfl,k.o.trans (d.o.mono j.o)⟩
theorem Q4p(k:Int)(w:World):
  C 328 #[I k] w λe w'=>∃g,e= .returned (.func (.func 338) #[] #[(g,0)])/\w'.cell? (g,0)=some (I k)/\w.heap.size<=g/\Below w w w':=by
 go_in
 go_wp2_with fail
 go_ret
 exact⟨w.heap.size,rfl,U,QqB _,B0.alloc N0 _⟩
theorem Eo(g:Nat)(k:Int)(b:Bk)(w:World)(a:w.cell? (g,0)=some (I k)):
  C 338 #[b.val,(g,0)] w λe w'=>e= .returned (.bool (b.st==k))/\Below w w w':=by
 obtain⟨s,v,o⟩:=b;have c0:=Qq ((QqA w.heap.size w).alloc N0 (.cells #[I s,I v,I o] 92)) a;show C 338 #[.agg #[I s,I v,I o],.pointer (some ⟨g,0,none⟩)] w _;go_in
 go_wp2_with fail
 go_ret
 exact⟨rfl,B0.alloc N0 _⟩
end we
end Go.Proofs.YtfialjmemcobjaaGreatDoor
namespace Go.Proofs.YtfialjmemcobjaaGreatDoor
namespace we
open Go.RowKit er
def TabAt(w:World)(v:Value)(l:List Bk):Prop:=∃A cap,v= .slice A l.length cap/\l.length<=64/\(0<l.length->∃g,A=some ⟨g,0,none⟩/\∀(j:Nat) (m:Bk),l[j]? =some m->w.cell? ⟨g,j*3,none⟩=some (I m.st)/\w.cell? ⟨g,j*3+1,none⟩=some (I m.va)/\w.cell? ⟨g,j*3+2,none⟩=some (I m.wo))
theorem TabAt.below{w w':World}{v:Value}{l:List Bk}(h:TabAt w v l)(hb:Below w w w'):TabAt w' v l:=by
 obtain⟨A,cap,rfl,h1,h2⟩:=h;refine⟨A,cap,rfl,h1,λc=>?_⟩;obtain⟨g,rfl,a⟩:=h2 c;exact⟨g,rfl,λj m b=>⟨Qq hb (a j m b).1,Qq hb (a j m b).2.1,Qq hb (a j m b).2.2⟩⟩
theorem TabAt.own {w:World} {B:Nat} {A:Option Addr} {cap n:Nat} {l:List Bk} (h:w.ownsRow B 92 3 (.slice A n cap) l.length (Uk l)) (b:l.length≤64):TabAt w (.slice A n cap) l:=by
 obtain rfl:=Q12 h
 refine ⟨A,cap,rfl,b,fun c=>?_⟩
 obtain ⟨g,rfl,_,_,_,a,_⟩:=Qx h c
 exact ⟨g,rfl,fun j m d=>by
  obtain ⟨e,f,i⟩:=Qoq l j m d
  exact ⟨a _ _ e,a _ _ f,a _ _ i⟩⟩
def Nr(l:List Bk)(k:Int):Nat->Int
 |0=>0
 |j+1=>Nr l k j+(match l[j]? with|some x=>if(x.st==k)=true then 1 else 0|none=>0)
def G6(l:List Bk)(k:Int):Int:=Nr l k l.length
theorem Ae(l:List Bk)(v:Value)(k:Int)(w:World)(h:TabAt w v l):
  C 102 #[v,I k] w λe w'=>e= .returned (I (G6 l k))/\Below w w w':=by
 obtain⟨A,cap,rfl,H,p⟩:=h;have y:=Q7h p;clear p;go_in
 go_wp2_with fail
 go_loopw [5,10] (λnv i wr=>∃(j:Nat) (x:Int),j<=l.length/\i= I j/\nv= I x/\0<=x/\x<=j/\Hid (x=Nr l k j)/\Hid (Below w w wr)) (λ_ i _=>l.length-(intOf i).toNat)
 case atStart=>exact⟨0,0,QqM _,rfl,rfl,O,O,rfl,QqA _ _⟩
 case round=>
  obtain⟨j,x,K,rfl,rfl,c,z,q,a⟩:=hrel;by_cases d:j<l.length
  ·obtain⟨m,f⟩:∃m,l[j]? =some m:=⟨l[j],QqC d⟩;obtain⟨g,rfl,b⟩:=y.o O;obtain⟨r,s,t⟩:=b j m f;have c0:=Qq a.o r;have c1:=Qq a.o s;have c2:=Qq a.o t;have u:Hid (Nr l k (j+1)=x+(if(m.st==k)=true then 1 else 0)):=by show _=_;rw[q.o];simp only[Nr,f]
   have F:(j:Int)<(l.length:Int):=O;clear r s t b f;cases hq:(m.st==k)
   ·have n:=Q7h hq;go_wp2_with fail
    go_roundw
    case rel=>exact⟨j+1,x,O,by go_num,rfl,c,O,by show x=_;rw[u.o,n.o];simp,a.o.alloc a.o.size _⟩
    case measure=>simp[intOf];omega
   ·have n:=Q7h hq;go_wp2_with fail
    go_roundw
    case rel=>exact⟨j+1,x+1,O,by go_num,rfl,O,O,by show x+1=_;rw[u.o,n.o];simp,a.o.alloc a.o.size _⟩
    case measure=>simp[intOf];omega
  ·obtain rfl:j=l.length:=O;go_wp2_with fail
   go_ret
   exact⟨by rw[q.o];rfl,a.o⟩
def Qlc(l:List Bk)(j:Int):Bk:=l.getD j.toNat ⟨0,0,0⟩
def J4(l:List Bk):Nat->Int
 |0=> -1
 |j+1=>match l[j]? with
  |some x=>if(x.st==0)=true then(if J4 l j<0 then(j:Int)else if Lib.compareInt (Ip x) (Ip (Qlc l (J4 l j)))<0 then(j:Int)else J4 l j)else J4 l j
  |none=>J4 l j
def X9(l:List Bk):Int:=J4 l l.length
theorem Qif(l:List Bk):∀j,-1<=J4 l j/\J4 l j<j\/j=0/\J4 l j= -1
 |0=>.inr ⟨rfl,rfl⟩
 |j+1=>by
  left;have h:=Qif l j;unfold J4;split
  ·split
   ·split
    ·omega
    ·split<;>omega
   ·omega
  ·omega
theorem Qi5(l:List Bk)(v:Value)(Q:Nat)(w:World)(h:TabAt w v l)(hk:w.cell? (Q,0)=some (I 0)):
  C 327 #[v,.func (.func 338) #[] #[(Q,0)],.func (.func 329) #[] #[]] w λe w'=>e= .returned (I (X9 l))/\Below w w w':=by
 obtain⟨A,cap,rfl,hl,hc⟩:=h;have⟨HC,HK⟩:=Q2 hc hk;clear hc hk;go_in
 go_wp2_with fail
 go_loopw [7,12] (λbv i wr=>∃(j:Nat) (x:Int),j<=l.length/\i= I j/\bv= I x/\-1<=x/\x<j+1/\Hid (x=J4 l j)/\Hid (x<j\/x<0)/\Hid (Below w w wr)) (λ_ i _=>l.length-(intOf i).toNat)
 case atStart=>exact⟨0,-1,QqM _,rfl,rfl,O,O,rfl,.inr D,QqA _ _⟩
 case round=>
  obtain⟨j,x,hj,rfl,rfl,R,ag,HX,S,c⟩:=hrel;by_cases B:j<l.length
  ·obtain⟨m,hm⟩:∃m,l[j]? =some m:=⟨l[j],QqC B⟩;obtain⟨g,rfl,d⟩:=HC.o O;obtain⟨e0,e1,e2⟩:=d j m hm;have c0:=Qq c.o e0;have c1:=Qq c.o e1;have c2:=Qq c.o e2;have T:Hid (J4 l (j+1)=if(m.st==0)=true then(if x<0 then(j:Int)else if Lib.compareInt (Ip m) (Ip (Qlc l x))<0 then(j:Int)else x)else x):=by show _=_;rw[HX.o];simp only[J4,hm]
   have ah:(j:Int)<(l.length:Int):=O;have⟨q,f⟩:=Q2 (Whole.new wr 92 #[I m.st,I m.va,I m.wo]) (c.o.alloc c.o.size (.cells #[I m.st,I m.va,I m.wo] 92));have⟨F,H,aa⟩:=Q3 (Qq f.o HK.o) f.o.size d;clear e0 e1 e2 d hm;have k:=Q7h (QqA (wr.alloc (.cells #[I m.st,I m.va,I m.wo] 92)).heap.size (wr.alloc (.cells #[I m.st,I m.va,I m.wo] 92))).drew;have L:Hid (∀w',Below (wr.alloc (.cells #[I m.st,I m.va,I m.wo] 92)).heap.size (wr.alloc (.cells #[I m.st,I m.va,I m.wo] 92)) w'->(w'.cell? (wr,0)=some (I m.st)/\w'.cell? (wr,1)=some (I m.va)/\w'.cell? (wr,2)=some (I m.wo))):=λw' hb=>⟨Qq hb (q.o.cell 0),Qq hb (q.o.cell 1),Qq hb (q.o.cell 2)⟩;cases hq:(m.st==0)
   ·have M:=Q7h hq;go_wp2_with fail
    refine rg.rgB (λw'=>w'.cell? (wr,0)=some (I m.st)/\w'.cell? (wr,1)=some (I m.va)/\w'.cell? (wr,2)=some (I m.wo)) (L.o _ k.o) (λp=>?_);iterate 2 refine rg.Ta ?_
    refine rg.rgC (λK V=>?_);rw[QqH (by rfl)];go_simp
    ((go_at_call 338;refine(Eo Q 0 m _ (Qq k.o F.o)).mono ?_;rw[M.o];rintro e w2 ⟨rfl,b⟩;have a:=Q7h (k.o.trans (b.mono k.o.size));clear b))
    refine V.out _ _ (L.out _ a.out) (λp=>?_);clear V K;try simp only[Go.Act.put,rg.qa,rg.qb,rg.qc]
    iterate 1 refine rg.Ta ?_
    iterate 12 refine rg.Sa ?_
    iterate 1 refine rg.Ta ?_
    refine rg.rgD ?_;go_wp2_with fail
    go_roundw
    case rel=>exact⟨j+1,x,O,by go_num,rfl,R,O,by show x=_;rw[T.o,M.o];simp,by show x<((j+1:Nat):Int)\/_;rcases S.o with h|h<;>omega,f.out.trans (a.out.mono H.out)⟩
    case measure=>simp[intOf];omega
   ·have M:=Q7h hq;by_cases s:x<0
    ·go_wp2_with fail
     refine rg.rgB (λw'=>w'.cell? ⟨wr.heap.size,0,none⟩=some (I m.st)/\w'.cell? ⟨wr.heap.size,1,none⟩=some (I m.va)/\w'.cell? ⟨wr.heap.size,2,none⟩=some (I m.wo)) (L.out _ k.out) (λp=>?_);iterate 2 (refine rg.rgT ?_ ?_ ?_;rotate_left;(focus(intro wz t;(try dsimp only at t);go_simp;(try with_reducible rfl)));(try simp only[Go.Act.put,rg.qa,rg.qb,rg.qc]))
     refine rg.rgC (λK V=>?_);rw[QqH (by rfl)];go_simp
     ((go_at_call 338;refine(Eo Q 0 m _ (Qq k.out F.out)).mono ?_;rw[M.out];rintro e w2 ⟨rfl,b⟩;have a:=Q7h (k.out.trans (b.mono k.out.size));clear b))
     refine V.out _ _ (L.out _ a.out) (λp=>?_);clear V K;try simp only[Go.Act.put,rg.qa,rg.qb,rg.qc]
     iterate 4 (refine rg.rgT ?_ ?_ ?_;rotate_left;(focus(intro wz t;(try dsimp only at t);go_simp;(try with_reducible rfl)));(try simp only[Go.Act.put,rg.qa,rg.qb,rg.qc]))
     iterate 8 (refine rg.rgS ?_;(try simp only[Go.Act.put,rg.qa,rg.qb,rg.qc]))
     iterate 2 (refine rg.rgT ?_ ?_ ?_;rotate_left;(focus(intro wz t;(try dsimp only at t);go_simp;(try with_reducible rfl)));(try simp only[Go.Act.put,rg.qa,rg.qb,rg.qc]))
     refine rg.rgD ?_;go_wp2_with fail
     go_roundw
     case rel=>exact⟨j+1,j,O,by go_num,rfl,O,O,by show(j:Int)=_;rw[T.out,M.out];simp[s],.inl (by show(j:Int)<((j+1:Nat):Int);omega),f.out.trans (a.out.mono H.out)⟩
     case measure=>simp[intOf];omega
    ·have ai:0<=x:=O;obtain⟨y,hy⟩:∃y:Nat,x=(y:Int):=⟨x.toNat,O⟩;subst hy;have ab:y<l.length:=by rcases S.out with h|h<;>omega
     have af:(y:Int)<(l.length:Int):=O;obtain⟨n,hn⟩:∃n,l[y]? =some n:=⟨l[y],QqC ab⟩;have W:Qlc l (y:Int)=n:=by unfold Qlc;rw[QyD,List.getD,hn];rfl
     obtain⟨n0,n1,n2⟩:=aa.out y n hn;have⟨ac,ad,ae⟩:=Q3 (Qq f.out n0) (Qq f.out n1) (Qq f.out n2);have r:Hid (∀w',Below (wr.alloc (.cells #[I m.st,I m.va,I m.wo] 92)).heap.size (wr.alloc (.cells #[I m.st,I m.va,I m.wo] 92)) w'->(w'.cell? ⟨wr.heap.size,0,none⟩=some (I m.st)/\w'.cell? ⟨wr.heap.size,1,none⟩=some (I m.va)/\w'.cell? ⟨wr.heap.size,2,none⟩=some (I m.wo)/\w'.cell? ⟨g,y*3,none⟩=some (I n.st)/\w'.cell? ⟨g,y*3+1,none⟩=some (I n.va)/\w'.cell? ⟨g,y*3+2,none⟩=some (I n.wo))):=λw' hb=>⟨Qq hb (q.out.cell 0),Qq hb (q.out.cell 1),Qq hb (q.out.cell 2),Qq hb ac.out,Qq hb ad.out,Qq hb ae.out⟩;obtain⟨Z,N⟩:∃Z,Lib.compareInt (Ip m) (Ip n)=Z:=⟨_,rfl⟩;have X:Hid (∀Y,C 329 #[m.val,n.val] Y λe w'=>e= .returned (I Z)/\Below Y.heap.size Y w'):=λY=>N▸Qg8 m n Y;have aj:=Q7h s;rw[W,N]at T;clear n0 n1 n2 hn W N s;cases hd:decide (Z<0)
     ·have HD:=Q7h hd;go_wp2_with fail
      go_region_held3 (λw'=>w'.cell? ⟨wr.heap.size,0,none⟩=some (I m.st)/\w'.cell? ⟨wr.heap.size,1,none⟩=some (I m.va)/\w'.cell? ⟨wr.heap.size,2,none⟩=some (I m.wo)/\w'.cell? ⟨g,y*3,none⟩=some (I n.st)/\w'.cell? ⟨g,y*3+1,none⟩=some (I n.va)/\w'.cell? ⟨g,y*3+2,none⟩=some (I n.wo)) (first|exact r.out _ k.out|exact r.out _ u.out|exact r.out _ a.out) (first|(go_at_call 329;refine(X.out _).mono ?_;rintro e w3 ⟨rfl,z⟩;have u:=Q7h (a.out.trans (z.mono a.out.size));clear z)|(go_at_call 338;refine(Eo Q 0 m _ (Qq k.out F.out)).mono ?_;rw[M.out];rintro e w2 ⟨rfl,b⟩;have a:=Q7h (k.out.trans (b.mono k.out.size));clear b))
      go_wp2_with fail
      go_roundw
      case rel=>exact⟨j+1,y,O,by go_num,rfl,R,O,by show(y:Int)=_;rw[T.out,M.out,QqH rfl,QqE (Int.not_lt.2 (QkD y)),QqE (of_decide_eq_false HD.out)],by show(y:Int)<((j+1:Nat):Int)\/_;omega,f.out.trans (u.out.mono H.out)⟩
      case measure=>simp[intOf];omega
     ·have HD:=Q7h hd;go_wp2_with fail
      go_region_held3 (λw'=>w'.cell? ⟨wr.heap.size,0,none⟩=some (I m.st)/\w'.cell? ⟨wr.heap.size,1,none⟩=some (I m.va)/\w'.cell? ⟨wr.heap.size,2,none⟩=some (I m.wo)/\w'.cell? ⟨g,y*3,none⟩=some (I n.st)/\w'.cell? ⟨g,y*3+1,none⟩=some (I n.va)/\w'.cell? ⟨g,y*3+2,none⟩=some (I n.wo)) (first|exact r.out _ k.out|exact r.out _ u.out|exact r.out _ a.out) (first|(go_at_call 329;refine(X.out _).mono ?_;rintro e w3 ⟨rfl,z⟩;have u:=Q7h (a.out.trans (z.mono a.out.size));clear z)|(go_at_call 338;refine(Eo Q 0 m _ (Qq k.out F.out)).mono ?_;rw[M.out];rintro e w2 ⟨rfl,b⟩;have a:=Q7h (k.out.trans (b.mono k.out.size));clear b))
      go_wp2_with fail
      go_roundw
      case rel=>exact⟨j+1,j,O,by go_num,rfl,O,O,by show(j:Int)=_;rw[T.out,M.out,QqH rfl,QqE (Int.not_lt.2 (QkD y)),QqH (QxM HD.out)],.inl (by show(j:Int)<((j+1:Nat):Int);omega),f.out.trans (u.out.mono H.out)⟩
      case measure=>simp[intOf];omega
  ·obtain rfl:j=l.length:=O;go_wp2_with fail
   go_ret
   exact⟨by rw[HX.out];rfl,c.out⟩
theorem Dc(l:List Bk)(v:Value)(w:World)(h:TabAt w v l):
  C 315 #[v] w λe w'=>e= .returned (I (X9 l))/\Below w w w':=by
 have H:=Q7h h;obtain⟨A,cap,rfl,_⟩:=h;go_in
 go_wp2_with (first|(go_at_call 328;refine(Q4p 0 _).mono ?_;rintro e w1 ⟨g,rfl,f,c,a⟩;have⟨j,k,i⟩:=Q3 (H.o.below a) f a;clear a f c)|(go_at_call 327;refine(Qi5 l _ g _ j.o k.o).mono ?_;rintro e w2 ⟨rfl,b⟩;have d:=Q7h (i.o.trans (b.mono i.o.size));clear b))
 go_ret
 exact⟨rfl,d.o⟩
end we
end Go.Proofs.YtfialjmemcobjaaGreatDoor
