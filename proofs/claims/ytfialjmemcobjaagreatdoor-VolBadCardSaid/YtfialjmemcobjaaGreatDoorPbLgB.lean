/- A part of the proof. -/
import Derived.Test.YtfialjmemcobjaaGreatDoorPbVmA
import Derived.Deep.QuietTactic
import Derived.Deep.RegionHeld3
set_option maxRecDepth 100000
set_option maxHeartbeats 16000000
set_option linter.unusedVariables false
set_option linter.unusedSimpArgs false
namespace Go.Proofs.YtfialjmemcobjaaGreatDoor
namespace vo
open Go.RowKit Go.Maps er
theorem Qen(w:World):(zeroValue 219).run Tryz.prog w= .ok (.pointer none) w:=J
theorem I5(n:Int)(w:World):
  C 140 #[I n] w λe w'=>e= .returned (.bool (decide (0<=n)&&decide (n<=16777216)))/\w=w':=by
 go_in
 by_cases h1:0<=n
 ·by_cases h2:n<=16777216
  ·go_wp2_with fail
   go_ret
   exact⟨by simp[h1,h2],rfl⟩
  ·go_wp2_with fail
   go_ret
   exact⟨by simp[h1,h2],rfl⟩
 ·have a:n<0:=O;go_wp2_with fail
  go_ret
  exact⟨by simp;omega,rfl⟩
theorem LedIn.find{w:World}{lb mb:Nat}{cap:Int}{L:LL}(h:LedIn w lb mb cap L){y:Acc×Nat}(a:y∈L):Xx (key L) y.1.id=some y.2:=
 Qqm h.map.2 (QqS.2 ⟨y,a,rfl⟩)
theorem Az(w:World)(lb mb:Nat)(cap:Int)(L:LL)(y:Acc×Nat)(h:LedIn w lb mb cap L)(a:y∈L):
  C 139 #[(lb,0),I y.1.id] w λe w'=>e= .returned (.tuple #[(y.2,0),I 0])/\w=w':=by
 have b:=(h.map.look Tryz.underlying212 Qen (h.i64 y a) (h.find a)).2;have c1:=h.obj.cell 1;simp at c1;obtain⟨⟨id,sz,c⟩,ab⟩:=y;simp only at b ⊢;clear h a;go_in
 go_wp2_with fail
 go_returns;exact⟨rfl,rfl⟩
theorem Qdl(w:World)(lb mb:Nat)(cap:Int)(L:LL)(id:Int)(h:LedIn w lb mb cap L)(hi:I64 id)(a:Xx (key L) id=none):
  C 139 #[(lb,0),I id] w λe w'=>e= .returned (.tuple #[.pointer none,I 4])/\w=w':=by
 have b:=(h.map.look0 Tryz.underlying212 Qen hi a).2;have c1:=h.obj.cell 1;simp at c1;clear h a;go_in
 go_wp2_with fail
 go_returns;exact⟨rfl,rfl⟩
theorem Qqv(w:World)(lb mb:Nat)(cap:Int)(L:LL)(y:Acc×Nat)(h:LedIn w lb mb cap L)(a:y∈L):
  C 68 #[(lb,0),I y.1.id] w λe w'=>e= .returned (.tuple #[I y.1.size,I y.1.used,I 0])/\Below w w w':=by
 have b:=Q7h (Az w lb mb cap L y h a);have ha:=h.acc y a;have c0:=ha.cell 0;have c1:=ha.cell 1;simp at c0 c1;obtain⟨⟨id,sz,c⟩,ab⟩:=y;simp only at c0 c1 b ⊢;clear h a ha;go_in
 go_wp2_with fail
 with_reducible refine b.o.mono ?_
 rintro e w1 ⟨rfl,rfl⟩;go_wp2_with fail
 go_quiet (fail)
 go_wp2_with fail
 go_returns;exact⟨rfl,below_drewN B0 _⟩
theorem Q4n(w:World)(lb mb:Nat)(cap:Int)(L:LL)(id:Int)(h:LedIn w lb mb cap L)(hi:I64 id)(a:Xx (key L) id=none):
  C 68 #[(lb,0),I id] w λe w'=>e= .returned (.tuple #[I 0,I 0,I 4])/\Below w w w':=by
 have b:=Q7h (Qdl w lb mb cap L id h hi a);clear h a;go_in
 go_wp2_with fail
 with_reducible refine b.o.mono ?_
 rintro e w1 ⟨rfl,rfl⟩;go_wp2_with fail
 go_returns;exact⟨rfl,QqA _ _⟩
def J6(L:LL)(y:Acc×Nat):LL:=L.filter (λz=>decide (z.1.id<y.1.id))++y::L.filter λz=>decide (y.1.id<z.1.id)
def Qzt(L:LL)(id:Int):LL:=L.filter λz=>decide (z.1.id≠id)
theorem Qnd(L:LL)(y:Acc×Nat):key (J6 L y)=Td (key L) y.1.id y.2:=by
 simp[key,J6,Td,QxF,QyP]
theorem Q2d(L:LL)(id:Int):key (Qzt L id)=Vb (key L) id:=by
 simp[key,Qzt,Vb,QxF,QyP]
theorem Qfn(L:LL)(y:Acc×Nat):Zd (J6 L y)=Lu (Zd L) y.1:=by
 simp[Zd,J6,Lu,QxF,QyP]
theorem Q03(L:LL)(id:Int):Zd (Qzt L id)=Qxa (Zd L) id:=by
 simp[Zd,Qzt,Qxa,QxF,QyP]
theorem Ep{L:LL}{y z:Acc×Nat}(h:z∈J6 L y):z=y\/z∈L:=by
 unfold J6 at h;simp only[QqJ,QqF,QzZ]at h;rcases h with h|h|h
 ·exact .inr h.1
 ·exact .inl h
 ·exact .inr h.1
theorem Qu3{L:LL}{y:Acc×Nat}(a:∀z∈L,z.1.id≠y.1.id):(J6 L y).Perm (y::L):=by
 unfold J6;refine(List.perm_middle).trans (List.Perm.cons y ?_);have h1:L.filter (λz=>decide (y.1.id<z.1.id))=L.filter (λz=>!decide (z.1.id<y.1.id)):=by
  refine QgN (λz hz=>?_);have:=a z hz;by_cases h:z.1.id<y.1.id<;>simp[h]<;>omega
 rw[h1];exact QgB _ _
theorem Qtv{l l':List Acc}(h:l.Perm l'):tot l=tot l':=by
 induction h with
 |nil=>rfl
 |cons a _ ih=>rw[X7,X7,ih]
 |swap a b l=>rw[X7,X7,X7,X7];omega
 |trans _ _ h1 h2=>exact h1.trans h2
theorem LOk.put{cap:Int}{l:List Acc}(h:LOk cap l)(e:l.length<8){id size:Int}(h1:1<=id)(h2:id<=65535)(h3:0<=size)(h4:size<=16777216)(d:∀a∈l,a.id≠id):LOk cap (Lu l ⟨id,size,0⟩):=by
 have c:(Lu l ⟨id,size,0⟩).Perm (⟨id,size,0⟩::l):=by
  unfold Lu;refine(List.perm_middle).trans (List.Perm.cons _ ?_);have h1:l.filter (λz=>decide (id<z.id))=l.filter (λz=>!decide (z.id<id)):=by
   refine QgN (λz hz=>?_);have:=d z hz;by_cases h:z.id<id<;>simp[h]<;>omega
  show(l.filter (λb=>decide (b.id<id))++l.filter (λb=>decide (id<b.id))).Perm l;rw[h1];exact QgB _ _
 refine⟨h.c0,h.c1,by rw[c.length_eq];simp;omega,λa ha=>?_,?_,?_⟩
 ·rcases QqF.1 (c.mem_iff.1 ha)with rfl|ha
  ·exact⟨h1,h2,h3,h4,QxL _⟩
  ·exact h.ids a ha
 ·rw[Qtv c,X7];have:=h.sum;simp;omega
 ·unfold Lu;rw[QkA];refine⟨h.up.filter _,QzS.2 ⟨λa ha=>by simpa using(QzZ.1 ha).2,h.up.filter _⟩,λa ha b hb=>?_⟩;have q1:a.id<id:=by simpa using(QzZ.1 ha).2
  rcases QqF.1 hb with rfl|hb
  ·exact q1
  ·have f:id<b.id:=by simpa using(QzZ.1 hb).2
   omega
theorem Q1a{l:List Acc}(p:Acc->Bool)(h:∀a∈l,0<=a.used):tot (l.filter p)<=tot l:=by
 induction l with
 |nil=>simp
 |cons a r ih=>
  have i:=ih (λb hb=>h b (by simp[hb]));have c:=h a U;rw[QkX];split
  ·rw[X7,X7];omega
  ·rw[X7];omega
theorem LOk.del{cap:Int}{l:List Acc}(h:LOk cap l)(id:Int):LOk cap (Qxa l id):=
 ⟨h.c0,h.c1,QqR (QkE _ _) h.len,λa ha=>h.ids a (QzZ.1 ha).1,QiJ (Q1a _ (λa ha=>(h.ids a ha).2.2.2.2)) h.sum,h.up.filter _⟩
theorem Q1d{l:List Acc}(d:l.Pairwise λa b=>a.id<b.id){a:Acc}(ha:a∈l)(f:Acc->Acc):tot (Om l a.id f)=tot l+((f a).used-a.used):=by
 induction l with
 |nil=>cases ha
 |cons b r ih=>
  obtain⟨h1,h2⟩:=QzS.1 d;unfold Om;rw[QzE,X7,X7];rcases QqF.1 ha with rfl|ha
  ·rw[QqH rfl];have:r.map (λc=>if c.id=a.id then f c else c)=r:=by
    conv=>rhs;rw[<-List.map_id r]
    refine QkF (λc e=>?_);have:=h1 c e;rw[QqE O];rfl
   rw[this];omega
  ·have:=h1 a ha;rw[QqE O];have:=ih h2 ha;unfold Om at this;rw[this];omega
theorem LOk.set{cap:Int}{l:List Acc}(h:LOk cap l){a:Acc}(ha:a∈l)(f:Acc->Acc)(d:∀b,(f b).id=b.id)(h1:0<=(f a).size/\(f a).size<=16777216/\0<=(f a).used)(h2:tot l+((f a).used-a.used)<=cap):LOk cap (Om l a.id f):=by
 refine⟨h.c0,h.c1,by unfold Om;rw[QqT];exact h.len,λb hb=>?_,by rw[Q1d h.up ha];exact h2,?_⟩
 ·obtain⟨c,n,rfl⟩:=QqS.1 hb;have k:=h.ids c n;by_cases e:c.id=a.id
  ·have:c=a:=by
    by_cases g:c=a
    ·exact g
    ·exfalso;obtain⟨i,hi,rfl⟩:=QkL.1 n;obtain⟨j,o,rfl⟩:=QkL.1 ha;have p:=QkZ.1 h.up;rcases QoK i j with q|q|q
     ·have:=p i j hi o q;omega
     ·subst q;exact g rfl
     ·have:=p j i o hi q;omega
   subst this;rw[QqH rfl,d];omega
  ·rw[QqE e];exact k
 ·unfold Om;rw[QjP];refine h.up.imp (λ{x y} m=>?_);have e:∀z:Acc,(if z.id=a.id then f z else z).id=z.id:=λz=>by split<;>simp[d]
  rw[e,e];exact m
end vo
end Go.Proofs.YtfialjmemcobjaaGreatDoor
