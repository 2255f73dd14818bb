/- A part of the proof. -/
import Derived.Test.YtfialjmemcobjaaGreatDoorPbStR
import Derived.Test.YtfialjmemcobjaaGreatDoorPbRtD
set_option maxRecDepth 100000
set_option maxHeartbeats 16000000
set_option linter.unusedVariables false
set_option linter.unusedSimpArgs false
namespace Go.Proofs.YtfialjmemcobjaaGreatDoor
namespace rt
open Go.RowKit er st pg
def Fe(f:Fnd):Int:=match Yf f.p.body with|some x=>x.1|none=>0
def newer(f g:Fnd):Prop:=Fe g<Fe f\/Fe g=Fe f/\(g.p.seq<f.p.seq\/g.p.seq=f.p.seq/\g.at_<=f.at_)
def Kw(f:Fnd):Bool:=decide (f.p.kind=4)&&decide (f.p.space=0)&&decide (f.p.key=0)&&(Yf f.p.body).isSome
def X3:Value:= .func (.func 127) #[] #[]
def Na(l:List Fnd):Prop:=∀(w:World) (B:Nat) (v:Value),w.ownsRow B 109 6 v l.length (Qv l)->B<=w.heap.size->
 C 126 #[v,X3] w λe w'=>e= .returned (.tuple #[])/\∃l':List Fnd,l'.Perm l/\l'.Pairwise newer/\w'.ownsRow B 109 6 v l.length (Qv l')/\Below B w w'
theorem Qdp(A:Option Addr)(n c:Nat)(a:n<=1)(w:World):
  C 243 #[.slice A n c,I 0,I n,X3] w λe w'=>e= .returned (.tuple #[])/\w=w':=by
 unfold X3;go_in
 go_wp2_with fail
 go_loopw [8,9] (λi _ wr=>i= I 1/\w=wr) (λ_ _ _=>0)
 case atStart=>exact⟨rfl,rfl⟩
 case round=>
  obtain⟨rfl,rfl⟩:=hrel;go_wp2_with fail
  go_end0
  exact⟨rfl,rfl⟩
theorem Qyt(A:Option Addr)(n c:Nat)(f:n<=1)(w:World):
  C 194 #[.slice A n c,I n,X3] w λe w'=>e= .returned (.tuple #[])/\w=w':=by
 have d:=Q7h (Qdp A n c f w);unfold X3 at d ⊢;go_in
 go_wp2_with fail
 go_loopw [7,8] (λa b wr=>a= I 0/\b= I 20/\w=wr) (λ_ _ _=>0)
 case atStart=>exact⟨rfl,rfl,rfl⟩
 case round=>
  obtain⟨rfl,rfl,rfl⟩:=hrel;go_wp2_with fail
  with_reducible refine d.o.mono ?_
  rintro e w1 ⟨rfl,rfl⟩;go_wp2_with fail
  go_loopw [6,7,8,9] (λs _ _ _ wr=>s= I 20/\w=wr) (λ_ _ _ _ _=>0)
  case atStart=>exact⟨rfl,rfl⟩
  case round=>
   obtain⟨rfl,rfl⟩:=hrel;go_wp2_with fail
   go_end0
   exact⟨rfl,rfl⟩
theorem Q4j:∀{l:List Fnd},l.length<=1->l.Pairwise newer
 |[],_=>List.Pairwise.nil
 |[a],_=>List.pairwise_singleton _ _
 |a::b::r,h=>by simp at h
theorem Qbj{l:List Fnd}(a:l.length<=1):Na l:=by
 intro w B v h g;obtain⟨A,c,rfl⟩:=Qk h;have⟨b,f,H⟩:=Q3 (Qyt A l.length c a w) (Q4j a) h;obtain⟨n,d⟩:=Zx l.length;rw[d]at b H ⊢;unfold X3 at b ⊢;clear h a d;go_in
 go_wp2_with fail
 with_reducible refine b.o.mono ?_
 rintro e w1 ⟨rfl,rfl⟩;go_wp2_with fail
 go_end0
 exact⟨rfl,l,List.Perm.refl _,f.o,H.o,QqA _ _⟩
theorem Mf(f:Fnd):newer f f:= .inr ⟨rfl,.inr ⟨rfl,QxL _⟩⟩
theorem Yz{f g h:Fnd}(a:newer f g)(b:newer g h):newer f h:=by
 unfold newer at *;omega
theorem Pn(f g:Fnd):newer f g\/newer g f:=by
 unfold newer at *;omega
def fd:Fnd:=⟨0,⟨0,0,0,0,⟨#[]⟩⟩⟩
def atF(l:List Fnd)(i:Nat):Fnd:=l[i]?.getD fd
def swp(l:List Fnd)(i j:Nat):List Fnd:=(l.set i (atF l j)).set j (atF l i)
theorem Qfc{l:List Fnd}{i:Nat}(h:i<l.length):l[i]? =some (atF l i):=by
 unfold atF;rw[QqC h];rfl
theorem V3{l:List Fnd}{i j:Nat}(hi:i<l.length)(a:j<l.length)(k:Nat):atF (swp l i j) k=if k=j then atF l i else if k=i then atF l j else atF l k:=by
 unfold swp;generalize d:atF l i=x;generalize f:atF l j=y;unfold atF;rw[QuC,QuC];by_cases h1:j=k
 ·subst h1;simp[a]
 ·by_cases h2:i=k
  ·subst h2;have:¬i=j:=λe=>h1 e.symm;simp[h1,hi,this]
  ·have b:¬k=j:=λe=>h1 e.symm;have c:¬k=i:=λe=>h2 e.symm;simp[h1,h2,b,c]
theorem Qt6{l:List Fnd}{i j:Nat}(hi:i<l.length)(a:j<l.length):(swp l i j).Perm l:=by
 have h:=List.set_set_perm hi a;unfold swp;have b:atF l j=l[j]:=by unfold atF;rw[QqC a];rfl
 have c:atF l i=l[i]:=by unfold atF;rw[QqC hi];rfl
 rw[b,c];exact h
structure Sg(a b:Nat)(l l':List Fnd):Prop where
 perm:l'.Perm l
 out:∀i,i<a\/b<=i->atF l' i=atF l i
 inn:∀i,a<=i->i<b->∃j,a<=j/\j<b/\atF l' i=atF l j
theorem Sg.refl(a b:Nat)(l:List Fnd):Sg a b l l:=⟨List.Perm.refl _,λ_ _=>rfl,λi h1 h2=>⟨i,h1,h2,rfl⟩⟩
theorem Sg.trans{a b:Nat}{l l' c:List Fnd}(h:Sg a b l l')(g:Sg a b l' c):Sg a b l c where
 perm:=g.perm.trans h.perm
 out i hi:=(g.out i hi).trans (h.out i hi)
 inn i h1 h2:=by
  obtain⟨j,d,m,e⟩:=g.inn i h1 h2;obtain⟨k,n,o,f⟩:=h.inn j d m;exact⟨k,n,o,e.trans f⟩
theorem Sg.mono{a b c d:Nat}{l l':List Fnd}(h:Sg c d l l')(g:a<=c)(k:d<=b):Sg a b l l' where
 perm:=h.perm
 out i hi:=h.out i O
 inn i h1 h2:=by
  by_cases f:c<=i/\i<d
  ·obtain⟨j,m,n,e⟩:=h.inn i f.1 f.2;exact⟨j,O,O,e⟩
  ·exact⟨i,h1,h2,h.out i O⟩
theorem Sg.swap{a b:Nat}{l:List Fnd}{i j:Nat}(hi:a<=i)(c:i<b)(e:a<=j)(d:j<b)(hb:b<=l.length):Sg a b l (swp l i j) where
 perm:=Qt6 O O
 out k hk:=by
  rw[V3 O O,QqE O,QqE O]
 inn k h1 h2:=by
  rw[V3 O O];split
  ·exact⟨i,hi,c,rfl⟩
  ·split
   ·exact⟨j,e,d,rfl⟩
   ·exact⟨k,h1,h2,rfl⟩
def Srt(a b:Nat)(l:List Fnd):Prop:=∀i j,a<=i->i<j->j<b->newer (atF l i) (atF l j)
theorem Srt.pw{l:List Fnd}(h:Srt 0 l.length l):l.Pairwise newer:=by
 rw[QkZ];intro i j hi b a;have:=h i j (QqM _) a b;unfold atF at this;rw[QqC hi,QqC b]at this;exact this
theorem Srt.keep{a b:Nat}{l l':List Fnd}(h:Srt a b l)(c:∀i,a<=i->i<b->atF l' i=atF l i):Srt a b l':=by
 intro i j h1 h2 h3;rw[c i h1 O,c j O h3];exact h i j h1 h2 h3
theorem Srt.le{a b c d:Nat}{l:List Fnd}(h:Srt a b l)(e:a<=c)(f:d<=b):Srt c d l:=λi j h1 h2 h3=>h i j O h2 O
theorem Srt.short{a b:Nat}(l:List Fnd)(h:b<=a+1):Srt a b l:=λi j h1 h2 h3=>O
def Down(a i j:Nat)(l:List Fnd):Prop:=∀p q,a<=p->p<q->q<=i->q≠j->newer (atF l p) (atF l q)
theorem Down.start{a i:Nat}{l:List Fnd}(h:Srt a i l):Down a i i l:=λp q h1 h2 h3 h4=>h p q h1 h2 O
theorem Down.stop{a i j:Nat}{l:List Fnd}(h:Down a i j l)(ha:a<=j)(d:j<=i)(b:j=a\/newer (atF l (j-1)) (atF l j)):Srt a (i+1) l:=by
 intro p q h1 h2 h3;by_cases hq:q=j
 ·subst hq;rcases b with rfl|b
  ·omega
  ·by_cases c:p=q-1
   ·subst c;exact b
   ·exact Yz (h p (q-1) h1 O O O) b
 ·exact h p q h1 h2 O hq
theorem Down.step{a i j:Nat}{l:List Fnd}(h:Down a i j l)(ha:a<j)(f:j<=i)(hi:i<l.length)(e:newer (atF l j) (atF l (j-1))):Down a i (j-1) (swp l j (j-1)):=by
 intro p q h1 h2 h3 h4;rw[V3 O O,V3 O O,QqE (c:=q=j-1) h4];by_cases hq:q=j
 ·rw[QqH hq];by_cases b:p=j-1
  ·rw[QqH b];exact e
  ·rw[QqE b,QqE O];exact h p (j-1) h1 O O O
 ·rw[QqE hq];by_cases b:p=j-1
  ·rw[QqH b];exact h j q O O h3 hq
  ·rw[QqE b];by_cases d:p=j
   ·rw[QqH d];exact h (j-1) q O O h3 hq
   ·rw[QqE d];exact h p q h1 h2 h3 hq
def Rot(a m b:Nat)(l l':List Fnd):Prop:=∀q,atF l' q=if a<=q/\q<a+(b-m)then atF l (q-a+m)else if a+(b-m)<=q/\q<b then atF l (q-(b-m))else atF l q
def Exch(a b n:Nat)(l l':List Fnd):Prop:=∀q,atF l' q=if a<=q/\q<a+n then atF l (q-a+b)else if b<=q/\q<b+n then atF l (q-b+a)else atF l q
theorem Exch.zero(a b:Nat)(l:List Fnd):Exch a b 0 l l:=λq=>by rw[QqE O,QqE O]
theorem Exch.step{a b n:Nat}{l l':List Fnd}(h:Exch a b n l l')(d:a+n<b)(hb:b+n<l'.length):Exch a b (n+1) l (swp l' (a+n) (b+n)):=by
 intro q;rw[V3 O hb,h q,h (a+n),h (b+n)];by_cases h1:q=b+n
 ·subst h1;rw[QqH rfl,QqE O,QqE O,QqE O,QqH O];congr 1;omega
 ·rw[QqE h1];by_cases h2:q=a+n
  ·subst h2;rw[QqH rfl,QqE O,QqE O,QqH O];congr 1;omega
  ·rw[QqE h2];by_cases h3:a<=q/\q<a+n
   ·rw[QqH h3,QqH O]
   ·rw[QqE h3,QqE (c:=a<=q/\q<a+(n+1)) O];by_cases h4:b<=q/\q<b+n
    ·rw[QqH h4,QqH O]
    ·rw[QqE h4,QqE O]
def Rots(a m b i j:Nat)(l l':List Fnd):Prop:=∀l2,Rot (m-i) m (m+j) l' l2->Rot a m b l l2
theorem Rots.start{a m b:Nat}(l:List Fnd)(ha:a<=m)(hb:m<=b):Rots a m b (m-a) (b-m) l l:=by
 intro e h;have c:m-(m-a)=a:=O;have d:m+(b-m)=b:=O;rw[c,d]at h;exact h
theorem Rots.left{a m b i j:Nat}{l l' e:List Fnd}(h:Rots a m b i j l l')(f:i<=m)(g:j<i)(d:Exch (m-i) m j l' e):Rots a m b (i-j) j l e:=by
 intro k h2;refine h k λq=>?_;rw[h2 q,d,d,d];by_cases c1:m-(i-j)<=q/\q<m-(i-j)+(m+j-m)
 ·rw[QqH c1,QqE O,QqH O,QqE (c:=m-i<=q/\q<m-i+(m+j-m)) O,QqH O];congr 1;omega
 ·rw[QqE c1];by_cases c2:m-(i-j)+(m+j-m)<=q/\q<m+j
  ·rw[QqH c2,QqE O,QqE O,QqE O,QqH O]
  ·rw[QqE c2];by_cases c3:m-i<=q/\q<m-i+j
   ·rw[QqH c3,QqH O]
   ·rw[QqE c3,QqE O,QqE O,QqE O]
theorem Rots.right{a m b i j:Nat}{l l' e:List Fnd}(h:Rots a m b i j l l')(f:i<=m)(g:i<j)(d:Exch (m-i) (m+j-i) i l' e):Rots a m b i (j-i) l e:=by
 intro k h2;refine h k λq=>?_;rw[h2 q,d,d,d];by_cases c1:m-i<=q/\q<m-i+(m+(j-i)-m)
 ·rw[QqH c1];by_cases c2:q-(m-i)+m<m+j-i
  ·rw[QqE O,QqE O,QqH O]
  ·omega
 ·rw[QqE c1];by_cases c2:m-i+(m+(j-i)-m)<=q/\q<m+(j-i)
  ·rw[QqH c2,QqH O,QqH O];congr 1;omega
  ·rw[QqE c2,QqE (c:=m-i<=q/\q<m-i+i) O];by_cases c3:m+j-i<=q/\q<m+j-i+i
   ·rw[QqH c3,QqE O,QqH O];congr 1;omega
   ·rw[QqE c3,QqE O,QqE O]
theorem Rots.stop{a m b i:Nat}{l l' d:List Fnd}(h:Rots a m b i i l l')(e:i<=m)(f:Exch (m-i) m i l' d):Rot a m b l d:=by
 refine h d λq=>?_;rw[f q];by_cases c1:m-i<=q/\q<m-i+i
 ·rw[QqH c1,QqH O]
 ·rw[QqE c1,QqE (c:=m-i<=q/\q<m-i+(m+i-m)) O];by_cases c2:m<=q/\q<m+i
  ·rw[QqH c2,QqH O];congr 1;omega
  ·rw[QqE c2,QqE O]
theorem cross{a m b mid st e:Nat}{l f:List Fnd}(g:Srt a m l)(h:Srt m b l)(ha:a<=st)(o:st<=m)(r:m<=e)(hb:e<=b)(k:mid=st+(e-m))
  (h1:a<st->e<b->newer (atF l (st-1)) (atF l e)) (h2:st<m->m<e->newer (atF l (e-1)) (atF l st)) (n:Rot st m e l f):
  ∀i j,a<=i->i<mid->mid<=j->j<b->newer (atF f i) (atF f j):=by
 have key:∀p q,(a<=p/\p<st\/m<=p/\p<e)->(st<=q/\q<m\/e<=q/\q<b)->newer (atF l p) (atF l q):=by
  intro p q d hq;rcases d with d|d<;>rcases hq with hq|hq
  ·exact g p q d.1 O hq.2
  ·have x:=h1 O O;have y:newer (atF l p) (atF l (st-1)):=by
    by_cases z:p=st-1
    ·rw[z];exact Mf _
    ·exact g p (st-1) d.1 O O
   have z:newer (atF l e) (atF l q):=by
    by_cases z:q=e
    ·rw[z];exact Mf _
    ·exact h e q O O hq.2
   exact Yz y (Yz x z)
  ·have x:=h2 O O;have y:newer (atF l p) (atF l (e-1)):=by
    by_cases z:p=e-1
    ·rw[z];exact Mf _
    ·exact h p (e-1) d.1 O O
   have z:newer (atF l st) (atF l q):=by
    by_cases z:q=st
    ·rw[z];exact Mf _
    ·exact g st q O O hq.2
   exact Yz y (Yz x z)
  ·exact h p q d.1 O hq.2
 intro i j h3 h4 h5 s;rw[n i,n j];by_cases c1:st<=i
 ·rw[QqH O,QqE O];by_cases c2:j<e
  ·rw[QqH O];exact key _ _ O O
  ·rw[QqE O];exact key _ _ O O
 ·rw[QqE O,QqE O,QqE (c:=st<=j/\j<st+(e-m)) O];by_cases c2:j<e
  ·rw[QqH O];exact key _ _ O O
  ·rw[QqE O];exact key _ _ O O
theorem Rot.left{a m mid st e b:Nat}{l d:List Fnd}(f:Srt a m l)(g:Srt m b l)(ha:a<=st)(k:st<=m)(n:m<=e)(hb:e<=b)(h:mid=st+(e-m))(c:Rot st m e l d):
  Srt a st d/\Srt st mid d/\Srt mid e d/\Srt e b d:=by
 refine⟨λi j h1 h2 h3=>?_,λi j h1 h2 h3=>?_,λi j h1 h2 h3=>?_,λi j h1 h2 h3=>?_⟩
 ·rw[c i,c j,QqE O,QqE O,QqE O,QqE O];exact f i j h1 h2 O
 ·rw[c i,c j,QqH O,QqH O];exact g _ _ O O O
 ·rw[c i,c j,QqE O,QqH O,QqE O,QqH O];exact f _ _ O O O
 ·rw[c i,c j,QqE O,QqE O,QqE O,QqE O];exact g i j O h2 h3
theorem Qdh{a b mid:Nat}{d g h:List Fnd}(m:∀i j,a<=i->i<mid->mid<=j->j<b->newer (atF d i) (atF d j))(h2:Sg a mid d g)(s2:Srt a mid g)(h3:Sg mid b g h)(s3:Srt mid b h):Srt a b h:=by
 intro i j h1 c l;by_cases c1:j<mid
 ·rw[h3.out i O,h3.out j O];exact s2 i j h1 c c1
 ·by_cases c2:mid<=i
  ·exact s3 i j c2 c l
  ·obtain⟨k,n,o,e⟩:=h3.inn j O l;obtain⟨p,p1,p2,f⟩:=h2.inn i h1 O;rw[h3.out i O,f,e,h2.out k O];exact m p k p1 p2 n o
def Up(a k:Nat)(l l':List Fnd):Prop:=∀q,atF l' q=if a<=q/\q<k then atF l (q+1)else if q=k then atF l a else atF l q
theorem Up.zero(a:Nat)(l:List Fnd):Up a a l l:=λq=>by
 rw[QqE O];split
 ·rename_i h;rw[h]
 ·rfl
theorem Up.step{a k:Nat}{l l':List Fnd}(h:Up a k l l')(b:a<=k)(c:k+1<l'.length):Up a (k+1) l (swp l' k (k+1)):=by
 intro q;rw[V3 O c,h q,h k,h (k+1)];by_cases c1:q=k+1
 ·subst c1;rw[QqH rfl,QqE O,QqH rfl,QqE O,QqH rfl]
 ·rw[QqE c1];by_cases c2:q=k
  ·subst c2;rw[QqH rfl,QqE O,QqE O,QqH O]
  ·rw[QqE c2];by_cases c3:a<=q/\q<k
   ·rw[QqH c3,QqH O]
   ·rw[QqE c3,QqE c2,QqE O,QqE c1]
theorem Up.sorted{a b i:Nat}{l l':List Fnd}(d:Srt (a+1) b l)(hi:a+1<=i)(hb:i<=b)(h1:i=a+1\/newer (atF l (i-1)) (atF l a))(h2:i=b\/newer (atF l a) (atF l i))(h:Up a (i-1) l l'):Srt a b l':=by
 have e:∀q,a+1<=q->q<i->newer (atF l q) (atF l a):=by
  intro q x y;rcases h1 with h1|h1
  ·omega
  ·by_cases z:q=i-1
   ·rw[z];exact h1
   ·exact Yz (d q (i-1) x O O) h1
 have f:∀q,i<=q->q<b->newer (atF l a) (atF l q):=by
  intro q x y;rcases h2 with h2|h2
  ·omega
  ·by_cases z:q=i
   ·rw[z];exact h2
   ·exact Yz h2 (d i q O O y)
 intro p q j g hq;rw[h p,h q];by_cases c1:p<i-1
 ·rw[QqH O];by_cases c2:q<i-1
  ·rw[QqH O];exact d _ _ O O O
  ·rw[QqE O];by_cases c3:q=i-1
   ·rw[QqH c3];exact e _ O O
   ·rw[QqE c3];exact d _ _ O O O
 ·rw[QqE O,QqE (c:=a<=q/\q<i-1) O,QqE (c:=q=i-1) O];by_cases c3:p=i-1
  ·rw[QqH c3];exact f _ O O
  ·rw[QqE c3];exact d _ _ O O O
def Dn(m k:Nat)(l l':List Fnd):Prop:=∀q,atF l' q=if k<q/\q<=m then atF l (q-1)else if q=k then atF l m else atF l q
theorem Dn.zero(m:Nat)(l:List Fnd):Dn m m l l:=λq=>by
 rw[QqE O];split
 ·rename_i h;rw[h]
 ·rfl
theorem Dn.step{m k:Nat}{l l':List Fnd}(h:Dn m k l l')(b:0<k)(a:k<=m)(c:m<l'.length):Dn m (k-1) l (swp l' k (k-1)):=by
 intro q;rw[V3 O O,h q,h k,h (k-1)];by_cases c1:q=k-1
 ·subst c1;rw[QqH rfl,QqE O,QqH rfl,QqE O,QqH rfl]
 ·rw[QqE c1];by_cases c2:q=k
  ·subst c2;rw[QqH rfl,QqE O,QqE O,QqH O]
  ·rw[QqE c2];by_cases c3:k<q/\q<=m
   ·rw[QqH c3,QqH O]
   ·rw[QqE c3,QqE c2,QqE O,QqE c1]
theorem Dn.sorted{a m i:Nat}{l l':List Fnd}(b:Srt a m l)(hi:a<=i)(j:i<=m)(h1:i=a\/newer (atF l (i-1)) (atF l m))(h2:i=m\/newer (atF l m) (atF l i))(h:Dn m i l l'):Srt a (m+1) l':=by
 have f:∀q,a<=q->q<i->newer (atF l q) (atF l m):=by
  intro q x y;rcases h1 with h1|h1
  ·omega
  ·by_cases z:q=i-1
   ·rw[z];exact h1
   ·exact Yz (b q (i-1) x O O) h1
 have g:∀q,i<=q->q<m->newer (atF l m) (atF l q):=by
  intro q x y;rcases h2 with h2|h2
  ·omega
  ·by_cases z:q=i
   ·rw[z];exact h2
   ·exact Yz h2 (b i q O O y)
 intro p q d e hq;rw[h p,h q];by_cases c1:p<i
 ·rw[QqE O,QqE (c:=p=i) O];by_cases c2:q<i
  ·rw[QqE O,QqE O];exact b _ _ d e O
  ·by_cases c3:q=i
   ·rw[QqE O,QqH c3];exact f _ d c1
   ·rw[QqH O];exact b _ _ d O O
 ·by_cases c3:p=i
  ·rw[QqE O,QqH c3,QqH O];exact g _ O O
  ·rw[QqH O,QqH O];exact b _ _ O O O
def or3(x y z:Int):Int:=if x≠0 then x else if y≠0 then y else z
theorem Q14(x y z:Int)(g:Nat)(w:World)(c0:w.cell? (g,0)=some (I x))(c1:w.cell? (g,1)=some (I y))(c2:w.cell? (g,2)=some (I z)):
  C 128 #[.slice (some (g,0)) 3 3] w λe w'=>e= .returned (I (or3 x y z))/\w'=w:=by
 have p:=Q7h (λ(i:Nat) (hi:i<3)=>(show w.cell? ⟨g,i,none⟩=some (I (if i=0 then x else if i=1 then y else z))from by
  have:i=0\/i=1\/i=2:=O;rcases this with rfl|rfl|rfl
  ·exact c0
  ·exact c1
  ·exact c2))
 clear c0 c1 c2;go_in
 go_wp2_with fail
 go_loopw [5,8] (λ_ i wr=>∃(j:Nat),j<=3/\i= I j/\Hid (∀k:Nat,k<j->(if k=0 then x else if k=1 then y else z)=0)/\wr=w) (λ_ i _=>3-(intOf i).toNat)
 case atStart=>exact⟨0,O,rfl,λk q=>O,rfl⟩
 case round=>
  obtain⟨j,s,rfl,d,rfl⟩:=hrel;by_cases f:j<3
  ·have r:(j:Int)<3:=O;have c:=p.o j f;obtain⟨u,a⟩:=Zx (if j=0 then x else if j=1 then y else z);rw[a]at c;have n:=Q7h a;clear a;by_cases h:u=0
   ·subst h;go_wp2_with fail
    go_roundw
    case rel=>
     refine⟨j+1,O,by go_num,?_,trivial⟩;show ∀k:Nat,_->_;intro k q;by_cases l:k=j
     ·subst l;exact n.o
     ·exact d.o k O
    case measure=>simp[intOf];omega
   ·go_wp2_with fail
    have m:or3 x y z=u:=by
     have a:=n.o;have h2:j=0\/j=1\/j=2:=O;unfold or3;rcases h2 with rfl|rfl|rfl
     ·simp at a;rw[QqH (by rw[a];exact h)];exact a
     ·have b:=d.o 0 O;simp at b a;rw[QqE (by rw[b];simp),QqH (by rw[a];exact h)];exact a
     ·have b:=d.o 0 O;have a1:=d.o 1 O;simp at b a1 a;rw[QqE (by rw[b];simp),QqE (by rw[a1];simp)];exact a
    go_ret
    exact⟨by rw[m];rfl,rfl⟩
  ·obtain rfl:j=3:=O;go_wp2_with fail
   have m:or3 x y z=0:=by
    have b:=d.o 0 O;have a1:=d.o 1 O;have a2:=d.o 2 O;simp at b a1 a2;unfold or3;rw[QqE (by rw[b];simp),QqE (by rw[a1];simp),a2]
   go_ret
   exact⟨by rw[m];rfl,rfl⟩
def Aj(f:Fnd):Value:= .agg #[I f.at_,I f.p.kind,I f.p.space,I f.p.key,I f.p.seq,.string f.p.body]
def okF(f:Fnd):Prop:=(Yf f.p.body).isSome=true/\f.p.body.size<=1000000
theorem Qix(f:Fnd)(w:World)(h:okF f):C 125 #[.string f.p.body] w λe w'=>∃v,e= .returned (.tuple #[I (Fe f),v,I 0])/\Below w w w':=by
 refine(Xj f.p.body w (by have:=h.2;omega)).mono ?_;intro e w' a;unfold Oi at a;unfold Fe;have h1:=h.1;revert a h1;cases Yf f.p.body with
 |none=>intro _ h1;simp at h1
 |some x=>intro a _;obtain⟨v,b,_,hb⟩:=a;exact⟨v,b,hb⟩
def Ci(f g:Fnd):Int:=or3 (Lib.compareInt (Fe g) (Fe f)) (Lib.compareInt g.p.seq f.p.seq) (Lib.compareInt g.at_ f.at_)
theorem Qx8(f g:Fnd):Ci f g<0↔¬newer g f:=by
 unfold Ci or3 Lib.compareInt newer;rcases QgR (Fe g) (Fe f)with h1|h1|h1<;>rcases QgR g.p.seq f.p.seq with h2|h2|h2<;>rcases QgR g.at_ f.at_ with h3|h3|h3 <;>
  (repeat' split)<;>simp at*<;> omega
theorem Dz(f g:Fnd)(w:World)(V:okF f)(W:okF g):
  C 127 #[Aj f,Aj g] w λe w'=>e= .returned (I (Ci f g))/\Below w w w':=by
 have H:=Q7h (λL=>Qix f L V);have K:=Q7h (λL=>Qix g L W);have M:=Q7h (Tryz.cmp_Compare_int);unfold Ci;obtain⟨x,X⟩:=Zx (Fe f);obtain⟨y,Y⟩:=Zx (Fe g);rw[X]at H ⊢;rw[Y]at K ⊢;clear V W X Y;obtain⟨a,k,sp,N,sq,b⟩:=f;obtain⟨a2,Q,m,n,c,b2⟩:=g;unfold Aj;simp only at H K ⊢;obtain⟨q,hq⟩:=Zx w.heap.size;obtain⟨u,j⟩:∃u,u=(w.alloc (.cells #[I a,I k,I sp,I N,I sq,.string b] 109)).alloc (.cells #[I a2,I Q,I m,I n,I c,.string b2] 109):=⟨_,rfl⟩;have p:Hid (Whole u q 109 #[I a,I k,I sp,I N,I sq,.string b]):=by
  show Whole _ _ _ _;rw[j,<-hq];exact(Whole.new _ _ _).alloc _
 have l:Hid (Whole u (q+1) 109 #[I a2,I Q,I m,I n,I c,.string b2]):=by
  show Whole _ _ _ _;rw[j,<-hq];have:=Whole.new (w.alloc (.cells #[I a,I k,I sp,I N,I sq,.string b] 109)) 109 #[I a2,I Q,I m,I n,I c,.string b2];simpa using this
 have Z:Hid (Below w w u):=by
  show Below _ _ _;rw[j];exact(B0.alloc N0 _).alloc U _
 have s:=p.o.cell 0;have t:=p.o.cell 4;have b0:=l.o.cell 0;have b4:=l.o.cell 4;have b5:=l.o.cell 5;simp at s t b0 b4 b5;obtain⟨r,R⟩:=Zx (or3 (Lib.compareInt y x) (Lib.compareInt c sq) (Lib.compareInt a2 a));rw[R];go_in
 go_wp2_with fail
 rw[<-j];clear j hq;with_reducible refine(H.o _).mono ?_
 rintro e w1 ⟨v1,rfl,d⟩;have s:=Qq d s;have t:=Qq d t;have b0:=Qq d b0;have b4:=Qq d b4;have b5:=Qq d b5;have v:=Q7h (Z.o.trans (d.mono Z.o.size));clear d;go_wp2_with fail
 with_reducible refine(K.o _).mono ?_
 rintro e w2 ⟨v2,rfl,i⟩;have s:=Qq i s;have t:=Qq i t;have b0:=Qq i b0;have b4:=Qq i b4;have z:=Q7h (v.o.trans (i.mono v.o.size));clear i b5;clear p l H K;go_wp2_with fail
 have A:Hid (∀w',Below w2 w2 w'->w'.cell? (q,0)=some (I a)/\w'.cell? (q,4)=some (I sq)/\w'.cell? (q+1,0)=some (I a2)/\w'.cell? (q+1,4)=some (I c)):=λw' h=>⟨Qq h s,Qq h t,Qq h b0,Qq h b4⟩;have F:Hid (C 128 #[.slice (some (w2,0)) 3 3] (w2.alloc (.cells #[I (Lib.compareInt y x),I (Lib.compareInt c sq),I (Lib.compareInt a2 a)] 3)).drew λe w'=>e= .returned (I r)/\w'=(w2.alloc (.cells #[I (Lib.compareInt y x),I (Lib.compareInt c sq),I (Lib.compareInt a2 a)] 3)).drew):=by
  show Calls _ _ _ _ _;have h:=Whole.new w2 3 #[I (Lib.compareInt y x),I (Lib.compareInt c sq),I (Lib.compareInt a2 a)];have S:=(QqA (w2.alloc (.cells #[I (Lib.compareInt y x),I (Lib.compareInt c sq),I (Lib.compareInt a2 a)] 3)).heap.size (w2.alloc (.cells #[I (Lib.compareInt y x),I (Lib.compareInt c sq),I (Lib.compareInt a2 a)] 3))).drew;rw[<-R];exact Q14 _ _ _ _ _ (Qq S (h.cell 0)) (Qq S (h.cell 1)) (Qq S (h.cell 2))
 have T:Hid (Below w w (w2.alloc (.cells #[I (Lib.compareInt y x),I (Lib.compareInt c sq),I (Lib.compareInt a2 a)] 3)).drew):=(z.o.alloc z.o.size _).drew;clear R;go_region_held3 (λw'=>w'.cell? (q,0)=some (I a)/\w'.cell? (q,4)=some (I sq)/\w'.cell? (q+1,0)=some (I a2)/\w'.cell? (q+1,4)=some (I c)) (exact A.o _ G) (first|(go_at_call 129;refine(M.o _ _ _).mono ?_;rintro e B ⟨rfl,rfl⟩)|(go_at_call 128;refine F.o.mono ?_;rintro e B ⟨rfl,rfl⟩))
 go_wp2_with fail
 go_ret
 exact⟨rfl,T.o⟩
def Y9(l:List Fnd):List Fnd:=l.filter Kw
theorem Au{l:List Fnd}{j:Nat}{f:Fnd}(h:l[j]? =some f):Y9 (l.take (j+1))=Y9 (l.take j)++if Kw f=true then[f]else[]:=by
 unfold Y9;rw[QzW,h,QjZ];simp[QkX]
theorem Qku(l:List Fnd)(v:Value)(w:World)(B0:Nat)(h:w.ownsRow B0 109 6 v l.length (Qv l))(hl:l.length<=2048)(Y:∀f∈l,f.p.body.size<=1000000)(hs:Na (Y9 l)):
  C 61 #[v] w λe w'=>∃v' l',e= .returned v'/\l'.Perm (Y9 l)/\l'.Pairwise newer/\w'.ownsRow w.heap.size 109 6 v' l'.length (Qv l')/\Below w w w':=by
 obtain⟨A,c,rfl⟩:=Qk h;have⟨H,HZ,am⟩:=Q3 h Y hs;obtain⟨n,hn⟩:=Zx l.length;rw[hn]at H hl ⊢;have HN:=Q7h hn;have aH:(n:Int)<=2048:=O;obtain⟨i0,Z,aa,ab,ac⟩:=QzX Qdv;have⟨an,ao,ap,aq⟩:=Q4 Z aa ab ac;clear h Y hs hn Z aa ab ac;go_enter Tryz.func61,Tryz.ntmps61
 go_wp2_with fail
 go_loopw [3,5,6,7,8,11] (λov _ _ _ _ i wr=>∃(j m:Nat) (B:Option Addr) (d:Nat),j<=n/\i= I j/\ov= .slice B m d/\m<=j/\Hid ((Y9 (l.take j)).length=m)/\Hid (wr.ownsRow w.heap.size 109 6 (.slice B m d) m (Qv (Y9 (l.take j))))/\Hid (Below w w wr)) (λ_ _ _ _ _ i _=>n-(intOf i).toNat)
 case atStart=>exact⟨0,0,none,0,QqM _,rfl,rfl,QqB _,rfl,⟨rfl,.inl ⟨rfl,rfl⟩⟩,QqA _ _⟩
 case round=>
  obtain⟨j,m,B,d,hj,rfl,rfl,aK,HM,HO,N⟩:=hrel;by_cases ar:j<n
  ·have aL:(j:Int)<(n:Int):=O;obtain⟨gr,rfl,_,_,_,V,_⟩:=Qx H.o O;obtain⟨f,hf⟩:∃f,l[j]? =some f:=⟨_,QqC (by rw[HN.o];exact ar)⟩;obtain⟨p0,p1,p2,p3,p4,p5⟩:=Y4 l j f hf;have c0:=Qq N.o (V _ _ p0);have c1:=Qq N.o (V _ _ p1);have c2:=Qq N.o (V _ _ p2);have c3:=Qq N.o (V _ _ p3);have c4:=Qq N.o (V _ _ p4);have c5:=Qq N.o (V _ _ p5);have⟨HT,ad⟩:=Q2 (Au hf) (HZ.o f (QqL hf));have s:Hid (Kw f=false->∀w',Below w w w'->Below wr wr w'->(Y9 (l.take (j+1))).length=m/\w'.ownsRow w.heap.size 109 6 (.slice B m d) m (Qv (Y9 (l.take (j+1))))):=λhr w' hb au=>by
    have e:Y9 (l.take (j+1))=Y9 (l.take j):=by rw[HT.o,hr];simp
    rw[e];exact⟨HM.o,own_below HO.o au⟩
   obtain⟨a,k,sp,y,sq,b⟩:=f;simp only at c0 c1 c2 c3 c4 c5 ad;clear hf p0 p1 p2 p3 p4 p5 V;obtain⟨qb,ae⟩:=Zx wr.heap.size;obtain⟨S,t⟩:∃S,S=wr.alloc (.cells #[I a,I k,I sp,I y,I sq,.string b] 109):=⟨_,rfl⟩;have g:Hid (Whole S qb 109 #[I a,I k,I sp,I y,I sq,.string b]/\Below wr wr S/\Below w w S):=by
    show _/\_/\_;rw[t,<-ae];exact⟨Whole.new _ _ _,(QqA _ _).alloc (QqB _) _,N.o.alloc N.o.size _⟩
   have x0:=g.o.1.cell 0;have x1:=g.o.1.cell 1;have x2:=g.o.1.cell 2;have x3:=g.o.1.cell 3;have x4:=g.o.1.cell 4;have x5:=g.o.1.cell 5;simp at x0 x1 x2 x3 x4 x5;have K:n-(intOf (I ((j:Int)+1))).toNat<n-(intOf (I (j:Int))).toNat:=by simp[intOf];omega
   have L:=Q7h K;clear K;by_cases h1:k=4
   ·by_cases h2:sp=0
    ·by_cases h3:y=0
     ·subst h1 h2 h3;have z:=Q7h (Xj b S (by have:=ad.o;omega));have af:Hid (Kw ⟨a,⟨4,0,0,sq,b⟩⟩=(Yf b).isSome):=by show _=_;simp[Kw]
      cases hd:Yf b with
      |none=>
       have Q:Hid (Kw ⟨a,⟨4,0,0,sq,b⟩⟩=false):=by show _=_;rw[af.o,hd];rfl
       unfold Oi at z;rw[hd]at z;go_wp2_with fail
       rw[<-t];with_reducible refine z.o.mono ?_
       rintro e R ⟨rfl,q⟩;have⟨r,M⟩:=Q2 (s.o Q.o R (g.o.2.2.trans (q.mono g.o.2.2.size)) (g.o.2.1.trans (q.mono g.o.2.1.size))) (g.o.2.2.trans (q.mono g.o.2.2.size));clear q;go_wp2_with fail
       go_roundw
       case rel=>exact⟨j+1,m,B,d,O,by go_num,rfl,O,r.o.1,r.o.2,M.o⟩
       case measure=>exact L.o
      |some x=>
       obtain⟨gg,ll⟩:=x;have Q:Hid (Y9 (l.take (j+1))=Y9 (l.take j)++[⟨a,⟨4,0,0,sq,b⟩⟩]):=by show _=_;rw[HT.o,af.o,hd];rfl
       unfold Oi at z;rw[hd]at z;simp only at z;go_wp2_with fail
       rw[<-t];with_reducible refine z.o.mono ?_
       rintro e R ⟨v4,rfl,_,q⟩;have⟨M,ag⟩:=Q2 (g.o.2.2.trans (q.mono g.o.2.2.size)) (own_below HO.o (g.o.2.1.trans (q.mono g.o.2.1.size)));have y0:=Qq q x0;have y1:=Qq q x1;have y2:=Qq q x2;have y3:=Qq q x3;have y4:=Qq q x4;have y5:=Qq q x5;have av:=Q7h (ag.o.alloc (.cells #[I a,I 4,I 0,I 0,I sq,.string b] 109));have aw:Hid (∀(j':Nat) (u:Value),([I a,I 4,I 0,I 0,I sq,.string b]:List Value)[j']? =some u->(R.alloc (.cells #[I a,I 4,I 0,I 0,I sq,.string b] 109)).cell? (((R,0):Addr).add j')=some u):=World.news_of_block (by simpa using QzY R (.cells #[I a,I 4,I 0,I 0,I sq,.string b] 109));have T:∀u∈([I a,I 4,I 0,I 0,I sq,.string b]:List Value),u.oneCell'=true:=by simp[Value.oneCell']
       have ah:=Q7h T;have ax:Hid (w.heap.size<=(R.alloc (.cells #[I a,I 4,I 0,I 0,I sq,.string b] 109)).heap.size):=by show _<=_;have:=M.o.size;simp only[QqW];omega
       clear q T c0 c1 c2 c3 c4 c5 x0 x1 x2 x3 x4 x5 t ae;go_wp2_with (at_builtin;go_must (refine QkW _ rfl (.tmp 41) (.tmp 43) 104 rfl w.heap.size 109 i0 _ 6 56 Tryz.underlying104 an.o ao.o ap.o aq.o rfl O (.slice B m d) m (Qv (Y9 (l.take j))) rfl av.o (R,0) 1 1 [I a,I 4,I 0,I 0,I sq,.string b] rfl rfl aw.o ah.o (by simp only[maxLen];omega) O ax.o ?_;intro v2 w5 F ai _;have⟨ay,az⟩:=Q2 F (M.o.trans (Qy ag.o ai M.o.size));obtain⟨A2,c2,e2⟩:=Qk F;subst e2;clear F ai))
       go_roundw
       case rel=>exact⟨j+1,m+1,A2,c2,O,by go_num,rfl,O,by show _=_;rw[Q.o,QqK,HM.o];rfl,by show World.ownsRow _ _ _ _ _ _ _;rw[Q.o,Fb];exact ay.o,az.o⟩
       case measure=>exact L.o
     ·have hy:(y==0)=false:=by simpa using h3
      have Q:Hid (Kw ⟨a,⟨k,sp,y,sq,b⟩⟩=false):=by show _=_;simp[Kw,h3]
      subst h1 h2;go_wp2_with fail
      have r:=Q7h (s.o Q.o S g.o.2.2 g.o.2.1);try rw[<-t]
      go_roundw
      case rel=>exact⟨j+1,m,B,d,O,by go_num,rfl,O,r.o.1,r.o.2,g.o.2.2⟩
      case measure=>exact L.o
    ·have hp:(sp==0)=false:=by simpa using h2
     have Q:Hid (Kw ⟨a,⟨k,sp,y,sq,b⟩⟩=false):=by show _=_;simp[Kw,h2]
     subst h1;go_wp2_with fail
     have r:=Q7h (s.o Q.o S g.o.2.2 g.o.2.1);try rw[<-t]
     go_roundw
     case rel=>exact⟨j+1,m,B,d,O,by go_num,rfl,O,r.o.1,r.o.2,g.o.2.2⟩
     case measure=>exact L.o
   ·have hk:(k==4)=false:=by simpa using h1
    have Q:Hid (Kw ⟨a,⟨k,sp,y,sq,b⟩⟩=false):=by show _=_;simp[Kw,h1]
    go_wp2_with fail
    have r:=Q7h (s.o Q.o S g.o.2.2 g.o.2.1);try rw[<-t]
    go_roundw
    case rel=>exact⟨j+1,m,B,d,O,by go_num,rfl,O,r.o.1,r.o.2,g.o.2.2⟩
    case measure=>exact L.o
  ·obtain rfl:j=n:=O;have W:l.take j=l:=by rw[<-HN.o];exact QzU
   rw[W]at HM HO;have X:=am.o wr w.heap.size (.slice B m d) (by rw[HM.o];exact HO.o) N.o.size;unfold X3 at X;have aF:=Q7h X;clear X;go_wp2_with fail
   with_reducible refine aF.o.mono ?_
   rintro e R ⟨rfl,l',hp,aj,ak,q⟩;have al:Hid (l'.Perm (Y9 l)/\l'.Pairwise newer/\R.ownsRow w.heap.size 109 6 (.slice B m d) l'.length (Qv l')/\Below w w R):=⟨hp,aj,by rw[hp.length_eq];exact ak,N.o.trans q⟩;clear hp aj ak q;go_wp2_with fail
   go_ret
   exact⟨_,l',rfl,al.o⟩
def RowF(w:World)(B:Nat)(A:Option Addr)(n c:Nat)(l:List Fnd):Prop:=l.length=n/\w.ownsRow B 109 6 (.slice A n c) n (Qv l)
structure FCells(w:World)(g j:Nat)(f:Fnd):Prop where
 c0:w.cell? (g,j*6)=some (I f.at_)
 c1:w.cell? (g,j*6+1)=some (I f.p.kind)
 c2:w.cell? (g,j*6+2)=some (I f.p.space)
 c3:w.cell? (g,j*6+3)=some (I f.p.key)
 c4:w.cell? (g,j*6+4)=some (I f.p.seq)
 c5:w.cell? (g,j*6+5)=some (.string f.p.body)
theorem RowF.open_{w:World}{B:Nat}{A:Option Addr}{n c:Nat}{l:List Fnd}(h:RowF w B A n c l)(b:0<n):∃g,A=some ⟨g,0,none⟩/\B<=g/\g<w.heap.size/\n<=c/\(∀j,j<n->FCells w g j (atF l j))/\∀j,w.frozen? ⟨g,j,none⟩=false:=by
 obtain⟨g,d,e,f,i,a,k⟩:=Qx h.2 b;refine⟨g,d,e,f,i,λj m=>?_,k⟩;obtain⟨p0,p1,p2,o,p,q⟩:=Y4 l j _ (Qfc (by rw[h.1];exact m));exact⟨a _ _ p0,a _ _ p1,a _ _ p2,a _ _ o,a _ _ p,a _ _ q⟩
theorem RowF.below{w w':World}{B:Nat}{A:Option Addr}{n c:Nat}{l:List Fnd}(h:RowF w B A n c l)(hb:Below w w w'):RowF w' B A n c l:=⟨h.1,own_below h.2 hb⟩
theorem Qgc(f:Fnd)(l:List Fnd):Qv (f::l)= I f.at_::I f.p.kind::I f.p.space::I f.p.key::I f.p.seq::.string f.p.body::Qv l:=by simp[Qv]
theorem Qn1:∀(l:List Fnd) (j:Nat) (f:Fnd),j<l.length->Qv (l.set j f)=((((((Qv l).set (j*6) (I f.at_)).set (j*6+1) (I f.p.kind)).set (j*6+2) (I f.p.space)).set (j*6+3) (I f.p.key)).set (j*6+4) (I f.p.seq)).set (j*6+5) (.string f.p.body)
 |[],j,f,h=>by simp at h
 |x::r,0,f,h=>by simp[Qgc]
 |x::r,j+1,f,h=>by
  have a:=Qn1 r j f (by simpa using h);rw[QuK,Qgc,Qgc,a];have e (k:Nat):(j+1)*6+k=j*6+k+1+1+1+1+1+1:=O;have b:(j+1)*6=j*6+1+1+1+1+1+1:=O;rw[e 1,e 2,e 3,e 4,e 5,b];simp only[QuK]
theorem Hr{w:World}{base g c n k:Nat}{e:TypeId}{xs:List Value}(h:w.ownsRow base e k (.slice (some (g,0)) n c) n xs)(i:Nat)(u:Value)(hi:i<n*k):
  (w.setCell (g,i) u).ownsRow base e k (.slice (some (g,0)) n c) n (xs.set i u):=by
 refine⟨by simpa using h.1,?_⟩;rcases h.2 with⟨h1,h2⟩|⟨m,cap,b,h1,h2,h3,h4,h5,d,f⟩
 ·subst h2;simp at hi
 ·injection h1 with a o j;injection a with a;injection a with a;subst a j;have l:=Whole.set (w:=w) (g:=g) (t:=e) (cs:=b) h3 i u;refine .inr ⟨g,c,_,rfl,h2,l,h4,h5,by simpa using d,?_⟩;rw[<-f];simp[List.take_set]
def Qrt(w:World)(g j:Nat)(f:Fnd):World:=(((((w.setCell (g,j*6) (I f.at_)).setCell (g,j*6+1) (I f.p.kind)).setCell (g,j*6+2) (I f.p.space)).setCell (g,j*6+3) (I f.p.key)).setCell (g,j*6+4) (I f.p.seq)).setCell (g,j*6+5) (.string f.p.body)
theorem RowF.put{w:World}{B g n c:Nat}{l:List Fnd}(h:RowF w B (some (g,0)) n c l)(j:Nat)(f:Fnd)(a:j<n):RowF (Qrt w g j f) B (some (g,0)) n c (l.set j f):=by
 refine⟨by rw[QoE];exact h.1,?_⟩;rw[Qn1 l j f (by rw[h.1];exact a)];exact Hr (Hr (Hr (Hr (Hr (Hr h.2 _ _ O) _ _ O) _ _ O) _ _ O) _ _ O) _ _ O
theorem Qui(w:World)(g j:Nat)(f:Fnd)(B:Nat)(a:B<=g):Below B w (Qrt w g j f):=
 ((((((QqA B w).setCell (by exact a) _).setCell (by exact a) _).setCell (by exact a) _).setCell (by exact a) _).setCell (by exact a) _).setCell (by exact a) _
theorem RowF.drew{w:World}{B n c:Nat}{A:Option Addr}{l:List Fnd}(h:RowF w B A n c l):RowF w.drew B A n c l:=h.below B0.drew
theorem RowF.swap{w:World}{B g n c:Nat}{l:List Fnd}(h:RowF w B (some (g,0)) n c l)(a:B<=g){i j:Nat}(hi:i<n)(b:j<n){x y:Fnd}(d:atF l i=x)(e:atF l j=y):
  RowF (Qrt (Qrt w g i y) g j x).drew B (some (g,0)) n c (swp l i j)/\Below B w (Qrt (Qrt w g i y) g j x).drew:=by
 subst d e;exact⟨((h.put i _ hi).put j _ b).drew,((Qui _ _ _ _ _ a).trans (Qui _ _ _ _ _ a)).drew⟩
theorem Qdq(l:List Fnd)(A:Option Addr)(n c:Nat)(a b k:Nat)(w:World)(B:Nat)(h:RowF w B A n c l)(X:B<=w.heap.size)(N:a+k<=b)(hb:b+k<=n)(Y:n<=100000):
  C 309 #[.slice A n c,I a,I b,I k,X3] w λe w'=>e= .returned (.tuple #[])/\∃l',Exch a b k l l'/\Sg a (b+k) l l'/\RowF w' B A n c l'/\Below B w w':=by
 have H:=Q7h h;have Q:(k:Int)<=100000:=O;have R:(a:Int)+k<=b:=O;have S:(b:Int)+k<=n:=O;unfold X3;clear h;go_in
 go_wp2_with fail
 go_loopw [10] (λi wr=>∃(j:Nat) (d:List Fnd),j<=k/\i= I j/\Hid (Exch a b j l d)/\Hid (Sg a (b+k) l d)/\Hid (RowF wr B A n c d)/\Hid (Below B w wr)) (λi _=>k-(intOf i).toNat)
 case atStart=>exact⟨0,l,QqM _,rfl,Exch.zero _ _ _,Sg.refl _ _ _,H.o,QqA _ _⟩
 case round=>
  obtain⟨j,d,Z,rfl,u,v,m,z⟩:=hrel;by_cases T:j<k
  ·have V:(j:Int)<(k:Int):=O;obtain⟨g,rfl,p,hg,hc,f,W⟩:=m.o.open_ O;obtain⟨x,y,q,r⟩:∃x y,atF d (a+j)=x/\atF d (b+j)=y:=⟨_,_,rfl,rfl⟩;obtain⟨F,a1,a2,a3,K,L⟩:=f (a+j) O;obtain⟨b0,b1,b2,b3,b4,b5⟩:=f (b+j) O;rw[q]at F a1 a2 a3 K L;rw[r]at b0 b1 b2 b3 b4 b5;obtain⟨xa,xk,xs,xy,xq,xb⟩:=x;obtain⟨ya,yk,ys,yy,yq,yb⟩:=y;simp only at F a1 a2 a3 K L b0 b1 b2 b3 b4 b5;have M:=Q7h (m.o.swap p (i:=a+j) (j:=b+j) O O q r);have s:=Q7h (v.o.trans (Sg.swap (a:=a) (b:=b+k) (i:=a+j) (j:=b+j) O O O O (by rw[m.o.1];omega)));have t:=Q7h (u.o.step O (by rw[m.o.1];omega));clear f q r;go_wp2_with fail
   go_region
   go_wp2_with fail
   go_roundw
   case rel=>exact⟨j+1,_,O,by go_num,t.o,s.o,M.o.1,z.o.trans M.o.2⟩
   case measure=>simp[intOf];omega
  ·obtain rfl:j=k:=O;go_wp2_with fail
   go_end0
   exact⟨rfl,d,u.o,v.o,m.o,z.o⟩
theorem Qdy(l:List Fnd)(A:Option Addr)(n c:Nat)(a m b:Nat)(w:World)(B:Nat)(h:RowF w B A n c l)(X:B<=w.heap.size)(Y:a<m)(Z:m<b)(hb:b<=n)(hn:n<=100000):
  C 285 #[.slice A n c,I a,I m,I b,X3] w λe w'=>e= .returned (.tuple #[])/\∃l',Rot a m b l l'/\Sg a b l l'/\RowF w' B A n c l'/\Below B w w':=by
 have H:=Q7h h;have s:=Q7h (λ(l':List Fnd) (x y k:Nat) (R:World) (r:RowF R B A n c l') (S:Below B w R) (h1:x+k<=y) (h2:y+k<=n)=>Qdq l' A n c x y k R B r (QqR X S.size) h1 h2 hn);unfold X3 at s ⊢;clear h;go_in
 go_wp2_with fail
 go_loopw [10,11] (λi j wr=>∃(p q:Nat) (F:List Fnd),0<p/\0<q/\p<=m-a/\q<=b-m/\i= I p/\j= I q/\Hid (Rots a m b p q l F)/\Hid (Sg a b l F)/\Hid (RowF wr B A n c F)/\Hid (Below B w wr)) (λi j _=>(intOf i).toNat+(intOf j).toNat)
 case atStart=>exact⟨m-a,b-m,l,O,O,QqB _,QqB _,by go_num,by go_num,Rots.start l O O,Sg.refl _ _ _,H.o,QqA _ _⟩
 case round=>
  obtain⟨p,q,F,T,V,hp,hq,rfl,rfl,K,L,M,t⟩:=hrel;have aa:(p:Int)<=m-a:=O;have ab:(q:Int)<=b-m:=O;have emp:((m:Int)-(p:Int))=((m-p:Nat):Int):=O;have ac:((m:Int)+(q:Int)-(p:Int))=((m+q-p:Nat):Int):=O;by_cases h1:p=q
  ·subst h1;have u:=Q7h (s.o F (m-p) m p wr M.o t.o O O);go_wp2_with fail
   with_reducible refine u.o.mono ?_
   rintro e w1 ⟨rfl,N,v,z,r,hb⟩;have⟨Q,d,f,g⟩:=Q4 (K.o.stop O v) (L.o.trans (z.mono O O)) r (t.o.trans hb);clear v z r hb u K L M t;go_wp2_with fail
   go_end0
   exact⟨rfl,N,Q.o,d.o,f.o,g.o⟩
  ·have ad:¬(p:Int)=(q:Int):=O;by_cases h2:q<p
   ·have W:(q:Int)<(p:Int):=O;have u:=Q7h (s.o F (m-p) m q wr M.o t.o O O);go_wp2_with fail
    with_reducible refine u.o.mono ?_
    rintro e w1 ⟨rfl,N,v,z,r,hb⟩;have⟨Q,d,f,g⟩:=Q4 (K.o.left O h2 v) (L.o.trans (z.mono O O)) r (t.o.trans hb);clear v z r hb u K L M t;go_wp2_with fail
    go_roundw
    case rel=>exact⟨p-q,q,N,O,V,O,hq,by go_num,rfl,Q.o,d.o,f.o,g.o⟩
    case measure=>simp[intOf];omega
   ·have W:¬(q:Int)<(p:Int):=O;have u:=Q7h (s.o F (m-p) (m+q-p) p wr M.o t.o O O);go_wp2_with fail
    with_reducible refine u.o.mono ?_
    rintro e w1 ⟨rfl,N,v,z,r,hb⟩;have⟨Q,d,f,g⟩:=Q4 (K.o.right O O v) (L.o.trans (z.mono O O)) r (t.o.trans hb);clear v z r hb u K L M t;go_wp2_with fail
    go_roundw
    case rel=>exact⟨p,q-p,N,T,O,hp,O,rfl,by go_num,Q.o,d.o,f.o,g.o⟩
    case measure=>simp[intOf];omega
def Okl(l:List Fnd):Prop:=∀f∈l,okF f
theorem Okl.sg{a b:Nat}{l l':List Fnd}(h:Okl l)(c:Sg a b l l'):Okl l':=λf d=>h f (c.perm.mem_iff.1 d)
theorem Okl.at_{l:List Fnd}(h:Okl l){i:Nat}(hi:i<l.length):okF (atF l i):=h _ (QqL (Qfc hi))
theorem FCells.below{w w':World}{g j:Nat}{f:Fnd}(h:FCells w g j f)(hb:Below w w w'):FCells w' g j f:=
 ⟨Qq hb h.c0,Qq hb h.c1,Qq hb h.c2,Qq hb h.c3,Qq hb h.c4,Qq hb h.c5⟩
theorem Ct(l:List Fnd)(A:Option Addr)(n c:Nat)(a b:Nat)(w:World)(B:Nat)(h:RowF w B A n c l)(hB:B<=w.heap.size)(X:Okl l)(ha:a<=n)(hb:b<=n)(hn:n<=100000):
  C 243 #[.slice A n c,I a,I b,X3] w λe w'=>e= .returned (.tuple #[])/\∃l',Sg a b l l'/\Srt a b l'/\RowF w' B A n c l'/\Below B w w':=by
 have⟨H,Y,af⟩:=Q3 h X Dz;have au:(a:Int)<=n:=O;unfold X3;clear h X;go_in
 go_wp2_with fail
 go_loopw [8,9] (λi _ wr=>∃(p:Nat) (L:List Fnd),a+1<=p/\(p<=b\/p=a+1)/\i= I p/\Hid (Srt a p L)/\Hid (Sg a b l L)/\Hid (RowF wr B A n c L)/\Hid (Below B w wr)) (λi _ _=>b-(intOf i).toNat)
 case atStart=>exact⟨a+1,l,QqB _,.inr rfl,by go_num,Srt.short l N0,Sg.refl _ _ _,H.o,QqA _ _⟩
 case round=>
  obtain⟨p,L,av,aw,rfl,HT,HS,HR,HB⟩:=hrel;by_cases ax:p<b
  ·have ay:(p:Int)<(b:Int):=O;have ap:(a:Int)+1<=p:=O;go_wp2_with fail
   obtain⟨wo,ag⟩:∃wo,wo=wr:=⟨_,rfl⟩;subst ag;go_loopw [9] (λj Z=>∃(q:Nat) (u:List Fnd),a<=q/\q<=p/\j= I q/\Hid (Down a p q u)/\Hid (Sg a b l u)/\Hid (RowF Z B A n c u)/\Hid (Below B w Z)) (λj _=>(intOf j).toNat)
   case atStart=>exact⟨p,L,O,QqB _,rfl,Down.start HT.o,HS.o,HR.o,HB.o⟩
   case round=>
    obtain⟨q,u,aa,M,rfl,HD,v,k,z⟩:=hrel;clear HS HR HB HT;have aq:(a:Int)<=q:=O;by_cases ah:q=a
    ·subst ah;have HF:=Q7h (HD.o.stop aa M (.inl rfl));go_wp2_with fail
     refine rg.rgB (λ_=>True) trivial (λai=>?_);iterate 4 refine rg.Ta ?_
     iterate 12 refine rg.Sa ?_
     iterate 1 refine rg.Ta ?_
     refine rg.rgD ?_;have⟨aj,ak⟩:=Q2 z.o.drew k.o.drew;go_wp2_with fail
     go_roundw
     case rel=>exact⟨p+1,u,O,O,by go_num,HF.o,v.o,ak.o,aj.o⟩
     case measure=>simp[intOf];omega
    ·have az:(a:Int)<(q:Int):=O;obtain⟨d,hd⟩:=Zx (q-1);obtain⟨g,rfl,al,hg,hc,N,Q⟩:=k.o.open_ O;obtain⟨x,R⟩:=Zx (atF u q);obtain⟨y,S⟩:=Zx (atF u d);have m:=N q O;have s:=N d O;rw[R]at m;rw[S]at s;have W:Hid (∀w',Below wr wr w'->w'.cell? (g,q*6)=some (I x.at_)/\w'.cell? (g,q*6+1)=some (I x.p.kind)/\w'.cell? (g,q*6+2)=some (I x.p.space)/\w'.cell? (g,q*6+3)=some (I x.p.key)/\w'.cell? (g,q*6+4)=some (I x.p.seq)/\w'.cell? (g,q*6+5)=some (.string x.p.body)/\w'.cell? (g,d*6)=some (I y.at_)/\w'.cell? (g,d*6+1)=some (I y.p.kind)/\w'.cell? (g,d*6+2)=some (I y.p.space)/\w'.cell? (g,d*6+3)=some (I y.p.key)/\w'.cell? (g,d*6+4)=some (I y.p.seq)/\w'.cell? (g,d*6+5)=some (.string y.p.body)):=λw' hb=>⟨Qq hb m.c0,Qq hb m.c1,Qq hb m.c2,Qq hb m.c3,Qq hb m.c4,Qq hb m.c5,Qq hb s.c0,Qq hb s.c1,Qq hb s.c2,Qq hb s.c3,Qq hb s.c4,Qq hb s.c5⟩;have t:Hid (∀wq,C 127 #[Aj x,Aj y] wq λe w'=>e= .returned (I (Ci x y))/\Below wq wq w'):=λwq=>af.o x y wq (by rw[<-R];exact(Y.o.sg v.o).at_ (by rw[k.o.1];omega)) (by rw[<-S];exact(Y.o.sg v.o).at_ (by rw[k.o.1];omega));have F:=Q7h (Qx8 x y);have aF:(q:Int)<(n:Int):=O;have ar:(d:Int)<(n:Int):=O;have aH:IntKind.i64.wrap (d:Int)=(d:Int):=by rw[QqN];omega
     have aK:((q:Int)-1)=(d:Int):=O;obtain⟨r,hr⟩:=Zx (Ci x y);rw[hr]at t F;unfold Aj at t;clear N m s hr;by_cases ab:r<0
     ·have ac:=Q7h (λ(w':World) (hR:RowF w' B (some (g,0)) n c u)=>hR.swap al (i:=q) (j:=d) O O R S);have am:Hid (Down a p d (swp u q d)):=by
       show Down _ _ _ _;rw[<-hd];refine HD.o.step O M (by rw[k.o.1];omega) ?_;rw[hd,R,S];have:=F.o.1 ab;rcases Pn x y with h|h
       ·exact h
       ·exact absurd h this
      have an:=Q7h (v.o.trans (Sg.swap (a:=a) (b:=b) (i:=q) (j:=d) O O O O (by rw[k.o.1];omega)));have ad:∀w',RowF w' B (some ⟨g,0,none⟩) n c u->∀j,w'.frozen? ⟨g,j,none⟩=false:=by
       intro w' h j;obtain⟨g',e,_,_,_,_,hf⟩:=h.open_ O;injection e with e;injection e with e;subst e;exact hf j
      have ao:=Q7h ad;obtain⟨xa,xk,xs,xy,xq,xb⟩:=x;obtain⟨ya,yk,ys,yy,yq,yb⟩:=y;simp only at W t ac;clear ad R S Q F;go_wp2_with fail
      go_region_held3 (λw'=>w'.cell? (g,q*6)=some (I xa)/\w'.cell? (g,q*6+1)=some (I xk)/\w'.cell? (g,q*6+2)=some (I xs)/\w'.cell? (g,q*6+3)=some (I xy)/\w'.cell? (g,q*6+4)=some (I xq)/\w'.cell? (g,q*6+5)=some (.string xb)/\w'.cell? (g,d*6)=some (I ya)/\w'.cell? (g,d*6+1)=some (I yk)/\w'.cell? (g,d*6+2)=some (I ys)/\w'.cell? (g,d*6+3)=some (I yy)/\w'.cell? (g,d*6+4)=some (I yq)/\w'.cell? (g,d*6+5)=some (.string yb)) (first|with_reducible exact T.o|exact W.o _ G) (first|(go_at_call 127;refine(t.o _).mono ?_;rintro e w3 ⟨rfl,f⟩;have⟨T,K,V⟩:=Q3 (W.o _ ((QqA wr.heap.size wr).drew.trans f)) (k.o.below ((QqA wr.heap.size wr).drew.trans f)) (z.o.trans (((QqA wr.heap.size wr).drew.trans f).mono (QqR hB z.o.size)));clear f))

      have Q:=ao.o _ K.o;have ae:=Q7h (ac.o _ K.o);go_wp2_with fail
      go_region
      go_wp2_with fail
      go_roundw
      case rel=>exact⟨d,_,O,O,by go_num,am.o,an.o,ae.o.1,V.o.trans ae.o.2⟩
      case measure=>simp[intOf];omega
     ·have HF:Hid (Srt a (p+1) u):=by
       show Srt _ _ _;refine HD.o.stop aa M (.inr ?_);rw[hd,R,S];exact Classical.byContradiction λh=>ab (F.o.2 h)
      obtain⟨xa,xk,xs,xy,xq,xb⟩:=x;obtain⟨ya,yk,ys,yy,yq,yb⟩:=y;simp only at W t;clear R S Q F;go_wp2_with fail
      go_region_held3 (λw'=>w'.cell? ⟨g,q*6,none⟩=some (I xa)/\w'.cell? ⟨g,q*6+1,none⟩=some (I xk)/\w'.cell? ⟨g,q*6+2,none⟩=some (I xs)/\w'.cell? ⟨g,q*6+3,none⟩=some (I xy)/\w'.cell? ⟨g,q*6+4,none⟩=some (I xq)/\w'.cell? ⟨g,q*6+5,none⟩=some (.string xb)/\w'.cell? ⟨g,d*6,none⟩=some (I ya)/\w'.cell? ⟨g,d*6+1,none⟩=some (I yk)/\w'.cell? ⟨g,d*6+2,none⟩=some (I ys)/\w'.cell? ⟨g,d*6+3,none⟩=some (I yy)/\w'.cell? ⟨g,d*6+4,none⟩=some (I yq)/\w'.cell? ⟨g,d*6+5,none⟩=some (.string yb)) (first|with_reducible exact T.out|exact W.out _ G) (first|(go_at_call 127;refine(t.out _).mono ?_;rintro e w3 ⟨rfl,f⟩;have⟨T,K,V⟩:=Q3 (W.out _ ((QqA wr.heap.size wr).drew.trans f)) (k.out.below ((QqA wr.heap.size wr).drew.trans f)) (z.out.trans (((QqA wr.heap.size wr).drew.trans f).mono (QqR hB z.out.size)));clear f))

      go_wp2_with fail
      go_roundw
      case rel=>exact⟨p+1,u,O,O,by go_num,HF.out,v.out,K.out,V.out⟩
      case measure=>simp[intOf];omega
  ·go_wp2_with fail
   go_end0
   have hT:Srt a b L:=HT.out.le (QqB _) O;exact⟨rfl,L,HS.out,hT,HR.out,HB.out⟩
theorem Tk{x y:Fnd}(h:¬Ci x y<0):newer y x:=Classical.byContradiction λk=>h ((Qx8 x y).2 k)
theorem Tz{x y:Fnd}(h:Ci x y<0):newer x y:=(Pn x y).resolve_right ((Qx8 x y).1 h)
theorem Qmq(l:List Fnd)(A:Option Addr)(n c:Nat)(a b:Nat)(w:World)(B:Nat)(h:RowF w B A n c l)(hB:B<=w.heap.size)(aa:Okl l)(ai:a+1<b)(hb:b<=n)(hn:n<=100000)(ab:Srt (a+1) b l):
  C 244 #[.slice A n c,I a,I ((a+1:Nat):Int),I b,X3] w λe w'=>e= .returned (.tuple #[])/\∃l',Sg a b l l'/\Srt a b l'/\RowF w' B A n c l'/\Below B w w':=by
 have⟨H,ac,aj,ad⟩:=Q4 h aa Dz ab;obtain⟨m,hm⟩:=Zx (a+1);rw[hm]at ad ai ⊢;have ax:(m:Int)-(a:Int)=1:=O;unfold X3;clear h aa ab;obtain⟨g,rfl,ak,hg,hc,f,ae⟩:=H.o.open_ O;obtain⟨y,Y⟩:=Zx (atF l a);have v:=f a O;rw[Y]at v;have al:=Q7h v;clear f v ae;go_in
 go_wp2_with fail
 go_loopw [10,11,12] (λQ R _ wr=>∃(i j:Nat),m<=i/\i<=j/\j<=b/\Q= I i/\R= I j/\Hid (i=m\/newer (atF l (i-1)) (atF l a))/\Hid (j=b\/newer (atF l a) (atF l j))/\Hid (Below w w wr)) (λQ R _ _=>(intOf R).toNat-(intOf Q).toNat)
 case atStart=>exact⟨m,b,QqB _,O,QqB _,rfl,rfl,.inl rfl,.inl rfl,QqA _ _⟩
 case round=>
  obtain⟨i,j,hi,aF,hj,rfl,rfl,HL,HR,L⟩:=hrel;have ay:(i:Int)<=j:=O;have aH:(j:Int)<=b:=O;by_cases aK:i<j
  ·have az:(i:Int)<(j:Int):=O;obtain⟨d,hd⟩:=Zx ((i+j)/2);have am:i<=d:=O;have aL:d<j:=O;have aM:((i:Int)+(j:Int))/2=(d:Int):=O;have aN:(d:Int)<(n:Int):=O;have aQ:(a:Int)<(n:Int):=O;obtain⟨x,K⟩:=Zx (atF l d);have q:FCells wr g d x:=by
    obtain⟨g',e,_,_,_,f,_⟩:=H.o.open_ O;injection e with e;injection e with e;subst e;rw[<-K];exact(f d O).below L.o
   have s:=al.o.below L.o;have u:Hid (∀wq,C 127 #[Aj x,Aj y] wq λe w'=>e= .returned (I (Ci x y))/\Below wq wq w'):=λwq=>aj.o x y wq (by rw[<-K];exact ac.o.at_ (by rw[H.o.1];omega)) (by rw[<-Y];exact ac.o.at_ (by rw[H.o.1];omega));have⟨M,N⟩:=Q2 (@Tk x y) (@Tz x y);obtain⟨r,hr⟩:=Zx (Ci x y);rw[hr]at u M N;unfold Aj at u;have Z:Hid (∀w',Below wr wr w'->w'.cell? (g,d*6)=some (I x.at_)/\w'.cell? (g,d*6+1)=some (I x.p.kind)/\w'.cell? (g,d*6+2)=some (I x.p.space)/\w'.cell? (g,d*6+3)=some (I x.p.key)/\w'.cell? (g,d*6+4)=some (I x.p.seq)/\w'.cell? (g,d*6+5)=some (.string x.p.body)/\w'.cell? (g,a*6)=some (I y.at_)/\w'.cell? (g,a*6+1)=some (I y.p.kind)/\w'.cell? (g,a*6+2)=some (I y.p.space)/\w'.cell? (g,a*6+3)=some (I y.p.key)/\w'.cell? (g,a*6+4)=some (I y.p.seq)/\w'.cell? (g,a*6+5)=some (.string y.p.body)):=λw' hb=>⟨Qq hb q.c0,Qq hb q.c1,Qq hb q.c2,Qq hb q.c3,Qq hb q.c4,Qq hb q.c5,Qq hb s.c0,Qq hb s.c1,Qq hb s.c2,Qq hb s.c3,Qq hb s.c4,Qq hb s.c5⟩;clear q s hr;by_cases af:r<0
   ·have an:Hid (newer (atF l (d+1-1)) (atF l a)):=by show newer _ _;rw[Nat.add_sub_cancel,K,Y];exact N.o af
    clear K Y;go_wp2_with fail
    obtain⟨xa,xk,xs,xy,xq,xb⟩:=x;obtain⟨ya,yk,ys,yy,yq,yb⟩:=y;simp only at Z u;clear M N;go_region_held3 (λw'=>w'.cell? (g,d*6)=some (I xa)/\w'.cell? (g,d*6+1)=some (I xk)/\w'.cell? (g,d*6+2)=some (I xs)/\w'.cell? (g,d*6+3)=some (I xy)/\w'.cell? (g,d*6+4)=some (I xq)/\w'.cell? (g,d*6+5)=some (.string xb)/\w'.cell? (g,a*6)=some (I ya)/\w'.cell? (g,a*6+1)=some (I yk)/\w'.cell? (g,a*6+2)=some (I ys)/\w'.cell? (g,a*6+3)=some (I yy)/\w'.cell? (g,a*6+4)=some (I yq)/\w'.cell? (g,a*6+5)=some (.string yb)) (first|with_reducible exact S.o|exact Z.o _ G) (first|(go_at_call 127;refine(u.o _).mono ?_;rintro e w3 ⟨rfl,t⟩;have⟨S,T⟩:=Q2 (Z.o _ ((QqA wr.heap.size wr).drew.trans t)) (L.o.trans (((QqA wr.heap.size wr).drew.trans t).mono L.o.size));clear t))
    go_wp2_with fail
    go_roundw
    case rel=>exact⟨d+1,j,O,O,hj,by go_num,rfl,.inr an.o,HR.o,T.o⟩
    case measure=>simp[intOf];omega
   ·have ao:Hid (newer (atF l a) (atF l d)):=by show newer _ _;rw[K,Y];exact M.o af
    clear K Y;go_wp2_with fail
    obtain⟨xa,xk,xs,xy,xq,xb⟩:=x;obtain⟨ya,yk,ys,yy,yq,yb⟩:=y;simp only at Z u;clear M N;go_region_held3 (λw'=>w'.cell? (g,d*6)=some (I xa)/\w'.cell? (g,d*6+1)=some (I xk)/\w'.cell? (g,d*6+2)=some (I xs)/\w'.cell? (g,d*6+3)=some (I xy)/\w'.cell? (g,d*6+4)=some (I xq)/\w'.cell? (g,d*6+5)=some (.string xb)/\w'.cell? (g,a*6)=some (I ya)/\w'.cell? (g,a*6+1)=some (I yk)/\w'.cell? (g,a*6+2)=some (I ys)/\w'.cell? (g,a*6+3)=some (I yy)/\w'.cell? (g,a*6+4)=some (I yq)/\w'.cell? (g,a*6+5)=some (.string yb)) (first|with_reducible exact S.o|exact Z.o _ G) (first|(go_at_call 127;refine(u.o _).mono ?_;rintro e w3 ⟨rfl,t⟩;have⟨S,T⟩:=Q2 (Z.o _ ((QqA wr.heap.size wr).drew.trans t)) (L.o.trans (((QqA wr.heap.size wr).drew.trans t).mono L.o.size));clear t))
    go_wp2_with fail
    go_roundw
    case rel=>exact⟨i,d,hi,am,O,rfl,rfl,HL.o,.inr ao.o,T.o⟩
    case measure=>simp[intOf];omega
  ·obtain rfl:i=j:=O;go_wp2_with fail
   obtain⟨wo,ap⟩:∃wo,wo=wr:=⟨_,rfl⟩;have⟨aq,ar⟩:=Q2 (H.o.below L.o) (L.o.mono hB);subst ap;clear L;go_loopw [13] (λV wr=>∃(k:Nat) (W:List Fnd),a<=k/\k<=i-1/\V= I k/\Hid (Up a k l W)/\Hid (Sg a b l W)/\Hid (RowF wr B (some (g,0)) n c W)/\Hid (Below B w wr)) (λV _=>i-(intOf V).toNat)
   case atStart=>exact⟨a,l,QqB _,O,rfl,Up.zero _ _,Sg.refl _ _ _,aq.o,ar.o⟩
   case round=>
    obtain⟨k,W,au,aR,rfl,HU,HS,F,ag⟩:=hrel;have aS:(a:Int)<=k:=O;by_cases aT:k<i-1
    ·have ah:(k:Int)<(i:Int)-1:=O;obtain⟨g',e,_,_,_,f,ae⟩:=F.o.open_ O;injection e with e;injection e with e;subst e;obtain⟨x,K⟩:=Zx (atF W k);obtain⟨z,hz⟩:=Zx (atF W (k+1));have X:=Q7h (F.o.swap ak (i:=k) (j:=k+1) O O K hz);obtain⟨a0,a1,a2,a3,a4,a5⟩:=f k O;obtain⟨b0,b1,b2,b3,b4,b5⟩:=f (k+1) O;rw[K]at a0 a1 a2 a3 a4 a5;rw[hz]at b0 b1 b2 b3 b4 b5;have av:=Q7h (HU.o.step au (by rw[F.o.1];omega));have aw:=Q7h (HS.o.trans (Sg.swap (a:=a) (b:=b) (i:=k) (j:=k+1) O O O O (by rw[F.o.1];omega)));obtain⟨xa,xk,xs,xy,xq,xb⟩:=x;obtain⟨za,zk,zs,zy,zq,zb⟩:=z;simp only at a0 a1 a2 a3 a4 a5 b0 b1 b2 b3 b4 b5 X;clear f K hz;go_wp2_with fail
     go_region
     go_wp2_with fail
     go_roundw
     case rel=>exact⟨k+1,_,O,O,by go_num,av.o,aw.o,X.o.1,ag.o.trans X.o.2⟩
     case measure=>simp[intOf];omega
    ·obtain rfl:k=i-1:=O;have ah:¬((i-1:Nat):Int)<(i:Int)-1:=O;have HF:=Q7h (Up.sorted (by rw[hm];exact ad.o) O hj (by rw[hm];exact HL.o) HR.o HU.o);go_wp2_with fail
     refine QqG (results_none rfl _ _ _) rfl ?_;exact⟨rfl,W,HS.o,HF.o,F.o,ag.o⟩
theorem Ql9(l:List Fnd)(A:Option Addr)(n c:Nat)(a m:Nat)(w:World)(B:Nat)(h:RowF w B A n c l)(hB:B<=w.heap.size)(aa:Okl l)(aL:a+1<m)(hb:m+1<=n)(hn:n<=100000)(ab:Srt a m l):
  C 244 #[.slice A n c,I a,I m,I ((m+1:Nat):Int),X3] w λe w'=>e= .returned (.tuple #[])/\∃l',Sg a (m+1) l l'/\Srt a (m+1) l'/\RowF w' B A n c l'/\Below B w w':=by
 have⟨H,ac,af,ag⟩:=Q4 h aa Dz ab;obtain⟨b,hm⟩:=Zx (m+1);rw[hm]at hb ⊢;have aw:¬(m:Int)-(a:Int)=1:=O;have ax:((m:Int)-(a:Int)==1)=false:=by simp;omega
 have ay:(b:Int)-(m:Int)=1:=O;have aM:(m:Int)<n:=O;unfold X3;clear h aa ab;obtain⟨g,rfl,ah,hg,hc,f,ad⟩:=H.o.open_ O;obtain⟨x,hx⟩:=Zx (atF l m);have F:=f m O;rw[hx]at F;have ai:=Q7h F;clear f F ad;go_in
 go_wp2_with fail
 go_loopw [14,15,16] (λT V _ wr=>∃(i j:Nat),a<=i/\i<=j/\j<=m/\T= I i/\V= I j/\Hid (i=a\/newer (atF l (i-1)) (atF l m))/\Hid (j=m\/newer (atF l m) (atF l j))/\Hid (Below w w wr)) (λT V _ _=>(intOf V).toNat-(intOf T).toNat)
 case atStart=>exact⟨a,m,QqB _,O,QqB _,rfl,rfl,.inl rfl,.inl rfl,QqA _ _⟩
 case round=>
  obtain⟨i,j,hi,aN,hj,rfl,rfl,HL,HR,M⟩:=hrel;have az:(i:Int)<=j:=O;have aQ:(j:Int)<=m:=O;by_cases aR:i<j
  ·have aF:(i:Int)<(j:Int):=O;obtain⟨d,hd⟩:=Zx ((i+j)/2);have aj:i<=d:=O;have aS:d<j:=O;have aT:((i:Int)+(j:Int))/2=(d:Int):=O;have aV:(d:Int)<(n:Int):=O;obtain⟨y,hy⟩:=Zx (atF l d);have q:FCells wr g d y:=by
    obtain⟨g',e,_,_,_,f,_⟩:=H.o.open_ O;injection e with e;injection e with e;subst e;rw[<-hy];exact(f d O).below M.o
   have s:=ai.o.below M.o;have v:Hid (∀wq,C 127 #[Aj x,Aj y] wq λe w'=>e= .returned (I (Ci x y))/\Below wq wq w'):=λwq=>af.o x y wq (by rw[<-hx];exact ac.o.at_ (by rw[H.o.1];omega)) (by rw[<-hy];exact ac.o.at_ (by rw[H.o.1];omega));have⟨N,Q⟩:=Q2 (@Tk x y) (@Tz x y);obtain⟨r,hr⟩:=Zx (Ci x y);rw[hr]at v N Q;unfold Aj at v;have HK:Hid (∀w',Below wr wr w'->w'.cell? (g,m*6)=some (I x.at_)/\w'.cell? (g,m*6+1)=some (I x.p.kind)/\w'.cell? (g,m*6+2)=some (I x.p.space)/\w'.cell? (g,m*6+3)=some (I x.p.key)/\w'.cell? (g,m*6+4)=some (I x.p.seq)/\w'.cell? (g,m*6+5)=some (.string x.p.body)/\w'.cell? (g,d*6)=some (I y.at_)/\w'.cell? (g,d*6+1)=some (I y.p.kind)/\w'.cell? (g,d*6+2)=some (I y.p.space)/\w'.cell? (g,d*6+3)=some (I y.p.key)/\w'.cell? (g,d*6+4)=some (I y.p.seq)/\w'.cell? (g,d*6+5)=some (.string y.p.body)):=λw' hb=>⟨Qq hb s.c0,Qq hb s.c1,Qq hb s.c2,Qq hb s.c3,Qq hb s.c4,Qq hb s.c5,Qq hb q.c0,Qq hb q.c1,Qq hb q.c2,Qq hb q.c3,Qq hb q.c4,Qq hb q.c5⟩;clear s q hr;by_cases R:r<0
   ·have ak:=QxA R;have al:Hid (newer (atF l m) (atF l d)):=by show newer _ _;rw[hx,hy];exact Q.o R
    clear hx hy;go_wp2_with fail
    obtain⟨xa,xk,xs,xy,xq,xb⟩:=x;obtain⟨ya,yk,ys,yy,yq,yb⟩:=y;simp only at HK v;clear N Q;go_region_held3 (λw'=>w'.cell? (g,m*6)=some (I xa)/\w'.cell? (g,m*6+1)=some (I xk)/\w'.cell? (g,m*6+2)=some (I xs)/\w'.cell? (g,m*6+3)=some (I xy)/\w'.cell? (g,m*6+4)=some (I xq)/\w'.cell? (g,m*6+5)=some (.string xb)/\w'.cell? (g,d*6)=some (I ya)/\w'.cell? (g,d*6+1)=some (I yk)/\w'.cell? (g,d*6+2)=some (I ys)/\w'.cell? (g,d*6+3)=some (I yy)/\w'.cell? (g,d*6+4)=some (I yq)/\w'.cell? (g,d*6+5)=some (.string yb)) (first|with_reducible exact W.o|exact HK.o _ G) (first|(go_at_call 127;refine(v.o _).mono ?_;rintro e w3 ⟨rfl,t⟩;have⟨W,X⟩:=Q2 (HK.o _ ((QqA wr.heap.size wr).drew.trans t)) (M.o.trans (((QqA wr.heap.size wr).drew.trans t).mono M.o.size));clear t))
    go_wp2_with fail
    go_roundw
    case rel=>exact⟨i,d,hi,aj,O,rfl,rfl,HL.o,.inr al.o,X.o⟩
    case measure=>simp[intOf];omega
   ·have ak:=QyF R;have am:Hid (newer (atF l (d+1-1)) (atF l m)):=by show newer _ _;rw[Nat.add_sub_cancel,hx,hy];exact N.o R
    clear hx hy;go_wp2_with fail
    obtain⟨xa,xk,xs,xy,xq,xb⟩:=x;obtain⟨ya,yk,ys,yy,yq,yb⟩:=y;simp only at HK v;clear N Q;go_region_held3 (λw'=>w'.cell? (g,m*6)=some (I xa)/\w'.cell? (g,m*6+1)=some (I xk)/\w'.cell? (g,m*6+2)=some (I xs)/\w'.cell? (g,m*6+3)=some (I xy)/\w'.cell? (g,m*6+4)=some (I xq)/\w'.cell? (g,m*6+5)=some (.string xb)/\w'.cell? (g,d*6)=some (I ya)/\w'.cell? (g,d*6+1)=some (I yk)/\w'.cell? (g,d*6+2)=some (I ys)/\w'.cell? (g,d*6+3)=some (I yy)/\w'.cell? (g,d*6+4)=some (I yq)/\w'.cell? (g,d*6+5)=some (.string yb)) (first|with_reducible exact W.o|exact HK.o _ G) (first|(go_at_call 127;refine(v.o _).mono ?_;rintro e w3 ⟨rfl,t⟩;have⟨W,X⟩:=Q2 (HK.o _ ((QqA wr.heap.size wr).drew.trans t)) (M.o.trans (((QqA wr.heap.size wr).drew.trans t).mono M.o.size));clear t))
    go_wp2_with fail
    go_roundw
    case rel=>exact⟨d+1,j,O,O,hj,by go_num,rfl,.inr am.o,HR.o,X.o⟩
    case measure=>simp[intOf];omega
  ·obtain rfl:i=j:=O;go_wp2_with fail
   obtain⟨wo,an⟩:∃wo,wo=wr:=⟨_,rfl⟩;have⟨ao,ap⟩:=Q2 (H.o.below M.o) (M.o.mono hB);subst an;clear M;go_loopw [17] (λY wr=>∃(k:Nat) (S:List Fnd),i<=k/\k<=m/\Y= I k/\Hid (Dn m k l S)/\Hid (Sg a b l S)/\Hid (RowF wr B (some (g,0)) n c S)/\Hid (Below B w wr)) (λY _=>(intOf Y).toNat)
   case atStart=>exact⟨m,l,O,QqB _,rfl,Dn.zero _ _,Sg.refl _ _ _,ao.o,ap.o⟩
   case round=>
    obtain⟨k,S,aW,aq,rfl,HU,HS,K,ae⟩:=hrel;have aX:(i:Int)<=k:=O;by_cases aY:i<k
    ·have aH:(i:Int)<(k:Int):=O;obtain⟨L,ar⟩:=Zx (k-1);have aZ:IntKind.i64.wrap (L:Int)=(L:Int):=by rw[QqN];omega
     have aA:(k:Int)-1=(L:Int):=O;have aB:(k:Int)<n:=O;have aK:(L:Int)<n:=O;obtain⟨g',e,_,_,_,f,ad⟩:=K.o.open_ O;injection e with e;injection e with e;subst e;obtain⟨u,hu⟩:=Zx (atF S k);obtain⟨z,hz⟩:=Zx (atF S L);have Z:=Q7h (K.o.swap ah (i:=k) (j:=L) O O hu hz);obtain⟨a0,a1,a2,a3,a4,a5⟩:=f k O;obtain⟨b0,b1,b2,b3,b4,b5⟩:=f L O;rw[hu]at a0 a1 a2 a3 a4 a5;rw[hz]at b0 b1 b2 b3 b4 b5;have au:Hid (Dn m L l (swp S k L)):=by show Dn _ _ _ _;rw[<-ar];exact HU.o.step O aq (by rw[K.o.1];omega)
     have av:=Q7h (HS.o.trans (Sg.swap (a:=a) (b:=b) (i:=k) (j:=L) O O O O (by rw[K.o.1];omega)));obtain⟨ua,uk,us,uy,uq,ub⟩:=u;obtain⟨za,zk,zs,zy,zq,zb⟩:=z;simp only at a0 a1 a2 a3 a4 a5 b0 b1 b2 b3 b4 b5 Z;clear f hu hz;go_wp2_with fail
     go_region
     go_wp2_with fail
     go_roundw
     case rel=>exact⟨L,_,O,O,by go_num,au.o,av.o,Z.o.1,ae.o.trans Z.o.2⟩
     case measure=>simp[intOf];omega
    ·obtain rfl:i=k:=O;have HF:Hid (Srt a b S):=by show Srt _ _ _;rw[<-hm];exact Dn.sorted ag.o hi hj HL.o HR.o HU.o
     go_wp2_with fail
     refine QqG (results_none rfl _ _ _) rfl ?_;exact⟨rfl,S,HS.o,HF.o,K.o,ae.o⟩
theorem Rot.same{a m b:Nat}(l:List Fnd)(ha:a<=m)(hb:m<=b)(h:a=m\/m=b):Rot a m b l l:=by
 intro q;rcases h with h|h
 ·subst h;by_cases c1:a<=q/\q<a+(b-a)
  ·rw[QqH c1];congr 1;omega
  ·rw[QqE c1,QqE O]
 ·subst h;rw[QqE O];by_cases c1:a+(m-m)<=q/\q<m
  ·rw[QqH c1];congr 1;omega
  ·rw[QqE c1]
def Sea(a m b mid s0 r0:Nat):Prop:=a<=s0/\s0<=r0/\r0<=m/\r0<=mid/\mid+m<=b+s0/\(s0=a\/mid+m-s0=b)/\(r0=m\/mid+m-r0=m)
def Q07(n c:Nat)(A:Option Addr)(B k:Nat):Prop:=∀(l:List Fnd) (a m b:Nat) (w:World),b-a<=k->RowF w B A n c l->B<=w.heap.size->Okl l->a<m->m<b->b<=n->Srt a m l->Srt m b l->
 C 244 #[.slice A n c,I a,I m,I b,X3] w λe w'=>e= .returned (.tuple #[])/\∃l',Sg a b l l'/\Srt a b l'/\RowF w' B A n c l'/\Below B w w'
theorem Qe8(l:List Fnd)(A:Option Addr)(n c k:Nat)(a m b:Nat)(w:World)(B:Nat)(hih:Q07 n c A B k)(h:RowF w B A n c l)(hB:B<=w.heap.size)(hok:Okl l)(hk:b-a<=k+1)(ham:a+1<m)(hmb1:m+1<b)(hb:b<=n)(hn:n<=100000)(hsl:Srt a m l)(hsr:Srt m b l):
  C 244 #[.slice A n c,I a,I m,I b,X3] w λe w'=>e= .returned (.tuple #[])/\∃l',Sg a b l l'/\Srt a b l'/\RowF w' B A n c l'/\Below B w w':=by
 have H:=Q7h h;have HOK:=Q7h hok;have HCM:=Q7h Dz;have HSL:=Q7h hsl;have HSR:=Q7h hsr;have HIH:=Q7h hih;have HROT:=Q7h (λ(l':List Fnd) (x y z:Nat) (wq:World) (hr:RowF wq B A n c l') (hbb:Below B w wq) (h1:x<y) (h2:y<z) (h3:z<=n)=>Qdy l' A n c x y z wq B hr (QqR hB hbb.size) h1 h2 h3 hn);have hma2:¬(m:Int)-(a:Int)=1:=O;have hmab:((m:Int)-(a:Int)==1)=false:=by simp;omega
 have hmbb:((b:Int)-(m:Int)==1)=false:=by simp;omega
 obtain⟨mid,hmid⟩:=Zx ((a+b)/2);have hmm:((a:Int)+(b:Int))/2=(mid:Int):=O;have hmi:(mid:Int)<b:=O;obtain⟨N,hN⟩:=Zx (mid+m);have hNi:(mid:Int)+(m:Int)=(N:Int):=O;unfold X3 at HROT ⊢;unfold Q07 X3 at HIH;clear h hok hsl hsr hih;obtain⟨g,rfl,hBg,hg,hc,hcs,hfz⟩:=H.o.open_ O;clear hcs hfz;go_in
 go_upto_if 140 with fail
 go_cut [20,21]from 138 to 146 (λs r wx=>∃s0 r0:Nat,s= I s0/\r= I r0/\Hid (Sea a m b mid s0 r0)/\w=wx)
 case first=>
  by_cases hx:mid<m
  ·have HE:Hid (Sea a m b mid (N-b) mid):=by show Sea _ _ _ _ _ _;unfold Sea;omega
   have hge:(N:Int)-(b:Int)=((N-b:Nat):Int):=O;go_wp2_with fail
   go_meet
   exact⟨N-b,mid,by go_num,rfl,HE.o,rfl⟩
  ·have HE:Hid (Sea a m b mid a m):=by show Sea _ _ _ _ _ _;unfold Sea;omega
   go_wp2_with fail
   go_meet
   exact⟨a,m,rfl,rfl,HE.o,rfl⟩
 case rest=>
  obtain⟨s0,r0,rfl,rfl,HSEA,rfl⟩:=hcut;have hN1:1<=(N:Int):=O;obtain⟨P,hP⟩:=Zx (N-1);have hPi:(N:Int)-1=(P:Int):=O;have hPw:IntKind.i64.wrap (P:Int)=(P:Int):=by rw[QqN];omega
  go_wp2_with fail
  go_loopw [20,21,23] (λs20 s21 _ wr=>∃(i j:Nat),s0<=i/\i<=j/\j<=r0/\s20= I i/\s21= I j/\Hid (i=s0\/newer (atF l (i-1)) (atF l (N-i)))/\Hid (j=r0\/newer (atF l (P-j)) (atF l j))/\Hid (Below w w wr)) (λs20 s21 _ _=>(intOf s21).toNat-(intOf s20).toNat)
  case atStart=>exact⟨s0,r0,QqB _,HSEA.o.2.1,QqB _,rfl,rfl,.inl rfl,.inl rfl,QqA _ _⟩
  case round=>
   obtain⟨i,j,hi,hij,hj,rfl,rfl,HL,HR,HB⟩:=hrel;have hsea:=HSEA.o;unfold Sea at hsea;have hmi1:(a:Int)<=i:=O;have hiji:(i:Int)<=j:=O;have hji:(j:Int)<=m:=O;by_cases hlt:i<j
   ·have hlti:(i:Int)<(j:Int):=O;obtain⟨d,hd⟩:=Zx ((i+j)/2);have hd1:i<=d:=O;have hd2:d<j:=O;have hdd:((i:Int)+(j:Int))/2=(d:Int):=O;have hdn:(d:Int)<(n:Int):=O;obtain⟨q,hq⟩:=Zx (P-d);have hqi:(P:Int)-(d:Int)=(q:Int):=O;have hqn:(q:Int)<(n:Int):=O;have hqw:IntKind.i64.wrap (q:Int)=(q:Int):=by rw[QqN];omega
    obtain⟨x,hx⟩:=Zx (atF l q);obtain⟨y,hy⟩:=Zx (atF l d);obtain⟨hcx,hcy⟩:FCells wr g q x/\FCells wr g d y:=by
     obtain⟨g',e,_,_,_,hcs,_⟩:=H.o.open_ O;injection e with e;injection e with e;subst e;rw[<-hy,<-hx];exact⟨(hcs q O).below HB.o,(hcs d O).below HB.o⟩
    have HCL:Hid (∀wq,C 127 #[Aj x,Aj y] wq λe w'=>e= .returned (I (Ci x y))/\Below wq wq w'):=λwq=>HCM.o x y wq (by rw[<-hx];exact HOK.o.at_ (by rw[H.o.1];omega)) (by rw[<-hy];exact HOK.o.at_ (by rw[H.o.1];omega));have HGE:=Q7h (@Tk x y);have HNE:=Q7h (@Tz x y);clear hsea;obtain⟨r,hr⟩:=Zx (Ci x y);rw[hr]at HCL HGE HNE;unfold Aj at HCL;have HK:Hid (∀w',Below wr wr w'->w'.cell? (g,q*6)=some (I x.at_)/\w'.cell? (g,q*6+1)=some (I x.p.kind)/\w'.cell? (g,q*6+2)=some (I x.p.space)/\w'.cell? (g,q*6+3)=some (I x.p.key)/\w'.cell? (g,q*6+4)=some (I x.p.seq)/\w'.cell? (g,q*6+5)=some (.string x.p.body)/\w'.cell? (g,d*6)=some (I y.at_)/\w'.cell? (g,d*6+1)=some (I y.p.kind)/\w'.cell? (g,d*6+2)=some (I y.p.space)/\w'.cell? (g,d*6+3)=some (I y.p.key)/\w'.cell? (g,d*6+4)=some (I y.p.seq)/\w'.cell? (g,d*6+5)=some (.string y.p.body)):=λw' hb=>⟨Qq hb hcx.c0,Qq hb hcx.c1,Qq hb hcx.c2,Qq hb hcx.c3,Qq hb hcx.c4,Qq hb hcx.c5,Qq hb hcy.c0,Qq hb hcy.c1,Qq hb hcy.c2,Qq hb hcy.c3,Qq hb hcy.c4,Qq hb hcy.c5⟩;clear hcx hcy hr;by_cases hr0:r<0
    ·have hrb:=QxA hr0;have HR2:Hid (newer (atF l (P-d)) (atF l d)):=by show newer _ _;rw[hq,hx,hy];exact HNE.o hr0
     clear hx hy;go_wp2_with fail
     obtain⟨xa,xk,xs,xy,xq,xb⟩:=x;obtain⟨ya,yk,ys,yy,yq,yb⟩:=y;simp only at HK HCL;clear HGE HNE;go_region_held3 (λw'=>w'.cell? (g,q*6)=some (I xa)/\w'.cell? (g,q*6+1)=some (I xk)/\w'.cell? (g,q*6+2)=some (I xs)/\w'.cell? (g,q*6+3)=some (I xy)/\w'.cell? (g,q*6+4)=some (I xq)/\w'.cell? (g,q*6+5)=some (.string xb)/\w'.cell? (g,d*6)=some (I ya)/\w'.cell? (g,d*6+1)=some (I yk)/\w'.cell? (g,d*6+2)=some (I ys)/\w'.cell? (g,d*6+3)=some (I yy)/\w'.cell? (g,d*6+4)=some (I yq)/\w'.cell? (g,d*6+5)=some (.string yb)) (first|with_reducible exact HW3.o|exact HK.o _ G) (first|(go_at_call 127;refine(HCL.o _).mono ?_;rintro e w3 ⟨rfl,hb3⟩;have HW3:=Q7h (HK.o _ ((QqA wr.heap.size wr).drew.trans hb3));have HB3:=Q7h (HB.o.trans (((QqA wr.heap.size wr).drew.trans hb3).mono HB.o.size));clear hb3))
     go_wp2_with fail
     go_roundw
     case rel=>exact⟨i,d,hi,hd1,O,rfl,rfl,HL.o,.inr HR2.o,HB3.o⟩
     case measure=>simp[intOf];omega
    ·have hrb:=QyF hr0;have HL2:Hid (newer (atF l (d+1-1)) (atF l (N-(d+1)))):=by show newer _ _;rw[Nat.add_sub_cancel,show N-(d+1)=q by omega,hx,hy];exact HGE.o hr0
     clear hx hy;go_wp2_with fail
     obtain⟨xa,xk,xs,xy,xq,xb⟩:=x;obtain⟨ya,yk,ys,yy,yq,yb⟩:=y;simp only at HK HCL;clear HGE HNE;go_region_held3 (λw'=>w'.cell? (g,q*6)=some (I xa)/\w'.cell? (g,q*6+1)=some (I xk)/\w'.cell? (g,q*6+2)=some (I xs)/\w'.cell? (g,q*6+3)=some (I xy)/\w'.cell? (g,q*6+4)=some (I xq)/\w'.cell? (g,q*6+5)=some (.string xb)/\w'.cell? (g,d*6)=some (I ya)/\w'.cell? (g,d*6+1)=some (I yk)/\w'.cell? (g,d*6+2)=some (I ys)/\w'.cell? (g,d*6+3)=some (I yy)/\w'.cell? (g,d*6+4)=some (I yq)/\w'.cell? (g,d*6+5)=some (.string yb)) (first|with_reducible exact HW3.o|exact HK.o _ G) (first|(go_at_call 127;refine(HCL.o _).mono ?_;rintro e w3 ⟨rfl,hb3⟩;have HW3:=Q7h (HK.o _ ((QqA wr.heap.size wr).drew.trans hb3));have HB3:=Q7h (HB.o.trans (((QqA wr.heap.size wr).drew.trans hb3).mono HB.o.size));clear hb3))
     go_wp2_with fail
     go_roundw
     case rel=>exact⟨d+1,j,O,O,hj,by go_num,rfl,.inr HL2.o,HR.o,HB3.o⟩
     case measure=>simp[intOf];omega
   ·obtain rfl:i=j:=O;obtain⟨e,he⟩:=Zx (N-i);have hei:(N:Int)-(i:Int)=(e:Int):=O;have hew:IntKind.i64.wrap (e:Int)=(e:Int):=by rw[QqN];omega
    have hme:m<=e:=O;have heb:e<=b:=O;have HMD:Hid (mid=i+(e-m)):=by show _=_;omega
    have H1:Hid (a<i->e<b->newer (atF l (i-1)) (atF l e)):=by
     show _->_->_;intro p1 p2;rcases HL.o with h|h
     ·omega
     ·rw[he]at h;exact h
    have H2:Hid (i<m->m<e->newer (atF l (e-1)) (atF l i)):=by
     show _->_->_;intro p1 p2;rcases HR.o with h|h
     ·omega
     ·rw[show P-i=e-1 by omega]at h;exact h
    have hai:a<=i:=O;have him:i<=m:=O;have hBe:=HB.o.mono hB;have HRe:=Q7h (H.o.below HB.o);have HBe:=Q7h hBe;clear HL HR hsea HB hBe;go_upto_region 39 with fail
    obtain⟨wo,hwo⟩:∃wo,wo=wr:=⟨_,rfl⟩;subst hwo;go_cut [185]from 178 to 184 (λv wx=>∃t:Bool,v= .bool t/\Hid (t=true↔i<m/\m<e)/\wo=wx)
    case first=>
     by_cases h1:i<m
     ·have h1i:(i:Int)<(m:Int):=O;by_cases h2:m<e
      ·have h2i:(m:Int)<(e:Int):=O;go_wp2_with fail
       go_meet
       exact⟨true,rfl,⟨λ_=>⟨h1,h2⟩,λ_=>rfl⟩,rfl⟩
      ·have h2i:¬(m:Int)<(e:Int):=O;go_wp2_with fail
       go_meet
       exact⟨false,rfl,⟨λh=>by simp at h,λh=>absurd h.2 h2⟩,rfl⟩
     ·have h1i:¬(i:Int)<(m:Int):=O;go_wp2_with fail
      go_meet
      exact⟨false,rfl,⟨λh=>by simp at h,λh=>absurd h.1 h1⟩,rfl⟩
    case rest=>
    obtain⟨tA,rfl,HTA,rfl⟩:=hcut;go_upto_if 185 with fail
    go_cut []from 186 to 191 (λwx=>∃l1,Hid (Rot i m e l l1)/\Hid (Sg i e l l1)/\Hid (RowF wx B (some (g,0)) n c l1)/\Hid (Below B w wx))
    case first=>
     cases tA
     ·have HT:Hid (Rot i m e l l):=Rot.same l him hme (by
       by_cases h1:i<m
       ·have:¬m<e:=λh=>by simpa using HTA.o.2 ⟨h1,h⟩
        omega
       ·omega)
      go_wp2_with fail
      go_meet
      exact⟨l,HT.o,Sg.refl _ _ _,HRe.o,HBe.o⟩
     ·obtain⟨h1,h2⟩:=HTA.o.1 rfl;have HC:=Q7h (HROT.o l i m e wo HRe.o HBe.o h1 h2 O);go_wp2_with fail
      with_reducible refine HC.o.mono ?_
      rintro e w1 ⟨rfl,l1,hx,hs,hr,hb2⟩;have HX1:=Q7h hx;have HS1:=Q7h hs;have HR1:=Q7h hr;have HB1:=Q7h (HBe.o.trans hb2);clear hx hs hr hb2;go_wp2_with fail
      go_meet
      exact⟨l1,HX1.o,HS1.o,HR1.o,HB1.o⟩
    case rest=>
    obtain⟨l1,HX1,HS1,HR1,HB1⟩:=hcut;clear HRe HBe HTA;have HCR:=Q7h (cross HSL.o HSR.o hai him hme heb HMD.o H1.o H2.o HX1.o);have HPT:=Q7h (Rot.left HSL.o HSR.o hai him hme heb HMD.o HX1.o);have HS1m:=Q7h (HS1.o.mono hai heb);have HOK1:=Q7h (HOK.o.sg HS1.o);have hsz:=QqR hB HB1.o.size;have hdi:i<=mid:=by have:=HMD.o;omega
    obtain⟨wd,hwd⟩:∃wd,wd=wc:=⟨_,rfl⟩;subst hwd;go_upto_region 41 with fail
    go_cut [199]from 192 to 198 (λv wx=>∃t:Bool,v= .bool t/\Hid (t=true↔a<i/\i<mid)/\wd=wx)
    case first=>
     by_cases h1:a<i
     ·have h1i:(a:Int)<(i:Int):=O;by_cases h2:i<mid
      ·have h2i:(i:Int)<(mid:Int):=O;go_wp2_with fail
       go_meet
       exact⟨true,rfl,⟨λ_=>⟨h1,h2⟩,λ_=>rfl⟩,rfl⟩
      ·have h2i:¬(i:Int)<(mid:Int):=O;go_wp2_with fail
       go_meet
       exact⟨false,rfl,⟨λh=>by simp at h,λh=>absurd h.2 h2⟩,rfl⟩
     ·have h1i:¬(a:Int)<(i:Int):=O;go_wp2_with fail
      go_meet
      exact⟨false,rfl,⟨λh=>by simp at h,λh=>absurd h.1 h1⟩,rfl⟩
    case rest=>
    obtain⟨tB,rfl,HTB,rfl⟩:=hcut;go_upto_if 199 with fail
    go_cut []from 200 to 205 (λwx=>∃l2,Hid (Sg a mid l1 l2)/\Hid (Srt a mid l2)/\Hid (RowF wx B (some (g,0)) n c l2)/\Hid (Below B w wx))
    case first=>
     cases tB
     ·have HT:Hid (Srt a mid l1):=by
       show Srt _ _ _;by_cases h1:a<i
       ·have h2:¬i<mid:=λh=>by simpa using HTB.o.2 ⟨h1,h⟩
        rw[show mid=i by omega];exact HPT.o.1
       ·rw[show a=i by omega];exact HPT.o.2.1
      go_wp2_with fail
      go_meet
      exact⟨l1,Sg.refl _ _ _,HT.o,HR1.o,HB1.o⟩
     ·obtain⟨h1,h2⟩:=HTB.o.1 rfl;have HC:=Q7h (HIH.o l1 a i mid wd O HR1.o hsz HOK1.o h1 h2 O HPT.o.1 HPT.o.2.1);go_wp2_with fail
      with_reducible refine HC.o.mono ?_
      rintro e w1 ⟨rfl,l2,hs,ht,hr,hb2⟩;have HS2:=Q7h hs;have HT2:=Q7h ht;have HR2:=Q7h hr;have HB2:=Q7h (HB1.o.trans hb2);clear ht hs hr hb2;go_wp2_with fail
      go_meet
      exact⟨l2,HS2.o,HT2.o,HR2.o,HB2.o⟩
    case rest=>
    obtain ⟨l2,HS2,HT2,HR2,HB2⟩:=hcut
    clear HR1 HB1 HTB hsz
    have HOK2:=Q7h (HOK1.out.sg HS2.out)
    have HM2:Hid (Srt mid e l2∧Srt e b l2):=⟨HPT.out.2.2.1.keep fun x h1 h2=>HS2.out.out x (.inr h1),HPT.out.2.2.2.keep fun x h1 h2=>HS2.out.out x (.inr (by omega))⟩
    have hsz:B≤wc.heap.size:=Nat.le_trans hB HB2.out.size
    obtain ⟨we,hwe⟩:∃we,we=wc:=⟨_,rfl⟩
    subst hwe
    go_upto_region 43 with fail
    go_cut [213]from 206 to 212 (λv wx=>∃t:Bool,v= .bool t/\Hid (t=true↔mid<e/\e<b)/\we=wx)
    case first=>
     by_cases h1:mid<e
     ·have h1i:(mid:Int)<(e:Int):=O;by_cases h2:e<b
      ·have h2i:(e:Int)<(b:Int):=O;go_wp2_with fail
       go_meet
       exact⟨true,rfl,⟨λ_=>⟨h1,h2⟩,λ_=>rfl⟩,rfl⟩
      ·have h2i:¬(e:Int)<(b:Int):=O;go_wp2_with fail
       go_meet
       exact⟨false,rfl,⟨λh=>by simp at h,λh=>absurd h.2 h2⟩,rfl⟩
     ·have h1i:¬(mid:Int)<(e:Int):=O;go_wp2_with fail
      go_meet
      exact⟨false,rfl,⟨λh=>by simp at h,λh=>absurd h.1 h1⟩,rfl⟩
    case rest=>
    obtain⟨tC,rfl,HTC,rfl⟩:=hcut;cases tC
    ·have HT:Hid (Srt a b l2):=Qdh HCR.o HS2.o HT2.o (Sg.refl _ _ _) (by
      by_cases h1:mid<e
      ·have h2:¬e<b:=λh=>by simpa using HTC.o.2 ⟨h1,h⟩
       rw[show b=e by omega];exact HM2.o.1
      ·rw[show mid=e by omega];exact HM2.o.2)
     have HS:=Q7h (HS1m.o.trans (HS2.o.mono N0 O));go_wp2_with fail
     go_end0
     exact⟨rfl,l2,HS.o,HT.o,HR2.o,HB2.o⟩
    ·obtain⟨h1,h2⟩:=HTC.o.1 rfl;have HC:=Q7h (HIH.o l2 mid e b we O HR2.o hsz HOK2.o h1 h2 hb HM2.o.1 HM2.o.2);go_wp2_with fail
     with_reducible refine HC.o.mono ?_
     rintro e w1 ⟨rfl,l3,hs,ht,hr,hb2⟩;have HS:=Q7h (HS1m.o.trans ((HS2.o.mono N0 O).trans (hs.mono O N0)));have HT:=Q7h (Qdh HCR.o HS2.o HT2.o hs ht);have HR3:=Q7h hr;have HB3:=Q7h (HB2.o.trans hb2);clear ht hs hr hb2;go_wp2_with fail
     go_end0
     exact⟨rfl,l3,HS.o,HT.o,HR3.o,HB3.o⟩
theorem Qa9(A:Option Addr)(n c B:Nat)(i:n<=100000):∀k,Q07 n c A B k
 |0=>λl a m b w p _ _ _ j e _ _ _=>O
 |k+1=>λl a m b w p h o d j e hb f g=>by
  by_cases h1:m=a+1
  ·subst h1;exact Qmq l A n c a b w B h o d e hb i g
  ·by_cases h2:b=m+1
   ·subst h2;exact Ql9 l A n c a m w B h o d O hb i f
   ·exact Qe8 l A n c k a m b w B (Qa9 A n c B i k) h o d p O O hb i f g
def Bk(z lo hi n:Nat)(l:List Fnd):Prop:=∀x,z ∣ x->lo<=x->x<hi->Srt x (min (x+z) n) l
theorem Qgr{d x a:Nat}(h1:d ∣ x)(h2:d ∣ a)(h:x<a):x+d<=a:=by
 have:=Nat.le_of_dvd O (Nat.dvd_sub h2 h1);omega
theorem Bk.more{z a e n:Nat}{l l':List Fnd}(h:Bk z 0 a n l)(f:z ∣ a)(j:Sg a e l l')(b:Srt a e l')(k:e=min (a+z) n):Bk z 0 (a+z) n l':=by
 intro x g _ m;by_cases c:x<a
 ·have:=Qgr g f c;exact(h x g O c).keep λi h1 h2=>j.out i (.inl O)
 ·obtain rfl:x=a:=by
   have h2:=Qgr (d:=z) f (show z ∣ a+z from Nat.dvd_add f (Nat.dvd_refl _));by_cases c2:a<x
   ·have:=Qgr f g c2;omega
   ·omega
  rw[<-k];exact b
theorem Bk.le{z lo hi c d n:Nat}{l:List Fnd}(h:Bk z lo hi n l)(h1:lo<=c)(h2:d<=hi):Bk z c d n l:=λx e a b=>h x e O O
theorem Bk.rest{z a e n:Nat}{l l':List Fnd}(h:Bk z a n n l)(b:Sg a e l l')(d:a<=e):Bk z e n n l':=λx c h1 h2=>
 (h x c O h2).keep λi h3 h4=>b.out i (.inr O)
theorem Bk.at_{z lo hi n:Nat}{l:List Fnd}(h:Bk z lo hi n l){x e:Nat}(a:z ∣ x)(h1:lo<=x)(h2:x<hi)(b:e=min (x+z) n):Srt x e l:=by rw[b];exact h x a h1 h2
theorem Vj(l:List Fnd)(A:Option Addr)(n c:Nat)(w:World)(B:Nat)(h:RowF w B A n c l)(hB:B<=w.heap.size)(Y:Okl l)(hn:n<=100000):
  C 194 #[.slice A n c,I n,X3] w λe w'=>e= .returned (.tuple #[])/\∃l',Sg 0 n l l'/\Srt 0 n l'/\RowF w' B A n c l'/\Below B w w':=by
 have H:=Q7h h;have i:=Q7h (λ(l':List Fnd) (a b:Nat) (Z:World) (j:RowF Z B A n c l') (aa:Below B w Z) (d:Sg 0 n l l') (h1:a<=n) (h2:b<=n)=>Ct l' A n c a b Z B j (QqR hB aa.size) (Y.sg d) h1 h2 hn);have k:=Q7h (λ(l':List Fnd) (a m b:Nat) (Z:World) (j:RowF Z B A n c l') (aa:Below B w Z) (d:Sg 0 n l l')=>Qa9 A n c B hn (b-a) l' a m b Z N0 j (QqR hB aa.size) (Y.sg d));have aS:(n:Int)<=100000:=O;unfold X3 at i k ⊢;clear h Y;go_in
 go_wp2_with fail
 go_loopw [7,8] (λs7 s8 wr=>∃(a b:Nat) (f:List Fnd),a<=n/\a+20=b/\20 ∣ a/\s7= I a/\s8= I b/\Hid (Bk 20 0 a n f)/\Hid (Sg 0 n l f)/\Hid (RowF wr B A n c f)/\Hid (Below B w wr)) (λs7 _ _=>n-(intOf s7).toNat)
 case atStart=>exact⟨0,20,l,QqM _,rfl,Nat.dvd_zero _,rfl,rfl,(λx _ _ h=>O),Sg.refl _ _ _,H.o,QqA _ _⟩
 case round=>
  obtain⟨a,b,f,ha,am,an,rfl,rfl,HK,HS,HR,HB⟩:=hrel;have aT:(a:Int)<=n:=O;have ay:(b:Int)=(a:Int)+20:=O;have aM:(b:Int)<=(a:Int)+20:=O;have N:=Q7h an;clear an ay;by_cases ab:b<=n
  ·have ao:(b:Int)<=(n:Int):=O;have X:=Q7h (i.o f a b wr HR.o HB.o HS.o ha ab);go_wp2_with fail
   with_reducible refine X.o.mono ?_
   rintro e w1 ⟨rfl,l2,d,s,j,t⟩;have Q:Hid (Bk 20 0 b n l2):=by show Bk _ _ _ _ _;rw[<-am];exact HK.o.more N.o d s O
   have⟨R,S,T⟩:=Q3 (HS.o.trans (d.mono (QqM _) ab)) j (HB.o.trans t);have ap:20 ∣ b:=by rw[<-am];exact Nat.dvd_add N.o (Nat.dvd_refl _)
   have ac:=Q7h ap;clear d s j t ap;go_wp2_with fail
   go_roundw
   case rel=>exact⟨b,b+20,l2,ab,rfl,ac.o,rfl,by go_num,Q.o,R.o,S.o,T.o⟩
   case measure=>simp[intOf];omega
  ·have ao:¬(b:Int)<=(n:Int):=O;have X:=Q7h (i.o f a n wr HR.o HB.o HS.o ha N0);go_wp2_with fail
   with_reducible refine X.o.mono ?_
   rintro e w1 ⟨rfl,l2,d,s,j,t⟩;have Q:Hid (Bk 20 0 n n l2):=(HK.o.more N.o d s O).le N0 O;have⟨R,S,T⟩:=Q3 (HS.o.trans (d.mono (QqM _) N0)) j (HB.o.trans t);clear d s j t HK HS HR HB N X;go_wp2_with fail
   obtain⟨wo,az⟩:∃wo,wo=w1:=⟨_,rfl⟩;subst az;go_loopw [6,7,8,9] (λs6 _ _ _ wr=>∃(z:Nat) (f:List Fnd),0<z/\z<=200000/\s6= I z/\Hid (Bk z 0 n n f)/\Hid (Sg 0 n l f)/\Hid (RowF wr B A n c f)/\Hid (Below B w wr)) (λs6 _ _ _ _=>n-(intOf s6).toNat)
   case atStart=>exact⟨20,l2,O,O,rfl,Q.o,R.o,S.o,T.o⟩
   case round=>
    obtain⟨z,l3,hz,aV,rfl,ad,ae,af,ag⟩:=hrel;clear Q R S T;have aW:0<(z:Int):=O;have aN:(z:Int)<=200000:=O;by_cases aX:z<n
    ·have aq:(z:Int)<(n:Int):=O;obtain⟨y,hy⟩:=Zx (2*z);have aY:2*(z:Int)=(y:Int):=O;have aQ:(z:Int)*2=(y:Int):=O;have aZ:(y:Int)<=200000:=O;have aA:IntKind.i64.wrap (y:Int)=(y:Int):=by rw[QqN];omega
     have aF:Hid (z ∣ y):=by show _ ∣ _;rw[<-hy];exact Nat.dvd_mul_left _ _
     go_wp2_with fail
     obtain⟨ar,au⟩:∃ar,ar=wr:=⟨_,rfl⟩;subst au;go_loopw [7,8] (λs7 s8 wr=>∃(a b:Nat) (f:List Fnd),a<=n/\a+y=b/\s7= I a/\s8= I b/\Hid (y ∣ a)/\Hid (Bk y 0 a n f)/\Hid (Bk z a n n f)/\Hid (Sg 0 n l f)/\Hid (RowF wr B A n c f)/\Hid (Below B w wr)) (λs7 _ _=>n-(intOf s7).toNat)
     case atStart=>exact⟨0,y,l3,QqM _,O,rfl,rfl,Nat.dvd_zero _,(λx _ _ h=>O),ad.o,ae.o,af.o,ag.o⟩
     case round=>
      obtain⟨p,q,l4,hp,av,rfl,rfl,N,V,g,u,ah,v⟩:=hrel;clear ad ae af ag;have aB:(p:Int)<=n:=O;have aR:(q:Int)<=(p:Int)+y:=O;obtain⟨r,j⟩:=Zx (p+z);have a0:(p:Int)+(z:Int)=(r:Int):=O;have a4:IntKind.i64.wrap (r:Int)=(r:Int):=by rw[QqN];omega
      have W:Hid (z ∣ p):=Nat.dvd_trans aF.o N.o;have aw:Hid (z ∣ r):=by show _ ∣ _;rw[<-j];exact Nat.dvd_add W.o (Nat.dvd_refl _)
      by_cases F:q<=n
      ·have ai:(q:Int)<=(n:Int):=O;have X:=Q7h (k.o l4 p r q wr ah.o v.o u.o O O F (g.o.at_ W.o N0 O O) (g.o.at_ aw.o O O O));go_wp2_with fail
       with_reducible refine X.o.mono ?_
       rintro e w5 ⟨rfl,l5,d,s,K,L⟩;have M:Hid (Bk y 0 q n l5):=by show Bk _ _ _ _ _;rw[<-av];exact V.o.more N.o d s O
       have aH:Hid (Bk z q n n l5):=g.o.rest d O;have⟨aj,ak,al⟩:=Q3 (u.o.trans (d.mono (QqM _) F)) K (v.o.trans L);have ac:Hid (y ∣ q):=by show _ ∣ _;rw[<-av];exact Nat.dvd_add N.o (Nat.dvd_refl _)
       clear d s K L;go_wp2_with fail
       go_roundw
       case rel=>exact⟨q,q+y,l5,F,rfl,rfl,by go_num,ac.o,M.o,aH.o,aj.o,ak.o,al.o⟩
       case measure=>simp[intOf];omega
      ·have ai:¬(q:Int)<=(n:Int):=O;by_cases aK:r<n
       ·have ax:(r:Int)<(n:Int):=O;have X:=Q7h (k.o l4 p r n wr ah.o v.o u.o O aK N0 (g.o.at_ W.o N0 O O) (g.o.at_ aw.o O O O));go_wp2_with fail
        with_reducible refine X.o.mono ?_
        rintro e w5 ⟨rfl,l5,d,s,K,L⟩;have M:Hid (Bk y 0 n n l5):=(V.o.more N.o d s O).le N0 O;have⟨aj,ak,al⟩:=Q3 (u.o.trans (d.mono (QqM _) N0)) K (v.o.trans L);clear d s K L;go_wp2_with fail
        go_roundw
        case rel=>exact⟨y,l5,O,O,by go_num,M.o,aj.o,ak.o,al.o⟩
        case measure=>simp[intOf];omega
       ·have ax:¬(r:Int)<(n:Int):=O;have M:Hid (Bk y 0 n n l4):=by
         show Bk _ _ _ _ _;by_cases aL:p<n
         ·exact(V.o.more N.o (Sg.refl p n l4) (g.o.at_ W.o N0 aL O) O).le N0 O
         ·exact V.o.le N0 O
        go_wp2_with fail
        go_roundw
        case rel=>exact⟨y,l4,O,O,by go_num,M.o,u.o,ah.o,v.o⟩
        case measure=>simp[intOf];omega
    ·have aq:¬(z:Int)<(n:Int):=O;have HT:Hid (Srt 0 n l3):=by
      show Srt _ _ _;by_cases h0:0<n
      ·exact ad.o.at_ (Nat.dvd_zero _) N0 h0 O
      ·exact Srt.short _ O
     go_wp2_with fail
     go_end0
     exact⟨rfl,l3,ae.o,HT.o,af.o,ag.o⟩
theorem Qbx{l:List Fnd}(f:l.length<=100000)(a:Okl l):Na l:=by
 intro w B v h k;obtain⟨A,c,rfl⟩:=Qk h;have b:=Q7h (Vj l A l.length c w B ⟨rfl,h⟩ k a f);obtain⟨n,g⟩:=Zx l.length;rw[g]at b ⊢;unfold X3 at b ⊢;clear h f g a;go_in
 go_wp2_with fail
 with_reducible refine b.o.mono ?_
 rintro e w1 ⟨rfl,m,i,j,d,hb⟩;have p:=Q7h (Srt.pw (by rw[d.1];exact j));have⟨q,r,s⟩:=Q3 i.perm d.2 hb;clear i j d hb;go_wp2_with fail
 go_end0
 exact⟨rfl,m,q.o,p.o,r.o,s.o⟩
end rt
end Go.Proofs.YtfialjmemcobjaaGreatDoor
