/- A part of the proof. -/
import Derived.Test.YtfialjmemcobjaaGreatDoorPbFwB
import Derived.Test.YtfialjmemcobjaaGreatDoorPbRg
import Derived.Deep.AppendLies
set_option maxRecDepth 100000
set_option maxHeartbeats 16000000
set_option linter.unusedVariables false
set_option linter.unusedSimpArgs false
namespace Go.Proofs.YtfialjmemcobjaaGreatDoor
namespace rt
open Go.RowKit er
def Zz(l:List Space):List Value:=l.flatMap λs=>[I s.id,I s.size,I s.top,I s.high]
theorem Eg(l:List Space)(s:Space):Zz (l++[s])=Zz l++[I s.id,I s.size,I s.top,I s.high]:=by simp[Zz]
theorem Y7:∀(l:List Space) (j:Nat) (s:Space),l[j]? =some s->(Zz l)[j*4]? =some (I s.id)/\(Zz l)[j*4+1]? =some (I s.size)/\(Zz l)[j*4+2]? =some (I s.top)/\(Zz l)[j*4+3]? =some (I s.high)
 |[],j,s,h=>by simp at h
 |x::r,0,s,h=>by
  obtain rfl:x=s:=by simpa using h
  exact⟨rfl,rfl,rfl,rfl⟩
 |x::r,j+1,s,h=>by
  have a:=Y7 r j s (by simpa using h);have e:∀i,(Zz (x::r))[(j+1)*4+i]? =(Zz r)[j*4+i]? :=λi=>by
   show([_,_,_,_]++Zz r)[_]? =_;rw[QzH (by simp;omega)];congr 1;simp;omega
  exact⟨(e 0).trans a.1,(e 1).trans a.2.1,(e 2).trans a.2.2.1,(e 3).trans a.2.2.2⟩
theorem Qa4:∀l:List Space,upB l=true↔∀(i:Nat) a b,l[i]? =some a->l[i+1]? =some b->a.id<b.id
 |[]=>by simp[upB]
 |[a]=>by simp[upB]
 |a::b::r=>by
  have e:=Qa4 (b::r);unfold upB;rw[QzC,e,QzD];constructor
  ·rintro⟨h1,h2⟩ i x y c d;cases i with
   |zero=>simp at c d;rw[<-c,<-d];exact h1
   |succ i=>exact h2 i x y (by simpa using c) (by simpa using d)
  ·intro h;exact⟨h 0 a b rfl rfl,λi x y c d=>h (i+1) x y (by simpa using c) (by simpa using d)⟩
def SpJ(l:List Space)(j:Nat):Prop:=∀s,l[j]? =some s->spB s=true/\∀a i,i+1=j->l[i]? =some a->a.id<s.id
theorem Qb7{g:Int}{l:List Space}:Bh g l=true↔(inR g 0 1099511627775=true/\l.length<=8)/\∀j,j<l.length->SpJ l j:=by
 have e:=Qa4 l;unfold Bh inR SpJ;simp only[QzC,QzD,QxK,e];constructor
 ·rintro⟨⟨⟨⟨h1,h2⟩,h3⟩,h4⟩,h5⟩;exact⟨⟨⟨h1,h2⟩,h3⟩,λj _ s c=>⟨h4 s (QqL c),λa i hi ha=>h5 i a s ha (by rw[hi];exact c)⟩⟩
 ·rintro⟨⟨⟨h1,h2⟩,h3⟩,h4⟩;refine⟨⟨⟨⟨h1,h2⟩,h3⟩,λs c=>?_⟩,λi a b ha hb=>?_⟩
  ·obtain⟨j,d,rfl⟩:=QkL.1 c;exact(h4 j d _ (QqC d)).1
  ·exact(h4 (i+1) (QqD.1 hb).1 b hb).2 a i rfl ha
theorem Ap(g:Int)(l:List Space)(v:Value)(w:World)(h:w.ownsRow 0 206 4 v l.length (Zz l))(hl:l.length<=1000000):
  C 206 #[I g,v] w λe w'=>e= .returned (.bool (Bh g l))/\Below w w w':=by
 obtain⟨A,c,rfl⟩:=Qk h;have Q:=Q7h (Qb7 (g:=g) (l:=l));obtain⟨m,hm⟩:=Zx (Bh g l);rw[hm]at Q ⊢;obtain⟨b1,ab⟩:=Zx (inR g 0 1099511627775);have HI:=Q7h (λwq=>Yv g 0 1099511627775 wq);rw[ab]at HI Q;obtain⟨n,hn⟩:=Zx l.length;rw[hn]at Q hl h ⊢;have⟨HN,H⟩:=Q2 hn h;have aq:(n:Int)<=1000000:=O;clear hm ab hn h;cases b1 with
 |false=>
  have u:m=false:=by cases m;rfl;have:=(Q.o.1 rfl).1.1;cases this
  subst u;go_in
  go_wp2_with fail
  with_reducible refine(HI.o _).mono ?_
  rintro e w1 ⟨rfl,rfl⟩;go_wp2_with fail
  go_ret
  exact⟨rfl,QqA _ _⟩
 |true=>
  by_cases h8:8<n
  ·have u:m=false:=by cases m;rfl;have:=(Q.o.1 rfl).1.2;omega
   subst u;have af:(8:Int)<(n:Int):=O;go_in
   go_wp2_with fail
   with_reducible refine(HI.o _).mono ?_
   rintro e w1 ⟨rfl,rfl⟩;go_wp2_with fail
   go_ret
   exact⟨rfl,QqA _ _⟩
  ·have af:(n:Int)<=8:=O;have ag:n<=8:=O;clear h8;go_in
   go_wp2_with fail
   with_reducible refine(HI.o _).mono ?_
   rintro e w1 ⟨rfl,rfl⟩;go_wp2_with fail
   go_loopw [5,6,17] (λ_ _ i wr=>∃j:Nat,j<=n/\i= I j/\Hid (∀k,k<j->SpJ l k)/\Hid (Below w w wr)) (λ_ _ i _=>n-(intOf i).toNat)
   case atStart=>exact⟨0,QqM _,rfl,by show ∀k,k<0->_;intro k hk;omega,QqA _ _⟩
   case round=>
    obtain⟨j,hj,rfl,HJ,R⟩:=hrel;by_cases S:j<n
    ·have ar:(j:Int)<(n:Int):=O;obtain⟨gr,rfl,_,_,_,hc,_⟩:=Qx H.o O;obtain⟨s,T⟩:∃s,l[j]? =some s:=⟨_,QqC (by rw[HN.o];exact S)⟩;obtain⟨p0,p1,p2,p3⟩:=Y7 l j s T;have c0:=Qq R.o (hc _ _ p0);have c1:=Qq R.o (hc _ _ p1);have c2:=Qq R.o (hc _ _ p2);have c3:=Qq R.o (hc _ _ p3);have⟨HS,aj⟩:=Q2 T hc;obtain⟨sb,V⟩:=Zx (spB s);have F:=Q7h (λwq=>Qow s wq);rw[V]at F;have W:=Q7h V;obtain⟨i,z,t,h⟩:=s;simp only[Space.val]at c0 c1 c2 c3 F;clear T p0 p1 p2 p3 hc V;obtain⟨qb,X⟩:=Zx wr.heap.size;go_wp2_with fail
     obtain⟨r,Y⟩:∃r,r=wr.alloc (.cells #[I i,I z,I t,I h] 206):=⟨_,rfl⟩;have M:Hid (Whole r qb 206 #[I i,I z,I t,I h]/\Below wr wr r/\qb<r.heap.size):=by
      show _/\_/\_;rw[Y,<-X];exact⟨Whole.new _ _ _,B0.alloc N0 _,U⟩
     have N:Hid (∀w',Below r r w'->w'.cell? (qb,0)=some (I i)/\w'.cell? (qb,1)=some (I z)/\w'.cell? (qb,2)=some (I t)/\w'.cell? (qb,3)=some (I h)):=λw' hb=>⟨Qq hb (M.o.1.cell 0),Qq hb (M.o.1.cell 1),Qq hb (M.o.1.cell 2),Qq hb (M.o.1.cell 3)⟩;rw[<-Y];have p:=Q7h (R.o.trans (M.o.2.1.mono R.o.size));obtain⟨x0,x1,x2,x3⟩:=N.o r B0;try rw[X]
     clear Y X;cases sb with
     |false=>
      have u:m=false:=by
       cases m with
       |false=>rfl
       |true=>have:=((Q.o.1 rfl).2 j S _ HS.o).1;rw[W.o]at this;cases this
      subst u;refine rg.rgB (λw'=>w'.cell? ⟨qb,0,none⟩=some (I i)/\w'.cell? ⟨qb,1,none⟩=some (I z)/\w'.cell? ⟨qb,2,none⟩=some (I t)/\w'.cell? ⟨qb,3,none⟩=some (I h)) ⟨x0,x1,x2,x3⟩ (λx=>?_);iterate 1 refine rg.Ta ?_
      refine rg.rgC (λK hK=>?_);rw[QqH (by rfl)];go_simp
      with_reducible refine(F.o _).mono ?_
      rintro e Z ⟨rfl,f⟩;have d:Hid (Below r r Z):=by exact QxB P f
      clear f;refine hK.out _ _ (N.out _ d.out) (λx=>?_);clear hK K;try simp only[Go.Act.put,rg.qa,rg.qb,rg.qc]
      iterate 2 refine rg.Ta ?_
      iterate 13 refine rg.Sa ?_
      iterate 1 refine rg.Ta ?_
      refine rg.rgD ?_;go_wp2_with fail
      go_ret
      exact⟨rfl,p.o.trans (d.o.mono p.o.size)⟩
     |true=>
      rcases QyJ j with ac|ac
      ·subst ac;have B:Hid (∀k,k<0+1->SpJ l k):=λk hk=>by
        obtain rfl:k=0:=O;intro s T;have:=HS.o;rw[T]at this;injection this with this;rw[this];exact⟨W.o,λa i hi=>O⟩
       refine rg.rgB (λw'=>w'.cell? ⟨qb,0,none⟩=some (I i)/\w'.cell? ⟨qb,1,none⟩=some (I z)/\w'.cell? ⟨qb,2,none⟩=some (I t)/\w'.cell? ⟨qb,3,none⟩=some (I h)) ⟨x0,x1,x2,x3⟩ (λx=>?_);iterate 1 refine rg.Ta ?_
       refine rg.rgC (λK hK=>?_);rw[QqH (by rfl)];go_simp
       with_reducible refine(F.o _).mono ?_
       rintro e Z ⟨rfl,f⟩;have d:Hid (Below r r Z):=by exact QxB P f
       clear f;refine hK.out _ _ (N.out _ d.out) (λx=>?_);clear hK K;try simp only[Go.Act.put,rg.qa,rg.qb,rg.qc]
       iterate 5 refine rg.Ta ?_
       iterate 9 refine rg.Sa ?_
       iterate 2 refine rg.Ta ?_
       refine rg.rgD ?_;go_wp2_with fail
       have y:n-(intOf (I (((0:Nat):Int)+1))).toNat<n-(intOf (I ((0:Nat):Int))).toNat:=by simp[intOf];omega
       refine⟨⟨0+1,?_,?_,B,p.o.trans (d.o.mono p.o.size)⟩,y⟩
       ·omega
       ·go_num
      ·obtain⟨k,ak⟩:∃k,k+1=j:=⟨j-1,O⟩;obtain⟨a,aa⟩:∃a,l[k]? =some a:=⟨_,QqC (by rw[HN.o];omega)⟩;have ad:=Q7h aa;have al:(j:Int)-1=(k:Int):=O;have au:IntKind.i64.wrap ((j:Int)-1)=(k:Int):=by rw[al,QqN];omega
       have av:IntKind.i64.wrap (k:Int)=(k:Int):=by rw[QqN];omega
       have aw:(k:Int)<(n:Int):=O;have ax:(0:Int)<=(k:Int):=O;have ap:(0:Int)<(j:Int):=O;have L:Hid (∀w',Below r r w'->(w'.cell? (qb,0)=some (I i)/\w'.cell? (qb,1)=some (I z)/\w'.cell? (qb,2)=some (I t)/\w'.cell? (qb,3)=some (I h))/\w'.cell? (gr,k*4)=some (I a.id)):=λw' hb=>⟨N.o w' hb,Qq (p.o.trans (hb.mono p.o.size)) (aj.o _ _ (Y7 l k a aa).1)⟩;have y0:=(L.o r B0).2;clear aa;obtain⟨ai,az,ay,ah⟩:=a;simp only at y0 L;obtain⟨dg,am⟩:=Zx (decide (i<=ai));have ae:=Q7h am;cases dg with
       |true=>
        have u:m=false:=by
         cases m with
         |false=>rfl
         |true=>
          have:=((Q.o.1 rfl).2 j S _ HS.o).2 _ k ak ad.o;have h2:=ae.o;simp at h2 this;omega
        subst u;go_wp2_with fail
        go_region_held3 (λw'=>(w'.cell? (qb,0)=some (I i)/\w'.cell? (qb,1)=some (I z)/\w'.cell? (qb,2)=some (I t)/\w'.cell? (qb,3)=some (I h))/\w'.cell? (gr,k*4)=some (I ai)) (first|exact L.o _ d.o|exact L.o _ (by repeat(first|with_reducible exact QqA _ _|with_reducible exact d.o|refine QqZ ?_))) (((with_reducible refine(F.o _).mono ?_);rintro e Z ⟨rfl,f⟩;have d:Hid (Below r r Z):=QxB P f;clear f))
        go_wp2_with fail
        go_ret
        exact⟨rfl,p.o.trans (d.o.mono p.o.size)⟩
       |false=>
        have B:Hid (∀k,k<j+1->SpJ l k):=λq hq=>by
         by_cases an:q<j
         ·exact HJ.o q an
         ·obtain rfl:q=j:=O;intro s T;have:=HS.o;rw[T]at this;injection this with this;rw[this];refine⟨W.o,λb i' hi hb=>?_⟩;obtain rfl:i'=k:=O;rw[ad.o]at hb;injection hb with hb;rw[<-hb];have h2:=ae.o;simp at h2;exact h2
        go_wp2_with fail
        go_region_held3 (λw'=>(w'.cell? (qb,0)=some (I i)/\w'.cell? (qb,1)=some (I z)/\w'.cell? (qb,2)=some (I t)/\w'.cell? (qb,3)=some (I h))/\w'.cell? (gr,k*4)=some (I ai)) (first|exact L.o _ d.o|exact L.o _ (by repeat(first|with_reducible exact QqA _ _|with_reducible exact d.o|refine QqZ ?_))) (((with_reducible refine(F.o _).mono ?_);rintro e Z ⟨rfl,f⟩;have d:Hid (Below r r Z):=QxB P f;clear f))
        go_wp2_with fail
        have y:n-(intOf (I ((j:Int)+1))).toNat<n-(intOf (I (j:Int))).toNat:=by simp[intOf];omega
        refine⟨⟨j+1,?_,?_,B,p.o.trans (d.o.mono p.o.size)⟩,y⟩
        ·omega
        ·go_num
    ·obtain rfl:j=n:=O;have ao:m=true:=Q.o.2 ⟨⟨trivial,ag⟩,λk hk=>HJ.o k hk⟩;subst ao;go_wp2_with fail
     go_ret
     exact⟨rfl,R.o⟩
theorem Q0t(a b:List UInt8):(⟨a.toArray⟩:ByteArray)++⟨b.toArray⟩=⟨(a++b).toArray⟩:=by
 apply QyW;simp
theorem Ew(g:Int)(l:List Space)(v:Value)(w:World)(h:w.ownsRow 0 206 4 v l.length (Zz l))(d:l.length<=1000000)(f:Bh g l=false):
  C 144 #[I g,v] w λe w'=>e= .returned (.tuple #[.string ⟨#[]⟩,I 1])/\Below w w w':=by
 have b:=Q7h (Ap g l v w h d);rw[f]at b;obtain⟨A,c,rfl⟩:=Qk h;clear h;go_in
 go_wp2_with fail
 with_reducible refine b.o.mono ?_
 rintro e w1 ⟨rfl,a⟩;go_wp2_with fail
 go_returns;exact⟨rfl,a⟩
theorem Qcp{g:Int}{n:Nat}(b:0<=g)(h1:g<=1099511627775)(c:n<=8):Qee (Jg g n):=by
 refine⟨?_,?_,?_,?_,by simp[Jg]⟩;all_goals
  intro p a;simp only[Jg,QqF,QkU,QyA]at a;rcases a with rfl|rfl
 all_goals first|(simp;done)|(simp;omega)|omega
theorem Qvz{s:Space}(h:spB s=true):Qee (Kg s):=by
 have h1:=Al h;have h2:=Wo h;refine⟨?_,?_,?_,?_,by simp[Kg]⟩;all_goals
  intro p a;simp only[Kg,QqF,QkU,QyA]at a;rcases a with rfl|rfl|rfl|rfl
 all_goals first|(simp;done)|(simp;omega)|omega
theorem Qe6(s:Space):max s.top 0=Vz s:=by unfold Vz;split<;>omega
theorem Q5m{w:World}{q:Nat}{a b:Int}(h:Whole w q 98 #[.int .u64 a,.int .u64 b]){x y:Nat}:Cx w q [(x,a),(y,b)]:=λj p c=>by
 rw[h.cell j];match j with
 |0=>simp at c;rw[<-c];rfl
 |1=>simp at c;rw[<-c];rfl
 |j+2=>simp at c
theorem Q5l{w:World}{q:Nat}{a b c d:Int}(h:Whole w q 98 #[.int .u64 a,.int .u64 b,.int .u64 c,.int .u64 d]){x y z t:Nat}:Cx w q [(x,a),(y,b),(z,c),(t,d)]:=λj p e=>by
 rw[h.cell j];match j with
 |0=>simp at e;rw[<-e];rfl
 |1=>simp at e;rw[<-e];rfl
 |2=>simp at e;rw[<-e];rfl
 |3=>simp at e;rw[<-e];rfl
 |j+4=>simp at e
theorem Nw(g:Int)(l:List Space)(v:Value)(w:World)(h:w.ownsRow 0 206 4 v l.length (Zz l))(hm:Bh g l=true):
  C 144 #[I g,v] w λe w'=>e= .returned (.tuple #[.string (Xc g l),I 0])/\Below w w w':=by
 obtain⟨g0,g1,ai,R,_⟩:=Lx hm;have HM:=Q7h (Ap g l v w h O);rw[hm]at HM;obtain⟨A,c,rfl⟩:=Qk h;have⟨H,aj⟩:=Q2 h R;obtain⟨n,hn⟩:=Zx l.length;have V:=Q7h (Qcp (n:=n) g0 g1 O);have HR:Hid (Xc g l=⟨(Jc (Jg g n++l.flatMap Kg)).toArray⟩):=by show _=_;unfold Xc;rw[hn]
 rw[hn]at H ai HM ⊢;have HN:=Q7h hn;have aq:(n:Int)<=8:=O;have ar:IntKind.u64.wrap g=g:=wrap_u64 g0 O;have au:IntKind.u64.wrap (n:Int)=(n:Int):=wrap_u64 O O;clear hm h hn R;go_in
 go_wp2_with fail
 with_reducible refine HM.o.mono ?_
 rintro e w1 ⟨rfl,W⟩;have⟨X,ak⟩:=Q2 W (Whole.new w1 98 #[.int .u64 g,.int .u64 n]);clear W;go_wp2_with fail
 with_reducible refine(Qq6 _).mono ?_
 rintro e w3 ⟨gh,rfl,r,al,u⟩;have Y:=Q7h (Qdx (Jg g n) w1.heap.size 2 gh 2 w3 (r _ rfl) (Q5m (Whole.below ak.o u U)) V.o 2 rfl);have d:Hid (Below w w w3):=X.o.trans ((B0.alloc N0 _).trans (u.mono U) |>.mono X.o.size);clear r al u;go_wp2_with fail
 with_reducible refine Y.o.mono ?_
 rintro e Z ⟨rfl,a⟩;have f:Hid (Below w w Z):=d.o.trans (a.mono d.o.size);clear a Y;go_wp2_with fail
 go_loopw [6,7,9,10,28] (λo e _ _ i wr=>∃(j:Nat) (S:ByteArray),j<=n/\i= I j/\e= I 0/\o= .string S/\Hid (S=⟨(Jc (Jg g n++(l.take j).flatMap Kg)).toArray⟩)/\S.size<=6+9*j/\Hid (Below w w wr)) (λ_ _ _ _ i _=>n-(intOf i).toNat)
 case atStart=>exact⟨0,_,QqM _,rfl,rfl,rfl,by show _=_;simp,by show(Jc (Jg g n)).toArray.size<=_;simp[Bd,Jg],f⟩
 case round=>
  obtain⟨j,S,hj,rfl,rfl,rfl,HS,am,x⟩:=hrel;by_cases an:j<n
  ·have av:(j:Int)<(n:Int):=O;obtain⟨gr,rfl,_,_,_,B,_⟩:=Qx H.o O;obtain⟨s,hs⟩:∃s,l[j]? =some s:=⟨_,QqC (by rw[HN.o];exact an)⟩;obtain⟨p0,p1,p2,p3⟩:=Y7 l j s hs;have c0:=Qq x.o (B _ _ p0);have c1:=Qq x.o (B _ _ p1);have c2:=Qq x.o (B _ _ p2);have c3:=Qq x.o (B _ _ p3);have hb:=aj.o s (QqL hs);have HF:=Q7h (Qvz hb);have aa:Hid (S++⟨(Jc (Kg s)).toArray⟩=⟨(Jc (Jg g n++(l.take (j+1)).flatMap Kg)).toArray⟩):=by
    show _=_;rw[HS.o,Q0t,QzW,hs];simp[Jc]
   have q:(⟨(Jc (Kg s)).toArray⟩:ByteArray).size=9:=by show(Jc (Kg s)).toArray.size=9;simp[Bd,Kg]
   obtain⟨T,hT⟩:∃T:ByteArray,(⟨(Jc (Kg s)).toArray⟩:ByteArray)=T:=⟨_,rfl⟩;have HT:=Q7h hT;rw[hT]at aa q;have hy:=Al hb;have ht:=Wo hb;obtain⟨k,y⟩:=Zx (Vz s);have ab:=Qe6 s;have F:Hid (Kg s=[(2,s.id),(4,s.size),(2,k),(1,s.high)]):=by show _=_;rw[<-y];rfl
   rw[y]at ht ab;rw[F.o]at HF;rw[F.o]at HT;obtain⟨i,z,t,h⟩:=s;simp only at c0 c1 c2 c3 hy ab HF HT;have aw:IntKind.u64.wrap i=i:=wrap_u64 O O;have ax:IntKind.u64.wrap z=z:=wrap_u64 O O;have ay:IntKind.u64.wrap k=k:=wrap_u64 O O;have r:IntKind.u64.wrap h=h:=wrap_u64 O O;clear hs p0 p1 p2 p3 B hb hT hy ht y F;obtain⟨qb,K⟩:=Zx wr.heap.size;go_wp2_with fail
   obtain⟨b,L⟩:∃b,b=wr.alloc (.cells #[I i,I z,I t,I h] 206):=⟨_,rfl⟩;have m:Hid (Whole b qb 206 #[I i,I z,I t,I h]/\Below wr wr b/\qb<b.heap.size):=by
    show _/\_/\_;rw[L,<-K];exact⟨Whole.new _ _ _,B0.alloc N0 _,U⟩
   have HK:Hid (∀w',Below b b w'->w'.cell? (qb,0)=some (I i)/\w'.cell? (qb,1)=some (I z)/\w'.cell? (qb,2)=some (I t)/\w'.cell? (qb,3)=some (I h)):=λw' hb=>⟨Qq hb (m.o.1.cell 0),Qq hb (m.o.1.cell 1),Qq hb (m.o.1.cell 2),Qq hb (m.o.1.cell 3)⟩;rw[<-L];try rw[K]
   have ac:Hid (Below w w b):=x.o.trans (m.o.2.1.mono x.o.size);obtain⟨x0,x1,x2,x3⟩:=HK.o b B0;have ao:Hid (Whole (b.alloc (.cells #[.int .u64 i,.int .u64 z,.int .u64 k,.int .u64 h] 98)).drew b.heap.size 98 #[.int .u64 i,.int .u64 z,.int .u64 k,.int .u64 h]):=Whole.new b 98 #[.int .u64 i,.int .u64 z,.int .u64 k,.int .u64 h];have ad:Hid (b.heap.size<(b.alloc (.cells #[.int .u64 i,.int .u64 z,.int .u64 k,.int .u64 h] 98)).drew.heap.size):=by show _<_;simp
   have ap:=Q7h ((QqA b.heap.size b).alloc N0 (.cells #[.int .u64 i,.int .u64 z,.int .u64 k,.int .u64 h] 98)).drew;clear L K;go_region_held3 (λw'=>w'.cell? (qb,0)=some (I i)/\w'.cell? (qb,1)=some (I z)/\w'.cell? (qb,2)=some (I t)/\w'.cell? (qb,3)=some (I h)) (first|exact HK.o _ ae.o|exact HK.o _ d.o|exact HK.o _ f.o|exact HK.o _ G)
    (first|(go_at_call 192;refine(Ga _).mono ?_;rintro e Z ⟨ge,rfl,p,M,a⟩;have⟨af,ag,f⟩:=Q3 p (Whole.below ao.o a ad.o) (ap.o.trans (a.mono (Nat.le_of_lt ad.o)));clear p M a)|(go_at_call 192;refine(Ga _).mono ?_;rintro e Z ⟨ge,rfl,p,M,a⟩;have af:Hid (∀l:List (Nat×Int),l.map (·.1)=[2,4,2,1]->WidAt (Z.alloc (.cells #[.int .u64 i,.int .u64 z,.int .u64 k,.int .u64 h] 98)) ge l):=λl hl=>(p l hl).below (B0.alloc N0 _);have⟨ag,d⟩:=Q2 (Whole.new Z 98 #[.int .u64 i,.int .u64 z,.int .u64 k,.int .u64 h]) ((QqA b.heap.size b).drew.trans a);have f:=Q7h (d.o.alloc d.o.size (.cells #[.int .u64 i,.int .u64 z,.int .u64 k,.int .u64 h] 98));clear p M a)|(go_at_call 54;refine(Qdx [(2,i),(4,z),(2,k),(1,h)] _ 4 ge 4 _ (af.o _ rfl) (Q5l ag.o) HF.o 4 rfl).mono ?_;rw[HT.o];rintro e w5 ⟨rfl,ah⟩;have ae:=Q7h (f.o.trans (ah.mono f.o.size));clear ah))
   all_goals
    have az:S.size<=100:=O;have aF:T.size<=100:=O;have HZ:Hid ((S++T).size<=6+9*(j+1)):=by show _<=_;rw[QjT];omega
    clear q am;go_wp2_with fail
    have N:n-(intOf (I ((j:Int)+1))).toNat<n-(intOf (I (j:Int))).toNat:=by simp[intOf];omega
    refine⟨⟨j+1,S++T,?_,?_,rfl,rfl,aa,HZ.o,ac.o.trans (ae.o.mono ac.o.size)⟩,N⟩
    ·omega
    ·go_num
  ·obtain rfl:j=n:=O;have Q:l.take j=l:=by rw[<-HN.o];exact QzU
   rw[Q,<-HR.o]at HS;obtain rfl:S=Xc g l:=HS.o;go_wp2_with fail
   go_returns;exact⟨rfl,x.o⟩
end rt
end Go.Proofs.YtfialjmemcobjaaGreatDoor
namespace Go.Proofs.YtfialjmemcobjaaGreatDoor
namespace rt
open Go.RowKit er
theorem Qdz:(Tryz.prog.info? 206).map (λi=>(i.zero,i.size,i.bytes))=some (some (.agg #[I 0,I 0,I 0,I 0]),4,32):=J
def Oi(s:ByteArray)(w:World)(e:Ending)(w':World):Prop:=
 match Yf s with
 |some (g,l)=>∃v,e= .returned (.tuple #[I g,v,I 0])/\w'.ownsRow w.heap.size 206 4 v l.length (Zz l)/\Below w w w'
 |none=>e= .returned (.tuple #[I 0,.slice none 0 0,I 3])/\Below w w w'
theorem Qxr{s:ByteArray}{w w':World}(h:Yf s=none)(hb:Below w w w'):Oi s w (.returned (.tuple #[I 0,.slice none 0 0,I 3])) w':=by
 unfold Oi;rw[h];exact⟨rfl,hb⟩
theorem Qyv(s:ByteArray)(j:Nat):Y2 s (j+1)=Y2 s j++[Qrb s (6+9*j)]:=by
 unfold Y2;rw[QyS,QqY];rfl
theorem Qn7(s:ByteArray)(a b:Nat)(h:a+b<=s.size):(s.extract a s.size).extract b (s.extract a s.size).size=s.extract (a+b) s.size:=by
 rw[QiF,QjJ];congr 1;omega
theorem Yb{wr w2:World}{o:Obj}{k:Nat}{base:Nat}{e:TypeId}{size:Nat}{v:Value}{n:Nat}{xs:List Value}(a:wr.ownsRow base e size v n xs)(b:((wr.alloc o).drewN k).grownBy w2 v.ownBlock)(hb:base<=wr.heap.size):Below base wr w2:=
 ⟨b.os,b.tape,b.output,QqR (by show _<=(wr.alloc o).heap.size;simp) b.size,λi hi=>(b.block i (by show i<(wr.alloc o).heap.size;simp;omega) (λe=>by have:=(a.lt i e.symm).1;omega)).trans (QuF _ _ _ O)⟩
theorem Xj(s:ByteArray)(w:World)(hs:s.size<=70368744177664):C 125 #[.string s] w (Oi s w):=by
 have N:=Q7h (λ(w':World) (h:Yf s=none) (hb:Below w w w')=>Qxr h hb);have af:=Q7h (λgw (a:World) hw=>Ud s [5,1] gw 2 a hw U U U hs);have ao:=Q7h (Qq6 w);by_cases h6:s.size<6
 ·have l:Yf s=none:=by unfold Yf;rw[QqH h6]
  go_in
  go_wp2_with fail
  with_reducible refine ao.o.mono ?_
  rintro e w1 ⟨gh,rfl,m,Q,n⟩;have HT:=Q7h (af.o gh w1 (m _ rfl));rw[show[5,1].length=2 from rfl]at HT;have p:=Q7h n;clear m Q n;go_wp2_with fail
  with_reducible refine HT.o.mono ?_
  rintro e w2 (⟨h1,_⟩|⟨_,rfl,r⟩)
  ·exact absurd h1 (by simp;omega)
  have S:=Q7h (N.o w2 l (p.o.trans (r.mono p.o.size)));clear r;go_wp2_with fail
  go_returns;exact S.o
 ·obtain⟨g,hg⟩:=Zx (leN s 0 5);obtain⟨k,hk⟩:∃k:Nat,leN s 5 1=k:=⟨(leN s 5 1).toNat,by have:=(Kh s 1 5).1;omega⟩;have az:=Kh s 5 0;have aF:=Kh s 1 5;rw[hg]at az;rw[hk]at aF;have V:Hid (Yf s=if 8<(k:Int)then none else if s.size<6+9*k then none else if Bh g (Y2 s k)&&(Xc g (Y2 s k)).toList==s.toList then some (g,Y2 s k)else none):=by
   show _=_;unfold Yf;rw[QqE h6,hg,hk,QyD]
  have ak:Uv s [5,1] 2=[.int .u64 g,.int .u64 k]:=by
   rw[<-hg,<-hk];rfl
  rw[show[5,1].length=2 from rfl]at af;have al:Hid (∀gw a,WidAt a gw ([5,1].map λk=>(k,0))->C 104 #[.string s,.slice (some ⟨gw,0,none⟩) 2 2] a λx w'=>∃ga c,x= .returned (.tuple #[.slice (some ⟨ga,0,none⟩) 2 c,.string (s.extract 6 s.size),I 0])/\w'.cell? ⟨ga,0,none⟩=some (.int .u64 g)/\w'.cell? ⟨ga,1,none⟩=some (.int .u64 k)/\Below a.heap.size a w'):=by
   intro gw a hw;refine(af.o gw a hw).mono ?_;rintro x w' (⟨_,A,c,rfl,h2,h3⟩|⟨h1,_⟩)
   ·rw[show[5,1].length=2 from rfl,ak]at h2;obtain⟨ga,rfl,_,_,_,M,_⟩:=Qx h2 O;exact⟨ga,c,rfl,M 0 _ rfl,M 1 _ rfl,h3⟩
   ·exact absurd h1 (by simp;omega)
  clear ak hk hg af;by_cases h8:8<(k:Int)
  ·have l:Yf s=none:=by rw[V.o,QqH h8]
   go_in
   go_wp2_with fail
   with_reducible refine ao.o.mono ?_
   rintro e w1 ⟨gh,rfl,m,Q,n⟩;have⟨HT,p⟩:=Q2 (al.o gh w1 (m _ rfl)) n;clear m Q n;go_wp2_with fail
   with_reducible refine HT.o.mono ?_
   rintro e w2 ⟨ga,c,rfl,d0,d1,r⟩;have S:=Q7h (N.o w2 l (p.o.trans (r.mono p.o.size)));clear r;go_wp2_with fail
   go_returns;exact S.o
  ·rw[QqE h8]at V;have bm:(k:Int)<=8:=O;have bj:k<=8:=O;have bn:IntKind.i64.wrap g=g:=by rw[QqN];omega
   clear h8 aF az;go_in
   go_wp2_with fail
   with_reducible refine ao.o.mono ?_
   rintro e w1 ⟨gh,rfl,m,Q,n⟩;have⟨HT,p⟩:=Q2 (al.o gh w1 (m _ rfl)) n;clear m Q n;go_wp2_with fail
   with_reducible refine HT.o.mono ?_
   rintro e w2 ⟨ga,c,rfl,d0,d1,r⟩;have W:=Q7h (p.o.trans (r.mono p.o.size));have aA:Hid (∀a,Below w2 w2 a->a.cell? (ga,0)=some (.int .u64 g)):=λa hb=>Qq hb d0;clear r HT;go_wp2_with fail
   obtain⟨i0,aH,aK,aL,aM⟩:=QzX Qdz;have⟨aB,a0,a4,a5⟩:=Q4 aH aK aL aM;clear aH aK aL aM;go_loopw [6,7,8,9,10,31] (λrv ov _ _ _ i wr=>∃(j:Nat) (B:Option Addr) (d:Nat),j<=k/\i= .int .u64 j/\ov= .slice B j d/\rv= .string (s.extract (6+9*j) s.size)/\6+9*j<=s.size/\Hid (wr.ownsRow w2.heap.size 206 4 (.slice B j d) j (Zz (Y2 s j)))/\Hid (Below w2 w2 wr)) (λ_ _ _ _ _ i _=>k-(intOf i).toNat)
   case atStart=>exact⟨0,none,0,QqM _,rfl,rfl,rfl,O,⟨rfl,.inl ⟨rfl,rfl⟩⟩,QqA _ _⟩
   case round=>
    obtain⟨j,B,d,hj,rfl,rfl,rfl,bo,HO,HB⟩:=hrel;by_cases bp:j<k
    ·have bq:(j:Int)<(k:Int):=O;have ag:=Q7h (λgw (a:World) hw=>Ud (s.extract (6+9*j) s.size) [2,4,2,1] gw 4 a hw U U U (by rw[QjJ];omega));obtain⟨x0,X⟩:=Zx (leN s (6+9*j) 2);obtain⟨x1,Y⟩:=Zx (leN s (6+9*j+2) 4);obtain⟨x2,Z⟩:=Zx (leN s (6+9*j+6) 2);obtain⟨x3,aa⟩:=Zx (leN s (6+9*j+8) 1);have ap:=Kh s 2 (6+9*j);have aq:=Kh s 4 (6+9*j+2);have ar:=Kh s 2 (6+9*j+6);have au:=Kh s 1 (6+9*j+8);rw[X]at ap;rw[Y]at aq;rw[Z]at ar;rw[aa]at au;obtain⟨tp,ah⟩:=Zx (if x3=0 then -1 else x2);have a6:Hid (Zz (Y2 s (j+1))=Zz (Y2 s j)++[I x0,I x1,I tp,I x3]):=by
      show _=_;rw[Qyv,Eg,Qrb,X,Y,Z,aa,ah]
     have aN:Hid (∀a,C 193 #[.int .u64 x2,.int .u64 x3] a λe w'=>e= .returned (I tp)/\a=w'):=λa=>by
      have:=Ql4 x2 x3 a O O;rw[ah]at this;exact this
     by_cases h9:s.size<6+9*(j+1)
     ·have l:Yf s=none:=by rw[V.o,QqH O]
      obtain⟨R,hR⟩:=Zx (s.extract (6+9*j) s.size);have aQ:R.size<9:=by rw[<-hR,QjJ];omega
      rw[hR]at ag ⊢;clear X Y Z aa ah ap aq ar au hR;go_wp2_with fail
      with_reducible refine(Ga _).mono ?_
      rintro e w4 ⟨ge,rfl,ab,av,z⟩;have ai:=Q7h (ag.o ge w4 (ab _ rfl));rw[show[2,4,2,1].length=4 from rfl]at ai;have ac:=Q7h (HB.o.trans (z.mono HB.o.size));clear ab av z;go_wp2_with fail
      with_reducible refine ai.o.mono ?_
      rintro e F (⟨h1,_⟩|⟨_,rfl,H⟩)
      ·exact absurd h1 (by simp;omega)
      have aj:=Q7h (ac.o.trans (H.mono ac.o.size));have S:=Q7h (N.o F l (W.o.trans (aj.o.mono W.o.size)));clear H;go_wp2_with fail
      go_returns;exact S.o
     ·have aR:=Qn7 s (6+9*j) 9 O;have aQ:(s.extract (6+9*j) s.size).size=s.size-(6+9*j):=by rw[QjJ];omega
      have aS:Uv (s.extract (6+9*j) s.size) [2,4,2,1] 4=[.int .u64 x0,.int .u64 x1,.int .u64 x2,.int .u64 x3]:=by
       rw[<-X,<-Y,<-Z,<-aa];show[Value.int .u64 (leN _ 0 2),.int .u64 (leN _ 2 4),.int .u64 (leN _ 6 2),.int .u64 (leN _ 8 1)]=_;rw[Zg s (6+9*j) 2 0 O,Zg s (6+9*j) 4 2 O,Zg s (6+9*j) 2 6 O,Zg s (6+9*j) 1 8 O];rfl
      have am:Hid (∀gw a,WidAt a gw ([2,4,2,1].map λk=>(k,0))->C 104 #[.string (s.extract (6+9*j) s.size),.slice (some (gw,0)) 4 4] a λx w'=>∃b c,x= .returned (.tuple #[.slice (some (b,0)) 4 c,.string (s.extract (6+9*(j+1)) s.size),I 0])/\(w'.cell? (b,0)=some (.int .u64 x0)/\w'.cell? (b,1)=some (.int .u64 x1)/\w'.cell? (b,2)=some (.int .u64 x2)/\w'.cell? (b,3)=some (.int .u64 x3))/\a.heap.size<=b/\Below a a w'):=by
       intro gw a hw;refine(ag.o gw a hw).mono ?_;rintro x w' (⟨_,A,c,rfl,h2,h3⟩|⟨h1,_⟩)
       ·rw[show[2,4,2,1].length=4 from rfl,aS]at h2;obtain⟨b,rfl,aT,_,_,M,_⟩:=Qx h2 O;refine⟨b,c,?_,⟨M 0 _ rfl,M 1 _ rfl,M 2 _ rfl,M 3 _ rfl⟩,aT,h3⟩;rw[show[2,4,2,1].sum=9 from rfl,aR];rfl
       ·exact absurd h1 (by simp;omega)
      obtain⟨R,hR⟩:=Zx (s.extract (6+9*j) s.size);obtain⟨R2,aw⟩:=Zx (s.extract (6+9*(j+1)) s.size);have a7:=Q7h aw;rw[hR,aw]at am;rw[hR];have br:IntKind.i64.wrap x0=x0:=by rw[QqN];omega
      have bs:IntKind.i64.wrap x1=x1:=by rw[QqN];omega
      have bu:IntKind.i64.wrap x3=x3:=by rw[QqN];omega
      clear X Y Z aa ah ap aq ar au hR aw aS aR aQ ag;go_wp2_with fail
      with_reducible refine(Ga _).mono ?_
      rintro e w4 ⟨ge,rfl,ab,av,z⟩;have⟨ai,ac,aV⟩:=Q3 (am.o ge w4 (ab _ rfl)) (HB.o.trans (z.mono HB.o.size)) (own_below HO.o z);clear ab av z;go_wp2_with fail
      with_reducible refine ai.o.mono ?_
      rintro e F ⟨b,cn,rfl,⟨l0,l1,l2,l3⟩,aT,H⟩;have⟨aj,aW⟩:=Q2 (ac.o.trans (H.mono ac.o.size)) (own_below aV.o H);have HK:Hid (∀w',Below F F w'->w'.cell? (b,0)=some (.int .u64 x0)/\w'.cell? (b,1)=some (.int .u64 x1)/\w'.cell? (b,2)=some (.int .u64 x2)/\w'.cell? (b,3)=some (.int .u64 x3)):=λw' hb=>⟨Qq hb l0,Qq hb l1,Qq hb l2,Qq hb l3⟩;have a8:=aj.o.size;have a9:Hid (∀q w',((F.alloc (.cells #[I x0,I x1,I tp,I x3] 206)).drewN q).grownBy w' (Value.slice B j d).ownBlock->w'.cell? (b,0)=some (.int .u64 x0)/\w'.cell? (b,1)=some (.int .u64 x1)/\w'.cell? (b,2)=some (.int .u64 x2)/\w'.cell? (b,3)=some (.int .u64 x3)):=λq w' hg=>by
       have ba:∀i,some (⟨b,i,none⟩:Addr).block≠(Value.slice B j d).ownBlock:=λi e=>by
        have h1:=(aV.out.lt b e.symm).2;omega
       have M:∀i u,F.cell? (b,i)=some u->w'.cell? (b,i)=some u:=λi u hu=>hg.cell (Qq (below_drewN (B0.alloc N0 _) q) hu) (ba i);exact⟨M _ _ l0,M _ _ l1,M _ _ l2,M _ _ l3⟩
      have bb:=Q7h (λq=>own_below (aW.o.alloc (.cells #[I x0,I x1,I tp,I x3] 206)) (below_drewN B0 q));have an:∀u∈[Value.int .i64 x0,I x1,I tp,I x3],u.oneCell'=true:=by simp[Value.oneCell']
      have aX:=Q7h an;have bc:Hid (∀q,w2.heap.size<=((F.alloc (.cells #[I x0,I x1,I tp,I x3] 206)).drewN q).heap.size):=λq=>by show _<=(F.alloc _).heap.size;simp only[QqW];omega
      have aY:Hid (∀(q j':Nat) (u:Value),[Value.int .i64 x0,I x1,I tp,I x3][j']? =some u->((F.alloc (.cells #[I x0,I x1,I tp,I x3] 206)).drewN q).cell? (((F,0):Addr).add j')=some u):=λq=>World.news_of_block (w:=(F.alloc (.cells #[I x0,I x1,I tp,I x3] 206)).drewN q) (QzY F _);clear an H;go_wp2_with fail
      go_region_held3 (λw'=>w'.cell? (b,0)=some (.int .u64 x0)/\w'.cell? (b,1)=some (.int .u64 x1)/\w'.cell? (b,2)=some (.int .u64 x2)/\w'.cell? (b,3)=some (.int .u64 x3)) (first|exact be.o|exact HK.o _ G)
       (first|(go_at_call 193;(with_reducible refine(aN.o _).mono ?_);rintro e w6 ⟨rfl,rfl⟩)|(refine step_append_lies _ ?_ (.tmp 42) (.tmp 63) 197 ?_ w2.heap.size 206 i0 _ 4 32 Tryz.underlying197 aB.out a0.out a4.out a5.out (by rfl) O (.slice B j d) j (Zz (Y2 s j)) (by rfl) (bb.out _) ⟨F.heap.size,0,none⟩ 1 1 [I x0,I x1,I tp,I x3] (by rfl) (by rfl) (aY.out _) aX.out O (by simp only[maxLen];omega) O (bc.out _) _ rfl ?_;rfl;rfl;intro g2 bl w7 ad ax _ _;have⟨bf,be,bg⟩:=Q3 ad (a9.out _ _ ax) (aj.out.trans (Yb aW.out ax a8));clear ad ax))
      all_goals
       go_wp2_with fail
       have ay:k-(intOf (.int .u64 ((j:Int)+1))).toNat<k-(intOf (.int .u64 (j:Int))).toNat:=by simp[intOf];omega
       refine⟨⟨j+1,_,_,?_,?_,rfl,?_,?_,?_,bg⟩,ay⟩
       ·omega
       ·go_num
       ·rw[a7.out]
       ·omega
       ·show World.ownsRow _ _ _ _ _ _ _;rw[a6.out];exact bf.out
    ·obtain rfl:j=k:=O;rw[QqE O]at V;obtain⟨L,hL⟩:∃L,Y2 s j=L:=⟨_,rfl⟩;have t:L.length=j:=by rw[<-hL];simp[Y2]
     rw[hL]at V HO;have e0:=aA.out wr HB.out;have ae:=Qr HO.out (QqM _);rw[<-t]at ae;have bh:Hid (wr.ownsRow w.heap.size 206 4 (.slice B j d) L.length (Zz L)):=by
      show World.ownsRow _ _ _ _ _ _ _;rw[t];exact Qr HO.out W.out.size
     have⟨K,bv⟩:=Q2 (W.out.trans (HB.out.mono W.out.size)) t;cases hmay:Bh g L with
     |false=>
      have l:Yf s=none:=by rw[V.out,hmay];rfl
      have y:=Q7h (Ew g L (.slice B L.length d) wr ae O hmay);rw[t]at y;clear hL t ae hmay;go_wp2_with fail
      with_reducible refine y.out.mono ?_
      rintro e w6 ⟨rfl,f⟩;have S:=Q7h (N.out w6 l (K.out.trans (f.mono K.out.size)));clear f;go_wp2_with fail
      refine QqG (v:= .tuple #[I 0,.slice none 0 0,I 3]) (by simp[results,Tryz.results125,go_sem]) rfl S.out
     |true=>
      have y:=Q7h (Nw g L (.slice B L.length d) wr ae hmay);rw[t]at y;rw[hmay]at V;obtain⟨T,hT⟩:∃T,Xc g L=T:=⟨_,rfl⟩;rw[hT]at y V;obtain⟨eb,bi⟩:∃eb,(T.toList==s.toList)=eb:=⟨_,rfl⟩;rw[bi]at V;clear hL t ae hmay hT;cases eb with
      |false=>
       have l:Yf s=none:=by rw[V.out];rfl
       go_wp2_with fail
       with_reducible refine y.out.mono ?_
       rintro e w6 ⟨rfl,f⟩;have S:=Q7h (N.out w6 l (K.out.trans (f.mono K.out.size)));clear f;go_wp2_with fail
       refine QqG (v:= .tuple #[I 0,.slice none 0 0,I 3]) (by simp[results,Tryz.results125,go_sem]) rfl S.out
      |true=>
       have aZ:Yf s=some (g,L):=by rw[V.out];rfl
       go_wp2_with fail
       with_reducible refine y.out.mono ?_
       rintro e w6 ⟨rfl,f⟩;have e1:=Qq f e0;have S:Hid (Oi s w (.returned (.tuple #[I g,.slice B j d,I 0])) w6):=by
        show Oi _ _ _ _;unfold Oi;rw[aZ];exact⟨_,rfl,own_below bh.out f,K.out.trans (f.mono K.out.size)⟩
       clear f;go_wp2_with fail
       refine QqG (v:= .tuple #[I g,.slice B j d,I 0]) (by simp[results,Tryz.results125,go_sem]) rfl S.out
end rt
end Go.Proofs.YtfialjmemcobjaaGreatDoor
