/- A part of the proof. -/
import Derived.Test.YtfialjmemcobjaaGreatDoorPbLgB
import Derived.Test.YtfialjmemcobjaaGreatDoorPbLgS
set_option maxRecDepth 100000
set_option maxHeartbeats 16000000
set_option linter.unusedVariables false
set_option linter.unusedSimpArgs false
namespace Go.Proofs.YtfialjmemcobjaaGreatDoor
namespace vo
open Go.RowKit Go.Maps er
theorem Q1e(l m:List Acc):tot (l++m)=tot l+tot m:=by simp[tot]
theorem Qe5{l:List Acc}(k:Nat)(h:∀a∈l,0<=a.used):0<=tot (l.take k)/\tot (l.take k)<=tot l:=by
 have h1:=Qa7 (l:=l.take k) (λa ha=>h a (QjF ha));have h2:=Qa7 (l:=l.drop k) (λa ha=>h a (QjG ha));have h3:=Q1e (l.take k) (l.drop k);rw[QkB]at h3;omega
theorem Qcz(n:Int)(b:0<=n/\n<=1000000)(w:World):
  C 131 #[I n] w λe w'=>∃lb mb,e= .returned (lb,0)/\LedIn w' lb mb n []/\w.heap.size<=lb/\w.heap.size<=mb/\lb≠mb/\Below w w w':=by
 obtain⟨a,h1⟩:=b;have c:=@run_makeMap Tryz.prog;go_in
 go_wp2_with fail
 go_ret
 rw[show max n 0=n by omega];refine⟨w.heap.size+1,w.heap.size,rfl,⟨Whole.new' _ _ _ _ (QqW _ _),(MapAt.made w).below (B0.alloc N0 _),λy d=>by simp at d,U,⟨a,h1,by simp[Zd],by simp[Zd],by simp[Zd,tot];exact a,by simp[Zd]⟩⟩,O,QqB _,O,(B0.alloc N0 _).alloc U _⟩
theorem Qu1(w:World)(lb mb:Nat)(cap:Int)(L:LL)(h:LedIn w lb mb cap L):
  C 136 #[(lb,0)] w λe w'=>e= .returned (I (tot (Zd L)))/\Below w w w':=by
 have⟨N,H⟩:=Q2 (Qq4 w lb mb cap L h) h;have r:L.length<=8:=by simpa[Zd]using h.ok.len
 obtain⟨n,z⟩:=Zx L.length;have Q:=Q7h z;rw[z]at N r;have T:(n:Int)<=8:=O;clear h z;go_in
 go_wp2_with fail
 with_reducible refine N.o.mono ?_
 rintro e w1 ⟨v,rfl,d,f⟩;obtain⟨A,c,rfl⟩:=Qk d;have⟨q,F,K⟩:=Q3 (H.o.below f) d f;clear d f;go_wp2_with fail
 go_loopw [3,5,9] (λnv _ i wr=>∃j:Nat,j<=n/\i= I j/\nv= I (tot (Zd (L.take j)))/\wr=w1) (λ_ _ i _=>n-(intOf i).toNat)
 case atStart=>exact⟨0,QqM _,rfl,rfl,rfl⟩
 case round=>
  obtain⟨j,Y,rfl,rfl,rfl⟩:=hrel;have l:=q.o.ok;have s:∀k,0<=tot (Zd (L.take k))/\tot (Zd (L.take k))<=8000000:=by
   intro k;have h1:=Qe5 k (λa ha=>(l.ids a ha).2.2.2.2);have h2:=l.sum;have h3:=l.c1;rw[show Zd (L.take k)=(Zd L).take k by simp[Zd,List.map_take]];omega
  by_cases M:j<n
  ·have V:(j:Int)<(n:Int):=O;obtain⟨y,u⟩:∃y,L[j]? =some y:=⟨_,QqC (by rw[Q.o];exact M)⟩;have b:=QqL u;obtain⟨g,rfl,_,_,_,R,_⟩:=Qx F.o O;have W:=R j (I y.1.id) (by rw[QzF,u];rfl);have X:=(q.o.map.look Tryz.underlying212 Qen (q.o.i64 y b) (q.o.find b)).1;have c1:=q.o.obj.cell 1;have S:=(q.o.acc y b).cell 1;simp at c1 S;have x:Hid (tot (Zd (L.take (j+1)))=tot (Zd (L.take j))+y.1.used):=by
    show _=_;rw[QzW,u];simp[Zd,tot]
   have m:=s (j+1);rw[x.o]at m;obtain⟨⟨id,sz,Z⟩,ab⟩:=y;simp only at W X S x m;obtain⟨t0,t⟩:=Zx (tot (Zd (L.take j)));rw[t]at x m ⊢;clear u b s t R;go_wp2_with fail
   go_roundw
   case rel=>exact⟨j+1,O,by go_num,by rw[x.o],trivial⟩
   case measure=>simp[intOf];omega
  ·obtain rfl:j=n:=O;have p:L.take j=L:=by rw[<-Q.o];exact QzU
   rw[p];go_wp2_with fail
   go_ret
   exact⟨rfl,K.o⟩
theorem Si(w:World)(lb mb:Nat)(cap:Int)(L:LL)(h:LedIn w lb mb cap L):
  C 65 #[(lb,0)] w λe w'=>e= .returned (I (cap-tot (Zd L)))/\Below w w w':=by
 have f:=Q7h (λb hb=>Qu1 b lb mb cap L (h.below hb));have c0:=h.obj.cell 0;simp at c0;have g:Hid (∀b,Below w w b->b.cell? (lb,0)=some (I cap)):=λb hb=>Qq hb c0;have t0:=Qa7 (λa ha=>(h.ok.ids a ha).2.2.2.2);have t1:=h.ok.sum;have t2:=h.ok.c1;have k:=h.ok.c0;obtain⟨t,i⟩:=Zx (tot (Zd L));rw[i]at t0 t1 f ⊢;have j:IntKind.i64.wrap (cap-t)=cap-t:=by rw[QqN];omega
 clear h i;go_in
 go_wp2_with fail
 go_region_held3 (λw'=>w'.cell? (lb,0)=some (I cap)) (first|exact g.o _ c.o|exact g.o _ P)
  (((with_reducible refine(f.o _ P).mono ?_);rintro e w2 ⟨rfl,d⟩;have c:Hid (Below w w w2):=QxB P d;clear d))
 go_wp2_with fail
 go_ret
 exact⟨rfl,c.o⟩
theorem Qsq(w:World)(lb:Nat)(id size:Int)(hb:id<1\/65535<id\/size<0\/16777216<size):
  C 70 #[(lb,0),I id,I size] w λe w'=>e= .returned (I 1)/\Below w w w':=by
 by_cases h1:id<1
 ·go_in
  go_wp2_with fail
  go_ret
  exact⟨rfl,QqA _ _⟩
 ·by_cases h2:65535<id
  ·go_in
   go_wp2_with fail
   go_ret
   exact⟨rfl,QqA _ _⟩
  ·have b:Hid (∀a,C 140 #[I size] a λe w'=>e= .returned (.bool false)/\a=w'):=λa=>by
    have:=I5 size a;rw[show(decide (0<=size)&&decide (size<=16777216))=false by simp;omega]at this;exact this
   clear hb;go_in
   go_wp2_with fail
   with_reducible refine(b.o _).mono ?_
   rintro e w1 ⟨rfl,rfl⟩;go_wp2_with fail
   go_ret
   exact⟨rfl,QqA _ _⟩
theorem Qb9(w:World)(lb mb:Nat)(cap:Int)(L:LL)(y:Acc×Nat)(size:Int)(h:LedIn w lb mb cap L)(b:y∈L)(d:0<=size/\size<=16777216):
  C 70 #[(lb,0),I y.1.id,I size] w λe w'=>e= .returned (I 7)/\Below w w w':=by
 have f:Hid (∀c,C 140 #[I size] c λe w'=>e= .returned (.bool true)/\c=w'):=λc=>by
  have:=I5 size c;rw[show(decide (0<=size)&&decide (size<=16777216))=true by simp;omega]at this;exact this
 have g:=(h.map.look Tryz.underlying212 Qen (h.i64 y b) (h.find b)).2;have a:=h.ok.ids y.1 (QqS.2 ⟨y,b,rfl⟩);have c1:=h.obj.cell 1;simp at c1;obtain⟨⟨id,sz,i⟩,ab⟩:=y;simp only at g a ⊢;have j:¬id<1:=O;have k:¬65535<id:=O;clear h b d a;go_in
 go_wp2_with fail
 with_reducible refine(f.o _).mono ?_
 rintro e w1 ⟨rfl,rfl⟩;go_wp2_with fail
 go_ret
 exact⟨rfl,QqA _ _⟩
theorem Qh4(w:World)(lb mb:Nat)(cap:Int)(L:LL)(id size:Int)(h:LedIn w lb mb cap L)(hi:1<=id/\id<=65535)(c:Xx (key L) id=none)(f:0<=size/\size<=16777216)(d:L.length=8):
  C 70 #[(lb,0),I id,I size] w λe w'=>e= .returned (I 70)/\Below w w w':=by
 have g:Hid (∀a,C 140 #[I size] a λe w'=>e= .returned (.bool true)/\a=w'):=λa=>by
  have:=I5 size a;rw[show(decide (0<=size)&&decide (size<=16777216))=true by simp;omega]at this;exact this
 have i:=(h.map.look0 Tryz.underlying212 Qen (x:=id) (by unfold I64;omega) c).2;have b:=h.map.len Tryz.underlying212;rw[show(key L).length=8 by simp[key,d]]at b;have c1:=h.obj.cell 1;simp at c1;have j:¬id<1:=O;have k:¬65535<id:=O;clear h hi f c d;go_in
 go_wp2_with fail
 with_reducible refine(g.o _).mono ?_
 rintro e w1 ⟨rfl,rfl⟩;go_wp2_with fail
 go_ret
 exact⟨rfl,QqA _ _⟩
theorem Qqt(w:World)(lb mb:Nat)(cap:Int)(L:LL)(id size:Int)(h:LedIn w lb mb cap L)(hi:1<=id/\id<=65535)(p:∀y∈L,y.1.id≠id)(u:Xx (key L) id=none)(q:0<=size/\size<=16777216)(v:L.length<8):
  C 70 #[(lb,0),I id,I size] w λe w'=>∃ab,e= .returned (I 0)/\w.heap.size<=ab/\LedIn w' lb mb cap (J6 L (⟨id,size,0⟩,ab))/\Keep (λk=>k=mb) w w':=by
 have F:Hid (∀m,C 140 #[I size] m λe w'=>e= .returned (.bool true)/\m=w'):=λm=>by
  have:=I5 size m;rw[show(decide (0<=size)&&decide (size<=16777216))=true by simp;omega]at this;exact this
 have Q:=(h.map.look0 Tryz.underlying212 Qen (x:=id) (by unfold I64;omega) u).2;have f:=h.map.len Tryz.underlying212;have g:(key L).length=L.length:=by simp[key]
 rw[g]at f;have c1:=h.obj.cell 1;simp at c1;obtain⟨w2,H,i,b,r⟩:=(h.map.below ((QqA w.heap.size w).alloc N0 (.cells #[I size,I 0] 223))).store Tryz.underlying212 O (x:=id) (by unfold I64;omega) w.heap.size;have d:Hid (LedIn w2 lb mb cap (J6 L (⟨id,size,0⟩,w.heap.size))/\Keep (λk=>k=mb) w w2):=by
  have hb:=h.below ((QqA w.heap.size w).alloc N0 (.cells #[I size,I 0] 223));have K:=h.map.lt;have s:∀y∈L,¬y.2=mb:=λy j e=>by
   have ha:=h.acc y j;obtain⟨M,c,hb,_⟩:=h.map.1;unfold Whole at ha;rw[e,hb]at ha;cases ha
  have t:¬lb=mb:=λe=>by
   have ha:=h.obj;obtain⟨M,c,hb,_⟩:=h.map.1;unfold Whole at ha;rw[e,hb]at ha;cases ha
  refine⟨⟨hb.obj.keep b t,by rw[Qnd];exact i,λz hz=>?_,?_,by rw[Qfn];exact h.ok.put (by simpa[Zd]using v) hi.1 hi.2 q.1 q.2 (λa ha=>by obtain⟨y,j,rfl⟩:=QqS.1 ha;exact p y j)⟩,(Keep.below ((QqA w.heap.size w).alloc N0 _)).trans b (λ_ h=>.inl h)⟩
  ·rcases Ep hz with rfl|hz
   ·exact(Whole.new w _ _).keep b (by show ¬w.heap.size=mb;omega)
   ·exact(hb.acc z hz).keep b (s z hz)
  ·rw[((Qu3 (y:=(⟨id,size,0⟩,w.heap.size)) p).map (·.2)).nodup_iff,QzE,QqP];refine⟨λN=>?_,h.nd⟩;obtain⟨y,j,e⟩:=QqS.1 N;have:=(h.acc y j).lt;omega
 have R:¬id<1:=O;have S:¬65535<id:=O;obtain⟨n,l⟩:=Zx L.length;rw[l]at f v;clear h hi q p u l g i b r;go_in
 go_wp2_with fail
 with_reducible refine(F.o _).mono ?_
 rintro e w1 ⟨rfl,rfl⟩;go_wp2_with fail
 go_ret
 exact⟨w.heap.size,rfl,QqB _,d.o.1,d.o.2⟩
theorem LedIn.far{w:World}{lb mb:Nat}{cap:Int}{L:LL}(h:LedIn w lb mb cap L){y:Acc×Nat}(a:y∈L):y.2≠mb/\y.2≠lb:=by
 have ha:=h.acc y a;refine⟨λe=>?_,O3 ha h.obj D⟩;obtain⟨b,c,hb,_⟩:=h.map.1;unfold Whole at ha;rw[e,hb]at ha;cases ha
theorem Qsy(w:World)(lb mb:Nat)(cap:Int)(L:LL)(id:Int)(h:LedIn w lb mb cap L)(hi:I64 id)(a:Xx (key L) id=none):
  C 81 #[(lb,0),I id] w λe w'=>e= .returned (.tuple #[I 0,I 4])/\Below w w w':=by
 have b:=Q7h (Qdl w lb mb cap L id h hi a);clear h a;go_in
 go_wp2_with fail
 with_reducible refine b.o.mono ?_
 rintro e w1 ⟨rfl,rfl⟩;go_wp2_with fail
 go_returns;exact⟨rfl,QqA _ _⟩
theorem Qsx(w:World)(lb mb:Nat)(cap:Int)(L:LL)(y:Acc×Nat)(h:LedIn w lb mb cap L)(f:y∈L):
  C 81 #[(lb,0),I y.1.id] w λe w'=>e= .returned (.tuple #[I y.1.used,I 0])/\LedIn w' lb mb cap (Qzt L y.1.id)/\Keep (λk=>k=mb) w w':=by
 have p:=Q7h (Az w lb mb cap L y h f);have m:=Tryz.underlying212;obtain⟨w2,g,i,a,n⟩:=h.map.drop m (h.i64 y f) 0;have j:∀ty,(Builtin.delete_ #[212,3] ty #[.map (some mb),I y.1.id]).run Tryz.prog w= .ok (.tuple #[]) w2:=λty=>g;have c1:=h.obj.cell 1;simp at c1;have b:=h.far f;have q:=((h.acc y f).keep a b.1).cell 1;simp at q;have l:¬lb=mb:=λe=>by
  have ha:=h.obj;obtain⟨r,c,hb,_⟩:=h.map.1;unfold Whole at ha;rw[e,hb]at ha;cases ha
 have d:Hid (LedIn w2 lb mb cap (Qzt L y.1.id)/\Keep (λk=>k=mb) w w2):=
  ⟨⟨h.obj.keep a l,by rw[Q2d];exact i,λz hz=>(h.acc z (QzZ.1 hz).1).keep a (h.far (QzZ.1 hz).1).1,h.nd.sublist (List.Sublist.map _ List.filter_sublist),by rw[Q03];exact h.ok.del _⟩,a⟩
 obtain⟨⟨id,sz,s⟩,ab⟩:=y;simp only at j q d p ⊢;clear h f b i a n g l;go_in
 go_wp2_with fail
 with_reducible refine p.o.mono ?_
 rintro e w1 ⟨rfl,rfl⟩;go_wp2_with fail
 go_returns;exact⟨rfl,d.o⟩
theorem Qjp(w:World)(lb mb:Nat)(cap:Int)(L:LL)(id size:Int)(h:LedIn w lb mb cap L)(hi:I64 id)(c:(size<0\/16777216<size)\/Xx (key L) id=none):
  C 79 #[(lb,0),I id,I size] w λe w'=>e= .returned (I (if size<0\/16777216<size then 1 else 4))/\Below w w w':=by
 have b:=Q7h (λd=>I5 size d);by_cases a:size<0\/16777216<size
 ·rw[QqH a];rw[show(decide (0<=size)&&decide (size<=16777216))=false by simp;omega]at b;clear h c a;go_in
  go_wp2_with fail
  with_reducible refine(b.o _).mono ?_
  rintro e w1 ⟨rfl,rfl⟩;go_wp2_with fail
  go_ret
  exact⟨rfl,QqA _ _⟩
 ·rw[QqE a];rw[show(decide (0<=size)&&decide (size<=16777216))=true by simp;omega]at b;have f:=Q7h (Qdl w lb mb cap L id h hi (c.resolve_left a));clear h c a;go_in
  go_wp2_with fail
  with_reducible refine(b.o _).mono ?_
  rintro e w1 ⟨rfl,rfl⟩;go_wp2_with fail
  with_reducible refine f.o.mono ?_
  rintro e w1 ⟨rfl,rfl⟩;go_wp2_with fail
  go_ret
  exact⟨rfl,QqA _ _⟩
theorem Gg{L:LL}{y:Acc×Nat}(h:y∈L):y.1∈Zd L:=QqS.2 ⟨y,h,rfl⟩
theorem Qh3(w:World)(lb mb:Nat)(cap:Int)(L:LL)(y:Acc×Nat)(size:Int)(h:LedIn w lb mb cap L)(d:y∈L)(f:0<=size/\size<=16777216):
  C 79 #[(lb,0),I y.1.id,I size] w λe w'=>e= .returned (I 0)/\LedIn w' lb mb cap (Y1 L y.1.id λa=>{a with size:=size})/\Keep (λk=>k=y.2) w w':=by
 have i:=Q7h (λl=>I5 size l);rw[show(decide (0<=size)&&decide (size<=16777216))=true by simp;omega]at i;have j:=Q7h (Az w lb mb cap L y h d);have ha:=h.acc y d;have c0:=ha.cell 0;have m:=ha.fz 0;simp at c0;have g:Keep (λk=>k=y.2) w (w.setCell (y.2,0) (I size)):=Keep.set1 w y.2 0 _;have b:=h.ok.ids y.1 (Gg d);have c:Hid (LedIn (w.setCell (y.2,0) (I size)) lb mb cap (Y1 L y.1.id λa=>{a with size:=size})/\Keep (λk=>k=y.2) w (w.setCell (y.2,0) (I size))):=
  ⟨h.turn d (λ_=>rfl) g (by simpa using ha.set 0 (I size)) (h.ok.set (Gg d) _ (λ_=>rfl) ⟨f.1,f.2,b.2.2.2.2⟩ (by have:=h.ok.sum;simp;omega)),g⟩
 obtain⟨⟨id,sz,n⟩,ab⟩:=y;simp only at c0 m c j ⊢;clear h d ha g b f;go_in
 go_wp2_with fail
 with_reducible refine(i.o _).mono ?_
 rintro e w1 ⟨rfl,rfl⟩;go_wp2_with fail
 with_reducible refine j.o.mono ?_
 rintro e w1 ⟨rfl,rfl⟩;go_wp2_with fail
 go_ret
 exact⟨rfl,c.o⟩
theorem Ms(w:World)(lb mb:Nat)(cap:Int)(L:LL)(y:Acc×Nat)(n:Int)(h:LedIn w lb mb cap L)(b:y∈L)(g:cap-tot (Zd L)<n):
  C 106 #[(lb,0),I y.1.id,I n] w λe w'=>e= .returned (I 71)/\Below w w w':=by
 have⟨c,d⟩:=Q2 (Az w lb mb cap L y h b) (Si w lb mb cap L h);have i:=h.ok.sum;obtain⟨t,f⟩:=Zx (cap-tot (Zd L));rw[f]at d g;have j:¬n<0:=O;obtain⟨⟨id,sz,k⟩,ab⟩:=y;simp only at c ⊢;clear h b f i;go_in
 go_wp2_with fail
 with_reducible refine c.o.mono ?_
 rintro e w1 ⟨rfl,rfl⟩;go_wp2_with fail
 with_reducible refine d.o.mono ?_
 rintro e w2 ⟨rfl,a⟩;go_wp2_with fail
 go_ret
 exact⟨rfl,a⟩
theorem Mr(w:World)(lb mb:Nat)(cap:Int)(L:LL)(y:Acc×Nat)(n:Int)(h:LedIn w lb mb cap L)(g:y∈L)(M:0<=n)(u:n<=cap-tot (Zd L)):
  C 106 #[(lb,0),I y.1.id,I n] w λe w'=>e= .returned (I 0)/\LedIn w' lb mb cap (Y1 L y.1.id λa=>{a with used:=a.used+n})/\Keep (λk=>k=y.2) w w':=by
 have⟨p,q,H⟩:=Q3 (Az w lb mb cap L y h g) (Si w lb mb cap L h) h;have b:=h.ok.ids y.1 (Gg g);have i:=Gh (λa ha=>(h.ok.ids a ha).2.2.2.2) y.1 (Gg g);have m:=h.ok.c1;have j:=h.ok.sum;have d:Hid (∀c,Below w w c->(c.cell? (y.2,1)=some (I y.1.used)/\c.frozen? (y.2,1)=false)/\LedIn (c.setCell (y.2,1) (I (y.1.used+n))) lb mb cap (Y1 L y.1.id λa=>{a with used:=a.used+n})/\Keep (λk=>k=y.2) w (c.setCell (y.2,1) (I (y.1.used+n)))):=by
  intro c hb;have hq:=H.o.below hb;have ha:=hq.acc y g;have r:Keep (λk=>k=y.2) c (c.setCell (y.2,1) (I (y.1.used+n))):=Keep.set1 c y.2 1 _;refine⟨⟨ha.cell 1,ha.fz 1⟩,hq.turn g (λ_=>rfl) r (by simpa using ha.set 1 (I (y.1.used+n))) (hq.ok.set (Gg g) _ (λ_=>rfl) ⟨b.2.2.1,b.2.2.2.1,by simp only;omega⟩ (by simp only;omega)),(Keep.below hb).trans r (λ_ h=>.inl h)⟩
 obtain⟨t,s⟩:=Zx (cap-tot (Zd L));rw[s]at q u;have v:¬n<0:=O;obtain⟨⟨id,sz,x⟩,ab⟩:=y;simp only at p d b i ⊢;have z:=b.2.2.2.2;have F:x+n<=9223372036854775807:=O;clear h g s b i j m;go_in
 go_wp2_with fail
 with_reducible refine p.o.mono ?_
 rintro e w1 ⟨rfl,rfl⟩;go_wp2_with fail
 with_reducible refine q.o.mono ?_
 rintro e w2 ⟨rfl,l⟩;obtain⟨⟨N,Q⟩,f⟩:=d.o w2 l;have K:=Q7h f;clear l f;go_wp2_with fail
 go_ret
 exact⟨rfl,K.o⟩
theorem Qu5(w:World)(lb mb:Nat)(cap:Int)(L:LL)(y:Acc×Nat)(n:Int)(h:LedIn w lb mb cap L)(d:y∈L)(u:0<=n)(p:n<=y.1.used):
  C 155 #[(lb,0),I y.1.id,I n] w λe w'=>e= .returned (I 0)/\LedIn w' lb mb cap (Y1 L y.1.id λa=>{a with used:=a.used-n})/\Keep (λk=>k=y.2) w w':=by
 have l:=Q7h (Az w lb mb cap L y h d);have b:=h.ok.ids y.1 (Gg d);have f:=Gh (λa ha=>(h.ok.ids a ha).2.2.2.2) y.1 (Gg d);have i:=h.ok.c1;have g:=h.ok.sum;have ha:=h.acc y d;have m:=ha.cell 1;have q:=ha.fz 1;simp at m;have j:Keep (λk=>k=y.2) w (w.setCell (y.2,1) (I (y.1.used-n))):=Keep.set1 w y.2 1 _;have c:Hid (LedIn (w.setCell (y.2,1) (I (y.1.used-n))) lb mb cap (Y1 L y.1.id λa=>{a with used:=a.used-n})/\Keep (λk=>k=y.2) w (w.setCell (y.2,1) (I (y.1.used-n)))):=
  ⟨h.turn d (λ_=>rfl) j (by simpa using ha.set 1 (I (y.1.used-n))) (h.ok.set (Gg d) _ (λ_=>rfl) ⟨b.2.2.1,b.2.2.2.1,by simp only;omega⟩ (by simp only;omega)),j⟩
 have r:¬n<0:=O;obtain⟨⟨id,sz,s⟩,ab⟩:=y;simp only at l c b f p m q ⊢;have t:s<=9223372036854775807:=O;clear h d ha j b f g i;go_in
 go_wp2_with fail
 with_reducible refine l.o.mono ?_
 rintro e w1 ⟨rfl,rfl⟩;go_wp2_with fail
 go_ret
 exact⟨rfl,c.o⟩
end vo
end Go.Proofs.YtfialjmemcobjaaGreatDoor
