/- A part of the proof. -/
import Derived.Test.YtfialjmemcobjaaGreatDoorPbYxMb
import Derived.Lib.AppendZeros
import Derived.Lib.SliceRun
import Derived.Maps.AppendAt
set_option maxRecDepth 100000
set_option maxHeartbeats 16000000
set_option linter.unusedVariables false
set_option linter.unusedSimpArgs false
namespace Go.Proofs.YtfialjmemcobjaaGreatDoor
namespace tr
open Go.RowKit er
def SlAt(w:World)(v:Value)(n k:Nat)(xs:List Value):Prop:=
 xs.length=n*k/\((v= .slice none 0 0/\n=0)\/∃g o c,v= .slice (some ⟨g,o,none⟩) n c/\∀j u,xs[j]? =some u->w.cell? ⟨g,o+j,none⟩=some u)
theorem SlAt.keep{w w':World}{v:Value}{n k:Nat}{xs:List Value}(h:SlAt w v n k xs)(b:∀(a:Addr) u,w.cell? a=some u->w'.cell? a=some u):SlAt w' v n k xs:=by
 obtain⟨h1,h2|⟨g,o,c,h2,h3⟩⟩:=h
 ·exact⟨h1,.inl h2⟩
 ·exact⟨h1,.inr ⟨g,o,c,h2,λj u d=>b _ _ (h3 j u d)⟩⟩
theorem SlAt.below{w w':World}{v:Value}{n k:Nat}{xs:List Value}(h:SlAt w v n k xs)(hb:Below w w w'):SlAt w' v n k xs:=h.keep λa u ha=>Qq hb ha
theorem SlAt.own {w:World} {B n k:Nat} {t:TypeId} {v:Value} {xs:List Value} (h:w.ownsRow B t k v n xs):SlAt w v n k xs:=by
 refine ⟨h.1,?_⟩
 rcases h.2 with ⟨h1,h2⟩|⟨g,cap,b,h1,h2,h3,h4,h5,d,c⟩
 ·exact .inl ⟨h1,h2⟩
 ·refine .inr ⟨g,0,cap,h1,fun j u a=>?_⟩
  rw [Nat.zero_add,cell_of_row w g j b t (0,0) h3]
  rw [←c,List.getElem?_take] at a
  split at a
  ·simpa using a
  ·cases a
theorem SlAt.row{w:World}{g c n k:Nat}{t:TypeId}{xs:List Value}(h:Row w g c k t xs)(a:xs.length=n*k):SlAt w (.slice (some (g,0)) n c) n k xs:=
 ⟨a,.inr ⟨g,0,c,rfl,λj u b=>by rw[QkG];exact h.cell b⟩⟩
theorem SlAt.exts{w:World}{v:Value}{n:Nat}{l:List Ext}(h:SlAt w v n 4 (Qz l)):ExtsAt w v l/\l.length=n:=by
 obtain⟨h1,h2⟩:=h;have a:l.length=n:=by rw[Zy]at h1;omega
 subst a;refine⟨?_,rfl⟩;rcases h2 with⟨rfl,h2⟩|⟨g,o,c,rfl,h3⟩
 ·exact⟨none,0,by rw[h2],λm=>O⟩
 ·refine⟨_,c,rfl,λ_=>⟨g,o,rfl,λj e b=>?_⟩⟩;obtain⟨d,f,i,k⟩:=Jo l j e b;exact⟨h3 _ _ d,by have:=h3 _ _ f;rwa[<-QxW]at this,by have:=h3 _ _ i;rwa[<-QxW]at this,by have:=h3 _ _ k;rwa[<-QxW]at this⟩
theorem Cm{P:Program}(w:World)(base:Nat)(t ty e:TypeId)(i:TypeInfo)(z:Value)(size bytes:Nat)(s:P.underlying t=some (.slice e))(hi:P.info? e=some i)(hz:i.zero=some z)
  (f:i.size=size) (l:i.bytes=bytes) (p:z.cells.size=size) (q:0<size) (v:Value) (n:Nat) (xs:List Value) (b:w.ownsRow base e size v n xs)
  (y:Value) (m:Nat) (a:List Value) (F:SlAt w y m size a) (h1:∀u∈a,u.oneCell'=true) (r:n+m<=100000000) (d:bytes<=64) (h:base<=w.heap.size):
  ∃k w',(Builtin.append_ #[t,t] ty #[v,y]).run P w= .ok k w'/\w'.ownsRow base e size k (n+m) (xs++a)/\w.grownBy w' v.ownBlock:=by
 obtain⟨x,⟨rfl,rfl⟩|⟨g,o,c,rfl,H⟩⟩:=F
 ·obtain rfl:a=[]:=QjS (by simpa using x);exact⟨v,w,run_append_owned_none w base t ty e i size s hi v n xs b,by simpa using b,World.grownBy.refl w _⟩
 ·have hb:(n+m)*bytes<=140737488355328:=by
   have:=QgS r d;omega
  obtain⟨k,w',h2,h3,h4,_⟩:=run_append_own (P:=P) w base t ty e i z size bytes s hi hz f l p q v n xs b (g,o) m c a x (λj u K=>by rw[QxH];exact H j u K) h1 (by unfold maxLen;omega) hb h;exact⟨k,w',h2,h3,h4⟩
theorem Kl{α:Type}(f:α->Nat)(l:List α)(j:Nat)(x:α)(h:l[j]? =some x):((l.take (j+1)).map f).sum=((l.take j).map f).sum+f x:=by
 have a:j<l.length:=(QqD.1 h).1;have b:l[j]=x:=by rw[QqC a]at h;injection h
 rw[QkC a,b];simp
theorem Jh{α β:Type}(f:α->List β)(l:List α)(j:Nat)(x:α)(h:l[j]? =some x):(l.take (j+1)).flatMap f=(l.take j).flatMap f++f x:=by
 have a:j<l.length:=(QqD.1 h).1;have b:l[j]=x:=by rw[QqC a]at h;injection h
 rw[QkC a,b];simp
theorem Cf{α:Type}(f:α->Nat):∀(l:List α) (j:Nat),((l.take j).map f).sum<=(l.map f).sum
 |[],j=>U
 |a::l,0=>U
 |a::l,j+1=>by
  have:=Cf f l j;simp only[List.take_succ_cons,QzE,QxX];omega
theorem Np:(Tryz.prog.info? 255).map (λi=>(i.zero,i.size,i.bytes))=some (some (.agg #[I 0,I 0,I 0,I 0]),4,32):=J
theorem Q3s(n:Nat)(w:World)(t:n<=100000000):C 301 #[.slice none 0 0,I n] w λe w'=>∃p,e= .returned p/\w'.ownsRow w.heap.size 255 4 p 0 []/\Below w w w':=by
 rcases QyJ n with rfl|r
 ·go_in
  go_wp2_with fail
  go_ret
  exact⟨_,rfl,⟨rfl,.inl ⟨rfl,rfl⟩⟩,QqA _ _⟩
 ·obtain⟨s,f,g,i,h⟩:=QzX Np;have a:∀ty,(Builtin.append_ #[261,3] ty #[.slice none 0 0,I (n:Int)]).run Tryz.prog w= .ok (.slice (some (w,0)) n (grownCap w n 0 255)) (w.drew.alloc (.cells (Builtin.zeroCells (Value.cells (.agg #[I 0,I 0,I 0,I 0])) n++Builtin.zeroCells (Value.cells (.agg #[I 0,I 0,I 0,I 0])) (grownCap w n 0 255-n)) 255)):=λty=>
   Lib.run_append_nil_zeros w 261 3 ty 255 s _ .i64 .i64 Tryz.underlying261 Tryz.underlying3 f g n r O O (by rw[h];omega)
  have j:=grownCap_ge w n 0 255;have c:=QyZ w n 0 255 (by unfold maxLen;omega);obtain⟨G,q⟩:=Zx (grownCap w n 0 255);rw[q]at a j c;have d:(Builtin.zeroCells (Value.cells (.agg #[I 0,I 0,I 0,I 0])) n++Builtin.zeroCells (Value.cells (.agg #[I 0,I 0,I 0,I 0])) (G-n)).size=G*4:=by
   rw[QyE,QxS,QxS];show n*4+(G-n)*4=G*4;omega
  obtain⟨cs,b⟩:=Zx (Builtin.zeroCells (Value.cells (.agg #[I 0,I 0,I 0,I 0])) n++Builtin.zeroCells (Value.cells (.agg #[I 0,I 0,I 0,I 0])) (G-n));rw[b]at a d;have⟨k,l,m⟩:=Q3 a d c;clear q b d a f g i h c;go_in
  go_wp2_with (at_builtin;refine Lib.wpList_append_run _ rfl _ _ _ _ rfl _ _ rfl rfl _ _ (k.o _) ?_)
  all_goals (go_ret;refine⟨_,rfl,QuL w.drew cs G N0 m.o l.o,(QqZ B0).alloc N0 _⟩)
theorem Qx6(ys:List (Value×Nat×List Value))(gb mc:Nat)(w:World)(hc:∀j y,ys[j]? =some y->w.cell? ⟨gb,j,none⟩=some y.1/\SlAt w y.1 y.2.1 4 y.2.2/\∀u∈y.2.2,u.oneCell'=true)
  (hs:(ys.map λy=>y.2.1).sum<=100000000) (hm:ys.length<=1000) (h0:0<ys.length):
  C 268 #[.slice (some ⟨gb,0,none⟩) ys.length mc] w λe w'=>∃v',e= .returned v'/\w'.ownsRow w.heap.size 255 4 v' (ys.map λy=>y.2.1).sum (ys.flatMap λy=>y.2.2)/\Below w.heap.size w w':=by
 obtain⟨m,p⟩:∃m,ys.length=m:=⟨_,rfl⟩;have⟨V,HC⟩:=Q2 p hc;rw[p]at hm;rw[p];obtain⟨i0,K,L,M,N⟩:=QzX Np;have Z:=Q7h (λj=>QqR (Cf (λy:Value×Nat×List Value=>y.2.1) ys j) hs);have HG:=Q7h (λ(n:Nat) (hn:n<=100000000)=>Q3s n w hn);have B:=Q7h (λ(W:World) (v:Value) (n:Nat) (xs:List Value) (Q:W.ownsRow w.heap.size 255 4 v n xs) (y:Value×Nat×List Value) (hq:SlAt W y.1 y.2.1 4 y.2.2) (h1:∀u∈y.2.2,u.oneCell'=true) (aa:n+y.2.1<=100000000) (hb:w.heap.size<=W.heap.size) (ty:TypeId)=>Cm (P:=Tryz.prog) W w.heap.size 261 ty 255 i0 _ 4 32 Tryz.underlying261 K L M N rfl O v n xs Q y.1 y.2.1 y.2.2 hq h1 aa O hb);have H0:Hid (0<m):=by show 0<m;omega
 clear p hc hs h0 K L M N;go_enter Tryz.func268,Tryz.ntmps268
 go_wp2_with fail
 go_loop [3,11] (λs i=>∃j:Nat,j<=m/\i= I j/\s= I (((ys.take j).map λy=>y.2.1).sum:Nat)) (λ_ i=>m-(intOf i).toNat)
 case atStart=>exact⟨0,QqM _,rfl,rfl⟩
 case round=>
  obtain⟨j,hj,rfl,rfl⟩:=hrel;by_cases ak:j<m
  ·have ab:(j:Int)<(m:Int):=O;have t:=V.out;obtain⟨y,o⟩:∃y,ys[j]? =some y:=⟨ys[j]'O,QqC O⟩;have a:=Z.out (j+1);rw[Kl _ _ _ _ o]at a;have h:=Q7h (Kl (λy:Value×Nat×List Value=>y.2.1) _ _ _ o);obtain⟨c0,l,_⟩:=HC.out j y o;obtain⟨S,q⟩:∃S,((ys.take j).map λy=>y.2.1).sum=S:=⟨_,rfl⟩;rw[q]at a;have x:=Q7h q;rw[q];obtain⟨yv,yn,yx⟩:=y;dsimp only at c0 l a h;obtain⟨_,⟨rfl,rfl⟩|⟨yg,yo,yc,rfl,_⟩⟩:=l;all_goals
    clear o t q;go_wp2_with fail
    go_round
    case rel=>exact⟨j+1,O,by go_num,by rw[h.out,x.out];first|go_num|(congr 1;omega)|(simp;done)⟩
    case measure=>simp[intOf];omega
  ·obtain rfl:j=m:=O;have b:ys.take j=ys:=by rw[<-V.out];exact QzU
   rw[b];have a:=Z.out j;rw[b]at a;obtain⟨S,q⟩:∃S,(ys.map λy=>y.2.1).sum=S:=⟨_,rfl⟩;rw[q]at a;have⟨x,ac⟩:=Q2 q (HG.out S a);rw[q];clear q b;go_wp2_with fail
   refine ac.out.mono ?_;rintro e w2 ⟨v2,rfl,f,R⟩;obtain⟨A2,c2,e2⟩:=Qk f;subst e2;have⟨ad,ae⟩:=Q2 f R;clear f R;go_wp2_with fail
   go_loopw [6,27] (λs i wr=>∃(d F:Nat) (A:Option Addr) (c:Nat),d<=j/\i= I d/\s= .slice A F c/\Hid (((ys.take d).map λy=>y.2.1).sum=F)/\Hid (wr.ownsRow w.heap.size 255 4 (.slice A F c) F ((ys.take d).flatMap λy=>y.2.2))/\Hid (Below w.heap.size w wr)) (λ_ i _=>j-(intOf i).toNat)
   case atStart=>exact⟨0,0,A2,c2,QqM _,rfl,rfl,rfl,ad.out,ae.out⟩
   case round=>
    obtain⟨d,F,A,c,al,rfl,rfl,X,Y,H⟩:=hrel;by_cases aj:d<j
    ·have ab:(d:Int)<(j:Int):=O;have t:=V.out;obtain⟨y,o⟩:∃y,ys[d]? =some y:=⟨ys[d]'O,QqC O⟩;have a:=Z.out (d+1);rw[Kl _ _ _ _ o,X.out]at a;have h:=Q7h (Kl (λy:Value×Nat×List Value=>y.2.1) _ _ _ o);have af:=Q7h (Jh (λy:Value×Nat×List Value=>y.2.2) _ _ _ o);obtain⟨c0,l,h1⟩:=HC.out d y o;have am:=Qq H.out c0;obtain⟨v3,w3,r,g,T⟩:=B.out wr _ _ _ Y.out y (l.below H.out) h1 O H.out.size 261;have⟨HR,ag⟩:=Q2 r g;have ah:=Q7h (H.out.grown T H.out.size (λk hk=>(Y.out.lt k hk).1));obtain⟨A3,c3,e3⟩:=Qk g;subst e3;clear o t a l h1 c0 r g T;go_wp2_with (at_builtin;refine Lib.wpList_append_run _ rfl _ _ _ _ rfl _ _ rfl rfl _ _ HR.out ?_)
     have z:j-(intOf (I ((d:Int)+1))).toNat<j-(intOf (I (d:Int))).toNat:=by simp[intOf];omega
     refine⟨⟨d+1,F+y.2.1,A3,c3,?_,?_,rfl,?_,?_,?_⟩,z⟩
     ·omega
     ·go_num
     ·show _=_;rw[h.out,X.out]
     ·rw[af.out];with_reducible exact ag
     ·with_reducible exact ah
    ·obtain rfl:d=j:=O;go_wp2_with fail
     go_ret
     have b:ys.take d=ys:=by rw[<-V.out];exact QzU
     rw[b]at Y X;refine⟨_,rfl,?_,H.out⟩;have ai:=X.out;rw[<-x.out,ai];exact Y.out
theorem Qjz(n:Nat)(v:Value)(xs:List Value)(w:World)(h:SlAt w v n 4 xs)(N:n<=100000000)(h1:∀u∈xs,u.oneCell'=true):
  C 334 #[v] w λe w'=>∃s,e= .returned s/\w'.ownsRow w.heap.size 255 4 s n xs/\Below w w w':=by
 have hq:=λ(w:World) (a:Option Addr) (n c t x:Nat)=>Lib.run_eql_slice_nil (P:=Tryz.prog) w 261 255 a n c t x Tryz.underlying261;obtain⟨y,f,i,j,l⟩:=QzX Np;have z:=h;obtain⟨p,⟨rfl,rfl⟩|⟨g,o,c,rfl,F⟩⟩:=z
 ·obtain rfl:xs=[]:=QjS (by simpa using p);clear h p h1 f i j l;go_in
  go_wp2_with fail
  go_ret
  exact⟨_,rfl,⟨rfl,.inl ⟨rfl,rfl⟩⟩,QqA _ _⟩
 ·obtain⟨H,K,d,b,m⟩:=Cm (P:=Tryz.prog) (w.alloc (.cells #[] 255)) w.heap.size 261 261 255 y _ 4 32 Tryz.underlying261 f i j l rfl O _ 0 [] (QuL w #[] 0 N0 (QqM _) U) _ n xs (h.below (B0.alloc N0 _)) h1 O O U;have L:=Q7h d;have q:Hid (K.ownsRow w.heap.size 255 4 H n xs):=by show World.ownsRow _ _ _ _ _ _ _;simpa using b
  have r:=Q7h ((B0.alloc N0 _).grown m U (λk M=>by simp[Value.ownBlock]at M;omega));clear h p h1 F d b m f i j l;go_in
  go_wp2_with (at_builtin;refine Lib.wpList_append_run _ rfl _ _ _ _ rfl _ _ rfl rfl _ _ L.o ?_)
  go_ret
  exact⟨_,rfl,q.o,r.o⟩
theorem Bw:(Tryz.prog.info? 226).map (λi=>(i.zero,i.size,i.bytes))=some (some .nilIface,1,16):=J
theorem Qu{a b c:World}(h:Below a a b)(k:Below b b c):Below a a c:=h.trans (k.mono h.size)
theorem Cb{B f n1 n2 k:Nat}{t:TypeId}{v1 v2:Value}{x1 h:List Value}{a b:World}(h1:a.ownsRow f t k v1 n1 x1)(i:B<=f)(hb:Below a a b)(h2:b.ownsRow a.heap.size t k v2 n2 h)(d:B<=a.heap.size):
  b.ownsRow B t k v1 n1 x1/\b.ownsRow B t k v2 n2 h/\(∀g,v1.ownBlock=some g->v2.ownBlock≠some g)/\∀g,v2.ownBlock=some g->v1.ownBlock≠some g:=by
 refine⟨Qr (own_below h1 hb) i,Qr h2 d,λg e c=>?_,λg e c=>?_⟩
 ·have:=(h1.lt g e).2;have:=(h2.lt g c).1;omega
 ·have:=(h1.lt g c).2;have:=(h2.lt g e).1;omega
theorem SlAt.form{w:World}{v:Value}{n k:Nat}{xs:List Value}(h:SlAt w v n k xs):∃A c,v= .slice A n c:=by
 obtain⟨h1,⟨rfl,rfl⟩|⟨g,o,c,rfl,h3⟩⟩:=h
 ·exact⟨none,0,rfl⟩
 ·exact⟨_,c,rfl⟩
theorem Row.drop{w:World}{g c n k q:Nat}{t:TypeId}{xs:List Value}(h:Row w g c k t xs)(b:xs.length=n*k)(hq:q<=n):SlAt w (.slice (some ⟨g,q*k,none⟩) (n-q) (c-q)) (n-q) k (xs.drop (q*k)):=by
 refine⟨?_,.inr ⟨g,q*k,c-q,rfl,λj u a=>?_⟩⟩
 ·rw[QkJ,b,QyL]
 ·rw[QjY]at a;exact h.cell a
theorem Row.below{w w':World}{g c k:Nat}{t:TypeId}{xs:List Value}(h:Row w g c k t xs)(hb:Below w w w'):Row w' g c k t xs:=by
 obtain⟨cs,a,h1,h2⟩:=h.blk;exact⟨⟨cs,a.below hb a.lt,h1,h2⟩,h.cap,h.fit⟩
theorem Row.front{w:World}{g c k q:Nat}{t:TypeId}{xs:List Value}(h:Row w g c k t xs)(hq:q<=c)(a:(xs.take (q*k)).length=q*k):Row w g q k t (xs.take (q*k)):=by
 obtain⟨cs,b,h1,h2⟩:=h.blk;refine⟨⟨cs,b,QqR (QkV k hq) h1,?_⟩,QqR hq h.cap,O⟩;rw[a];rw[QzJ]at a;rw[<-h2,List.take_take,QuR O]
theorem Qhx(n g c:Nat)(xs:List Value)(w:World)(h:Row w g c 4 255 xs)(l:xs.length=n*4)(h2:2<=n)(M:n<=1000)(h1:∀u∈xs,u.oneCell'=true):
  C 323 #[.slice (some (g,0)) n c] w λe w'=>∃d,e= .returned (.tuple #[.slice (some (g,0)) (n/2) (n/2),d])/\w'.ownsRow w.heap.size 255 4 d (n-n/2) (xs.drop (n/2*4))/\Below w w w':=by
 have s:n<=c:=by have:=h.fit;omega
 have j:=h.cap;unfold maxLen at j;obtain⟨q,hq⟩:=Zx (n/2);have t:Hid (∀b,Below w w b->C 334 #[.slice (some (g,q*4)) (n-q) (c-q)] b λe w'=>∃d,e= .returned d/\w'.ownsRow b.heap.size 255 4 d (n-q) (xs.drop (q*4))/\Below b b w'):=λb hb=>by
  have m:=(h.below hb).drop l (show q<=n by omega);(try simp only[QkN]at m);(try simp only[QkN])
  first|exact Qjz (n-q) _ _ b m O (λu v=>h1 u (QjG v))
 have x:(n:Int)/2=(q:Int):=O;have y:(q:Int)<=(n:Int):=O;have z:(q:Int)<=(c:Int):=O;have F:(0:Int)<=(q:Int):=O;have H:¬(c=q):=O;have p:q<=n:=O;have r:q<=c:=O;rw[hq];clear h l h1 hq;go_in
 go_wp2_with fail
 go_region_held3 (λw'=>Below w w w') (first|with_reducible exact QqA _ _|with_reducible exact f.o|exact QqZ B0) ((go_at_call 334;refine(t.o _ (by first|with_reducible exact QqA _ _|exact QqZ B0)).mono ?_;rintro e K ⟨L,rfl,a,i⟩;have k:=Q7h a;have f:Hid (Below w w K):=QxB (QqZ B0) i;clear a i))
 go_wp2_with fail
 go_ret2
 exact⟨L,rfl,k.o,f.o⟩
theorem Q43(f nb K:Nat)(va vb:Value)(p q:List Value)(w:World)(ha:SlAt w va f 4 p)(hb:SlAt w vb nb 4 q)(hK:K<=f+nb)(h0:0<f+nb)(hm:f+nb<=1000)(h1:∀u∈p++q,u.oneCell'=true):
  C 340 #[va,vb,I K] w λe w'=>∃v1 v2,e= .returned (.tuple #[v1,v2])/\w'.ownsRow w.heap.size 255 4 v1 K ((p++q).take (K*4))/\w'.ownsRow w.heap.size 255 4 v2 (f+nb-K) ((p++q).drop (K*4))/\(∀g,v1.ownBlock=some g->v2.ownBlock≠some g)/\Below w w w':=by
 obtain⟨W,c1,rfl⟩:=ha.form;obtain⟨A2,c2,rfl⟩:=hb.form;have X:Hid (C 268 #[.slice (some (w,0)) 2 2] (w.alloc (.cells #[.slice W f c1,.slice A2 nb c2] 261)) λe w'=>∃g c,e= .returned (.slice (some (g,0)) (f+nb) c)/\Row w' g c 4 255 (p++q)/\w.heap.size+1<=g/\Below w w w'):=by
  have H:Below w w (w.alloc (.cells #[.slice W f c1,.slice A2 nb c2] 261)):=B0.alloc N0 _;refine(Qx6 [(.slice W f c1,f,p),(.slice A2 nb c2,nb,q)] w.heap.size 2 (w.alloc (.cells #[.slice W f c1,.slice A2 nb c2] 261)) ?_ (by simpa using(by omega:f+nb<=100000000)) U U).mono ?_
  ·have hw:=Whole.new w 261 #[.slice W f c1,.slice A2 nb c2];intro j y t;match j,t with
   |0,t=>simp at t;subst t;exact⟨hw.cell 0,ha.below H,λu L=>h1 u (by simp[L])⟩
   |1,t=>simp at t;subst t;exact⟨hw.cell 1,hb.below H,λu L=>h1 u (by simp[L])⟩
   |j+2,t=>simp at t
  ·rintro e w' ⟨V,rfl,z,ab⟩;simp only[QzE,QjE,QxX,List.sum_nil,Nat.add_zero,QqV,QyK,QzT]at z;obtain⟨g,c,rfl,a,hg⟩:=Row.own z O;exact⟨g,c,rfl,a,by simpa using hg,H.trans (ab.mono U)⟩
 have i:(p++q).length=(f+nb)*4:=by rw[QqK,ha.1,hb.1,QxZ]
 have M:Hid (∀(g c:Nat) (w2:World),Row w2 g c 4 255 (p++q)->(∀l,Below w2 w2 l->C 334 #[.slice (some (g,0)) K c] l λe w'=>∃V,e= .returned V/\w'.ownsRow l.heap.size 255 4 V K ((p++q).take (K*4))/\Below l l w')/\∀o c',((f+nb-K=0)\/o=K*4)->∀l,Below w2 w2 l->C 334 #[.slice (some (g,o)) (f+nb-K) c'] l λe w'=>∃V,e= .returned V/\w'.ownsRow l.heap.size 255 4 V (f+nb-K) ((p++q).drop (K*4))/\Below l l w'):=by
  intro g c w2 hr;refine⟨λl Q=>Qjz K _ _ l ⟨by rw[QzJ,i];have:=QkV 4 hK;omega,.inr ⟨g,0,c,rfl,λj u v=>?_⟩⟩ O (λu L=>h1 u (QjF L)),λo c' Y l Q=>Qjz (f+nb-K) _ _ l ⟨by rw[QkJ,i,QyL],.inr ⟨g,o,c',rfl,λj u v=>?_⟩⟩ O (λu L=>h1 u (QjG L))⟩
  ·rw[QkG];rw[QxE]at v;split at v
   ·exact(hr.below Q).cell v
   ·cases v
  ·rcases Y with Y|Y
   ·have:((p++q).drop (K*4)).length=0:=by rw[QkJ,i,<-QyL,Y,Nat.zero_mul]
    rw[List.length_eq_zero_iff.1 this]at v;cases v
   ·subst Y;rw[QjY]at v;exact(hr.below Q).cell v
 have F:Hid (∀(g c:Nat) (w2:World),Row w2 g c 4 255 (p++q)->f+nb<=c):=by
  intro g c w2 hr;have:=hr.fit;rw[i]at this;omega
 obtain⟨N,hN⟩:=Zx (f+nb);rw[hN]at X M F hK hm h0 ⊢;clear hN ha hb h1 i;go_in
 go_wp2_with fail
 refine X.o.mono ?_;rintro e w2 ⟨g,c,rfl,a,hg,Z⟩;have⟨k,A,aa⟩:=Q3 Z (M.o g c w2 a).1 (M.o g c w2 a).2;have ag:N<=c:=F.o g c w2 a;have ac:=a.cap;unfold maxLen at ac;have ah:(K:Int)<=(c:Int):=O;have ai:(K:Int)<=(N:Int):=O;have aj:K<=c:=O;have ak:(0:Int)<=(K:Int):=O;clear Z a;by_cases ad:c=K
 ·obtain rfl:K=N:=O;subst ad;have x:=Q7h (aa.o 0 (c-c) (.inl O));simp only[QyU]at x;go_wp2_with fail
  go_region_held3 (λw'=>Below w2 w2 w') (first|with_reducible exact QqA _ _|with_reducible exact r.o|with_reducible exact s.o|exact QqZ B0) ((first|(go_at_call 334;(with_reducible refine(A.o _ (by assumption)).mono ?_);rintro e w5 ⟨v5,rfl,b,m⟩;have⟨R,ae⟩:=Q2 b m;have s:=Q7h (Qu (by assumption) m);clear b m)|(go_at_call 334;(with_reducible refine(x.o _ (by assumption)).mono ?_);rintro e w6 ⟨v6,rfl,d,n⟩;have⟨S,T⟩:=Q2 d n;have r:=Q7h (Qu (by assumption) n);clear d n)))
  all_goals go_wp2_with fail
  all_goals go_ret2
  all_goals have af:=k.o.size
  ·have h:=Cb (B:=w.heap.size) R.o (by have:=k.o.size;exact this) T.o S.o (QqR k.o.size s.o.size);exact⟨v5,v6,rfl,h.1,(by first|exact h.2.1|(rw[QyU];exact h.2.1)),h.2.2.1,Qu k.o r.o⟩
 ·have x:=Q7h (aa.o (K*4) (c-K) (.inr rfl));go_wp2_with fail
  go_region_held3 (λw'=>Below w2 w2 w') (first|with_reducible exact QqA _ _|with_reducible exact r.o|with_reducible exact s.o|exact QqZ B0) ((first|(go_at_call 334;(with_reducible refine(A.o _ (by assumption)).mono ?_);rintro e w5 ⟨v5,rfl,b,m⟩;have⟨R,ae⟩:=Q2 b m;have s:=Q7h (Qu (by assumption) m);clear b m)|(go_at_call 334;(with_reducible refine(x.o _ (by assumption)).mono ?_);rintro e w6 ⟨v6,rfl,d,n⟩;have⟨S,T⟩:=Q2 d n;have r:=Q7h (Qu (by assumption) n);clear d n)))
  all_goals go_wp2_with fail
  all_goals go_ret2
  all_goals have af:=k.o.size
  ·have h:=Cb (B:=w.heap.size) R.o (by have:=k.o.size;exact this) T.o S.o (QqR k.o.size s.o.size);exact⟨v5,v6,rfl,h.1,(by first|exact h.2.1|(rw[QyU];exact h.2.1)),h.2.2.1,Qu k.o r.o⟩
theorem Uf:∀(l:List Ext) (k:Nat),(Qz l).take (k*4)=Qz (l.take k)
 |[],k=>by simp[Qz]
 |e::l,0=>by simp[Qz]
 |e::l,k+1=>by
  have a:=Uf l k;have b:Qz (e::l)= I e.fr::I e.n::I e.kind::I e.at_::Qz l:=by simp[Qz,Ext.cells]
  have c:Qz ((e::l).take (k+1))= I e.fr::I e.n::I e.kind::I e.at_::Qz (l.take k):=by simp[Qz,Ext.cells]
  rw[b,c,show(k+1)*4=k*4+4 by omega,<-a];rfl
theorem Ff(l:List Ext)(k:Nat):(Qz l).drop (k*4)=Qz (l.drop k):=by
 have h:Qz l=Qz (l.take k)++Qz (l.drop k):=by rw[<-Zn,QkB]
 have a:=Uf l k;have h2:=QkB (k*4) (Qz l);rw[a]at h2;conv at h2=>rhs;rw[h]
 exact List.append_cancel_left h2
theorem Jm(l:List Ext):∀u∈Qz l,u.oneCell'=true:=by
 intro u a;simp only[Qz,QqX,Ext.cells]at a;obtain⟨e,_,a⟩:=a;simp at a;rcases a with rfl|rfl|rfl|rfl<;>rfl
end tr
namespace tr
open Go.RowKit er
end tr
namespace tr
open Go.RowKit er
end tr
namespace vo
open Go.RowKit er tr
theorem Ex:(Tryz.prog.info? 3).map (λi=>(i.zero,i.size,i.bytes))=some (some (I 0),1,8):=J
theorem Q3r(n:Nat)(w:World)(t:n<=100000000):C 162 #[.slice none 0 0,I n] w λe w'=>∃p,e= .returned p/\w'.ownsRow w.heap.size 3 1 p 0 []/\Below w w w':=by
 rcases QyJ n with rfl|r
 ·go_in
  go_wp2_with fail
  go_ret
  exact⟨_,rfl,⟨rfl,.inl ⟨rfl,rfl⟩⟩,QqA _ _⟩
 ·obtain⟨s,f,g,i,h⟩:=QzX Ex;have a:∀ty,(Builtin.append_ #[39,3] ty #[.slice none 0 0,I (n:Int)]).run Tryz.prog w= .ok (.slice (some (w,0)) n (grownCap w n 0 3)) (w.drew.alloc (.cells (Builtin.zeroCells (Value.cells (I 0)) n++Builtin.zeroCells (Value.cells (I 0)) (grownCap w n 0 3-n)) 3)):=λty=>
   Lib.run_append_nil_zeros w 39 3 ty 3 s _ .i64 .i64 Tryz.underlying39 Tryz.underlying3 f g n r O O (by rw[h];omega)
  have j:=grownCap_ge w n 0 3;have c:=QyZ w n 0 3 (by unfold maxLen;omega);obtain⟨G,q⟩:=Zx (grownCap w n 0 3);rw[q]at a j c;have d:(Builtin.zeroCells (Value.cells (I 0)) n++Builtin.zeroCells (Value.cells (I 0)) (G-n)).size=G*1:=by
   rw[QyE,QxS,QxS];show n*1+(G-n)*1=G*1;omega
  obtain⟨cs,b⟩:=Zx (Builtin.zeroCells (Value.cells (I 0)) n++Builtin.zeroCells (Value.cells (I 0)) (G-n));rw[b]at a d;have⟨k,l,m⟩:=Q3 a d c;clear q b d a f g i h c;go_in
  go_wp2_with (at_builtin;refine Lib.wpList_append_run _ rfl _ _ _ _ rfl _ _ rfl rfl _ _ (k.o _) ?_)
  all_goals (go_ret;refine⟨_,rfl,QuL w.drew cs G N0 m.o l.o,(QqZ B0).alloc N0 _⟩)
theorem Q24(ys:List (Value×Nat×List Value))(gb mc:Nat)(w:World)(hc:∀j y,ys[j]? =some y->w.cell? ⟨gb,j,none⟩=some y.1/\SlAt w y.1 y.2.1 1 y.2.2/\∀u∈y.2.2,u.oneCell'=true)
  (hs:(ys.map λy=>y.2.1).sum<=100000000) (hm:ys.length<=1000) (h0:0<ys.length):
  C 85 #[.slice (some ⟨gb,0,none⟩) ys.length mc] w λe w'=>∃v',e= .returned v'/\w'.ownsRow w.heap.size 3 1 v' (ys.map λy=>y.2.1).sum (ys.flatMap λy=>y.2.2)/\Below w.heap.size w w':=by
 obtain⟨m,p⟩:∃m,ys.length=m:=⟨_,rfl⟩;have⟨V,HC⟩:=Q2 p hc;rw[p]at hm;rw[p];obtain⟨i0,K,L,M,N⟩:=QzX Ex;have Z:=Q7h (λj=>QqR (Cf (λy:Value×Nat×List Value=>y.2.1) ys j) hs);have HG:=Q7h (λ(n:Nat) (hn:n<=100000000)=>Q3r n w hn);have B:=Q7h (λ(W:World) (v:Value) (n:Nat) (xs:List Value) (Q:W.ownsRow w.heap.size 3 1 v n xs) (y:Value×Nat×List Value) (hq:SlAt W y.1 y.2.1 1 y.2.2) (h1:∀u∈y.2.2,u.oneCell'=true) (aa:n+y.2.1<=100000000) (hb:w.heap.size<=W.heap.size) (ty:TypeId)=>Cm (P:=Tryz.prog) W w.heap.size 39 ty 3 i0 _ 1 8 Tryz.underlying39 K L M N rfl O v n xs Q y.1 y.2.1 y.2.2 hq h1 aa O hb);have H0:Hid (0<m):=by show 0<m;omega
 clear p hc hs h0 K L M N;go_enter Tryz.func85,Tryz.ntmps85
 go_wp2_with fail
 go_loop [3,11] (λs i=>∃j:Nat,j<=m/\i= I j/\s= I (((ys.take j).map λy=>y.2.1).sum:Nat)) (λ_ i=>m-(intOf i).toNat)
 case atStart=>exact⟨0,QqM _,rfl,rfl⟩
 case round=>
  obtain⟨j,hj,rfl,rfl⟩:=hrel;by_cases ak:j<m
  ·have ab:(j:Int)<(m:Int):=O;have t:=V.out;obtain⟨y,o⟩:∃y,ys[j]? =some y:=⟨ys[j]'O,QqC O⟩;have a:=Z.out (j+1);rw[Kl _ _ _ _ o]at a;have h:=Q7h (Kl (λy:Value×Nat×List Value=>y.2.1) _ _ _ o);obtain⟨c0,l,_⟩:=HC.out j y o;obtain⟨S,q⟩:∃S,((ys.take j).map λy=>y.2.1).sum=S:=⟨_,rfl⟩;rw[q]at a;have x:=Q7h q;rw[q];obtain⟨yv,yn,yx⟩:=y;dsimp only at c0 l a h;obtain⟨_,⟨rfl,rfl⟩|⟨yg,yo,yc,rfl,_⟩⟩:=l;all_goals
    clear o t q;go_wp2_with fail
    go_round
    case rel=>exact⟨j+1,O,by go_num,by rw[h.out,x.out];first|go_num|(congr 1;omega)|(simp;done)⟩
    case measure=>simp[intOf];omega
  ·obtain rfl:j=m:=O;have b:ys.take j=ys:=by rw[<-V.out];exact QzU
   rw[b];have a:=Z.out j;rw[b]at a;obtain⟨S,q⟩:∃S,(ys.map λy=>y.2.1).sum=S:=⟨_,rfl⟩;rw[q]at a;have⟨x,ac⟩:=Q2 q (HG.out S a);rw[q];clear q b;go_wp2_with fail
   refine ac.out.mono ?_;rintro e w2 ⟨v2,rfl,f,R⟩;obtain⟨A2,c2,e2⟩:=Qk f;subst e2;have⟨ad,ae⟩:=Q2 f R;clear f R;go_wp2_with fail
   go_loopw [6,27] (λs i wr=>∃(d F:Nat) (A:Option Addr) (c:Nat),d<=j/\i= I d/\s= .slice A F c/\Hid (((ys.take d).map λy=>y.2.1).sum=F)/\Hid (wr.ownsRow w.heap.size 3 1 (.slice A F c) F ((ys.take d).flatMap λy=>y.2.2))/\Hid (Below w.heap.size w wr)) (λ_ i _=>j-(intOf i).toNat)
   case atStart=>exact⟨0,0,A2,c2,QqM _,rfl,rfl,rfl,ad.out,ae.out⟩
   case round=>
    obtain⟨d,F,A,c,al,rfl,rfl,X,Y,H⟩:=hrel;by_cases aj:d<j
    ·have ab:(d:Int)<(j:Int):=O;have t:=V.out;obtain⟨y,o⟩:∃y,ys[d]? =some y:=⟨ys[d]'O,QqC O⟩;have a:=Z.out (d+1);rw[Kl _ _ _ _ o,X.out]at a;have h:=Q7h (Kl (λy:Value×Nat×List Value=>y.2.1) _ _ _ o);have af:=Q7h (Jh (λy:Value×Nat×List Value=>y.2.2) _ _ _ o);obtain⟨c0,l,h1⟩:=HC.out d y o;have am:=Qq H.out c0;obtain⟨v3,w3,r,g,T⟩:=B.out wr _ _ _ Y.out y (l.below H.out) h1 O H.out.size 39;have⟨HR,ag⟩:=Q2 r g;have ah:=Q7h (H.out.grown T H.out.size (λk hk=>(Y.out.lt k hk).1));obtain⟨A3,c3,e3⟩:=Qk g;subst e3;clear o t a l h1 c0 r g T;go_wp2_with (at_builtin;refine Lib.wpList_append_run _ rfl _ _ _ _ rfl _ _ rfl rfl _ _ HR.out ?_)
     have z:j-(intOf (I ((d:Int)+1))).toNat<j-(intOf (I (d:Int))).toNat:=by simp[intOf];omega
     refine⟨⟨d+1,F+y.2.1,A3,c3,?_,?_,rfl,?_,?_,?_⟩,z⟩
     ·omega
     ·go_num
     ·show _=_;rw[h.out,X.out]
     ·rw[af.out];with_reducible exact ag
     ·with_reducible exact ah
    ·obtain rfl:d=j:=O;go_wp2_with fail
     go_ret
     have b:ys.take d=ys:=by rw[<-V.out];exact QzU
     rw[b]at Y X;refine⟨_,rfl,?_,H.out⟩;have ai:=X.out;rw[<-x.out,ai];exact Y.out
theorem Q44(n:Nat)(v:Value)(xs:List Value)(w:World)(h:SlAt w v n 1 xs)(N:n<=100000000)(h1:∀u∈xs,u.oneCell'=true):
  C 66 #[v] w λe w'=>∃s,e= .returned s/\w'.ownsRow w.heap.size 3 1 s n xs/\Below w w w':=by
 have hq:=λ(w:World) (a:Option Addr) (n c t x:Nat)=>Lib.run_eql_slice_nil (P:=Tryz.prog) w 39 3 a n c t x Tryz.underlying39;obtain⟨y,f,i,j,l⟩:=QzX Ex;have z:=h;obtain⟨p,⟨rfl,rfl⟩|⟨g,o,c,rfl,F⟩⟩:=z
 ·obtain rfl:xs=[]:=QjS (by simpa using p);clear h p h1 f i j l;go_in
  go_wp2_with fail
  go_ret
  exact⟨_,rfl,⟨rfl,.inl ⟨rfl,rfl⟩⟩,QqA _ _⟩
 ·obtain⟨H,K,d,b,m⟩:=Cm (P:=Tryz.prog) (w.alloc (.cells #[] 3)) w.heap.size 39 39 3 y _ 1 8 Tryz.underlying39 f i j l rfl O _ 0 [] (QuL w #[] 0 N0 (QqM _) U) _ n xs (h.below (B0.alloc N0 _)) h1 O O U;have L:=Q7h d;have q:Hid (K.ownsRow w.heap.size 3 1 H n xs):=by show World.ownsRow _ _ _ _ _ _ _;simpa using b
  have r:=Q7h ((B0.alloc N0 _).grown m U (λk M=>by simp[Value.ownBlock]at M;omega));clear h p h1 F d b m f i j l;go_in
  go_wp2_with (at_builtin;refine Lib.wpList_append_run _ rfl _ _ _ _ rfl _ _ rfl rfl _ _ L.o ?_)
  go_ret
  exact⟨_,rfl,q.o,r.o⟩
end vo
namespace tr
open Go.RowKit er
theorem Qph(a b:Int):(a==b)=decide (a=b):=by
 by_cases h:a=b<;>simp[h]
theorem Dz(e:Ext)(s:Int)(w:World)(h:Qb e=true)(i:0<=s)(h1:s<=16777216):C 321 #[e.val,I s] w λx w'=>x= .returned (I (e.fr-s))/\Below w w w':=by
 obtain⟨a,b,c,d⟩:=Qg h;obtain⟨f,n,k,t⟩:=e;simp only at a b c;have j:wrap64 (f-s)=f-s:=by unfold wrap64;omega
 show C 321 #[.agg #[I f,I n,I k,I t],_] w _;have g:=Q7h ((QqA w.heap.size w).alloc N0 (.cells #[I f,I n,I k,I t] 255));clear h d;go_in
 go_wp2_with fail
 go_ret
 exact⟨rfl,g.o⟩
theorem Qxn(e:Ext)(p:Nat)(s:Int)(w:World)(b:w.cell? (p,0)=some (I s)):C 318 #[e.val,(p,0)] w λx w'=>x= .returned (.bool (decide (e.fr=s)))/\Below w w w':=by
 obtain⟨f,n,k,t⟩:=e;show C 318 #[.agg #[I f,I n,I k,I t],_] w _;have a:=(QqA w.heap.size w).alloc N0 (.cells #[I f,I n,I k,I t] 255);have c:=Qq a b;have d:=Q7h a;clear a;go_in
 go_wp2_with fail
 go_ret
 exact⟨by rw[<-Qph];rfl,d.o⟩
theorem Qn0(e:Ext)(p:Nat)(s:Int)(w:World)(h:Qb e=true)(r:-9223372036854775808<=s)(d:s<=9223372036854775807)(g:w.cell? (p,0)=some (I s)):C 261 #[e.val,(p,0)] w λx w'=>x= .returned (.bool (hasB s e))/\Below w w w':=by
 obtain⟨i,j,l,m⟩:=Qg h;obtain⟨f,n,k,t⟩:=e;simp only at i j l;show C 261 #[.agg #[I f,I n,I k,I t],_] w _;have a:=(QqA w.heap.size w).alloc N0 (.cells #[I f,I n,I k,I t] 255);have q:=Qq a g;have c:=Q7h a;clear a h m;by_cases h1:f<=s
 ·have u:wrap64 (s-f)=s-f:=by unfold wrap64;omega
  have b:Hid (hasB s ⟨f,n,k,t⟩=decide (s-f<n)):=by show _=_;unfold hasB;simp[h1]
  go_in
  go_wp2_with fail
  go_ret
  exact⟨by rw[b.o];rfl,c.o⟩
 ·have b:Hid (hasB s ⟨f,n,k,t⟩=false):=by show _=_;unfold hasB;simp[h1]
  go_in
  go_wp2_with fail
  go_ret
  exact⟨by rw[b.o];rfl,c.o⟩
theorem Qnz(e:Ext)(w:World):C 311 #[e.val] w λx w'=>x= .returned (.bool (decide (2048<=e.at_)))/\Below w w w':=by
 obtain⟨f,n,k,t⟩:=e;show C 311 #[.agg #[I f,I n,I k,I t]] w _;have a:=Q7h ((QqA w.heap.size w).alloc N0 (.cells #[I f,I n,I k,I t] 255));go_in
 go_wp2_with fail
 go_ret
 exact⟨rfl,a.o⟩
def Co(p:Ext->Bool)(l:List Ext):Int:=match l.findIdx? p with|some i=>i|none=> -1
theorem Qch{p:Ext->Bool}{l:List Ext}{j:Nat}{e:Ext}(h:l[j]? =some e)(b:p e=true)(c:∀i x,i<j->l[i]? =some x->p x=false):Co p l=j:=by
 have a:=(QqD.1 h).1;have:l.findIdx? p=some j:=by
  rw[QkP];refine⟨a,?_,λi hi=>?_⟩
  ·rw[QqC a]at h;injection h with h;rw[h];exact b
  ·have:=c i _ hi (QqC O);simpa using this
 unfold Co;rw[this]
theorem Qay{p:Ext->Bool}{l:List Ext}(a:∀i x,i<l.length->l[i]? =some x->p x=false):Co p l= -1:=by
 have:l.findIdx? p=none:=by
  rw[QjV];intro x b;obtain⟨i,hi,rfl⟩:=QkL.1 b;exact a i _ hi (QqC hi)
 unfold Co;rw[this]
theorem Qcl(p:Ext->Bool)(l:List Ext):decide (0<=Co p l)=l.any p:=by
 unfold Co;cases h:l.findIdx? p with
 |none=>
  rw[QjV]at h;have:l.any p=false:=by rw[List.any_eq_false];intro x a;rw[h x a];simp
  rw[this];rfl
 |some i=>
  obtain⟨hi,h1,h2⟩:=QkP.1 h;have:l.any p=true:=List.any_eq_true.2 ⟨_,List.getElem_mem hi,h1⟩;rw[this];simp
theorem Q8i(p:Ext->Bool)(g:Nat)(lb:Array Value)(l:List Ext)(v:Value)(w:World)(eg:∀args w,(callFunc g args).run Tryz.prog w= .ok (.enter g args) w)(h:ExtsAt w v l)(R:l.length<=100000000)
  (L:∀e y,e∈l->Below w w y->C g (#[e.val]++lb) y λx w'=>x= .returned (.bool (p e))/\Below y y w'):
  C 260 #[v,.func (.func g) #[] lb] w λx w'=>x= .returned (I (Co p l))/\Below w w w':=by
 obtain⟨A,c,rfl,M⟩:=h;have⟨S,T⟩:=Q2 M L;obtain⟨n,z⟩:=Zx l.length;rw[z]at R;have N:=Q7h z;rw[z];clear M z L;go_in
 go_wp2_with fail
 go_loopw [5,8] (λZ i wr=>∃(j:Nat),j<=n/\i= I j/\Hid (∀i x,i<j->l[i]? =some x->p x=false)/\Hid (Below w w wr)) (λ_ i _=>n-(intOf i).toNat)
 case atStart=>exact⟨0,QqM _,rfl,λi x hi=>O,QqA _ _⟩
 case round=>
  obtain⟨j,B,rfl,F,m⟩:=hrel;by_cases V:j<n
  ·have W:(j:Int)<(n:Int):=O;have s:=N.o;obtain⟨g2,o,rfl,q⟩:=S.o O;obtain⟨e,u⟩:∃e,l[j]? =some e:=⟨l[j]'O,QqC O⟩;obtain⟨c0,c1,c2,c3⟩:=(q j e u).below m.o;have⟨Q,a⟩:=Q2 u (T.o e wr (QqL u) m.o);cases hpe:p e
   ·have H:Hid (∀i x,i<j+1->l[i]? =some x->p x=false):=by
     show ∀i x,i<j+1->l[i]? =some x->p x=false;intro i x hi b;by_cases h2:i<j
     ·exact F.o i x h2 b
     ·obtain rfl:i=j:=O;rw[Q.o]at b;injection b with b;rw[<-b];exact hpe
    rw[hpe]at a;obtain⟨f,X,k,t⟩:=e;simp only at c0 c1 c2 c3;simp only[Ext.val]at a;clear q u s hpe;go_wp2_with fail
    refine(a.o).mono ?_;rintro e Y ⟨rfl,d⟩;have r:=Q7h d;clear d;go_wp2_with fail
    go_roundw
    case rel=>exact⟨j+1,O,by go_num,H,m.o.trans (r.o.mono m.o.size)⟩
    case measure=>simp[intOf];omega
   ·have K:=Q7h (Qch Q.o hpe F.o);rw[hpe]at a;obtain⟨f,X,k,t⟩:=e;simp only at c0 c1 c2 c3;simp only[Ext.val]at a;clear q u s hpe;go_wp2_with fail
    refine(a.o).mono ?_;rintro e Y ⟨rfl,d⟩;have r:=Q7h d;clear d;go_wp2_with fail
    go_ret
    exact⟨by rw[K.o];rfl,m.o.trans (r.o.mono m.o.size)⟩
  ·obtain rfl:j=n:=O;have K:=Q7h (Qay (λi x hi=>F.o i x (by have:=N.o;omega)));go_wp2_with fail
   go_ret
   exact⟨by rw[K.o];rfl,m.o⟩
theorem Qfg(p:Ext->Bool)(g:Nat)(lb:Array Value)(l:List Ext)(v:Value)(w:World)(eg:∀args w,(callFunc g args).run Tryz.prog w= .ok (.enter g args) w)(h:ExtsAt w v l)(j:l.length<=100000000)
  (d:∀e b,e∈l->Below w w b->C g (#[e.val]++lb) b λx w'=>x= .returned (.bool (p e))/\Below b b w'):
  C 310 #[v,.func (.func g) #[] lb] w λx w'=>x= .returned (.bool (l.any p))/\Below w w w':=by
 have⟨f,i⟩:=Q2 (Q8i p g lb l v w eg h j d) (Qcl p l);obtain⟨z,hz⟩:=Zx (Co p l);rw[hz]at f i;clear h d eg hz;go_in
 go_wp2_with fail
 refine(f.o).mono ?_;rintro e k ⟨rfl,a⟩;have c:=Q7h a;clear a;go_wp2_with fail
 go_ret
 exact⟨by rw[<-i.o];rfl,c.o⟩
theorem Qcf(p:Ext->Bool)(l:List Ext):(Co p l= -1/\l.find? p=none)\/∃(j:Nat) (e:Ext),Co p l=j/\l[j]? =some e/\l.find? p=some e/\p e=true:=by
 unfold Co;cases h:l.findIdx? p with
 |none=>
  rw[QjV]at h;exact .inl ⟨rfl,QuN.2 (λx b=>by rw[h x b];simp)⟩
 |some j=>
  rw[QkP]at h;obtain⟨a,h1,h2⟩:=h;refine .inr ⟨j,l[j],rfl,QqC a,?_,h1⟩;rw[List.find?_eq_some_iff_getElem];exact⟨h1,j,a,rfl,λi hi=>by have:=h2 i hi;simpa using this⟩
theorem Qk3(l:List Ext)(v:Value)(s:Int)(w:World)(h:ExtsAt w v l)(h1:∀e∈l,Qb e=true)(hl:l.length<=16777216)(hs:-9223372036854775808<=s)(R:s<=9223372036854775807):
  C 210 #[v,I s] w λx w'=>x= .returned (.tuple #[I (Zb l s).1,I (Zb l s).2])/\Below w.heap.size w w':=by
 obtain⟨w1,K⟩:∃w1,w.alloc (.cells #[I s] 3)=w1:=⟨_,rfl⟩;have b1:Whole w1 w.heap.size 3 #[I s]:=by rw[<-K];exact Whole.new _ _ _
 have d:Below w.heap.size w w1:=by rw[<-K];exact(QqA _ _).alloc (QqB _) _
 have c0:w1.cell? ⟨w.heap.size,0,none⟩=some (I s):=b1.cell 0;have b:Hid (C 260 #[v,.func (.func 261) #[] #[.pointer (some ⟨w.heap.size,0,none⟩)]] w1 λx w'=>x= .returned (I (Co (hasB s) l))/\Below w.heap.size w w'/\w'.cell? ⟨w.heap.size,0,none⟩=some (I s)):=by
  refine(Q8i (hasB s) 261 #[.pointer (some ⟨w.heap.size,0,none⟩)] l v w1 (λ_ _=>J) (h.below d) O (λe y he hb=>Qn0 e w.heap.size s y (h1 e he) hs R (Qq hb c0))).mono ?_;rintro x w' ⟨rfl,hb⟩;exact⟨rfl,Qu d hb,Qq hb c0⟩
 have S:=Qcf (hasB s) l;obtain⟨A,c,rfl,N⟩:=h;have r:Zb l s=sayOf s (l.find? (hasB s)):=rfl;rw[r];rcases S with⟨H,u⟩|⟨j,e,H,u,T,Q⟩
 ·rw[H]at b;rw[u];have B:Hid ((sayOf s none).1=0/\(sayOf s none).2=0):=⟨rfl,rfl⟩;rw[B.out.1,B.out.2];clear H u r N h1 d b1;go_enter Tryz.func210,Tryz.ntmps210
  go_wp2_with fail
  with_reducible refine b.out.mono ?_
  rintro x w5 ⟨rfl,a,d0⟩;have i:=Q7h a;clear a c0;go_wp2_with fail
  refine QqG (v:= .tuple #[I 0,I 0]) (by simp[results,Tryz.results210,go_sem]) rfl ?_;exact⟨rfl,i.out⟩
 ·rw[H]at b;rw[T];have hj:=(QqD.1 u).1;have V:(j:Int)<(l.length:Int):=O;have ad:¬(j:Int)<0:=O;have aa:(0:Int)<=(j:Int):=O;have m:=Qg (h1 e (QqL u));have p:e.fr<=s/\s-e.fr<e.n:=by unfold hasB at Q;simpa using Q
  obtain⟨g,o,rfl,z⟩:=N O;have L:Hid (∀y,Below w w y->ExtAt y g (o+j*4) e):=λy hb=>(z j e u).below hb;have q:sayOf s (some e)=(e.kind,if e.kind=2 then e.at_+s-e.fr else 0):=rfl;rw[q];obtain⟨f,en,k,t⟩:=e;simp only at m p;obtain⟨n,W⟩:=Zx l.length;rw[W]at V hl b ⊢;by_cases F:k=2
  ·have ab:IntKind.i64.wrap (t+s)=t+s:=by rw[QqN];obtain⟨q1,q2,q3,X⟩:=m;have:=X;simp[F]at this;omega
   have ac:IntKind.i64.wrap (t+s-f)=t+s-f:=by rw[QqN];obtain⟨q1,q2,q3,X⟩:=m;have:=X;simp[F]at this;omega
   simp only[F,QyC];subst F;clear H u T Q r N h1 d b1 m p z q W hj;go_in
   go_wp2_with fail
   with_reducible refine b.o.mono ?_
   rintro x w5 ⟨rfl,a,d0⟩;have i:=Q7h a;clear c0;obtain⟨x0,x1,Y,x3⟩:=L.o _ a;simp only at x0 x1 Y x3;clear a;go_wp2_with fail
   go_quiet (fail)
   generalize M:World.drewN _ _=y;have Z:Hid (Below w w y):=by show Below _ _ _;rw[<-M];exact below_drewN i.o _
   clear M;go_wp2_with fail
   go_returns;refine ?_
   exact⟨rfl,Z.o⟩
  ·have ae:(k != 2)=true:=by simpa using F
   simp only[F,QiA];clear H u T Q r N h1 d b1 m p z q W hj F;go_in
   go_wp2_with fail
   with_reducible refine b.out.mono ?_
   rintro x w5 ⟨rfl,a,d0⟩;have i:=Q7h a;clear c0;obtain⟨x0,x1,Y,x3⟩:=L.out _ a;simp only at x0 x1 Y x3;clear a;go_wp2_with fail
   refine QqG (v:= .tuple #[I k,I 0]) (by simp[results,Tryz.results210,go_sem]) rfl ?_;exact⟨rfl,i.out⟩
def Qbz(l:List Ext)(s:Int)(i:Nat):Prop:=i<=l.length/\(∀j x,j<i->l[j]? =some x->x.fr<s)/\∀j x,i<=j->l[j]? =some x->s<=x.fr
def Qei(l:List Ext)(s:Int)(w:World)(e:Ending)(w':World):Prop:=∃(i:Nat) (b:Bool),Qbz l s i/\e= .returned (.tuple #[I i,.bool b])/\Below w w w'
theorem Qxz(l:List Ext)(v:Value)(s:Int)(w:World)(h:ExtsAt w v l)(hl:l.length<=1000)(h1:∀e∈l,Qb e=true)(hi:Inc l)(h0:0<=s)(hs:s<=16777216):
  C 320 #[v,I s,.func (.func 321) #[] #[]] w (Qei l s w):=by
 obtain⟨A,c,rfl,B⟩:=h;have⟨HC,H1,HI⟩:=Q3 B h1 hi;obtain⟨n,Q⟩:=Zx l.length;rw[Q]at hl;have R:=Q7h Q;rw[Q];have H:=Q7h (λ(e:Ext) (wq:World) (he:Qb e=true)=>Dz e s wq he h0 hs);clear B Q h1 hi;go_in
 go_wp2_with fail
 go_loopw [9,10,11] (λT y aa wr=>∃(i j:Nat),i<=j/\j<=n/\T= I i/\y= I j/\Hid (∀k x,k<i->l[k]? =some x->x.fr<s)/\Hid (∀k x,j<=k->l[k]? =some x->s<=x.fr)/\Hid (Below w w wr)) (λT y _ _=>(intOf y).toNat-(intOf T).toNat)
 case atStart=>exact⟨0,n,QqM _,QqB _,rfl,rfl,λk x K=>O,(λk x K r=>by have:=(QqD.1 r).1;have:=R.o;omega),QqA _ _⟩
 case round=>
  obtain⟨i,j,ab,hj,rfl,rfl,HL,HR,u⟩:=hrel;by_cases ac:i<j
  ·have ad:(i:Int)<(j:Int):=O;obtain⟨m,hm⟩:=Zx ((i+j)/2);have V:i<=m:=O;have ae:m<j:=O;have af:((i:Int)+(j:Int))/2=(m:Int):=O;have L:(m:Int)<(n:Int):=O;have z:=R.o;obtain⟨g2,o,rfl,g⟩:=HC.o O;obtain⟨e,r⟩:∃e,l[m]? =some e:=⟨l[m]'O,QqC O⟩;obtain⟨c0,c1,c2,c3⟩:=(g m e r).below u.o;have⟨S,d⟩:=Q2 r (H.o e wr (H1.o e (QqL r)));have M:Hid (∀k x,k<m->l[k]? =some x->x.fr<e.fr):=by
    show ∀k x,k<m->l[k]? =some x->x.fr<e.fr;intro k x K F;obtain⟨W,X⟩:=QqD.1 F;obtain⟨Y,Z⟩:=QqD.1 S.o;have:=QkZ.1 HI.o k m W Y K;rw[X,Z]at this;exact this
   have N:Hid (∀k x,m<k->l[k]? =some x->e.fr<x.fr):=by
    show ∀k x,m<k->l[k]? =some x->e.fr<x.fr;intro k x K F;obtain⟨W,X⟩:=QqD.1 F;obtain⟨Y,Z⟩:=QqD.1 S.o;have:=QkZ.1 HI.o m k Y W K;rw[X,Z]at this;exact this
   obtain⟨f,en,k,t⟩:=e;simp only at c0 c1 c2 c3 M N;simp only[Ext.val]at d;clear g r z hm;by_cases hf:f<s
   ·have hd:f-s<0:=O;go_wp2_with fail
    refine(d.o).mono ?_;rintro e w5 ⟨rfl,b⟩;have p:=Q7h b;clear b;go_wp2_with fail
    go_roundw
    case rel=>
     refine⟨m+1,j,O,hj,by go_num,rfl,(show ∀k x,k<m+1->l[k]? =some x->x.fr<s from λq x hq a=>?_),HR,u.o.trans (p.o.mono u.o.size)⟩;by_cases h2:q<m
     ·have:=M.o q x h2 a;omega
     ·obtain rfl:q=m:=O;rw[S.o]at a;injection a with a;rw[<-a];exact hf
    case measure=>simp[intOf];omega
   ·have hd:¬f-s<0:=O;go_wp2_with fail
    refine(d.o).mono ?_;rintro e w5 ⟨rfl,b⟩;have p:=Q7h b;clear b;go_wp2_with fail
    go_roundw
    case rel=>
     refine⟨i,m,V,O,rfl,rfl,HL,(show ∀k x,m<=k->l[k]? =some x->s<=x.fr from λq x hq a=>?_),u.o.trans (p.o.mono u.o.size)⟩;by_cases h2:m<q
     ·have:=N.o q x h2 a;omega
     ·obtain rfl:q=m:=O;rw[S.o]at a;injection a with a;rw[<-a];show s<=f;omega
    case measure=>simp[intOf];omega
  ·obtain rfl:i=j:=O;have HS:Hid (Qbz l s i):=⟨by have:=R.o;omega,HL.o,HR.o⟩;by_cases ag:i<n
   ·have L:(i:Int)<(n:Int):=O;have z:=R.o;obtain⟨g2,o,rfl,g⟩:=HC.o O;obtain⟨e,r⟩:∃e,l[i]? =some e:=⟨l[i]'O,QqC O⟩;obtain⟨c0,c1,c2,c3⟩:=(g i e r).below u.o;have d:=Q7h (H.o e wr (H1.o e (QqL r)));obtain⟨f,en,k,t⟩:=e;simp only at c0 c1 c2 c3;simp only[Ext.val]at d;clear g r z;go_wp2_with fail
    refine(d.o).mono ?_;rintro e w5 ⟨rfl,b⟩;have p:=Q7h b;clear b;go_wp2_with fail
    go_ret2
    exact⟨i,_,HS.o,rfl,u.o.trans (p.o.mono u.o.size)⟩
   ·have L:¬(i:Int)<(n:Int):=O;go_wp2_with fail
    go_ret2
    exact⟨i,_,HS.o,rfl,u.o⟩
theorem Qww(y:Ext)(l:List Ext)(v:Value)(w:World)(h:ExtsAt w v l)(hl:l.length<=100000000):
  C 303 #[v,y.val] w λx w'=>x= .returned (I (Co (λx=>decide (y=x)) l))/\Below w w w':=by
 obtain⟨A,c,rfl,W⟩:=h;have HC:=Q7h W;obtain⟨n,H⟩:=Zx l.length;rw[H]at hl;have X:=Q7h H;rw[H];obtain⟨p,L⟩:∃p:Ext->Bool,(λx=>decide (y=x))=p:=⟨_,rfl⟩;have HP:Hid (∀x,p x=decide (y=x)):=λx=>by rw[<-L]
 rw[L];clear L W H;obtain⟨b,d,g,t'⟩:=y;have aa:=Qw4;have M:=Q7h ((QqA w.heap.size w).alloc N0 (.cells #[I b,I d,I g,I t'] 255));have s:=Whole.new w 255 #[I b,I d,I g,I t'];have Y:Hid (∀wr,Below (w.heap.size+1) (w.alloc (.cells #[I b,I d,I g,I t'] 255)) wr->w.heap.size<wr.heap.size/\Below w w wr/\wr.cell? (w,0)=some (I b)/\wr.cell? (w,1)=some (I d)/\wr.cell? (w,2)=some (I g)/\wr.cell? (w,3)=some (I t')):=λwr hb=>by
  have h1:=s.below hb O;exact⟨h1.lt,M.o.trans (hb.mono O),h1.cell 0,h1.cell 1,h1.cell 2,h1.cell 3⟩
 clear s;show C 303 #[.slice A n c,.agg #[I b,I d,I g,I t']] w _;go_in
 go_wp2_with fail
 go_loopw [5,8] (λs5 i wr=>∃(j:Nat),j<=n/\i= I j/\Hid (∀i x,i<j->l[i]? =some x->p x=false)/\Hid (Below (w.heap.size+1) (w.alloc (.cells #[I b,I d,I g,I t'] 255)) wr)) (λ_ i _=>n-(intOf i).toNat)
 case atStart=>exact⟨0,QqM _,rfl,λi x hi=>O,QqA _ _⟩
 case round=>
  obtain⟨j,hj,rfl,N,Q⟩:=hrel;by_cases ab:j<n
  ·have ac:(j:Int)<(n:Int):=O;have ad:(0:Int)<=(j:Int):=O;have u:=X.o;obtain⟨g2,o,rfl,q⟩:=HC.o O;obtain⟨e,K⟩:∃e,l[j]? =some e:=⟨l[j]'O,QqC O⟩;obtain⟨Z,m,y0,y1,y2,y3⟩:=Y.o wr Q.o;obtain⟨c0,c1,c2,c3⟩:=(q j e K).below m;have⟨B,r,z⟩:=Q3 K m (HP.o e);cases hpe:p e
   ·have R:Hid (∀i x,i<j+1->l[i]? =some x->p x=false):=by
     show ∀i x,i<j+1->l[i]? =some x->p x=false;intro i x hi a;by_cases h2:i<j
     ·exact N.o i x h2 a
     ·obtain rfl:i=j:=O;rw[B.o]at a;injection a with a;rw[<-a];exact hpe
    have F:decide ((⟨b,d,g,t'⟩:Ext)=e)=false:=by rw[<-z.o];exact hpe
    obtain⟨f,S,k,t⟩:=e;simp only at c0 c1 c2 c3;have T:∀w,(binOp .eql 255 (.agg #[I b,I d,I g,I t']) (.agg #[I f,I S,I k,I t])).run Tryz.prog w= .ok (.bool false) w:=λw=>by rw[Qlu,F]
    clear q K u hpe m F;go_wp2_with fail
    go_quiet (fail)
    go_wp2_with fail
    go_roundw
    case rel=>exact⟨j+1,O,by go_num,R,below_drewN Q.o _⟩
    case measure=>simp[intOf];omega
   ·have V:=Q7h (Qch B.o hpe N.o);have F:decide ((⟨b,d,g,t'⟩:Ext)=e)=true:=by rw[<-z.o];exact hpe
    obtain⟨f,S,k,t⟩:=e;simp only at c0 c1 c2 c3;have T:∀w,(binOp .eql 255 (.agg #[I b,I d,I g,I t']) (.agg #[I f,I S,I k,I t])).run Tryz.prog w= .ok (.bool true) w:=λw=>by rw[Qlu,F]
    clear q K u hpe m F;go_wp2_with fail
    go_quiet (fail)
    go_wp2_with fail
    go_ret
    exact⟨by rw[V.o];rfl,below_drewN r.o _⟩
  ·obtain rfl:j=n:=O;have V:=Q7h (Qay (λi x hi=>N.o i x (by have:=X.o;omega)));have r:=Q7h (Y.o wr Q.o).2.1;go_wp2_with fail
   go_ret
   exact⟨by rw[V.o];rfl,r.o⟩
theorem Ru(y:Ext)(l:List Ext)(v:Value)(w:World)(h:ExtsAt w v l)(i:l.length<=100000000):
  C 271 #[v,y.val] w λx w'=>x= .returned (.bool (decide (y∈l)))/\Below w w w':=by
 have a:=(QqA w.heap.size w).alloc N0 (.cells #[I y.fr,I y.n,I y.kind,I y.at_] 255);have d:=Q7h (Qww y l v _ (h.below a) i);have j:=Q7h (Qcl (λx=>decide (y=x)) l);have f:Hid (l.any (λx=>decide (y=x))=decide (y∈l)):=by
  show _=_;rw[Bool.eq_iff_iff];simp[List.any_eq_true]
 obtain⟨z,hz⟩:=Zx (Co (λx=>decide (y=x)) l);rw[hz]at d j;have b:=Q7h a;obtain⟨k,m,p,t'⟩:=y;simp only[Ext.val]at d;simp only at b;clear a h i hz;show C 271 #[v,.agg #[I k,I m,I p,I t']] w _;go_in
 go_wp2_with fail
 with_reducible refine(d.o).mono ?_
 rintro e q ⟨rfl,c⟩;have g:=Q7h c;clear c;go_wp2_with fail
 go_ret
 exact⟨by rw[<-f.o,<-j.o];rfl,Qu b.o g.o⟩
end tr
namespace tr
open Go.RowKit er
def lfV(b:Nat):Value:= .iface 348 (b,0)
def inV(b:Nat):Value:= .iface 297 (b,0)
def LfAt(w:World)(b g:Nat)(x:Lf):Prop:=∃c,Whole w b 350 #[I x.a,.slice (some (g,0)) x.l.length c]/\Row w g c 4 255 (Qz x.l)
def InAt(w:World)(i h b b2:Nat)(a:Int):Prop:=∃k,Whole w i 300 #[I a,.slice (some (h,0)) 2 k]/\Row w h k 1 226 [lfV b,lfV b2]
def NsAt(w:World)(F:List Nat)(v:Value):Tree->Prop
 |.no=>F=[]/\v= .nilIface
 |.one x=>∃b g,F=[b,g]/\v=lfV b/\LfAt w b g x
 |.two a x y=>∃i h b g b2 g2,F=[i,h,b,g,b2,g2]/\v=inV i/\InAt w i h b b2 a/\LfAt w b g x/\LfAt w b2 g2 y/\b≠b2/\g≠g2
def TrAt(w:World)(F:List Nat)(p:Nat)(T:Tree):Prop:=∃F' v,F=p::F'/\Whole w p 228 #[v]/\NsAt w F' v T
def Ja(w:World)(F:List Nat)(p:Nat)(T':Tree)(w':World):Prop:=∃F',TrAt w' F' p T'/\Mv (λk=>k∈F) w (λk=>k∈F') w'
section
variable {w w':World} {b g i h b2:Nat} {x:Lf} {a:Int} {G:Nat→Prop}
theorem Row.ne{c k:Nat}{t t':TypeId}{xs:List Value}{cs:Array Value}(a:Row w g c k t xs)(d:Whole w b t' cs)(e:t'≠t):b≠g:=by
 obtain⟨cs',h1,_⟩:=a.blk;exact O3 d h1 e
theorem LfAt.keep(d:LfAt w b g x)(a:Keep G w w')(h1:¬G b)(h2:¬G g):LfAt w' b g x:=by
 obtain⟨c,q1,e⟩:=d;exact⟨c,q1.keep a h1,e.keep a h2⟩
theorem LfAt.lt(d:LfAt w b g x):b<w.heap.size/\g<w.heap.size/\b≠g:=by
 obtain⟨c,q1,a⟩:=d;exact⟨q1.lt,a.lt,a.ne q1 D⟩
theorem InAt.keep(e:InAt w i h b b2 a)(d:Keep G w w')(h1:¬G i)(h2:¬G h):InAt w' i h b b2 a:=by
 obtain⟨c,q1,f⟩:=e;exact⟨c,q1.keep d h1,f.keep d h2⟩
theorem InAt.lt(e:InAt w i h b b2 a):i<w.heap.size/\h<w.heap.size/\i≠h:=by
 obtain⟨c,q1,d⟩:=e;exact⟨q1.lt,d.lt,d.ne q1 D⟩
theorem Zqo{a b c d e f g:Nat}(h1:a≠b/\a≠c/\a≠d/\a≠e/\a≠f/\a≠g)(h2:b≠c/\b≠d/\b≠e/\b≠f/\b≠g)(h3:c≠d/\c≠e/\c≠f/\c≠g)(h4:d≠e/\d≠f/\d≠g)(h5:e≠f/\e≠g)(h:f≠g):[a,b,c,d,e,f,g].Nodup:=by
 simp only[QqP,QqF,QkU,QyA,QuE,QiC,List.nodup_nil,and_true];exact⟨h1,h2,h3,h4,h5,h⟩
theorem Q88{p o:Nat}{y:Lf}{q:Value}(f:Whole w p 228 #[q])(hi:InAt w i h b b2 a)(z:LfAt w b g x)(F:LfAt w b2 o y)(h1:b≠b2)(h2:g≠o):[p,i,h,b,g,b2,o].Nodup/\∀k∈[p,i,h,b,g,b2,o],k<w.heap.size:=by
 obtain⟨k,j,r⟩:=hi;obtain⟨c,x1,s⟩:=z;obtain⟨d,l,u⟩:=F;obtain⟨_,m,_⟩:=r.blk;obtain⟨_,x3,_⟩:=s.blk;obtain⟨_,n,_⟩:=u.blk;have e:=λ{g H:Nat} {t t':TypeId} {cs cs':Array Value} (q1:Whole w g t cs) (K:Whole w H t' cs') (L:t≠t')=>O3 q1 K L;refine⟨Zqo ⟨e f j ?_,e f m ?_,e f x1 ?_,e f x3 ?_,e f l ?_,e f n ?_⟩ ⟨e j m ?_,e j x1 ?_,e j x3 ?_,e j l ?_,e j n ?_⟩ ⟨e m x1 ?_,e m x3 ?_,e m l ?_,e m n ?_⟩ ⟨e x1 x3 ?_,h1,e x1 n ?_⟩ ⟨(e l x3 ?_).symm,h2⟩ (e l n ?_),λk v=>?_⟩;all_goals (try decide)
 simp only[QqF,QkU,QyA]at v;rcases v with rfl|rfl|rfl|rfl|rfl|rfl|rfl;all_goals first|exact f.lt|exact j.lt|exact r.lt|exact x1.lt|exact s.lt|exact l.lt|exact u.lt
end
theorem NsAt.keep{G:Nat->Prop}{w w':World}{F:List Nat}{v:Value}{T:Tree}(h:NsAt w F v T)(d:Keep G w w')(c:∀k∈F,¬G k):NsAt w' F v T:=by
 cases T with
 |no=>exact h
 |one x=>
  obtain⟨b,g,rfl,rfl,h2⟩:=h;exact⟨b,g,rfl,rfl,h2.keep d (c _ U) (c _ U)⟩
 |two a x y=>
  obtain⟨i,j,b,g,b2,e,rfl,rfl,h2,h3,h4,h5⟩:=h;exact⟨i,j,b,g,b2,e,rfl,rfl,h2.keep d (c _ U) (c _ U),h3.keep d (c _ U) (c _ U),h4.keep d (c _ U) (c _ U),h5⟩
theorem TrAt.keep{G:Nat->Prop}{w w':World}{F:List Nat}{p:Nat}{T:Tree}(h:TrAt w F p T)(a:Keep G w w')(b:∀k∈F,¬G k):TrAt w' F p T:=by
 obtain⟨F',v,rfl,h1,h2⟩:=h;exact⟨F',v,rfl,h1.keep a (b _ U),h2.keep a λk a=>b k (by simp[a])⟩
theorem NsAt.fine{w:World}{F:List Nat}{v q:Value}{p:Nat}{T:Tree}(h:NsAt w F v T)(d:Whole w p 228 #[q]):(p::F).Nodup/\∀k∈p::F,k<w.heap.size:=by
 cases T with
 |no=>
  obtain⟨rfl,rfl⟩:=h;exact⟨U,by simpa using d.lt⟩
 |one x=>
  obtain⟨b,g,rfl,rfl,c,h2,h3⟩:=h;have q1:=O3 d h2 D;have f:=h3.ne d D;have l:=h3.ne h2 D;have:=d.lt;have:=h2.lt;have:=h3.lt;exact⟨by simp;omega,by simp;omega⟩
 |two a x y=>
  obtain⟨i,j,b,g,b2,m,rfl,rfl,h2,h3,h4,h5,e⟩:=h;exact Q88 d h2 h3 h4 h5 e
theorem TrAt.fine{w:World}{F:List Nat}{p:Nat}{T:Tree}(h:TrAt w F p T):p∈F/\F.Nodup/\∀k∈F,k<w.heap.size:=by
 obtain⟨F',v,rfl,h1,h2⟩:=h;exact⟨U,h2.fine h1⟩
theorem Qa6{w b:World}{F F':List Nat}{p:Nat}{v c:Value}{T:Tree}(f:Whole b p 228 #[v])(g:NsAt b F' c T)(h:p∈F)(i:∀k∈F',k∈F\/w.heap.size<=k)(a:Keep (λk=>k∈F) w b):Ja w F p T (b.setCell (p,0) c):=by
 obtain⟨q1,j⟩:=g.fine f;refine⟨p::F',⟨F',c,rfl,f.set 0 c,g.keep (Keep.set1 b p 0 c) λk a e=>?_⟩,a.trans (Keep.set1 b p 0 c) λk e=>.inl (by have d:=e;rw[d];exact h),λk a=>?_⟩
 ·have d:=e;exact(QqP.1 q1).1 (d▸a)
 ·rcases QqF.1 a with rfl|a
  ·exact .inl h
  ·exact i k a
end tr
end Go.Proofs.YtfialjmemcobjaaGreatDoor
