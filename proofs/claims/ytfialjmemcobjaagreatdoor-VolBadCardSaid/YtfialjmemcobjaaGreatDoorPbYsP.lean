/- A part of the proof. -/
import Derived.Test.YtfialjmemcobjaaGreatDoorPbYsF
import Derived.Test.YtfialjmemcobjaaGreatDoorPbYzMb
set_option maxRecDepth 100000
set_option maxHeartbeats 16000000
set_option linter.unusedVariables false
set_option linter.unusedSimpArgs false
namespace Go.Proofs.YtfialjmemcobjaaGreatDoor
namespace tr
open Go.RowKit er
theorem Qe7{l:List Ext}(h:Chk l)(j:Nat):Chk (l.take j):=⟨λe a=>h.one e (QjF a),h.ord.sublist (List.take_sublist _ _)⟩
def AllS(w:World)(B po:Nat)(done:List Ext)(wq:World):Prop:=
 Keep (λ_=>False) w wq/\B<=wq.heap.size/\po<B/\w.heap.size<=po/\∃v,Whole wq po 261 #[v]/\wq.ownsRow B 255 4 v done.length (Qz done)
theorem AllS.below{w:World}{B b:Nat}{done:List Ext}{a w':World}(h:AllS w B b done a)(hb:Below a a w'):AllS w B b done w':=by
 obtain⟨h1,h2,h3,h4,v,c,d⟩:=h;exact⟨h1.transBelow hb,QqR h2 hb.size,h3,h4,v,c.below hb c.lt,own_below d hb⟩
theorem Q01(w:World)(B d:Nat)(done:List Ext)(e:Ext)(i:World)(hd:done.length<16777216)(he:Qb e=true)(h:AllS w B d done i):
  C 227 (#[e.val]++#[.pointer (some ⟨d,0,none⟩)]) i λx w'=>x= .returned (.bool true)/\AllS w B d (done++[e]) w':=by
 obtain⟨f,a,k,t⟩:=e;have z:Below i.heap.size i (i.alloc (.cells #[I f,I a,I k,I t] 255)):=(QqA _ _).alloc (QqB _) _;have X:=h.below z;obtain⟨a1,a2,a3,Y,v,F,y⟩:=X;obtain⟨A,c,rfl⟩:=Qk y;have Z:=F.cell 0;simp at Z;obtain⟨i0,H,K,L,M⟩:=QzX Np;have aa:=Q7h H;have ab:=Q7h K;have ac:=Q7h L;have ad:=Q7h M;obtain⟨n,hn⟩:=Zx done.length;rw[hn]at y hd Z F;obtain⟨w1,N⟩:=Zx (i.alloc (.cells #[I f,I a,I k,I t] 255));rw[N]at a1 a2 F y Z;have l:Whole w1 i.heap.size 255 #[I f,I a,I k,I t]:=by rw[<-N];exact Whole.new _ _ _
 obtain⟨⟨y0,y1,y2,y3⟩,_⟩:=K7 l;have ae:=Q7h (y.alloc (.cells #[I f,I a,I k,I t] 255));have af:Hid (∀(j':Nat) (u:Value),([I f,I a,I k,I t]:List Value)[j']? =some u->((w1).alloc (.cells #[I f,I a,I k,I t] 255)).cell? ((⟨(w1).heap.size,0,none⟩:Addr).add j')=some u):=World.news_of_block (by simpa using QzY (w1) (.cells #[I f,I a,I k,I t] 255));have m:∀u∈([I f,I a,I k,I t]:List Value),u.oneCell'=true:=by simp[Value.oneCell']
 have Q:=Q7h m;have R:Hid (B<=((w1).alloc (.cells #[I f,I a,I k,I t] 255)).heap.size):=by show _<=_;simp only[QqW];omega
 have S:Hid (∀s g,g.ownsRow B 255 4 s (n+1) (Qz done++[I f,I a,I k,I t])->(w1.alloc (.cells #[I f,I a,I k,I t] 255)).grownBy g (Value.slice A n c).ownBlock->(g.cell? (d,0)=some (.slice A n c)/\g.frozen? (d,0)=false)/\AllS w B d (done++[⟨f,a,k,t⟩]) (g.setCell (d,0) s)):=by
  intro s g q1 q2;have q:∀j,(Value.slice A n c).ownBlock=some j->B<=j:=λj T=>(y.lt j T).1;have b6:=(F.alloc (.cells #[I f,I a,I k,I t] 255)).grown q2 (λe=>by have:=q d e.symm;omega);have ag:Keep (λ_=>False) w g:=by
   have h0:Keep (λ_=>False) w (w1.alloc (.cells #[I f,I a,I k,I t] 255)):=a1.alloc _;exact h0.grown q2 (λj T=>.inr (by have:=q j T;omega))
  refine⟨⟨b6.cell 0,b6.fz 0⟩,?_⟩;have ah:=Keep.set1 g d 0 s;have ai:=q2.size;simp only[QqW]at ai;have aj:∀j,s.ownBlock=some j->¬(j=d):=λj T e=>by have:=(q1.lt j T).1;omega
  refine⟨ag.setCell (p:=(d,0)) (.inr Y) _,by rw[size_set];omega,a3,Y,s,?_,?_⟩
  ·have:=b6.set 0 s;simpa using this
  ·rw[Zn,QqK,hn];exact Qa q1 ah aj
 clear m hn l H K L M a1 a2 a3 Y F y z h he;show C 227 #[.agg #[I f,I a,I k,I t],.pointer (some ⟨d,0,none⟩)] i _;go_in
 go_wp2_with (at_builtin;go_must (refine QkW _ rfl (.tmp 4) (.tmp 6) 261 rfl B 255 i0 _ 4 32 Tryz.underlying261 aa.o ab.o ac.o ad.o rfl O (.slice A n c) n (Qz done) rfl ae.o ((w1).heap.size,0) 1 1 [I f,I a,I k,I t] rfl rfl af.o Q.o (by simp only[maxLen];omega) O R.o ?_;intro v2 g b V _;obtain⟨⟨z0,z1⟩,r⟩:=S.o v2 g b V;have W:=Q7h r;obtain⟨A2,c2,e2⟩:=Qk b;subst e2;clear b V r))
 go_ret
 exact⟨rfl,W.o⟩
theorem Q00(w:World)(B po:Nat):Hand 227 #[.pointer (some ⟨po,0,none⟩)] (λ_=>true) (AllS w B po) (λ_=>False) w where
 eg:=λ_ _=>J
 call:=λdone e wq hd he h=>Q01 w B po done e wq hd he h
 below:=λdone wq w' h hb=>h.below hb
 keep:=λdone wq h=>h.1
theorem Qzl(w:World)(F:List Nat)(p:Nat)(T:Tree)(q:TrAt w F p T)(d:T.Ok)(i:Chk T.flat):
  C 165 #[(p,0)] w λx w'=>∃r,x= .returned r/\w'.ownsRow w.heap.size 255 4 r T.flat.length (Qz T.flat)/\Below w w w':=by
 obtain⟨b,a⟩:=Zx (w.alloc (.cells #[.slice none 0 0] 261));have s:Keep (λ_=>False) w b:=by rw[<-a];exact(Keep.refl _ _).alloc _
 have k:b.heap.size=w.heap.size+1:=by rw[<-a];simp
 have b3:Whole b w.heap.size 261 #[.slice none 0 0]:=by rw[<-a];exact Whole.new _ _ _
 have t:AllS w (w.heap.size+1) w.heap.size [] b:=⟨s,O,O,O,_,b3,⟨rfl,.inl ⟨rfl,rfl⟩⟩⟩;have l:=Qer _ _ _ _ _ w (Q00 w (w.heap.size+1) w.heap.size) F p T (-1) b q (λ_ _ h=>h) d i t;rw[Qvt i,Gi (QxK.2 (λ_ _=>rfl))]at l;have u:Hid (C 208 #[(p,0),I (-1),.func (.func 227) #[] #[(w,0)]] b λx w'=>x= .returned (.tuple #[])/\∃A c,w'.cell? (w,0)=some (.slice A T.flat.length c)/\w'.ownsRow w.heap.size 255 4 (.slice A T.flat.length c) T.flat.length (Qz T.flat)/\Below w w w'):=by
  refine l.mono ?_;rintro x w' ⟨rfl,q1,L,M,N,v,H,f⟩;obtain⟨A,c,rfl⟩:=Qk f;exact⟨rfl,A,c,H.cell 0,Qr f O,⟨q1.os,q1.tape,q1.output,q1.size,λj K=>q1.block j K (λh=>h)⟩⟩
 obtain⟨Q,g⟩:=Zx T.flat
 rw[g]at u ⊢;clear g l t b3 s k q d i;go_in
 go_wp2_with fail
 with_reducible refine u.o.mono ?_
 rintro e R ⟨rfl,A,c,S,y,z⟩;have⟨m,n⟩:=Q2 y z;clear y z;go_wp2_with fail
 go_ret
 exact⟨_,rfl,m.o,n.o⟩
def Zql(l:List Ext):Int:=(l.map λe=>e.n).sum
theorem Qmz:∀(l:List Ext) (a:Int),Chk l->0<=a->a<=16777216->(∀e∈l,a<=e.fr)->0<=Zql l/\Zql l<=16777216-a
 |[],a,_,h0,h1,_=>by simp[Zql];omega
 |e::l,a,hc,h0,h1,hl=>by
  have d:=Qg (hc.one e U);have b:=QzS.1 hc.ord;have f:e.end_=e.fr+e.n:=rfl;have:=Qmz l e.end_ hc.tail O O (λx c=>(b.1 x c).1);have:=hl e U;simp only[Zql,QzE,QxX]at *;omega
theorem Ch{l:List Ext}(h:Chk l):0<=Zql l/\Zql l<=16777216:=by
 have:=Qmz l 0 h O O (λe a=>(Qg (h.one e a)).1);omega
theorem Qe9{l:List Ext}{j:Nat}{e:Ext}(h:l[j]? =some e):Zql (l.take (j+1))=Zql (l.take j)+e.n:=by
 obtain⟨a,rfl⟩:=QqD.1 h;rw[QkC a];unfold Zql;rw[QqY,QuS];simp only[QzE,QjE,QxX,List.sum_nil,Int.add_zero]
theorem Ae(l:List Ext)(v:Value)(w:World)(h:ExtsAt w v l)(q:Chk l):C 178 #[v] w λx w'=>x= .returned (I (Zql l))/\Below w w w':=by
 have r:Hid (C 197 #[v] w λx w'=>x= .returned (.bool true)/\Below w w w'):=by have:=Y0 l v w h (by have:=Xi q;omega);rw[Uo _ q]at this;exact this
 have s:=Xi q;obtain⟨A,c,rfl,a⟩:=h;have N:=Q7h a;obtain⟨n,z⟩:=Zx l.length;have M:=Q7h z;rw[z]at r s;rw[z];have u:Hid (∀j,0<=Zql (l.take j)/\Zql (l.take j)<=16777216):=λj=>Ch (Qe7 q j);clear a z q;go_in
 go_wp2_with fail
 with_reducible refine r.o.mono ?_
 rintro e w1 ⟨rfl,y⟩;have H:=Q7h y;clear y;go_wp2_with fail
 go_loopw [3,5,11] (λs3 T i wr=>∃(j:Nat),j<=n/\i= I j/\s3= I (Zql (l.take j))/\Hid (Below w w wr)) (λ_ _ i _=>n-(intOf i).toNat)
 case atStart=>exact⟨0,QqM _,rfl,rfl,H.o⟩
 case round=>
  obtain⟨j,V,rfl,rfl,F⟩:=hrel;by_cases Q:j<n
  ·have R:(j:Int)<(n:Int):=O;have K:=M.o;obtain⟨g,o,rfl,a⟩:=N.o O;obtain⟨x,d⟩:∃x,l[j]? =some x:=⟨l[j]'O,QqC O⟩;obtain⟨c0,c1,c2,c3⟩:=(a j x d).below F.o;have b:=Q7h (Qe9 d);obtain⟨b3,b4⟩:=u.o (j+1);rw[b.o]at b3 b4;obtain⟨W,m⟩:=Zx (Zql (l.take j));rw[m]at b b3 b4;rw[m];obtain⟨f,S,k,t⟩:=x;simp only at c0 c1 c2 c3 b b3 b4;have L:Hid (Below wr.heap.size wr (wr.alloc (.cells #[I f,I S,I k,I t] 255))):=(QqA _ _).alloc (QqB _) _;clear a d K m;go_wp2_with fail
   go_roundw
   case rel=>exact⟨j+1,O,by go_num,by rw[b.o],F.o.trans (L.o.mono F.o.size)⟩
   case measure=>simp[intOf];omega
  ·obtain rfl:j=n:=O;have p:l.take j=l:=by rw[<-M.o];exact QzU
   rw[p];go_wp2_with fail
   go_ret
   exact⟨rfl,F.o⟩
theorem I1(w:World)(F:List Nat)(p:Nat)(T:Tree)(g:TrAt w F p T)(b:T.Ok)(d:Chk T.flat):
  C 107 #[(p,0)] w λx w'=>x= .returned (I (Zql T.flat))/\Below w w w':=by
 have i:=Q7h (Qzl w F p T g b d);have j:Hid (∀a v,ExtsAt a v T.flat->C 178 #[v] a λx w'=>x= .returned (I (Zql T.flat))/\Below a a w'):=λa v h=>Ae _ v a h d;obtain⟨L,k⟩:=Zx T.flat
 rw[k]at i j ⊢;clear g b d k;go_in
 go_wp2_with fail
 with_reducible refine i.o.mono ?_
 rintro e r ⟨s,rfl,l,m⟩;have⟨n,q⟩:=Q2 (ExtsAt.own l).1 m;clear l m;go_wp2_with fail
 with_reducible refine(j.o _ _ n.o).mono ?_
 rintro e t ⟨rfl,c⟩;have f:=Q7h (Qu q.o c);clear c;go_wp2_with fail
 go_ret
 exact⟨rfl,f.o⟩
def Ba(s:Int)(done:List Ext):Int×Int:=match done.getLast? with|some e=>Zb [e] s|none=>(0,0)
theorem Qo7(s:Int)(done:List Ext)(e:Ext):Ba s (done++[e])=Zb [e] s:=by unfold Ba;simp
def FindS(w:World)(B ps pk pa:Nat)(s:Int)(done:List Ext)(wq:World):Prop:=
 Keep (λ_=>False) w wq/\B<=wq.heap.size/\(ps<B/\pk<B/\pa<B)/\(w.heap.size<=pk/\w.heap.size<=pa/\ps≠pk/\ps≠pa/\pk≠pa)/\Whole wq ps 3 #[I s]/\Whole wq pk 3 #[I (Ba s done).1]/\Whole wq pa 3 #[I (Ba s done).2]
theorem FindS.below{w:World}{B ps b pa:Nat}{s:Int}{done:List Ext}{a w':World}(h:FindS w B ps b pa s done a)(hb:Below a a w'):FindS w B ps b pa s done w':=by
 obtain⟨h1,h2,h3,h4,h5,c,d⟩:=h;exact⟨h1.transBelow hb,QqR h2 hb.size,h3,h4,h5.below hb h5.lt,c.below hb c.lt,d.below hb d.lt⟩
theorem Qaa(w:World)(B ps a pa:Nat)(s:Int)(A:-9223372036854775808<=s)(L:s<=9223372036854775807)(done:List Ext)(e:Ext)(c:World)(d:Qb e=true)(h:FindS w B ps a pa s done c):
  C 209 (#[e.val]++#[.pointer (some ⟨ps,0,none⟩),.pointer (some ⟨a,0,none⟩),.pointer (some ⟨pa,0,none⟩)]) c λx w'=>x= .returned (.bool false)/\FindS w B ps a pa s (done++[e]) w':=by
 have m:=Qo7 s done e;have i:∀x∈[e],Qb x=true:=by simpa using d
 obtain⟨f,g,k,t⟩:=e;obtain⟨w2,q⟩:=Zx ((c.alloc (.cells #[I f,I g,I k,I t] 255)).alloc (.cells #[I f,I g,I k,I t] 255));have r:Below c c w2:=by rw[<-q];exact(B0.alloc N0 _).alloc U _
 have u:Whole w2 (c.heap.size+1) 255 #[I f,I g,I k,I t]:=by rw[<-q];exact Whole.new' _ _ _ _ U
 have h2:=h.below r;have Y:ExtsAt w2 (.slice (some (c.heap.size+1,0)) 1 1) [⟨f,g,k,t⟩]:=by
  refine⟨_,1,rfl,λ_=>⟨_,0,rfl,λj e d=>?_⟩⟩;match j,d with
  |0,d=>
   simp at d;subst d;exact⟨u.cell 0,u.cell 1,u.cell 2,u.cell 3⟩
  |j+1,d=>simp at d
 obtain⟨K,M⟩:=Zx ((Zb [⟨f,g,k,t⟩] s).1);obtain⟨T,N⟩:=Zx ((Zb [⟨f,g,k,t⟩] s).2);have v:Hid (C 210 #[.slice (some (c.heap.size+1,0)) 1 1,I s] w2 λx w'=>x= .returned (.tuple #[I K,I T])/\FindS w B ps a pa s done w'):=by
  refine(Qk3 [⟨f,g,k,t⟩] _ s w2 Y i U A L).mono ?_;rintro x w' ⟨rfl,hb⟩;rw[M,N];exact⟨rfl,h2.below hb⟩
 have l:Hid (∀b,FindS w B ps a pa s done b->FindS w B ps a pa s (done++[⟨f,g,k,t⟩]) ((b.setCell (a,0) (I K)).setCell (pa,0) (I T))):=by
  intro b Q;obtain⟨h1,h2,h3,⟨R,S,V,W,y⟩,h5,H,z⟩:=Q;refine⟨(h1.setCell (p:=(a,0)) (.inr R) _).setCell (p:=(pa,0)) (.inr S) _,by rw[size_set,size_set];exact h2,h3,⟨R,S,V,W,y⟩,?_,?_,?_⟩
  ·exact(h5.far (p:=(a,0)) V _).far (p:=(pa,0)) W _
  ·have:=(H.set 0 (I K)).far (p:=(pa,0)) y (I T);rw[m,M];simpa using this
  ·have:=(z.far (p:=(a,0)) (Ne.symm y) (I K)).set 0 (I T);rw[m,N];simpa using this
 have F:Hid (∀b,FindS w B ps a pa s done b->b.cell? (a,0)=some (I (Ba s done).1)/\b.frozen? (a,0)=false/\b.cell? (pa,0)=some (I (Ba s done).2)/\b.frozen? (pa,0)=false/\(b.setCell (a,0) (I K)).cell? (pa,0)=some (I (Ba s done).2)/\(b.setCell (a,0) (I K)).frozen? (pa,0)=false):=by
  intro b Q;obtain⟨h1,h2,h3,⟨R,S,V,W,y⟩,h5,H,z⟩:=Q;have Z:=z.far (p:=(a,0)) (Ne.symm y) (I K);exact⟨H.cell 0,H.fz 0,z.cell 0,z.fz 0,Z.cell 0,Z.fz 0⟩
 have cs:w2.cell? (ps,0)=some (I s):=by obtain⟨_,_,_,_,h5,_⟩:=h2;exact h5.cell 0
 clear h2 h Y u r M N m i d;show C 209 #[.agg #[I f,I g,I k,I t],.pointer (some ⟨ps,0,none⟩),.pointer (some ⟨a,0,none⟩),.pointer (some ⟨pa,0,none⟩)] c _;go_in
 go_wp2_with fail
 with_reducible refine v.o.mono ?_
 rintro x w5 ⟨rfl,n⟩;have X:=Q7h (l.o _ n);obtain⟨z0,z1,z2,z3,z4,z5⟩:=F.o _ n;clear n l F v;go_wp2_with fail
 go_ret
 exact⟨rfl,X.o⟩
theorem Qsm(w:World)(B ps pk pa:Nat)(s:Int)(hs:-9223372036854775808<=s)(hs2:s<=9223372036854775807):Hand 209 #[(ps,0),(pk,0),(pa,0)] (λ_=>false) (FindS w B ps pk pa s) (λ_=>False) w where
 eg:=λ_ _=>J
 call:=λdone e wq hd he h=>Qaa w B ps pk pa s hs hs2 done e wq he h
 below:=λdone wq w' h hb=>h.below hb
 keep:=λdone wq h=>h.1
theorem Qo8{l:List Ext}(h:Chk l)(s:Int):Ba s (handed (λ_=>false) (Qd l s))=Zb l s:=by
 rw[Qgm h];have a:(l.filter λe=>decide (s<e.end_)).head? =l.find? λe=>decide (s<e.end_):=by rw[List.head?_filter]
 unfold Qd;cases hp:l.filter λe=>decide (s<e.end_)with
 |nil=>
  rw[hp]at a;rw[<-a];rfl
 |cons e r=>
  rw[hp]at a;rw[<-a];rfl
theorem Rp(w:World)(F:List Nat)(p:Nat)(T:Tree)(s:Int)(t:TrAt w F p T)(c:T.Ok)(f:Chk T.flat)(M:-9223372036854775808<=s)(g:s<=9223372036854775807):
  C 146 #[(p,0),I s] w λx w'=>x= .returned (.tuple #[I (Zb T.flat s).1,I (Zb T.flat s).2])/\Below w w w':=by
 obtain⟨b,a⟩:=Zx (((w.alloc (.cells #[I s] 3)).alloc (.cells #[I 0] 3)).alloc (.cells #[I 0] 3));have u:Keep (λ_=>False) w b:=by rw[<-a];exact(((Keep.refl _ _).alloc _).alloc _).alloc _
 have i:b.heap.size=w.heap.size+3:=by rw[<-a];simp
 have b1:Whole b w.heap.size 3 #[I s]:=by rw[<-a];exact((Whole.new w _ _).alloc _).alloc _
 have b2:Whole b (w.heap.size+1) 3 #[I 0]:=by rw[<-a];exact(Whole.new' _ _ _ _ U).alloc _
 have b3:Whole b (w.heap.size+2) 3 #[I 0]:=by rw[<-a];exact Whole.new' _ _ _ _ U
 have y:FindS w (w.heap.size+3) w.heap.size (w.heap.size+1) (w.heap.size+2) s [] b:=⟨u,O,⟨O,O,O⟩,⟨O,O,O,O,O⟩,b1,b2,b3⟩;have z:=Qer _ _ _ _ _ w (Qsm w (w.heap.size+3) w.heap.size (w.heap.size+1) (w.heap.size+2) s M g) F p T s b t (λ_ _ h=>h) c f y;obtain⟨K,k⟩:=Zx ((Zb T.flat s).1);obtain⟨A,l⟩:=Zx ((Zb T.flat s).2);have N:Hid (C 208 #[(p,0),I s,.func (.func 209) #[] #[(w,0),(w.heap.size+1,0),(w.heap.size+1+1,0)]] b λx w'=>x= .returned (.tuple #[])/\Whole w' (w.heap.size+1) 3 #[I K]/\Whole w' (w.heap.size+1+1) 3 #[I A]/\Below w w w'):=by
  refine z.mono ?_;rintro x w' ⟨rfl,q1,d,m,X,Y,H,L⟩;rw[Qo8 f s,k]at H;rw[Qo8 f s,l]at L;exact⟨rfl,H,L,⟨q1.os,q1.tape,q1.output,q1.size,λj Q=>q1.block j Q (λh=>h)⟩⟩
 have c0:=b1.cell 0;rw[k,l];clear k l z y b1 b2 b3 u i t c f;go_in
 go_wp2_with fail
 with_reducible refine N.o.mono ?_
 rintro e Z ⟨rfl,q1,d,m⟩;have⟨n,q,r⟩:=Q3 q1 d m;have B:=q1.cell 0;have z1:=q1.fz 0;have z2:=d.cell 0;have z3:=d.fz 0;clear q1 d m;go_wp2_with fail
 go_region
 go_wp2_with fail
 have R:=(n.o.set 0 (I K)).far (p:=(w.heap.size+1+1,0)) U (I A);have S:=(q.o.far (p:=(w.heap.size+1,0)) U (I K)).set 0 (I A);have V:=(Un R).cell 0;have W:=(Un S).cell 0;refine QqG (v:= .tuple #[I K,I A]) (by simp[results,Tryz.results146,go_sem,V,W]) rfl ⟨rfl,?_⟩;exact QqZ (QxY (QxY r.o E _) E _)
theorem Qs5(l:List Ext)(v:Value)(fr n:Int)(w:World)(h:ExtsAt w v l)(i:Chk l)(k:Yp fr n=true):
  C 274 #[v,I fr,I n] w (Qps 255 (parts l fr (fr+n)) w):=by
 obtain⟨s1,s2,s3⟩:=Rt k;have b:=Xi i;have p:Hid (C 197 #[v] w λx w'=>x= .returned (.bool true)/\Below w w w'):=by have:=Y0 l v w h O;rw[Uo _ i]at this;exact this
 have q:Hid (∀a,C 266 #[I fr,I n] a λx w'=>x= .returned (.bool true)/\a=w'):=λa=>by have:=G9 fr n a;rw[k]at this;exact this
 have d:Hid (∀a,Below w w a->C 269 #[v,I fr,I (fr+n)] a λx w'=>∃A m c,x= .returned (.slice A m c)/\w'.ownsRow w.heap.size 255 4 (.slice A m c) (parts l fr (fr+n)).length (Qz (parts l fr (fr+n)))/\Below a a w'):=by
  intro a hb;refine(Hm l v fr (fr+n) a (h.below hb) i.one O s1 O O s3).mono ?_;rintro x w' ⟨u,rfl,q1,j⟩;obtain⟨A,c,rfl⟩:=Qk q1;exact⟨A,_,c,rfl,Qr q1 hb.size,j⟩
 have y:wrap64 (fr+n)=fr+n:=by unfold wrap64;omega
 obtain⟨P,s⟩:=Zx (parts l fr (fr+n));rw[s]at d ⊢;clear h i k b s;go_in
 go_wp2_with fail
 with_reducible refine p.o.mono ?_
 rintro e z ⟨rfl,f⟩;have g:=Q7h f;clear f;go_wp2_with fail
 with_reducible refine(q.o _).mono ?_
 rintro e F ⟨rfl,rfl⟩;go_wp2_with fail
 with_reducible refine(d.o _ g.o).mono ?_
 rintro e H ⟨A,m,c,rfl,q1,j⟩;have⟨t,r⟩:=Q2 q1 (Qu g.o j);clear q1 j;go_wp2_with fail
 go_returns;refine ?_
 exact⟨_,rfl,t.o,r.o⟩
theorem Qos(w:World)(F:List Nat)(p:Nat)(T:Tree)(fr n:Int)(r:TrAt w F p T)(d:T.Ok)(i:Chk T.flat)(j:Yp fr n=true):
  C 222 #[(p,0),I fr,I n] w (Qps 255 (parts T.flat fr (fr+n)) w):=by
 obtain⟨s1,s2,s3⟩:=Rt j;have u:Hid (C 219 #[.slice none 0 0,I fr,I n] w λx w'=>∃A m c,x= .returned (.tuple #[.slice A m c,I 0])/\Below w w w'):=by
  refine(Qg1 [] (.slice none 0 0) fr n w ⟨none,0,rfl,λh=>by simp at h⟩ U rfl j).mono ?_;rintro x w' ⟨s,rfl,q1,a⟩;obtain⟨A,c,rfl⟩:=Qk q1;exact⟨A,_,c,rfl,a⟩
 have k:Hid (∀b,Below w w b->C 220 #[(p,0),I fr,I (fr+n)] b λx w'=>∃A m c,x= .returned (.slice A m c)/\ExtsAt w' (.slice A m c) (Ki T.flat fr (fr+n))/\Below w w w'):=by
  intro b hb;refine(Hw b F p T fr (fr+n) (r.keep (Keep.below (F:=λ_=>False) hb) (λ_ _ h=>h)) d i s1 O).mono ?_;rintro x w' ⟨s,rfl,q1,a⟩;obtain⟨A,c,rfl⟩:=Qk q1;exact⟨A,_,c,rfl,(ExtsAt.own q1).1,Qu hb a⟩
 have f:Hid (∀b A m c,Below w w b->ExtsAt b (.slice A m c) (Ki T.flat fr (fr+n))->C 274 #[.slice A m c,I fr,I n] b λx w'=>∃A m c,x= .returned (.tuple #[.slice A m c,I 0])/\w'.ownsRow w.heap.size 255 4 (.slice A m c) (parts T.flat fr (fr+n)).length (Qz (parts T.flat fr (fr+n)))/\Below w w w'):=by
  intro b A m c hb v;refine(Qs5 _ _ fr n b v (Qqh i _ _) j).mono ?_;rintro x w' ⟨s,rfl,q1,a⟩;rw[Qs4 i O]at q1;obtain⟨A,c,rfl⟩:=Qk q1;exact⟨A,_,c,rfl,Qr q1 hb.size,Qu hb a⟩
 have H:wrap64 (fr+n)=fr+n:=by unfold wrap64;omega
 obtain⟨P,t⟩:=Zx (parts T.flat fr (fr+n));rw[t]at f ⊢;clear r d i j t;go_in
 go_wp2_with fail
 with_reducible refine u.o.mono ?_
 rintro e K ⟨L,M,c5,rfl,g⟩;have l:=Q7h g;clear g;go_wp2_with fail
 with_reducible refine(k.o _ l.o).mono ?_
 rintro e N ⟨Q,R,S,rfl,q1,a⟩;have y:=Q7h (f.o _ _ _ _ a q1);clear q1 a;go_wp2_with fail
 with_reducible refine y.o.mono ?_
 rintro e V ⟨W,X,Y,rfl,q1,a⟩;have⟨z,q⟩:=Q2 q1 a;clear q1 a;go_wp2_with fail
 go_returns;refine ?_
 exact⟨_,rfl,z.o,q.o⟩
theorem Q9u{T:Tree}(h:T.Ok):T.flat.length<=10:=by
 cases T with
 |no=>exact QqM _
 |one x=>have:x.l.length<=8:=h.2;show x.l.length<=10;omega
 |two a x y=>have:x.l.length+y.l.length<=10:=h.2.2;show(x.l++y.l).length<=10;rw[QqK];omega
theorem Ya{w':World}{F:List Nat}{v:Value}{l:List Ext}{B:Nat}(h:w'.ownsRow B 255 4 v l.length (Qz l))(b:∀k∈F,k<B):ListBy w' F v l:=
 ⟨⟨B,h⟩,λg a=>⟨λc=>by have:=(h.lt g a).1;have:=b g c;omega,(h.lt g a).2⟩⟩
theorem Ii{w w':World}{F:List Nat}{v:Value}{l:List Ext}(h:ListBy w F v l)(hb:Below w.heap.size w w'):ListBy w' F v l:=by
 obtain⟨B,h1⟩:=h.own;exact⟨⟨B,own_below h1 hb⟩,λg a=>⟨(h.out g a).1,QzB (h.out g a).2 hb.size⟩⟩
theorem Qg4{w w1 w':World}{F:List Nat}{p:Nat}{T:Tree}(hb:Below w w w1)(h:ChgSt w1 F p T w'):ChgSt w F p T w':=by
 obtain⟨F',h1,h2⟩:=h;exact⟨F',h1,(Mv.below hb).trans h2⟩
theorem Eh(w:World)(F:List Nat)(p:Nat)(T:Tree)(y:Ext)(ht:TrAt w F p T)(l:T.Ok)(q:Chk T.flat)(u:Qb y=true)(R:(Gw T.flat y).length<=10):
  C 158 #[(p,0),y.val] w λx w'=>x= .returned (I 0)/\ChgSt w F p (T.over y) w':=by
 have S:=Qg u;obtain⟨z,hz⟩:=Zx y.end_;have v:y.fr+y.n=z:=hz;have X:Hid (∀c,C 223 #[y.val] c λx w'=>x= .returned (.bool true)/\Below c.heap.size c w'):=λc=>by have:=Sj y c;rw[u]at this;exact this
 have H:Below w.heap.size w (w.alloc (.cells #[I y.fr,I y.n,I y.kind,I y.at_] 255)):=(QqA _ _).alloc (QqB _) _;obtain⟨W,Q⟩:∃W,Ki T.flat y.fr z=W:=⟨_,rfl⟩;obtain⟨V,Y⟩:∃V,Gw W y=V:=⟨_,rfl⟩;have K:∀c,Below w.heap.size w c->TrAt c F p T:=λc hb=>ht.keep (Keep.below (F:=λ_=>False) hb) (λ_ _ h=>h);have L:=ht.fine.2.2;have Z:Hid (∀c,Below w.heap.size w c->C 220 #[.pointer (some ⟨p,0,none⟩),I y.fr,I (y.fr+y.n)] c λx w'=>∃j,x= .returned j/\ListBy w' F j W/\Below c.heap.size c w'):=by
  intro c hb;have h:=Hw c F p T y.fr (y.fr+y.n) (K c hb) l q O O;rw[v,Q]at h;rw[v];exact h.mono λx w' ⟨j,q1,A,q3⟩=>⟨j,q1,Ya A (λk hk=>QzB (L k hk) hb.size),q3⟩
 have m:Chk W:=by rw[<-Q];exact Qqh q _ _
 have B:Chk V:=by rw[<-Y];exact Bc m u
 have aa:Hid (∀c j,Below w w c->ListBy c F j W->C 224 #[j,y.val] c λe w'=>∃v2,e= .returned (.tuple #[v2,I 0])/\ListBy w' F v2 V/\ListBy w' F j W/\Below c c w'):=by
  intro c j hb M;have h:=Sk W j y c (M.keep (Keep.refl _ _)) (Xi m) (Uo _ m) u;rw[Y]at h;exact h.mono λe w' ⟨v2,q1,A,q3⟩=>⟨v2,q1,Ya A (λk hk=>QzB (L k hk) hb.size),Ii M q3,q3⟩
 have ab:Hid (∀c v1 v2,Below w w c->ListBy c F v1 W->ListBy c F v2 V->C 221 #[(p,0),v1,v2] c λx w'=>x= .returned (.tuple #[])/\ChgSt w F p (T.over y) w'):=by
  intro c v1 v2 hb h1 h2;have h3:=three (lo:=y.fr) (hi:=y.end_) q O;have M:=Ma q u;have am:=Bc q u;rw[hz,Q]at h3 M;rw[Y]at M;have d:=R;rw[M]at d;have h:=Ng (K c hb) l h3 (by rw[<-h3];exact G7 q) (by rw[<-M];exact G7 am) d q.one B.one h1 h2 (by rw[<-Q];exact QqR (QkE _ _) (by have:=Q9u l;omega)) (by simp at d;omega);refine h.mono λx w' ⟨q1,A⟩=>⟨q1,Qg4 hb ?_⟩;have e:T.over y=T.change W V:=by unfold Tree.over;rw[hz,Q,Y]
  rw[e];exact A
 have N:=Whole.new w 255 #[I y.fr,I y.n,I y.kind,I y.at_];obtain⟨TO,ac⟩:=Zx (T.over y);rw[ac]at ab ⊢;obtain⟨f,en,k,t⟩:=y;simp only[Ext.val]at X aa;simp only at Z H N S;have ad:Hid (∀c,Below (w.heap.size+1) (w.alloc (.cells #[I f,I en,I k,I t] 255)) c->(c.cell? (w,0)=some (I f)/\c.cell? (w,1)=some (I en)/\c.cell? (w,2)=some (I k)/\c.cell? (w,3)=some (I t))/\Below w w c):=λc hb=>⟨(K7 (N.below hb O)).1,H.trans (hb.mono O)⟩;have r:Hid (∀a b,Below (w.heap.size+1) (w.alloc (.cells #[I f,I en,I k,I t] 255)) a->Below a a b->Below (w.heap.size+1) (w.alloc (.cells #[I f,I en,I k,I t] 255)) b):=λa b h1 h2=>h1.trans (h2.mono (by have:=h1.size;simpa using this));obtain⟨s1,s2,s3,s4⟩:=S;clear R s4 ac B m L K Y Q hz v ht l q u N H;show C 158 #[.pointer (some ⟨p,0,none⟩),.agg #[I f,I en,I k,I t]] w _;go_in
 go_wp2_with fail
 with_reducible refine(X.o _).mono ?_
 rintro e w2 ⟨rfl,ae⟩;have af:=Q7h (r.o _ _ B0 ae);obtain⟨⟨y0,y1,y2,y3⟩,g⟩:=ad.o _ af.o;have an:=Q7h g;clear ae g;go_wp2_with fail
 with_reducible refine(Z.o _ an.o).mono ?_
 rintro e w3 ⟨v1,rfl,i,ag⟩;have ao:=Q7h (r.o _ _ af.o ag);have ap:=Q7h i;clear y0 y1 y2 y3;obtain⟨⟨y0,y1,y2,y3⟩,g⟩:=ad.o _ ao.o;have s:=Q7h g;clear ag g i;go_wp2_with fail
 with_reducible refine(aa.o _ _ s.o ap.o).mono ?_
 rintro e w4 ⟨v2,rfl,ah,i,ai⟩;have aq:=Q7h ah;have aj:=Q7h i;have ak:=Q7h (Qu s.o ai);clear y0 y1 y2 y3 ah i ai;go_wp2_with fail
 with_reducible refine(ab.o _ _ _ ak.o aj.o aq.o).mono ?_
 rintro e w5 ⟨rfl,al⟩;have ar:=Q7h al;clear al;go_wp2_with fail
 go_ret
 exact⟨rfl,ar.o⟩
theorem Qt1(w:World)(F:List Nat)(p:Nat)(T:Tree)(fr n:Int)(Z:TrAt w F p T)(f:T.Ok)(i:Chk T.flat)(Y:Yp fr n=true)(v:(Eb T.flat fr n).length<=10):
  C 154 #[(p,0),I fr,I n] w λx w'=>x= .returned (I 0)/\ChgSt w F p (T.cut fr n) w':=by
 obtain⟨s1,s2,s3⟩:=Rt Y;obtain⟨W,s⟩:=Zx (Ki T.flat fr (fr+n));obtain⟨V,y⟩:=Zx (Eb W fr n);have m:∀a,Below w w a->TrAt a F p T:=λa hb=>Z.keep (Keep.below (F:=λ_=>False) hb) (λ_ _ h=>h);have q:=Z.fine.2.2;have A:Hid (C 219 #[.slice none 0 0,I fr,I n] w λe w'=>∃v2,e= .returned (.tuple #[v2,I 0])/\Below w w w'):=
  (Qg1 [] (.slice none 0 0) fr n w ⟨none,0,rfl,λh=>by simp at h⟩ U rfl Y).mono λe w' ⟨v2,q1,t,u⟩=>⟨v2,q1,u⟩
 have B:Hid (∀a,Below w w a->C 220 #[(p,0),I fr,I (fr+n)] a λx w'=>∃d,x= .returned d/\ListBy w' F d W/\Below a a w'):=by
  intro a hb;have h:=Hw a F p T fr (fr+n) (m a hb) f i O O;rw[s]at h;exact h.mono λx w' ⟨d,q1,t,u⟩=>⟨d,q1,Ya t (λk hk=>QzB (q k hk) hb.size),u⟩
 have g:Chk W:=by rw[<-s];exact Qqh i _ _
 have z:Chk V:=by rw[<-y];exact S9 g s1 s2 s3
 have aa:Hid (∀a d,Below w w a->ListBy a F d W->C 219 #[d,I fr,I n] a λe w'=>∃v2,e= .returned (.tuple #[v2,I 0])/\ListBy w' F v2 V/\ListBy w' F d W/\Below a a w'):=by
  intro a d hb r;have h:=Qg1 W d fr n a (r.keep (Keep.refl _ _)) (Xi g) (Uo _ g) Y;rw[y]at h;exact h.mono λe w' ⟨v2,q1,t,u⟩=>⟨v2,q1,Ya t (λk hk=>QzB (q k hk) hb.size),Ii r u,u⟩
 have H:Hid (∀a v1 v2,Below w w a->ListBy a F v1 W->ListBy a F v2 V->C 221 #[(p,0),v1,v2] a λx w'=>x= .returned (.tuple #[])/\ChgSt w F p (T.cut fr n) w'):=by
  intro a v1 v2 hb h1 h2;have h3:=three (lo:=fr) (hi:=fr+n) i O;have r:=Qk6 i s1 s2 s3;have ab:=S9 i s1 s2 s3;rw[s]at h3 r;rw[y]at r;have b:=v;rw[r]at b;have h:=Ng (m a hb) f h3 (by rw[<-h3];exact G7 i) (by rw[<-r];exact G7 ab) b i.one z.one h1 h2 (by rw[<-s];exact QqR (QkE _ _) (by have:=Q9u f;omega)) (by simp at b;omega);refine h.mono λx w' ⟨q1,t⟩=>⟨q1,Qg4 hb ?_⟩;have e:T.cut fr n=T.change W V:=by unfold Tree.cut;rw[s,y]
  rw[e];exact t
 obtain⟨TO,K⟩:=Zx (T.cut fr n);rw[K]at H ⊢;clear v K z g q m y s Z f i Y;go_in
 go_wp2_with fail
 with_reducible refine A.o.mono ?_
 rintro e w1 ⟨v0,rfl,L⟩;have j:=Q7h L;clear L;go_wp2_with fail
 with_reducible refine(B.o _ j.o).mono ?_
 rintro e w3 ⟨v1,rfl,c,M⟩;have⟨ac,l⟩:=Q2 c (Qu j.o M);clear M c;go_wp2_with fail
 with_reducible refine(aa.o _ _ l.o ac.o).mono ?_
 rintro e w4 ⟨v2,rfl,N,c,Q⟩;have⟨ad,R,S⟩:=Q3 N c (Qu l.o Q);clear N c Q;go_wp2_with fail
 with_reducible refine(H.o _ _ _ S.o R.o ad.o).mono ?_
 rintro e w5 ⟨rfl,X⟩;have ae:=Q7h X;clear X;go_wp2_with fail
 go_ret
 exact⟨rfl,ae.o⟩
end tr
end Go.Proofs.YtfialjmemcobjaaGreatDoor
