/- A part of the proof. -/
import Derived.Test.YtfialjmemcobjaaGreatDoorPbYsS
import Derived.Test.YtfialjmemcobjaaGreatDoorPbYvA
set_option maxRecDepth 100000
set_option maxHeartbeats 16000000
set_option linter.unusedVariables false
set_option linter.unusedSimpArgs false
namespace Go.Proofs.YtfialjmemcobjaaGreatDoor
namespace tr
open Go.RowKit er
theorem Q52:(Tryz.prog.info? 355).map (λi=>(i.zero,i.size,i.bytes))=some (some (.agg #[I 0,I 0]),2,16):=J
def I7:Pg->Int
 |.leaf _=>2
 |.inner _=>3
def Pf:Pg->ByteArray
 |.leaf l=>⟨(Kc l).toArray⟩
 |.inner ks=>⟨(Jk ks).toArray⟩
def Tc:Pg->Int
 |.leaf l=>Sm l
 |.inner (k::_)=>k.key
 |_=>0
theorem Qs9(w:World)(b g:Nat)(x:Lf)(h:LfAt w b g x)(i:Chk x.l)(h1:1<=x.l.length)(j:x.l.length<=8):
  C 204 #[lfV b] w λe w'=>e= .returned (.tuple #[I 2,.string (Pf (.leaf x.l))])/\Below w w w':=by
 obtain⟨c,q1,k⟩:=h;have a:=Q7h (Qwf x.l _ w k.exts i h1 j);have c1:=q1.cell 1;simp at c1;have n:=N8;show C _ _ w λe w'=>e= .returned (.tuple #[I 2,.string ⟨(Kc x.l).toArray⟩])/\Below w.heap.size w w';generalize(⟨(Kc x.l).toArray⟩:ByteArray)=S at a ⊢;generalize x.l.length=m at *;clear q1 k i h1 j;unfold lfV;go_in
 go_wp2_with fail
 with_reducible refine a.o.mono ?_
 rintro e p ⟨rfl,d⟩;have f:=Q7h d;clear d;go_wp2_with fail
 go_returns;exact⟨rfl,f.o⟩
def fiF:Bool->FuncId
 |true=>387
 |false=>373
theorem Qb6(v : Value)(w : World) : ∀ h, (Go.method 567 (ndT h) v "scoria/tree.first").run Tryz.prog w = .ok (fiF h, v) w
 |true=>J
 |false=>J
theorem Qc5(args:Array Value)(w:World):∀h,(callFunc (fiF h) args).run Tryz.prog w= .ok (.enter (fiF h) args) w
 |true=>J
 |false=>J
theorem Wn(w:World)(b g:Nat)(x:Lf)(h:LfAt w b g x)(h1:1<=x.l.length):C (fiF true) #[(b,0)] w λe w'=>e= .returned (I (Sm x.l))/\w=w':=by
 obtain⟨c,_,c1,c2⟩:=h.see h1;have a:((0:Nat):Int)<x.l.length:=O;generalize Sm x.l=f at *;generalize x.l.length=n at *;simp only[Int.natCast_zero]at a;clear h h1;show C 387 _ w _;go_in
 go_wp2
 go_ret
 exact⟨rfl,rfl⟩
theorem Q9p(w:World)(i h b g b2:Nat)(a:Int)(x:Lf)(hi:InAt w i h b b2 a)(c:LfAt w b g x)(h1:1<=x.l.length):C (fiF false) #[(i,0)] w λe w'=>e= .returned (I (Sm x.l))/\w=w':=by
 have d:=Q7h (Wn w b g x c h1);obtain⟨k,_,c1,c2,_⟩:=hi.see;have j:=λw=>Qb6 (b,0) w true;have m:=λw=>Qc5 #[(b,0)] w true;simp only[ndT,fiF]at j m d;generalize Sm x.l=f at *;clear hi c h1;show C 373 _ w _;unfold lfV at *;go_in
 go_wp2_with fail
 refine d.o.mono ?_;rintro e n ⟨rfl,rfl⟩;go_wp2_with fail
 go_ret
 exact⟨rfl,rfl⟩
theorem Q8d{w wr:World}{v:Value}{j:Nat}{xs:List Value}(a b:Int)(d:wr.ownsRow w.heap.size 355 2 v j xs)(hb:Below w w wr):(wr.alloc (.cells #[I a,I b] 355)).ownsRow w.heap.size 355 2 v j xs/\(∀(c:Nat) (u:Value),([I a,I b]:List Value)[c]? =some u->(wr.alloc (.cells #[I a,I b] 355)).cell? (((wr,0):Addr).add c)=some u)/\(∀u∈([I a,I b]:List Value),u.oneCell'=true)/\w.heap.size<=(wr.alloc (.cells #[I a,I b] 355)).heap.size:=
 ⟨d.alloc _,World.news_of_block (by simpa using QzY wr (.cells #[I a,I b] 355)),by simp[Value.oneCell'],by have:=hb.size;simp only[QqW];omega⟩
theorem Q99(w:World)(i h b g b2 g2:Nat)(a:Int)(x y:Lf)(hi:InAt w i h b b2 a)(V:LfAt w b g x)(W:LfAt w b2 g2 y)(h1:1<=x.l.length)(h2:1<=y.l.length)(t:K2 ⟨Sm x.l,x.a⟩ ⟨Sm y.l,y.a⟩):
  C 204 #[inV i] w λe w'=>e= .returned (.tuple #[I 3,.string (Pf (.inner (Q8u x y)))])/\Below w w w':=by
 have u:Hid (∀s A c,s.ownsRow w.heap.size 355 2 (.slice A 2 c) 2 [I (Sm x.l),I x.a,I (Sm y.l),I y.a]->C 254 #[.slice A 2 c] s λx1 w'=>x1= .returned (.tuple #[.string (Pf (.inner (Q8u x y))),I 0])/\Below s s w'):=by
  intro s A c ho;have ae:=Sz ho;obtain⟨g,rfl,_,_,_,T,_⟩:=Qx ho O;exact Q9n _ _ g c s ⟨⟨T 0 _ rfl,T 1 _ rfl⟩,T 2 _ rfl,T 3 _ rfl⟩ t ⟨O,O⟩
 have v:=Q7h λwr hb=>Wn wr b g x (V.keep (Keep.below (F:=λ_=>False) hb) id id) h1;have n:=Q7h λwr hb=>Wn wr b2 g2 y (W.keep (Keep.below (F:=λ_=>False) hb) id id) h2;have HC:Hid (∀wr,Below w w wr->wr.cell? (b2,0)=some (I y.a)/\wr.cell? (h,1)=some (lfV b2)):=λwr hb=>by
  have t:=Keep.below (F:=λ_=>False) hb;obtain⟨_,_,_,_,q⟩:=(hi.keep t id id).see;obtain⟨_,q2,_⟩:=(W.keep t id id).see h2;exact⟨q2,q⟩
 obtain⟨cx,x0,_⟩:=V.see h1;obtain⟨k,_,i1,i2,i3⟩:=hi.see;have mf:=λb w=>Qb6 (.pointer (some ⟨b,0,none⟩)) w true;have ef:=λb w=>Qc5 #[.pointer (some ⟨b,0,none⟩)] w true;have mw:=λb w=>D9 (.pointer (some ⟨b,0,none⟩)) w true;have ew:=λb w=>Ez #[.pointer (some ⟨b,0,none⟩)] w true;have r:=Q7h λw b=>Kz w b true;simp only[ndT,fiF,whF]at mf ef mw ew v n r;have af:=O4;have ag:=Nf;obtain⟨i0,z,H,K,L⟩:=QzX Q52;have p:=Q7h (⟨z,H,K,L⟩:_/\_/\_/\_);have M:Hid (w.ownsRow w.heap.size 355 2 (.slice none 0 0) 0 []):=⟨rfl,.inl ⟨rfl,rfl⟩⟩;generalize Pf (.inner (Q8u x y))=Z at *;generalize Sm x.l=kx at *;generalize Sm y.l=ky at *;obtain⟨X,lx⟩:=x;obtain⟨ay,ly⟩:=y;simp only at u HC x0;clear hi V W t z H K L h1 h2;unfold inV;unfold lfV at *;go_in
 go_wp2_with fail
 refine QoS 3 ?_;rw[QoR];have m:=Q7h (Q8d kx X M.o B0);go_wp2_with fail
 refine(v.o _ B0).mono ?_;rintro e Y ⟨rfl,rfl⟩;go_wp2_with fail
 refine(r.o _ _).mono ?_;rintro e Y ⟨rfl,rfl⟩;go_wp2_with (at_builtin;go_must (refine QkW _ rfl (.tmp 38) (.tmp 46) 351 rfl w.heap.size 355 i0 _ 2 16 Tryz.underlying351 p.o.1 p.o.2.1 p.o.2.2.1 p.o.2.2.2 rfl O (.slice none 0 0) 0 [] rfl m.o.1 (w,0) 1 1 [I kx,I X] rfl rfl m.o.2.1 m.o.2.2.1 (by simp only[maxLen];omega) O m.o.2.2.2 ?_;intro v2 w6 d N _;have Q:=Q7h d;have j:=Q7h (Qy M.o N N0);obtain⟨A2,B,e2⟩:=Qk d;subst e2;clear d N))
 obtain⟨d0,d1⟩:=HC.o _ j.o;have m:=Q7h (Q8d ky ay Q.o j.o);rw[QoR];go_wp2_with fail
 refine(n.o _ j.o).mono ?_;rintro e Y ⟨rfl,rfl⟩;go_wp2_with fail
 refine(r.o _ _).mono ?_;rintro e Y ⟨rfl,rfl⟩;go_wp2_with (at_builtin;go_must (refine QkW _ rfl (.tmp 38) (.tmp 46) 351 rfl w.heap.size 355 i0 _ 2 16 Tryz.underlying351 p.o.1 p.o.2.1 p.o.2.2.1 p.o.2.2.2 rfl O (.slice A2 1 B) 1 [I kx,I X] rfl m.o.1 (w6,0) 1 1 [I ky,I ay] rfl rfl m.o.2.1 m.o.2.2.1 (by simp only[maxLen];omega) O m.o.2.2.2 ?_;intro v3 w7 f R _;have aa:=Q7h f;have ab:=Q7h (j.o.trans (Qy Q.o R j.o.size));obtain⟨A3,ah,e3⟩:=Qk f;subst e3;clear f R))
 have ac:=Q7h (u.o _ _ _ aa.o);rw[QoR];go_wp2_with fail
 with_reducible refine ac.o.mono ?_
 rintro e w8 ⟨rfl,S⟩;have ad:=Q7h (Qu ab.o S);clear S;go_wp2_with fail
 go_returns;exact⟨rfl,ad.o⟩
end tr
namespace tr
open Go.RowKit er
def Tree.setA:Tree->Nat->Int->Tree
 |.one x,0,b=>.one ⟨b,x.l⟩
 |.two a x y,0,b=>.two a ⟨b,x.l⟩ y
 |.two a x y,1,b=>.two a x ⟨b,y.l⟩
 |.two _ x y,2,b=>.two b x y
 |T,_,_=>T
theorem Q8m(T:Tree)(j:Nat)(b:Int):(T.setA j b).ats=T.ats.set j b/\(T.setA j b).flat=T.flat/\((T.setA j b).Ok↔T.Ok):=by
 cases T with
 |no=>exact⟨by cases j<;>rfl,by cases j<;>rfl,by cases j<;>exact QoX⟩
 |one x=>match j with
  |0=>exact⟨rfl,rfl,QoX⟩
  |j+1=>exact⟨rfl,rfl,QoX⟩
 |two a x y=>match j with
  |0=>exact⟨rfl,rfl,QoX⟩
  |1=>exact⟨rfl,rfl,QoX⟩
  |2=>exact⟨rfl,rfl,QoX⟩
  |j+3=>exact⟨rfl,rfl,QoX⟩
theorem Q9t{w:World}{F:List Nat}{T:Tree}{vs:List Value}(j:Nat)(b:Int)(h:Q81 w F T vs):Q81 w F (T.setA j b) vs:=by
 cases T with
 |no=>cases j<;>exact h
 |one x=>cases j<;>exact h
 |two a x y=>match j with
  |0=>exact h
  |1=>exact h
  |2=>exact h
  |j+3=>exact h
theorem Q9g:∀{l:List Int} {j:Nat} {b:Int},l[j]? =some (-1)->b≠-1->((l.set j b).filter λa=>decide (a≠-1)).Perm (b::l.filter λa=>decide (a≠-1))
 |[],_,_,h,_=>by simp at h
 |x::l,0,b,h,hb=>by
  obtain rfl:x= -1:=by simpa using h
  simp[hb]
 |x::l,j+1,b,h,hb=>by
  have c:=Q9g (l:=l) (j:=j) (b:=b) (by simpa using h) hb;rw[QuK,QkX,QkX];by_cases e:x= -1
  ·simpa[e]using c
  ·simp only[e,ne_eq,QiC,QoY,QyC];exact(c.cons x).trans (List.Perm.swap _ _ _)
theorem Q93{x y:Lf}(b:Chk (x.l++y.l))(h1:1<=x.l.length)(h2:1<=y.l.length)(c:0<=x.a/\x.a<2048)(d:0<=y.a/\y.a<2048)(g:x.a≠y.a):K2 ⟨Sm x.l,x.a⟩ ⟨Sm y.l,y.a⟩:=by
 obtain⟨k,h⟩:=x;obtain⟨m,i⟩:=y;cases h with
 |nil=>simp at h1
 |cons e h=>
  cases i with
  |nil=>simp at h2
  |cons f i=>
   have o1:=Qg (b.one e U);have o2:=Qg (b.one f U);have j:=((QkA.1 b.ord).2.2 e U f U).1;unfold Ext.end_ at j;simp only[Sm]at c d g ⊢;refine⟨⟨?_,c⟩,⟨?_,d⟩,?_,g⟩<;>(simp only;omega)
section
variable {σ:Type}
def WrTo(step:σ->Pg->Int->σ->Prop):Nat->Tree->σ->Tree->σ->Prop
 |0,T,s,U,u=>U=T/\u=s
 |j+1,T,s,U,u=>∃V v,WrTo step j T s V v/\((∃a,V.ats[j]? =some a/\a≠-1/\U=V/\u=v)\/V.ats[j]? =some (-1)/\∃pg b,V.pgs[j]? =some pg/\step v pg b u/\U=V.setA j b)
structure Q9x(step:σ->Pg->Int->σ->Prop)(ok:σ->Pg->Prop)(T:Tree)(s:σ):Prop where
 nd:T.nfs.Nodup
 rg:∀a∈T.nfs,0<=a/\a<2048
 can:∀j V v pg,WrTo step j T s V v->V.ats[j]? =some (-1)->V.pgs[j]? =some pg->ok v pg
 new:∀j V v pg b u,WrTo step j T s V v->V.ats[j]? =some (-1)->V.pgs[j]? =some pg->step v pg b u->(0<=b/\b<2048)/\b∉V.nfs
variable {step:σ→Pg→Int→σ→Prop} {ok:σ→Pg→Prop} {T:Tree} {s:σ}
theorem WrTo.same:∀{j:Nat} {V:Tree} {v:σ},WrTo step j T s V v->V.flat=T.flat/\(V.Ok↔T.Ok)/\V.ats.length=T.ats.length/\∀{w F vs},Q81 w F T vs->Q81 w F V vs
 |0,V,v,h=>by
  obtain⟨rfl,rfl⟩:=h;exact⟨rfl,QoX,rfl,λh=>h⟩
 |j+1,V,v,⟨U,u,h,h2⟩=>by
  obtain⟨q1,c,d,e⟩:=WrTo.same h;rcases h2 with⟨a,_,_,rfl,rfl⟩|⟨_,pg,b,_,_,rfl⟩
  ·exact⟨q1,c,d,e⟩
  ·obtain⟨f,g,i⟩:=Q8m U j b;exact⟨g.trans q1,i.trans c,by rw[f,QoE,d],λh=>Q9t j b (e h)⟩
theorem WrTo.fine(H:Q9x step ok T s):∀{j:Nat} {V:Tree} {v:σ},WrTo step j T s V v->V.nfs.Nodup/\(∀a∈V.nfs,0<=a/\a<2048)/\∀(i:Nat) a,i<j->V.ats[i]? =some a->a≠-1
 |0,V,v,h=>by
  obtain⟨rfl,rfl⟩:=h;exact⟨H.nd,H.rg,λi a h=>absurd h (Nat.not_lt_zero _)⟩
 |j+1,V,v,⟨U,u,h,h2⟩=>by
  obtain⟨q1,g,k⟩:=WrTo.fine H h;rcases h2 with⟨a,ha,m,rfl,rfl⟩|⟨ha,pg,b,f,n,rfl⟩
  ·refine⟨q1,g,λi c hi d=>?_⟩;by_cases e:i=j
   ·subst e;rw[ha]at d;injection d with d;exact d▸m
   ·exact k i c O d
  ·obtain⟨⟨b0,b1⟩,b2⟩:=H.new j U u pg b v h ha f n;have l:=(Q8m U j b).1;have hb:b≠-1:=O;have f:=Q9g ha hb;have o:(U.setA j b).nfs=(U.ats.set j b).filter λa=>decide (a≠-1):=by unfold Tree.nfs;rw[l]
   rw[<-o]at f;refine⟨f.nodup_iff.2 (QqP.2 ⟨b2,q1⟩),λc d=>?_,λi c hi d=>?_⟩
   ·rcases QqF.1 (f.mem_iff.1 d)with rfl|d
    ·exact⟨b0,b1⟩
    ·exact g c d
   ·rw[l]at d;by_cases e:i=j
    ·subst e;rw[QiD (QqD.1 ha).1]at d;injection d with d;exact d▸hb
    ·rw[QxD (λh=>e h.symm)]at d;exact k i c O d
theorem WrTo.kids(H:Q9x step ok T s){a:Int}{x y:Lf}{v:σ}(h:WrTo step 2 T s (.two a x y) v)(b:T.Ok)(d:Chk T.flat):K2 ⟨Sm x.l,x.a⟩ ⟨Sm y.l,y.a⟩:=by
 obtain⟨g,i,_⟩:=h.same;obtain⟨q1,e,f⟩:=h.fine H;have j:=f 0 x.a O rfl;have k:=f 1 y.a O rfl;obtain⟨h1,h2,_⟩:=i.2 b;rw[<-g]at d;have c:[x.a,y.a].Sublist (Tree.two a x y).nfs:=by
  simp only[Tree.nfs,Tree.ats,QkX,j,k,ne_eq,QiC,QoY,QyC];exact(List.nil_sublist _).cons_cons _ |>.cons_cons _
 have m:=e x.a (c.subset U);have n:=e y.a (c.subset U);have o:=q1.sublist c;have p:x.a≠y.a:=by simpa using o
 exact Q93 d O O m n p
end
end tr
namespace tr
open Go.RowKit er
theorem LfAt.setA{w:World}{b g:Nat}{x:Lf}(h:LfAt w b g x)(a:Int):LfAt (w.setCell (b,0) (I a)) b g ⟨a,x.l⟩:=by
 obtain⟨c,q1,d⟩:=h;exact⟨c,q1.set 0 _,d.keep (Keep.set1 _ b 0 _) (d.ne q1 D).symm⟩
theorem InAt.setA{w:World}{i h b b2:Nat}{a:Int}(hi:InAt w i h b b2 a)(c:Int):InAt (w.setCell (i,0) (I c)) i h b b2 c:=by
 obtain⟨k,d,e⟩:=hi;exact⟨k,d.set 0 _,e.keep (Keep.set1 _ i 0 _) (e.ne d D).symm⟩
def Zqh(w:World)(F:List Nat)(p:Nat)(U:Tree)(vs:List Value)(j:Nat)(h:Bool)(b:Nat)(a:Int)(pg:Pg):Prop:=
 vs[j]? =some (Value.iface (ndT h) (b,0))/\(w.cell? (b,0)=some (I a)/\w.frozen? (b,0)=false)/\b∈F/\U.pgs[j]? =some pg/\
 ((∀a x y,U= .two a x y->j=2->K2 ⟨Sm x.l,x.a⟩ ⟨Sm y.l,y.a⟩)->∀wq,Below w w wq->
  (C 204 #[.iface (ndT h) (b,0)] wq λe w'=>e= .returned (.tuple #[I (I7 pg),.string (Pf pg)])/\Below wq wq w')/\
  C (fiF h) #[(b,0)] wq λe w'=>e= .returned (I (Tc pg))/\wq=w')/\
 ∀c,TrAt (w.setCell (b,0) (I c)) (p::F) p (U.setA j c)
theorem Q92{w:World}{F:List Nat}{p:Nat}{U:Tree}{vs:List Value}{j:Nat}{a:Int}(T:TrAt w (p::F) p U)(Q:Q81 w F U vs)(m:U.Ok)(s:Chk U.flat)(ha:U.ats[j]? =some a):∃h b pg,Zqh w F p U vs j h b a pg:=by
 obtain⟨F',v,e,t,u⟩:=T;simp only[QoV,true_and]at e;obtain rfl:=e;obtain⟨n,-⟩:=u.fine t;have f:∀{d},Below w w d->Keep (λ_=>False) w d:=λh=>Keep.below h;cases U with
 |no=>simp[Tree.ats]at ha
 |one x=>
  obtain⟨b,g,rfl,rfl,h1⟩:=u;obtain⟨_,_,e,rfl⟩:=Q;simp only[QoV]at e;obtain⟨rfl,_⟩:=e;match j,ha with
  |j+1,ha=>simp[Tree.ats]at ha
  |0,ha=>
   obtain rfl:x.a=a:=by simpa[Tree.ats]using ha
   have z:p≠b:=by simp at n;exact n.1.1
   refine⟨true,b,.leaf x.l,rfl,?_,by simp,rfl,λ_ d hb=>⟨Qs9 d b g x (h1.keep (f hb) id id) s m.1 m.2,Wn d b g x (h1.keep (f hb) id id) m.1⟩,λc=>⟨_,_,rfl,t.keep (Keep.set1 w b 0 _) z,b,g,rfl,rfl,h1.setA c⟩⟩;obtain⟨c,q1,_⟩:=h1;exact⟨q1.cell 0,q1.fz 0⟩
 |two a0 x y=>
  obtain⟨i,k,b,g,b2,r,rfl,rfl,hi,o,q,h5,H⟩:=u;obtain⟨_,_,_,_,_,_,e,rfl⟩:=Q;simp only[QoV]at e;obtain⟨rfl,rfl,rfl,rfl,rfl,rfl,_⟩:=e;obtain⟨o1,o2,o3⟩:=m;have L:Chk x.l:=⟨λe M=>s.one e (by simp[Tree.flat,M]),(QkA.1 s.ord).1⟩;have N:Chk y.l:=⟨λe M=>s.one e (by simp[Tree.flat,M]),(QkA.1 s.ord).2.1⟩;simp only[QqP,QqF,QkU,QyA,QuE]at n;obtain⟨⟨p1,p2,V,p4,W,p6⟩,⟨i1,R,X,S,Y⟩,⟨Z,k2,A,k4⟩,⟨b1,b3,b4⟩,⟨B,g3⟩,c1,-⟩:=n;match j,ha with
  |j+3,ha=>simp[Tree.ats]at ha
  |0,ha=>
   obtain rfl:x.a=a:=by simpa[Tree.ats]using ha
   refine⟨true,b,.leaf x.l,rfl,?_,by simp,rfl,λ_ d hb=>⟨Qs9 d b g x (o.keep (f hb) id id) L O O,Wn d b g x (o.keep (f hb) id id) O⟩,λc=>?_⟩
   ·obtain⟨c,q1,_⟩:=o;exact⟨q1.cell 0,q1.fz 0⟩
   ·have K:=Keep.set1 w b 0 (I c);exact⟨_,_,rfl,t.keep K V,i,k,b,g,b2,r,rfl,rfl,hi.keep K R Z,o.setA c,q.keep K (Ne.symm b3) (Ne.symm b4),h5,H⟩
  |1,ha=>
   obtain rfl:y.a=a:=by simpa[Tree.ats]using ha
   refine⟨true,b2,.leaf y.l,rfl,?_,by simp,rfl,λ_ d hb=>⟨Qs9 d b2 r y (q.keep (f hb) id id) N O O,Wn d b2 r y (q.keep (f hb) id id) O⟩,λc=>?_⟩
   ·obtain⟨c,q1,_⟩:=q;exact⟨q1.cell 0,q1.fz 0⟩
   ·have K:=Keep.set1 w b2 0 (I c);exact⟨_,_,rfl,t.keep K W,i,k,b,g,b2,r,rfl,rfl,hi.keep K S A,o.keep K b3 B,q.setA c,h5,H⟩
  |2,ha=>
   obtain rfl:a0=a:=by simpa[Tree.ats]using ha
   refine⟨false,i,.inner (Q8u x y),rfl,?_,by simp,rfl,λhk d hb=>⟨Q99 d i k b g b2 r a0 x y (hi.keep (f hb) id id) (o.keep (f hb) id id) (q.keep (f hb) id id) O O (hk a0 x y rfl rfl),Q9p d i k b g b2 a0 x (hi.keep (f hb) id id) (o.keep (f hb) id id) O⟩,λc=>?_⟩
   ·obtain⟨c,q1,_⟩:=hi;exact⟨q1.cell 0,q1.fz 0⟩
   ·have K:=Keep.set1 w i 0 (I c);exact⟨_,_,rfl,t.keep K p1,i,k,b,g,b2,r,rfl,rfl,hi.setA c,o.keep K (Ne.symm R) (Ne.symm X),q.keep K (Ne.symm S) (Ne.symm Y),h5,H⟩
end tr
namespace tr
open Go.RowKit er
structure Snk{σ:Type}(g:Nat)(lb:Array Value)(step:σ->Pg->Int->σ->Prop)(ok:σ->Pg->Prop)(at_:σ->(Nat->Prop)->World->Prop):Prop where
 eg:∀args w,(callFunc g args).run Tryz.prog w= .ok (.enter g args) w
 keep:∀{s G w Y w'},at_ s G w->Keep Y w w'->(∀k,G k->¬Y k)->at_ s G w'
 lt:∀{s G w},at_ s G w->∀k,G k->k<w.heap.size
 put:∀s G w pg,ok s pg->at_ s G w->C g (#[I (I7 pg),I (Tc pg),.string (Pf pg)]++lb) w λx w'=>∃a s' G',x= .returned (.tuple #[I a,.nilIface])/\step s pg a s'/\at_ s' G' w'/\Mv G w G' w'
section
variable {σ:Type} {g:Nat} {lb:Array Value} {step:σ→Pg→Int→σ→Prop} {ok:σ→Pg→Prop} {at_:σ→(Nat→Prop)→World→Prop}
def WrV(step:σ->Pg->Int->σ->Prop)(at_:σ->(Nat->Prop)->World->Prop)(w1:World)(F:List Nat)(p:Nat)(T:Tree)(G:Nat->Prop)(s:σ)(j:Nat)(wr:World):Prop:=
 ∃U u G',WrTo step j T s U u/\TrAt wr (p::F) p U/\at_ u G' wr/\(∀k,G' k->G k\/w1.heap.size<=k)/\Keep (λk=>k∈p::F\/G k) w1 wr
structure WrK(w1:World)(F:List Nat)(p:Nat)(T:Tree)(vs:List Value)(G:Nat->Prop):Prop where
 lt:∀k∈p::F,k<w1.heap.size
 dis:∀k∈p::F,¬G k
 ok:T.Ok
 chk:Chk T.flat
 vs:∀w,Q81 w F T vs
theorem Q9s{w1 wr:World}{F:List Nat}{p:Nat}{T:Tree}{vs:List Value}{G:Nat->Prop}{s:σ}{j:Nat}(d:Snk g lb step ok at_)(L:Q9x step ok T s)(l:WrK w1 F p T vs G)(R:WrV step at_ w1 F p T G s j wr)(S:j<T.ats.length):
  ∃h b a,vs[j]? =some (Value.iface (ndT h) (b,0))/\(wr.cell? (b,0)=some (I a)/\wr.frozen? (b,0)=false)/\(a≠-1->WrV step at_ w1 F p T G s (j+1) wr)/\
  (a= -1->∃(M N:Int) (ps:ByteArray),∀f,Below wr.heap.size wr f->(C 204 #[.iface (ndT h) (.pointer (some ⟨b,0,none⟩))] f λe w'=>e= .returned (.tuple #[I M,.string ps])/\Below f.heap.size f w')/\(C (fiF h) #[.pointer (some ⟨b,0,none⟩)] f λe w'=>e= .returned (I N)/\f=w')/\
   C g (#[I M,I N,.string ps]++lb) f λe m=>∃c,e= .returned (.tuple #[I c,.nilIface])/\(m.cell? ⟨b,0,none⟩=some (I (-1))/\m.frozen? ⟨b,0,none⟩=false)/\WrV step at_ w1 F p T G s (j+1) (m.setCell ⟨b,0,none⟩ (I c))):=by
 obtain⟨U,u,G',h1,h2,h3,h4,h5⟩:=R;obtain⟨V,W,X,Y⟩:=h1.same;obtain⟨a,ha⟩:∃a,U.ats[j]? =some a:=⟨_,QqC (by rw[X];exact S)⟩;have n:=Y (l.vs wr);have o:=W.2 l.ok;have q:Chk U.flat:=by rw[V];exact l.chk
 obtain⟨h,b,pg,n1,n2,w,Q,Z,n6⟩:=Q92 h2 n o q ha;have r:∀k∈p::F,¬G' k:=λk d t=>by
  rcases h4 _ t with t|t
  ·exact l.dis _ d t
  ·have:=l.lt _ d;omega
 refine⟨h,b,a,n1,n2,λz=>⟨U,u,G',⟨U,u,h1,.inl ⟨a,ha,z,rfl,rfl⟩⟩,h2,h3,h4,h5⟩,λA=>⟨I7 pg,Tc pg,Pf pg,λf hb=>?_⟩⟩;subst A;obtain⟨q1,B⟩:=Z (λa x y e ej=>by subst e ej;exact h1.kids L l.ok l.chk) f hb;refine⟨q1,B,(d.put u G' f pg (L.can j U u pg h1 ha Q) (d.keep h3 (Keep.below (F:=λ_=>False) hb) (λ_ _ h=>h))).mono ?_⟩;rintro e m ⟨c,u',H,rfl,g1,g2,v⟩;have t9:=(h2.keep (Keep.below (F:=λ_=>False) hb) (λ_ _ h=>h)).keep v.keep r;obtain⟨h',b',aa,i,m2,m3,_,_,m6⟩:=Q92 t9 n o q ha;rw[n1]at i;obtain⟨rfl⟩:b=b':=by injection i with i;injection i with _ i;injection i with i;injection i with i;injection i
 have K:=Keep.set1 m b 0 (I c);refine⟨c,rfl,m2,_,u',H,⟨U,u,h1,.inr ⟨ha,pg,c,Q,g1,rfl⟩⟩,m6 c,d.keep g2 K (λk d e=>?_),λk d=>?_,Keep.setCell (p:=(b,0)) ((h5.transBelow hb).trans v.keep λk d=>?_) (.inl (.inl (QzA _ w))) _⟩
 ·have e':=e;rw[e']at d;rcases v.sub _ d with d|d
  ·exact r b (QzA _ w) d
  ·have:=l.lt b (QzA _ w);have:=h5.size;have:=hb.size;omega
 ·rcases v.sub _ d with d|d
  ·exact h4 k d
  ·right;have:=h5.size;have:=hb.size;omega
 ·rcases h4 _ d with d|d
  ·exact .inl (.inr d)
  ·exact .inr d
def Q8f(step:σ->Pg->Int->σ->Prop)(at_:σ->(Nat->Prop)->World->Prop)(w:World)(F:List Nat)(p:Nat)(T:Tree)(G:Nat->Prop)(s:σ)(x:Ending)(w':World):Prop:=
 ∃U u G',x= .returned (.tuple #[I (Qxi U),.nilIface])/\WrTo step T.ats.length T s U u/\TrAt w' F p U/\at_ u G' w'/\(∀k,G' k->G k\/w.heap.size<=k)/\Keep (λk=>k∈F\/G k) w w'
theorem Qob(w:World)(F:List Nat)(p:Nat)(T:Tree)(G:Nat->Prop)(s:σ)(n:Snk g lb step ok at_)(hw:Q9x step ok T s)(R:TrAt w F p T)(S:T.Ok)(hc:Chk T.flat)(hb:at_ s G w)(hd:∀k∈F,¬G k):
  C 141 #[(p,0),.func (.func g) #[] lb] w (Q8f step at_ w F p T G s):=by
 have eg:=n.eg;have hG:=λk (h:G k)=>n.lt hb k h;obtain⟨F',vs,rfl,V,N⟩:=Qr3 w F p T R;have t:=R.fine.2.2;have W:∀w,Q81 w F' T vs:=λ_=>V;have L:vs.length=T.ats.length:=by
  obtain⟨_,v,e,_,N⟩:=R;simp only[QoV,true_and]at e;obtain rfl:=e;exact(Q9z N V).1
 have ae:T.ats.length<=3:=by cases T<;>simp[Tree.ats]
 have X:Hid (C 203 #[(p,0)] w λx w1=>∃A c,x= .returned (.slice A T.ats.length c)/\(∀(i:Nat) y,vs[i]? =some y->∃g,A=some (g,0)/\w.heap.size<=g/\w1.cell? (g,i)=some y)/\Below w w w1/\WrK w1 F' p T vs G/\WrV step at_ w1 F' p T G s 0 w1):=by
  refine N.mono ?_;rintro x w1 ⟨A,c,rfl,h1,h6⟩;have Y:Keep (λ_=>False) w w1:=Keep.below h6;rw[L]at h1 ⊢;refine⟨A,c,rfl,λi y hy=>?_,h6,⟨λk n=>QzB (t k n) h6.size,hd,S,hc,W⟩,T,s,G,⟨rfl,rfl⟩,R.keep Y (λ_ _ h=>h),n.keep hb Y (λ_ _ h=>h),λk n=>.inl n,Keep.refl _ _⟩;obtain⟨g,rfl,g1,_,_,f,_⟩:=Qx h1 (by rw[<-L];exact Nat.lt_of_le_of_lt (QqM i) (QqD.1 hy).1);exact⟨g,rfl,g1,f i _ hy⟩
 have HR:=Q7h λw1 wr j hc V hj=>Q9s (w1:=w1) (wr:=wr) (F:=F') (vs:=vs) (p:=p) (j:=j) (G:=G) n hw hc V hj
 -- the top,behind the last node
 have af:Hid (∀w1 wr,Below w.heap.size w w1->WrV step at_ w1 F' p T G s T.ats.length wr->(wr.cell? ⟨p,0,none⟩=some .nilIface/\Q8f step at_ w (p::F') p T G s (.returned (.tuple #[I (-1),.nilIface])) wr)\/∃h tb a,wr.cell? ⟨p,0,none⟩=some (.iface (ndT h) (.pointer (some ⟨tb,0,none⟩)))/\wr.cell? ⟨tb,0,none⟩=some (I a)/\Q8f step at_ w (p::F') p T G s (.returned (.tuple #[I a,.nilIface])) wr):=by
  rintro w1 wr z ⟨U,u,G',h1,h2,h3,h4,h5⟩;have fin:Q8f step at_ w (p::F') p T G s (.returned (.tuple #[I (Qxi U),.nilIface])) wr:=⟨U,u,G',rfl,h1,h2,h3,λk n=>(h4 k n).imp id (QqR z.size),(Keep.below (F:=λk=>k∈p::F'\/G k) z).trans h5 (λk n=>.inl n)⟩;obtain⟨_,v,_,hp,N⟩:=h2;have c0:=hp.cell 0;cases U with
  |no=>obtain⟨_,rfl⟩:=N;exact .inl ⟨c0,fin⟩
  |one x=>obtain⟨b,g,_,rfl,c,q,_⟩:=N;exact .inr ⟨true,b,_,c0,q.cell 0,fin⟩
  |two a x y=>obtain⟨i,_,_,_,_,_,_,rfl,⟨k,q,_⟩,_⟩:=N;exact .inr ⟨false,i,_,c0,q.cell 0,fin⟩
 have ap:=Q7h L;have HF:Hid (∀k,k∈p::F'\/G k->k<w.heap.size):=λk n=>n.elim (t k) (hG k);generalize T.ats.length=m at *;have aq:(m:Int)<=3:=O;have ar:=λb h w=>D9 (.pointer (some ⟨b,0,none⟩)) w h;have au:=λb h w=>Ez #[.pointer (some ⟨b,0,none⟩)] w h;have av:=λb h w=>Qb6 (.pointer (some ⟨b,0,none⟩)) w h;have aw:=λb h w=>Qc5 #[.pointer (some ⟨b,0,none⟩)] w h;have M:=Q7h (λZ b h=>Kz Z b h);clear R S hc hb hd t hG n hw V N W L ae;go_in
 go_wp2_with fail
 with_reducible refine X.o.mono ?_
 rintro e w1 ⟨A,c,rfl,f,z,B,aa⟩;have ag:=Q7h f;have ah:=Q7h z;have ai:=Q7h B;have aj:=Q7h aa;clear f z B aa X;go_wp2_with fail
 go_loopw [7,8,9,10,11,15] (λs7 s8 s9 ax ay Q wr=>∃j:Nat,j<=m/\Q= I j/\Hid (WrV step at_ w1 F' p T G s j wr)) (λ_ _ _ _ _ Q _=>m-(intOf Q).toNat)
 case atStart=>exact⟨0,QqM _,rfl,aj⟩
 case round=>
  obtain⟨j,hj,rfl,HW⟩:=hrel;by_cases t:j<m
  ·have az:(j:Int)<(m:Int):=O;obtain⟨xh,xb,a,d,⟨d1,d2⟩,hold,H⟩:=HR.o w1 wr j ai.o HW.o t;obtain⟨g',rfl,hg,d0⟩:=ag.o j _ d;have d0:wr.cell? (g',j)=some (.iface (ndT xh) (xb,0)):=by
    obtain⟨_,_,_,_,_,_,_,h5⟩:=HW.o;exact h5.cell d0 λn=>absurd (HF.o _ n) (Nat.not_lt.2 hg)
   by_cases ha:a= -1
   ·obtain⟨pk,fk,ps,l⟩:=H ha;subst ha;have ak:=Q7h (l wr B0).1;have al:=Q7h λZ h=>(l Z h).2.1;have am:=Q7h λZ h=>(l Z h).2.2;clear H hold l d;go_wp2_with fail
    refine(M.o _ xb xh).mono ?_;rintro e w5 ⟨rfl,rfl⟩;go_wp2_with fail
    with_reducible refine ak.o.mono ?_
    rintro e w5 ⟨rfl,ab⟩;have ac:=Q7h ab;clear ab;go_wp2_with fail
    refine(al.o _ ac.o).mono ?_;rintro e w6 ⟨rfl,rfl⟩;go_wp2_with fail
    refine(am.o _ ac.o).mono ?_;rintro e w9 ⟨a,rfl,⟨z1,z2⟩,ad⟩;have an:=Q7h ad;clear ad;go_wp2_with fail
    refine(M.o _ xb xh).mono ?_;rintro e w5 ⟨rfl,rfl⟩;go_wp2_with fail
    go_roundw
    case rel=>exact⟨j+1,O,by go_num,an⟩
    case measure=>simp[intOf];omega
   ·have ao:=Q7h (hold ha);have aF:(a == -1)=false:=by simpa using ha
    clear hold H d;go_wp2_with fail
    refine(M.o _ xb xh).mono ?_;rintro e w5 ⟨rfl,rfl⟩;go_wp2_with fail
    go_roundw
    case rel=>exact⟨j+1,O,by go_num,ao⟩
    case measure=>simp[intOf];omega
  ·obtain rfl:j=m:=O;rcases af.o w1 wr ah.o HW.o with⟨d0,r⟩|⟨h,tb,a,d0,d1,r⟩
   ·have K:=Q7h r;clear r;go_wp2_with fail
    go_returns;exact K.o
   ·have K:=Q7h r;clear r;go_wp2_with fail
    refine(M.o _ tb h).mono ?_;rintro e w5 ⟨rfl,rfl⟩;go_wp2_with fail
    go_returns;exact K.o
end
end tr
end Go.Proofs.YtfialjmemcobjaaGreatDoor
