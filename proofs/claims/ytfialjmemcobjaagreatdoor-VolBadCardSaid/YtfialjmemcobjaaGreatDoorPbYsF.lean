/- A part of the proof. -/
import Derived.Test.YtfialjmemcobjaaGreatDoorPbYsE
import Derived.Test.YtfialjmemcobjaaGreatDoorPbYyMb
set_option maxRecDepth 100000
set_option maxHeartbeats 16000000
set_option linter.unusedVariables false
set_option linter.unusedSimpArgs false
namespace Go.Proofs.YtfialjmemcobjaaGreatDoor
namespace tr
open Go.RowKit er
theorem N8(p:Option Addr)(w:World):(Instr.typeAssert (.iface 348 (.pointer p)) 226 348 true).run Tryz.prog w= .ok (.tuple #[.pointer p,.bool true]) w:=J
theorem O4(p:Option Addr)(w:World):(Instr.typeAssert (.iface 297 (.pointer p)) 226 297 true).run Tryz.prog w= .ok (.tuple #[.pointer p,.bool true]) w:=J
theorem Qja(p:Option Addr)(w:World):(Instr.typeAssert (.iface 348 (.pointer p)) 226 297 true).run Tryz.prog w= .ok (.tuple #[.pointer none,.bool false]) w:=J
theorem Nf(p:Option Addr)(w:World):(Instr.typeAssert (.iface 297 (.pointer p)) 226 348 true).run Tryz.prog w= .ok (.tuple #[.pointer none,.bool false]) w:=J
theorem Q8l{w w':World}{b1 b2:Nat}{t:TypeId}{p1 q1 v1 p2 a v2:Value}(h1:Whole w b1 t #[p1,q1])(h2:Whole w b2 t #[p2,a])(hb:b1≠b2)(i:Nat)(b:w'=(w.setCell (b1,i) v1).setCell (b2,i) v2\/w'=(w.setCell (b2,i) v2).setCell (b1,i) v1):
  Whole w' b1 t (#[p1,q1].setIfInBounds i v1)/\Whole w' b2 t (#[p2,a].setIfInBounds i v2)/\Keep (λk=>k=b1\/k=b2) w w':=by
 rcases b with rfl|rfl
 ·exact⟨(h1.set i v1).far (p:=(b2,i)) hb v2,(h2.far (p:=(b1,i)) hb.symm v1).set i v2,((Keep.refl _ _).setCell (p:=(b1,i)) (.inl (.inl rfl)) _).setCell (p:=(b2,i)) (.inl (.inr rfl)) _⟩
 ·exact⟨(h1.far (p:=(b2,i)) hb v2).set i v1,(h2.set i v2).far (p:=(b1,i)) hb.symm v1,((Keep.refl _ _).setCell (p:=(b2,i)) (.inl (.inr rfl)) _).setCell (p:=(b1,i)) (.inl (.inl rfl)) _⟩
def ShP(w:World)(b1 b2:Nat)(L:List Ext)(K:Nat)(w':World):Prop:=∃n1,LfAt w' b1 n1 ⟨-1,L.take K⟩/\w.heap.size<=n1/\(K<L.length->∃n2,LfAt w' b2 n2 ⟨-1,L.drop K⟩/\w.heap.size<=n2/\n1≠n2)/\Keep (λk=>k=b1\/k=b2) w w'
theorem Q84{w w2 b l:World}{b1 b2 K:Nat}{L:List Ext}{v1 v2 q1 x:Value}(c:Whole w2 b1 350 #[I (-1),q1])(d:Whole w2 b2 350 #[I (-1),x])(f:Keep (λk=>k=b1\/k=b2) w w2)(hb:b1≠b2)
  (a:Below w2 w2 b) (m:b.ownsRow w2.heap.size 255 4 v1 K (Qz (L.take K))) (o:b.ownsRow w2.heap.size 255 4 v2 (L.length-K) (Qz (L.drop K))) (p:∀g,v1.ownBlock=some g->v2.ownBlock≠some g) (q:0<K) (T:K<=L.length)
  (y:l=(b.setCell (b1,1) v1).setCell (b2,1) v2\/l=(b.setCell (b2,1) v2).setCell (b1,1) v1):ShP w b1 b2 L K l:=by
 obtain⟨n1,z,rfl,r,h⟩:=Row.own m q;have i:=f.size;have F:=c.lt;have H:=d.lt;obtain⟨M,N,s⟩:=Q8l (c.below a F) (d.below a H) hb 1 y;have t:(L.take K).length=K:=by rw[QzJ];omega
 have v:∀n,w2.heap.size<=n->¬(n=b1\/n=b2):=λn V=>O;refine⟨n1,⟨z,by rw[t];exact M,r.keep s (v _ h)⟩,QqR i h,λQ=>?_,(f.transBelow a).trans s λk R=>.inl R⟩;obtain⟨n2,S,rfl,u,j⟩:=Row.own o O;exact⟨n2,⟨S,by rw[QkJ];exact N,u.keep s (v _ j)⟩,QqR i j,λe=>p n1 rfl (by rw[e];rfl)⟩
theorem Qy0{w:World}{b1 W b2 X K:Nat}{x y:Lf}(h1:LfAt w b1 W x)(h2:LfAt w b2 X y)(hb:b1≠b2)(z:0<K)(s:K<=(x.l++y.l).length)(S:(x.l++y.l).length<=1000):
  C 330 #[lfV b1,lfV b2,I K] w λe w'=>e= .returned (.tuple #[])/\ShP w b1 b2 (x.l++y.l) K w':=by
 obtain⟨c1,x1,t⟩:=h1;obtain⟨c2,i,v⟩:=h2;obtain⟨w2,F⟩:∃w2,(w.setCell ⟨b1,0,none⟩ (I (-1))).setCell ⟨b2,0,none⟩ (I (-1))=w2:=⟨_,rfl⟩;obtain⟨b,c,d⟩:=Q8l x1 i hb 0 (.inl F.symm);have n:=t.keep d (λe=>e.elim (λe=>t.ne x1 D e.symm) λe=>t.ne i D e.symm);have o:=v.keep d (λe=>e.elim (λe=>v.ne x1 D e.symm) λe=>v.ne i D e.symm);have p:=Q7h λwq (hq:Below w2.heap.size w2 wq)=>Q43 x.l.length y.l.length K _ _ _ _ wq (SlAt.row (n.below hq) (Zy x.l)) (SlAt.row (o.below hq) (Zy y.l)) (by simpa using s) (by simp at s;omega) (by simpa using S) (λu Y=>by rcases QqJ.1 Y with h|h<;>exact Jm _ u h);have q:Hid (∀f m v1 v2,Below w2.heap.size w2 f->f.ownsRow w2.heap.size 255 4 v1 K ((Qz x.l++Qz y.l).take (K*4))->f.ownsRow w2.heap.size 255 4 v2 (x.l.length+y.l.length-K) ((Qz x.l++Qz y.l).drop (K*4))->(∀g,v1.ownBlock=some g->v2.ownBlock≠some g)->(m=(f.setCell ⟨b1,1,none⟩ v1).setCell ⟨b2,1,none⟩ v2\/m=(f.setCell ⟨b2,1,none⟩ v2).setCell ⟨b1,1,none⟩ v1)->ShP w b1 b2 (x.l++y.l) K m):=by
  intro f m v1 v2 q1 T V;rw[<-Zn,Uf]at T;rw[<-Zn,Ff,<-QqK]at V;exact λZ=>Q84 b c d hb q1 T V Z z s
 have H:=x1.cell 0;have L:=x1.cell 1;have M:=i.cell 0;have N:=i.cell 1;have A:=x1.fz 0;have B:=i.fz 0;have Q:=b.cell 1;have R:=c.cell 1;have zf:=(b.fz 1);have zg:=(c.fz 1);simp at H L M N Q R;have aa:=N8;have ab:=Qja;have ac:=hb.symm;generalize x.l.length=m1 at *;generalize y.l.length=m2 at *;clear x1 t i v b c d n o s S;unfold lfV;go_in
 go_wp2
 go_region_law (go_simp;go_at_call 340;refine(p.out _ (QqZ (QqA _ _))).mono ?_;rintro e f ⟨v1,v2,rfl,j,k,r,a⟩;have a:Below w2.heap.size w2 f:=QxB (QqZ (QqA _ _)) a;have r1:=Qq a Q;have r2:=Qq a R;have s1:=Yj a Q zf;have s2:=Yj a R zg;have HE:=Q7h λm=>q.out f m v1 v2 a j k r;obtain⟨A1,d1,e1⟩:=Qk j;subst e1;obtain⟨A2,d2,e2⟩:=Qk k;subst e2;clear j k r a)
 all_goals go_wp2_with fail
 all_goals go_end0
 all_goals refine⟨rfl,HE.out _ ?_⟩
 all_goals first|exact .inl rfl|exact .inr rfl
def Q8y(w:World)(b g:Nat)(l:List Ext)(w':World):Prop:=∃g',LfAt w' b g' ⟨-1,l⟩/\(g'=g\/w.heap.size<=g')/\Keep (λk=>k=b\/k=g) w w'
theorem Qbe{w:World}{b g:Nat}{x:Lf}(s:Int)(h:LfAt w b g x)(v:x.l.length<=1000):
  C 304 #[lfV b,I s] w λe w'=>e= .returned (.tuple #[])/\Q8y w b g (del x.l s) w':=by
 obtain⟨f,L,i⟩:=h.lt;obtain⟨c,x1,y⟩:=h;obtain⟨w1,j⟩:=Zx (w.alloc (.cells #[I s] 3));have a:Below w w w1:=j▸B0.alloc N0 _;have z:Whole w1 w.heap.size 3 #[I s]:=j▸Whole.new w _ _;obtain⟨w2,m⟩:=Zx (w1.setCell (b,0) (I (-1)));have d:Keep (λk=>k=b) w1 w2:=m▸Keep.set1 _ b 0 _;have t:Whole w2 b 350 #[I (-1),.slice (some (g,0)) x.l.length c]:=m▸(x1.below a f).set 0 _;have F:=(y.below a).keep d i.symm;have q:=z.keep d O;have M:Hid (Keep (λk=>k=b\/k=g) w w2):=(Keep.below a).trans d λk N=>.inl (.inl N);have Q:=Q7h (Qgv x.l g c w.heap.size s w2 F v (q.cell 0) O);have c0:=(x1.below a f).cell 0;have W:=(x1.below a f).fz 0;have c1:=t.cell 1;simp at c0 c1;have R:=Q7h t;have S:=N8;have T:w.heap.size≠b:=O;have r:=Q7h i;generalize x.l.length=n at *;clear x1 y a z d t F q v i;unfold lfV;go_in
 go_wp2_with fail
 go_in
 go_wp2_with fail
 with_reducible refine Q.o.mono ?_
 rintro e H ⟨rfl,K,u⟩;have v1:=R.o.keep u r.o;have V:Hid (Q8y w b g (del x.l s) (H.setCell (b,1) (.slice (some (g,0)) (del x.l s).length c))):=⟨g,⟨c,by simpa using v1.set 1 (.slice (some (g,0)) (del x.l s).length c),K.keep (Keep.set1 H b 1 _) (λe=>r.o e.symm)⟩,.inl rfl,(M.o.trans u λk e=>.inl (.inr e)).setCell (p:=(b,1)) (.inl (.inl rfl)) _⟩;have c5:=v1.cell 1;have X:=v1.fz 1;clear K u v1;go_wp2_with fail
 go_end0
 exact⟨rfl,V.o⟩
theorem Row.exts{w:World}{g c:Nat}{l:List Ext}(h:Row w g c 4 255 (Qz l)):ExtsAt w (.slice (some (g,0)) l.length c) l:=⟨_,c,rfl,λ_=>⟨g,0,rfl,λj e a=>by
  obtain⟨b,d,f,i⟩:=Jo l j e a;simp only[QkG];exact⟨h.cell b,h.cell d,h.cell f,h.cell i⟩⟩⟩
theorem Qaq{l:List Ext}{e:Ext}{i:Nat}(h:Qbz l e.fr i):(Qz l).take (i*4)++e.cells++(Qz l).drop (i*4)=Qz (ins l e):=by
 rw[Q4r h.1 h.2.1 h.2.2,Uf,Ff];simp[Qz]
theorem ol{w w':World}(h:Below w.heap.size w w'):∀b o,b<w.heap.size->w'.cell? ⟨b,o,none⟩=w.cell? ⟨b,o,none⟩:=λb o hb=>h.cell (p:=⟨b,o,none⟩) hb
def Q9a(w:World)(b g:Nat)(L:List Ext)(e:Ending)(w':World):Prop:=(L.length<=8/\e= .returned .nilIface/\Q8y w b g L w')\/(8<L.length/\∃r g1 g2,e= .returned (lfV r)/\LfAt w' b g1 ⟨-1,L.take 4⟩/\LfAt w' r g2 ⟨-1,L.drop 4⟩/\w.heap.size<=r/\w.heap.size<=g2/\(g1=g\/w.heap.size<=g1)/\g1≠g2/\Keep (λk=>k=b\/k=g) w w')
theorem Q83{w c d j:World}{b g e s:Nat}{L:List Ext}{t:Value}(h1:Whole c b 350 #[I (-1),.slice (some (e,0)) 9 s])(h2:Row c e s 4 255 (Qz L))(h3:e=g\/w.heap.size<=e)(i:Keep (λk=>k=b\/k=g) w c)(l:L.length=9)(hb:b<w.heap.size)
  (m:c.alloc (.cells #[I (-1),.slice none 0 0] 350)=d) (f:Below d d j) (u:j.ownsRow d.heap.size 255 4 t 5 ((Qz L).drop (4*4))):
  Q9a w b g L (.returned (.iface 348 (c,0))) ((j.setCell (b,1) (.slice (some (e,0)) 4 4)).setCell (c,1) t):=by
 rw[Ff]at u;obtain⟨v,c2,rfl,n,z⟩:=Row.own u O;have N:d.heap.size=c.heap.size+1:=by rw[<-m];simp
 have h:Below c c d:=m▸B0.alloc N0 _;have a:=h.trans (f.mono h.size);have o:Whole d c.heap.size 350 #[I (-1),.slice none 0 0]:=m▸Whole.new c _ _;have x:=h1.lt;have Q:=h2.lt;have ls:=i.size;have p:=h2.below a;have F:=p.ne (h1.below a x) D;obtain⟨H,K,r⟩:=Q8l (h1.below a x) (o.below f O) O 1 (v1:= .slice (some (e,0)) 4 4) (v2:= .slice (some (v,0)) 5 c2) (.inl rfl);have y:=p.front (q:=4) (by have:=p.fit;rw[Zy]at this;omega) (by rw[Uf,Zy,QzJ,l];rfl);rw[Uf]at y;have M:(L.take 4).length=4:=by rw[QzJ,l];rfl
 have t5:(L.drop 4).length=5:=by rw[QkJ,l]
 refine .inr ⟨O,c.heap.size,e,v,rfl,⟨4,by rw[M];exact H,y.keep r O⟩,⟨c2,by rw[t5];exact K,n.keep r O⟩,ls,O,h3,O,?_⟩;exact(i.transBelow a).trans r λk i=>by rcases i with rfl|rfl;exact .inl (.inl rfl);exact .inr ls
theorem Qcd{w:World}{b g:Nat}{x:Lf}(e:Ext)(h:LfAt w b g x)(hm:x.l.length<=8)(ho:∀y∈x.l,Qb y=true)(hi:Inc x.l)(he:Qb e=true):
  C 305 #[lfV b,e.val] w (Q9a w b g (ins x.l e)):=by
 obtain⟨u,ae,N⟩:=h.lt;obtain⟨c,x1,x2⟩:=h;have af:=Qg he;have hL:=Qdr x.l e;obtain⟨a,l⟩:=x;simp only at x1 x2 hm ho hi hL ⊢;obtain⟨w1,T⟩:∃w1,w.alloc (.cells e.cells.toArray 255)=w1:=⟨_,rfl⟩;have d:Below w.heap.size w w1:=T▸(QqA _ _).alloc (QqB _) _;have hB:Whole w1 w.heap.size 255 e.cells.toArray:=T▸Whole.new w _ _;obtain⟨w2,V⟩:∃w2,w1.setCell ⟨b,0,none⟩ (I (-1))=w2:=⟨_,rfl⟩;have z:Keep (λk=>k=b) w1 w2:=V▸Keep.set1 _ b 0 _;have y1:Whole w2 b 350 #[I (-1),.slice (some ⟨g,0,none⟩) l.length c]:=V▸(x1.below d u).set 0 _;have y2:=(x2.below d).keep z N.symm;have j:=hB.keep z O;have HK:Hid (Keep (λk=>k=b\/k=g) w w2):=(Keep.below d).trans z λk hk=>.inl (.inl hk);have aa:=Q7h λF (hq:Below w2.heap.size w2 F)=>Qxz l _ e.fr F (y2.below hq).exts O ho hi O O;have ab:Hid (∀F i v,Below w2.heap.size w2 F->Qbz l e.fr i->w2.heap.size<=v->Whole F v 255 e.cells.toArray->C 322 #[.slice (some ⟨g,0,none⟩) l.length c,I i,.slice (some ⟨v,0,none⟩) 1 1] F (Jn 255 4 g l.length (Qz (ins l e)) F)):=λF i v hq hs hv hw=>by
  have:=Qnf l.length c g i v (Qz l) e.cells F (y2.below hq) (Zy l) hs.1 O hw rfl (by have:=y2.lt;omega) (Jm l) (by simp[Ext.cells,Value.oneCell']);rwa[Qaq hs]at this
 have HY:=Q7h y1;have c0:=(x1.below d u).cell 0;have f0:=(x1.below d u).fz 0;have c1:=y1.cell 1;have z0:w2.cell? ⟨w.heap.size,0,none⟩=some (I e.fr):=j.cell 0;have z1:w2.cell? ⟨w.heap.size,1,none⟩=some (I e.n):=j.cell 1;have z2:w2.cell? ⟨w.heap.size,2,none⟩=some (I e.kind):=j.cell 2;have z3:w2.cell? ⟨w.heap.size,3,none⟩=some (I e.at_):=j.cell 3;simp at c0 c1;have ag:=N8;have ah:w.heap.size≠b:=O;have s1:w.heap.size<w2.heap.size:=j.lt;have s2:b<w2.heap.size:=y1.lt;have⟨ac,HL⟩:=Q2 N hL;obtain⟨f,n,k,t⟩:=e;simp only[Ext.cells]at *;generalize ins l ⟨f,n,k,t⟩=L at *;generalize ad:l.length=m at *;clear x1 x2 d hB z y1 y2 j N hL ho hi he;unfold lfV Ext.val;go_in
 go_wp2_with fail
 go_in
 go_wp2_with fail
 go_region_held3 (λW=>∀b o,b<w2.heap.size->W.cell? ⟨b,o,none⟩=w2.cell? ⟨b,o,none⟩) (first|exact λ_ _ _=>rfl|exact ol H.out) ((go_at_call 320;(with_reducible refine(aa.out _ (QqZ (QqA _ _))).mono ?_);rintro e X ⟨i,bb,Y,rfl,Q⟩;have Z:=Q7h Y;have H:Hid (Below w2.heap.size w2 X):=QxB (QqZ (QqA _ _)) Q;clear Y Q))
 have ai:(i:Int)<=(m:Int):=by have:=Z.out.1;omega
 have s5:=H.out.size;have B:=ol H.out;have Q:=H.out;have qa:=λo=>(QkK X o ⟨b,1,none⟩ (show b<_ by omega)).trans ((B b 1 s2).trans c1);go_wp2_with fail
 go_region_law (go_simp;go_at_call 322;(with_reducible refine(ab.out _ i X.heap.size (by go_grown) Z.out s5 (by first|exact Un (Whole.new X _ _)|exact Whole.new X _ _)).mono ?_);rintro e w6 ⟨M,S,rfl,q2,q3,q4⟩;have v1:=(HY.out.below (show Below w2.heap.size w2 _ by go_grown) s2).keep q3 ac.out;have c6:=v1.cell 1;have f6:=v1.fz 1;have HQ:=Q7h (⟨q2,q3,q4,v1⟩:_/\_/\_/\_);clear q2 q3 q4 v1)
 all_goals (obtain⟨r,s⟩:∃r,w6.setCell ⟨b,1,none⟩ (.slice (some ⟨M,0,none⟩) (m+1) S)=r:=⟨_,rfl⟩;rw[s])
 all_goals (have q:Hid (Whole r b 350 #[I (-1),.slice (some ⟨M,0,none⟩) (m+1) S]/\Row r M S 4 255 (Qz L)/\(M=g\/w.heap.size<=M)/\Keep (λk=>k=b\/k=g) w r):=by {
  obtain⟨q2,q3,q4,v1⟩:=HQ.out;refine⟨s▸v1.set 1 _,s▸q2.keep (Keep.set1 w6 b 1 _) (λe=>q2.ne v1 D e.symm),q4.imp id λh=>by simp at h;omega,?_⟩;exact s▸((HK.out.transBelow (show Below w2.heap.size w2 _ by go_grown)).trans q3 λk e=>.inl (.inr e)).setCell (p:=⟨b,1,none⟩) (.inl (.inl rfl)) _})
 all_goals (have c7:=q.out.1.cell 1;have f7:=q.out.1.fz 1;have b7:=q.out.1.lt;simp at c7;clear HQ s qa B c6 f6 c0 f0 c1 z0 z1 z2 z3)
 all_goals by_cases h8:m<8
 all_goals (try(have aj:¬(8:Int)<(m:Int)+1:=O))
 all_goals (try(go_wp2_with fail;go_ret;exact .inl ⟨by have:=HL.out;omega,rfl,M,⟨S,by rw[HL.out];exact q.out.1,q.out.2.1⟩,q.out.2.2⟩))
 all_goals (obtain rfl:m=8:=O)
 all_goals clear ad
 all_goals (simp only[Nat.reduceAdd]at c7 f7 ⊢)
 all_goals go_wp2_with fail
 all_goals (have HS:=Q7h (Qhx 9 M S (Qz L) (r.alloc (.cells #[I (-1),.slice none 0 0] 350)) (q.out.2.1.below (show Below r.heap.size r _ by go_grown)) (by rw[Zy,HL.out]) O O (Jm L)))
 all_goals with_reducible refine HS.out.mono ?_
 all_goals (rintro e w9 ⟨v',rfl,R,K⟩;have d1:=(q.out.1.alloc _).below K (q.out.1.alloc _).lt;have d2:=(Whole.new r 350 #[I (-1),.slice none 0 0]).below K U)
 all_goals (have HF:=Q7h (Q83 q.out.1 q.out.2.1 q.out.2.2.1 q.out.2.2.2 HL.out u rfl K R);obtain⟨A,c2,e9⟩:=Qk R;subst e9;have z1:w9.cell? ⟨b,1,none⟩=some (.slice (some ⟨M,0,none⟩) 9 S):=d1.cell 1;have z2:=d1.fz 1;have z3:w9.cell? ⟨r.heap.size,1,none⟩=some (.slice none 0 0):=d2.cell 1;have z4:=d2.fz 1;have ak:b≠r.heap.size:=O;clear d1 d2 R K)
 all_goals go_wp2_with fail
 all_goals go_ret
 all_goals exact HF.out
end tr
namespace tr
open Go.RowKit er
def TwAt(w:World)(i h b g b2 g2:Nat)(a:Int)(x y:Lf):Prop:=InAt w i h b b2 a/\LfAt w b g x/\LfAt w b2 g2 y/\b≠b2/\g≠g2
section
variable {w w':World} {i h b g b2 g2:Nat} {a s:Int} {x y:Lf} {e:Ext}
theorem TwAt.ne(t:TwAt w i h b g b2 g2 a x y):[i,h,b,g,b2,g2].Nodup/\∀k∈[i,h,b,g,b2,g2],k<w.heap.size:=by
 obtain⟨q1,d⟩:=Q88 (w:=w.alloc (.cells #[inV i] 228)) (p:=w.heap.size) (Whole.new w _ _) (t.1.keep (G:=λ_=>False) (Keep.alloc (Keep.refl _ _) _) id id) (t.2.1.keep (G:=λ_=>False) (Keep.alloc (Keep.refl _ _) _) id id) (t.2.2.1.keep (G:=λ_=>False) (Keep.alloc (Keep.refl _ _) _) id id) t.2.2.2.1 t.2.2.2.2;have e:=t.1.lt;have x1:=t.2.1.lt;have f:=t.2.2.1.lt;refine⟨(QqP.1 q1).2,λk c=>?_⟩;simp only[QqF,QkU,QyA]at c;omega
theorem TwAt.fresh(t:TwAt w i h b g b2 g2 a x y)(o:Obj):∃w2,(w.alloc o).setCell (i,0) (I (-1))=w2/\TwAt w2 i h b g b2 g2 (-1) x y/\Keep (λk=>k=i) (w.alloc o) w2/\w.heap.size<w2.heap.size:=by
 obtain⟨n1,n2⟩:=t.ne;simp only[QqP,QqF,QkU,QyA,QuE,QoT,QoW]at n1 n2;obtain⟨⟨c,q1,f⟩,j,l,m⟩:=t;have e:Keep (λ_=>False) w (w.alloc o):=Keep.alloc (Keep.refl _ _) o;have d:=Keep.set1 (w.alloc o) i 0 (I (-1));refine⟨_,rfl,⟨⟨c,(q1.alloc o).set 0 _,(f.keep e id).keep d O⟩,(j.keep e id id).keep d O O,(l.keep e id id).keep d O O,m⟩,d,U⟩
def TwPost(w:World)(i h b g b2 g2:Nat)(x y:Lf)(w':World):Prop:=∃g' g2',TwAt w' i h b g' b2 g2' (-1) x y/\(g'=g\/w.heap.size<=g')/\(g2'=g2\/w.heap.size<=g2')/\Keep (λk=>k∈[i,h,b,g,b2,g2]) w w'
theorem TwAt.left{w2:World}{l:List Ext}(t:TwAt w i h b g b2 g2 a x y)(t2:TwAt w2 i h b g b2 g2 (-1) x y)(d:Keep (λk=>k=i) w w2)(f:Q8y w2 b g l w'):TwPost w i h b g b2 g2 ⟨-1,l⟩ y w':=by
 obtain⟨n1,n2⟩:=t.ne;simp only[QqP,QqF,QkU,QyA,QuE,QoT,QoW]at n1 n2;obtain⟨j,q1,m,c⟩:=f;have:=d.size;exact⟨j,g2,⟨t2.1.keep c O O,q1,t2.2.2.1.keep c O O,t2.2.2.2.1,O⟩,O,.inl rfl,(d.mono λk _ e=>by simp[e]).trans c λk e=>.inl (by rcases e with rfl|rfl<;>simp)⟩
theorem TwAt.right{w2:World}{l:List Ext}(t:TwAt w i h b g b2 g2 a x y)(t2:TwAt w2 i h b g b2 g2 (-1) x y)(d:Keep (λk=>k=i) w w2)(f:Q8y w2 b2 g2 l w'):TwPost w i h b g b2 g2 x ⟨-1,l⟩ w':=by
 obtain⟨n1,n2⟩:=t.ne;simp only[QqP,QqF,QkU,QyA,QuE,QoT,QoW]at n1 n2;obtain⟨j,q1,m,c⟩:=f;have:=d.size;exact⟨g,j,⟨t2.1.keep c O O,t2.2.1.keep c O O,q1,t2.2.2.2.1,O⟩,.inl rfl,O,(d.mono λk _ e=>by simp[e]).trans c λk e=>.inl (by rcases e with rfl|rfl<;>simp)⟩
theorem TwAt.drew(t:TwAt w i h b g b2 g2 a x y):TwAt w.drew i h b g b2 g2 a x y:=
 have k:Keep (λ_=>False) w w.drew:=Keep.drew (Keep.refl _ _);⟨t.1.keep k id id,t.2.1.keep k id id,t.2.2.1.keep k id id,t.2.2.2⟩
theorem Q9f(t:TwAt w i h b g b2 g2 a x y)(A:4<=x.l.length)(B:4<=y.l.length)(hm:x.l.length+y.l.length<=10)(F:∀z∈x.l++y.l,Qb z=true)(hi:Inc (x.l++y.l))(H:Qb e=true):
  C 305 #[inV i,e.val] w λr w'=>r= .returned .nilIface/\if Sm y.l<=e.fr then TwPost w i h b g b2 g2 x ⟨-1,ins y.l e⟩ w' else TwPost w i h b g b2 g2 ⟨-1,ins x.l e⟩ y w':=by
 obtain⟨w2,R,t2,K,s2⟩:=t.fresh (.cells e.cells.toArray 255);obtain⟨n1,n2⟩:=t.ne;simp only[QqP,QqF,QkU,QyA,QuE,QoT,QoW]at n1 n2;obtain⟨k,j0,j1,j2,j3⟩:=t.1.see;have f0:=t.1.elim λk q=>q.1.fz 0;obtain⟨k',l0,l1,l2,l3⟩:=t2.1.see;have S:=Q7h (Q8q (s:=e.fr) t2.1 t2.2.2.1 O);have T:=O4;have V:=Nf;have j:=(Whole.new w 255 e.cells.toArray).keep K (show ¬w.heap.size=i by omega);have z0:=j.cell 0;have z1:=j.cell 1;have z2:=j.cell 2;have z3:=j.cell 3;obtain⟨f,n,m,at_⟩:=e;unfold inV Ext.val;simp only[Ext.cells]at *;go_in
 go_wp2_with fail
 go_in
 go_wp2_with fail
 with_reducible refine S.o.mono ?_
 rintro e w' ⟨rfl,rfl⟩;have L:=Q7h ((Keep.alloc (Keep.refl _ _) _).trans K λk e=>.inl e);have T1:=Q7h t;have p:=QkA.1 (show List.Pairwise _ (x.l++y.l)from hi);have u:=Q7h t2.drew;have M:=Qcd ⟨f,n,m,at_⟩ u.o.2.1 O (λz hz=>F z (by simp[hz])) p.1 H;have N:=Qcd ⟨f,n,m,at_⟩ u.o.2.2.1 O (λz hz=>F z (by simp[hz])) p.2.1 H;simp only[Ext.val]at M N;have⟨W,X⟩:=Q2 M N;have c:Hid ((ins x.l ⟨f,n,m,at_⟩).length<=8/\(ins y.l ⟨f,n,m,at_⟩).length<=8):=⟨by rw[Qdr];omega,by rw[Qdr];omega⟩;by_cases Q:Sm y.l<=f
 ·simp only[QqH Q];go_wp2_with fail
  go_still_tail 8,J
  go_wp2_with fail
  with_reducible refine X.o.mono ?_
  rintro r Y (⟨_,rfl,d⟩|⟨Z,_⟩)
  ·have v:=Q7h (T1.o.right u.o L.o.drew d);clear d;go_wp2_with fail
   go_ret
   exact⟨rfl,v.o⟩
  ·have:=c.o;omega
 ·simp only[QqE Q];go_wp2_with fail
  go_still_tail 8,J
  go_wp2_with fail
  with_reducible refine W.o.mono ?_
  rintro r Y (⟨_,rfl,d⟩|⟨Z,_⟩)
  ·have v:=Q7h (T1.o.left u.o L.o.drew d);clear d;go_wp2_with fail
   go_ret
   exact⟨rfl,v.o⟩
  ·have:=c.o;omega
end
end tr
namespace tr
open Go.RowKit er
theorem Ol(v : Value)(w : World) : (Go.method 567 348 v "scoria/tree.size").run Tryz.prog w = .ok (388, v) w := by kernel_rfl
theorem Ow(v:Array Value)(w:World):(callFunc 388 v).run Tryz.prog w= .ok (.enter 388 v) w:=J
section
variable {w w':World} {i h b g b2 g2:Nat} {a s:Int} {x y:Lf}
theorem Sl(t:LfAt w b g x):C 388 #[(b,0)] w λe w'=>e= .returned (I x.l.length)/\w'=w:=by
 obtain⟨c,q,_⟩:=t;have c1:=q.cell 1;simp at c1;generalize x.l.length=n at *;clear q;go_in
 go_wp2
 go_ret
 exact⟨rfl,rfl⟩
def Zqq(w:World)(i h b g b2 g2:Nat)(l:List Ext)(w':World):Prop:=∃g' k,Whole w' i 300 #[I (-1),.slice (some (h,0)) 1 k]/\Row w' h k 1 226 [lfV b]/\LfAt w' b g' ⟨-1,l⟩/\w.heap.size<=g'/\Keep (λk=>k∈[i,h,b,g,b2,g2]) w w'
theorem Q8j(t:TwAt w i h b g b2 g2 (-1) x y)(hx:1<=x.l.length)(hm:(x.l++y.l).length<=100):
  C 331 #[(i,0),I 0] w λe w'=>e= .returned (.tuple #[])/\Zqq w i h b g b2 g2 (x.l++y.l) w':=by
 have d:=t.drew;have hl:(x.l++y.l).length=x.l.length+y.l.length:=QqK;have u:=Qy0 (K:=x.l.length+y.l.length) d.2.1 d.2.2.1 d.2.2.2.1 O O O;have M:=Sl d.2.1;have N:=Sl d.2.2.1;obtain⟨k,_,j1,j2,j3⟩:=t.1.see;unfold lfV at *;generalize x.l.length=v at *;generalize y.l.length=z at *;have S:=Ol;have T:=Ow;simp only[Int.natCast_add]at u;have V:(v:Int)<=100:=O;have e1:IntKind.i64.wrap 1=1:=J;have e2:IntKind.i64.wrap ((v:Int)+z)=v+z:=by rw[QqN];omega
 have W:(z:Int)<=100:=O;have H:=Q7h (⟨t,d,u,M,N⟩:_/\_/\_/\_/\_);clear t d u M N;go_in
 go_wp2_with fail
 go_still_tail 33,J
 still_call H.o.2.2.2.1
 repeat still_step
 still_call H.o.2.2.2.2
 repeat still_step
 refine QoU ?_;go_wp2_with fail
 with_reducible refine H.o.2.2.1.mono ?_
 rintro e Q ⟨rfl,n1,q1,j,-,f⟩;obtain⟨c,a,m⟩:=H.o.1.1;obtain⟨n,p⟩:=H.o.1.ne;simp only[QqP,QqF,QkU,QyA,QuE,QoT,QoW]at n p;have a:=a.keep (Keep.refl (λ_=>False) w).drew id;have m:=m.keep (Keep.refl (λ_=>False) w).drew id;have a:=a.keep f O;have m:=m.keep f O;have X:=Q7h (Qgt 2 h c 1 1 2 _ Q m rfl O O rfl rfl (by simp[lfV,Value.oneCell']));have Y:Q.cell? (i,1)=some (.slice (some (h,0)) 2 c):=a.cell 1;have Z:=Q7h (⟨a,q1,j,f,n,p⟩:_/\_/\_/\_/\_/\_);clear a m q1 j f n p;go_wp2_with fail
 with_reducible refine X.o.mono ?_
 rintro e F ⟨rfl,R,q⟩;obtain⟨a,q1,j,f,n,p⟩:=Z.o;have r:=a.keep q O;have s:Keep (λk=>k=i) F (F.setCell (i,1) (.slice (some (h,0)) 1 c)):=Keep.set1 _ _ _ _;have A:Hid (Zqq w i h b g b2 g2 (x.l++y.l) (F.setCell (i,1) (.slice (some (h,0)) 1 c))):=by
  refine⟨n1,c,by simpa using r.set 1 (.slice (some (h,0)) 1 c),R.keep s O,?_,j,?_⟩
  ·rw[QkT O]at q1;have B:w.heap.size<=n1:=j;exact(q1.keep q O O).keep s O O
  ·exact((((Keep.refl _ w).drew.trans f λk e=>.inl (by rcases e with rfl|rfl<;>simp)).trans q λk e=>.inl (by have L:k=h:=e;simp[L])).trans s λk e=>.inl (by have L:k=i:=e;simp[L]))
 have y2:=r.cell 1;have y3:=r.fz 1;simp at y2;clear a q1 j f n p r s R q Y;go_wp2_with fail
 go_end0
 exact⟨rfl,A.o⟩
end
end tr
namespace tr
open Go.RowKit er
section
variable {w w':World} {i h b g b2 g2:Nat} {a s:Int} {x y:Lf}
def MdP(w:World)(i h b g b2 g2:Nat)(T:Tree)(w':World):Prop:=
 match T with
 |.no=>False
 |.one z=>z.a= -1/\Zqq w i h b g b2 g2 z.l w'
 |.two c x y=>c= -1/\TwPost w i h b g b2 g2 x y w'
theorem Q8h{K:Nat}{L:List Ext}(t:TwAt w i h b g b2 g2 (-1) x y)(c:ShP w.drew b b2 L K w')(d:K<L.length):TwPost w i h b g b2 g2 ⟨-1,L.take K⟩ ⟨-1,L.drop K⟩ w':=by
 obtain⟨f,j⟩:=t.ne;simp only[QqP,QqF,QkU,QyA,QuE,QoT,QoW]at f j;have l:¬(i=b\/i=b2):=O;have m:¬(h=b\/h=b2):=O;obtain⟨n1,q1,n,o,a⟩:=c;obtain⟨n2,p,q,r⟩:=o d;exact⟨n1,n2,⟨t.drew.1.keep a l m,q1,p,t.2.2.2.1,r⟩,.inr n,.inr q,(Keep.refl _ w).drew.trans a λk e=>.inl (by rcases e with rfl|rfl<;>simp)⟩
theorem Q9o(t:TwAt w i h b g b2 g2 (-1) x y)(R:4<=x.l.length)(S:1<=y.l.length)(u:(x.l++y.l).length<=100):
  C 319 #[(i,0),I 1] w λe w'=>e= .returned (.tuple #[])/\MdP w i h b g b2 g2 (if 4<x.l.length then halves (x.l++y.l) (x.l.length-1)else .one ⟨-1,x.l++y.l⟩) w':=by
 have f:=t.drew;have T:(x.l++y.l).length=x.l.length+y.l.length:=QqK;have v:=Q7h (Q8j t O u);have j:=Qy0 (K:=x.l.length-1) f.2.1 f.2.2.1 f.2.2.2.1 O O O;have z:=Q7h λw' a=>Q8h (K:=x.l.length-1) (L:=x.l++y.l) (w':=w') t a O;have p:=Sl t.2.1;have q:=Sl f.2.1;rw[Int.natCast_sub O,show((1:Nat):Int)=1 from rfl]at j;obtain⟨k,_,V,W,X⟩:=t.1.see;obtain⟨c,_,Y,_⟩:=t.2.1.see O;unfold lfV at *;generalize x.l.length=d at *;have F:=Ol;have M:=Ow;have N:(d:Int)<=100:=O;have Q:(4:Int)<=d:=O;have Z:IntKind.i64.wrap 0=0:=J;have A:IntKind.i64.wrap ((d:Int)-1)=d-1:=by rw[QqN];omega
 have⟨H,r⟩:=Q2 (⟨j,q⟩:_/\_) p;clear t f j p q;by_cases h4:4<d
 ·rw[QqH h4];have m:(4:Int)<d:=O;go_in
  go_wp2_with fail
  with_reducible refine r.o.mono ?_
  rintro e w' ⟨rfl,rfl⟩;go_wp2_with fail
  go_still_tail 25,J
  still_call H.o.2
  repeat still_step
  refine QoU ?_;go_wp2_with fail
  with_reducible refine H.o.1.mono ?_
  rintro e s ⟨rfl,a⟩;have n:=Q7h (z.o s a);clear a;go_wp2_with fail
  go_end0
  exact⟨rfl,rfl,n.o⟩
 ·rw[QqE h4];have m:¬(4:Int)<d:=O;go_in
  go_wp2_with fail
  with_reducible refine r.o.mono ?_
  rintro e w' ⟨rfl,rfl⟩;go_wp2_with fail
  with_reducible refine v.o.mono ?_
  rintro e s ⟨rfl,a⟩;have n:=Q7h a;clear a;go_wp2_with fail
  go_end0
  exact⟨rfl,rfl,n.o⟩
theorem Q9i(t:TwAt w i h b g b2 g2 (-1) x y)(S:1<=x.l.length)(T:4<=y.l.length)(v:(x.l++y.l).length<=100):
  C 319 #[(i,0),I 0] w λe w'=>e= .returned (.tuple #[])/\MdP w i h b g b2 g2 (if 4<y.l.length then halves (x.l++y.l) (x.l.length+1)else .one ⟨-1,x.l++y.l⟩) w':=by
 have d:=t.drew;have V:(x.l++y.l).length=x.l.length+y.l.length:=QqK;have z:=Q7h (Q8j t O v);have j:=Qy0 (K:=x.l.length+1) d.2.1 d.2.2.1 d.2.2.2.1 O O O;have F:=Q7h λw' a=>Q8h (K:=x.l.length+1) (L:=x.l++y.l) (w':=w') t a O;have q:=Sl t.2.2.1;have r:=Sl d.2.1;rw[QuZ]at j;obtain⟨k,_,W,X,Y⟩:=t.1.see;obtain⟨c,_,Z,_⟩:=t.2.2.1.see O;unfold lfV at *;generalize x.l.length=m at *;generalize y.l.length=f at *;have M:=Ol;have N:=Ow;have Q:(m:Int)<=100:=O;have R:(f:Int)<=100:=O;have A:IntKind.i64.wrap 0=0:=J;have B:IntKind.i64.wrap 1=1:=J;have e2:IntKind.i64.wrap ((m:Int)+1)=m+1:=by rw[QqN];omega
 have⟨H,s⟩:=Q2 (⟨j,r⟩:_/\_) q;clear t d j q r;by_cases h4:4<f
 ·rw[QqH h4];have n:(4:Int)<f:=O;go_in
  go_wp2_with fail
  with_reducible refine s.o.mono ?_
  rintro e w' ⟨rfl,rfl⟩;go_wp2_with fail
  go_still_tail 24,J
  still_call H.o.2
  repeat still_step
  refine QoU ?_;go_wp2_with fail
  with_reducible refine H.o.1.mono ?_
  rintro e u ⟨rfl,a⟩;have p:=Q7h (F.o u a);clear a;go_wp2_with fail
  go_end0
  exact⟨rfl,rfl,p.o⟩
 ·rw[QqE h4];have n:¬(4:Int)<f:=O;go_in
  go_wp2_with fail
  with_reducible refine s.o.mono ?_
  rintro e w' ⟨rfl,rfl⟩;go_wp2_with fail
  with_reducible refine z.o.mono ?_
  rintro e u ⟨rfl,a⟩;have p:=Q7h a;clear a;go_wp2_with fail
  go_end0
  exact⟨rfl,rfl,p.o⟩
theorem TwPost.then{T:Tree}{d e:Nat}{w1:World}(t:TwAt w i h b g b2 g2 a x y)(f:Keep (λk=>k∈[i,h,b,g,b2,g2]) w w1)(h1:d=g\/w.heap.size<=d)(h3:e=g2\/w.heap.size<=e)(j:MdP w1 i h b d b2 e T w'):MdP w i h b g b2 g2 T w':=by
 have u:=f.size;have sub:∀k,k∈[i,h,b,d,b2,e]->k∈[i,h,b,g,b2,g2]\/w.heap.size<=k:=λk r=>by
  simp only[QqF,QkU,QyA]at r ⊢;omega
 cases T with
 |no=>exact j
 |one z=>
  obtain⟨l,m,k,q1,o,p,q,s⟩:=j;exact⟨l,m,k,q1,o,p,O,f.trans s sub⟩
 |two c z z2=>
  obtain⟨l,m,n,q1,o,p,q⟩:=j;exact⟨l,m,n,q1,O,O,f.trans q sub⟩
theorem Q9e(t:TwAt w i h b g b2 g2 a x y)(Y:4<=x.l.length)(Z:4<=y.l.length)(hm:x.l.length+y.l.length<=10)(hi:Inc (x.l++y.l)):
  C 304 #[inV i,I s] w λr w'=>r= .returned (.tuple #[])/\MdP w i h b g b2 g2 ((Tree.two a x y).take s) w':=by
 obtain⟨w2,A,t2,W,s2⟩:=t.fresh (.cells #[I s] 3);obtain⟨n1,n2⟩:=t.ne;simp only[QqP,QqF,QkU,QyA,QuE,QoT,QoW]at n1 n2;obtain⟨k,j0,j1,j2,j3⟩:=t.1.see;have f0:=t.1.elim λk q=>q.1.fz 0;obtain⟨k',l0,l1,l2,l3⟩:=t2.1.see;have v:=Q7h (Q8q (s:=s) t2.1 t2.2.2.1 O);have B:=O4;have aa:=Nf;have z0:=((Whole.new w 3 #[I s]).keep W (show ¬w.heap.size=i by omega)).cell 0;have X:=Q7h ((Keep.alloc (Keep.refl _ _) _).trans W λk e=>.inl e);have⟨T1,z⟩:=Q2 t t2.drew;have p:=QkA.1 (show List.Pairwise _ (x.l++y.l)from hi);have⟨HX,HY,H,K⟩:=Q4 (Qbe s z.o.2.1 O) (Qbe s z.o.2.2.1 O) (Q21 p.1 s) (Q21 p.2.1 s);have ab:=Ol;have ac:=Ow;unfold inV;obtain⟨T,m⟩:=Zx ((Tree.two a x y).take s);rw[m];by_cases F:Sm y.l<=s
 ·have n:Hid (T=if 4<=(del y.l s).length then .two (-1) x ⟨-1,del y.l s⟩else if 4<x.l.length then halves (x.l++del y.l s) (x.l.length-1)else .one ⟨-1,x.l++del y.l s⟩):=by show _=_;rw[<-m];simp only[Tree.take,QqH F]
  rw[QqH F]at v;clear m;go_in
  go_wp2_with fail
  go_in
  go_wp2_with fail
  with_reducible refine v.o.mono ?_
  rintro e w' ⟨rfl,rfl⟩;go_wp2_with fail
  go_still_tail 8,J
  go_wp2_with fail
  with_reducible refine HY.o.mono ?_
  rintro e w5 ⟨rfl,c⟩;obtain⟨L,M,t5,h1,h3,d⟩:=T1.o.right z.o X.o.drew c;obtain⟨k5,_,y1,N,Q⟩:=t5.1.see;have u:=Q7h (Sl t5.2.2.1);have R:=K.o;have f:=Q7h (⟨t5,h1,h3,d⟩:_/\_/\_/\_);unfold lfV at N Q;clear c t5 h1 h3 d;by_cases h4:4<=(del y.l s).length
  ·have j:¬((del y.l s).length:Int)<4:=O;go_wp2_with fail
   with_reducible refine u.o.mono ?_
   rintro e w' ⟨rfl,rfl⟩;go_wp2_with fail
   go_end0
   refine⟨rfl,?_⟩;rw[n.o,QqH h4];exact⟨rfl,L,M,f.o⟩
  ·have j:((del y.l s).length:Int)<4:=O;have S:=Q7h (Q9o f.o.1 Y (by show 1<=(del y.l s).length;omega) (by simp;omega));go_wp2_with fail
   with_reducible refine u.o.mono ?_
   rintro e w' ⟨rfl,rfl⟩;go_wp2_with fail
   with_reducible refine S.o.mono ?_
   rintro e w6 ⟨rfl,c⟩;have V:=Q7h (TwPost.then T1.o f.o.2.2.2 f.o.2.1 f.o.2.2.1 c);clear c;go_wp2_with fail
   go_end0
   refine⟨rfl,?_⟩;rw[n.o,QqE h4];exact V.o
 ·have n:Hid (T=if 4<=(del x.l s).length then .two (-1) ⟨-1,del x.l s⟩ y else if 4<y.l.length then halves (del x.l s++y.l) ((del x.l s).length+1)else .one ⟨-1,del x.l s++y.l⟩):=by show _=_;rw[<-m];simp only[Tree.take,QqE F]
  rw[QqE F]at v;clear m;go_in
  go_wp2_with fail
  go_in
  go_wp2_with fail
  with_reducible refine v.o.mono ?_
  rintro e w' ⟨rfl,rfl⟩;go_wp2_with fail
  go_still_tail 8,J
  go_wp2_with fail
  with_reducible refine HX.o.mono ?_
  rintro e w5 ⟨rfl,c⟩;obtain⟨L,M,t5,h1,h3,d⟩:=T1.o.left z.o X.o.drew c;obtain⟨k5,_,y1,N,Q⟩:=t5.1.see;have u:=Q7h (Sl t5.2.1);have R:=H.o;have f:=Q7h (⟨t5,h1,h3,d⟩:_/\_/\_/\_);unfold lfV at N Q;clear c t5 h1 h3 d;by_cases h4:4<=(del x.l s).length
  ·have j:¬((del x.l s).length:Int)<4:=O;go_wp2_with fail
   with_reducible refine u.o.mono ?_
   rintro e w' ⟨rfl,rfl⟩;go_wp2_with fail
   go_end0
   refine⟨rfl,?_⟩;rw[n.o,QqH h4];exact⟨rfl,L,M,f.o⟩
  ·have j:((del x.l s).length:Int)<4:=O;have S:=Q7h (Q9i f.o.1 (by show 1<=(del x.l s).length;omega) Z (by simp;omega));go_wp2_with fail
   with_reducible refine u.o.mono ?_
   rintro e w' ⟨rfl,rfl⟩;go_wp2_with fail
   with_reducible refine S.o.mono ?_
   rintro e w6 ⟨rfl,c⟩;have V:=Q7h (TwPost.then T1.o f.o.2.2.2 f.o.2.1 f.o.2.2.1 c);clear c;go_wp2_with fail
   go_end0
   refine⟨rfl,?_⟩;rw[n.o,QqE h4];exact V.o
end
end tr
namespace tr
open Go.RowKit er
section
variable {w:World} {F:List Nat} {p:Nat} {e:Ext}
theorem Qvc(d:TrAt w F p .no):C 273 #[(p,0),e.val] w λx w'=>x= .returned (.tuple #[])/\Ja w F p (Tree.no.put e) w':=by
 obtain⟨F',v,rfl,a,rfl,rfl⟩:=d;have c1:=λo=>(a.alloc o).cell 0;have c3:=λo o2 b=>(((a.alloc o).alloc o2).alloc b).cell 0;have h:=λo o2 b=>(((a.alloc o).alloc o2).alloc b).fz 0;have c:Hid (∀o,Ja w [p] p (Tree.no.put e) ((((w.alloc o).alloc (.cells e.cells.toArray 255)).alloc (.cells #[I (-1),.slice (some (w.heap.size+1,0)) 1 1] 350)).setCell (p,0) (lfV (w.heap.size+2)))):=λo=>by
  refine Qa6 (F':=[w.heap.size+2,w.heap.size+1]) (((a.alloc _).alloc _).alloc _) ⟨_,_,rfl,rfl,1,Whole.new' _ _ _ _ U,Row.of ((Whole.new' _ _ _ _ U).alloc _) (by simp[Ext.cells]) (by unfold maxLen;omega) (by simp[Zy]) (λj i=>by simp[Qz,Ext.cells])⟩ U (λk g=>?_) ((((Keep.refl _ _).alloc _).alloc _).alloc _);simp only[QqF,QkU,QyA]at g;exact .inr O
 have l:w.heap.size+1+1=w.heap.size+2:=rfl;obtain⟨f,n,k,t⟩:=e;simp only[Ext.cells,lfV]at c;simp at c1 c3;unfold Ext.val;generalize Tree.no.put _=T at *;clear a;go_in
 go_wp2_with fail
 exact QqG (v:= .tuple #[]) (by simp[results,Tryz.results273,go_sem]) rfl ⟨rfl,c.o _⟩
theorem Q8v{G:Nat->Prop}{w w':World}(h:Keep (λ_=>False) w w'):Keep G w w':=h.mono λ_ _ h=>h.elim
theorem Q71{x:Lf}(A:TrAt w F p (.one x))(h1:1<=x.l.length)(B:x.l.length<=8)(S:∀y∈x.l,Qb y=true)(hi:Inc x.l)(he:Qb e=true):C 273 #[(p,0),e.val] w λx' w'=>x'= .returned (.tuple #[])/\Ja w F p ((Tree.one x).put e) w':=by
 obtain⟨F',v,rfl,c,b,g,rfl,rfl,L⟩:=A;obtain⟨n1,n2⟩:=NsAt.fine (T:= .one x) ⟨b,g,rfl,rfl,L⟩ c;simp only[QqP,QqF,QkU,QyA,QuE,QoT,QoW]at n1 n2;obtain⟨w1,h⟩:=Zx (w.alloc (.cells e.cells.toArray 255));have u:Keep (λ_=>False) w w1.drew:=h▸((Keep.refl _ w).alloc _).drew;have s1:w1.heap.size=w.heap.size+1:=by rw[<-h];simp
 have m:Whole w1 w.heap.size 255 e.cells.toArray:=h▸Whole.new w _ _;have z0:w1.cell? (w,0)=some (I e.fr):=m.cell 0;have z1:w1.cell? (w,1)=some (I e.n):=m.cell 1;have z2:w1.cell? (w,2)=some (I e.kind):=m.cell 2;have z3:w1.cell? (w,3)=some (I e.at_):=m.cell 3;have p1:=c.keep u id;have c0:w1.cell? (p,0)=some (lfV b):=p1.cell 0;have V:=Qcd e (L.keep u id id) B S hi he;have HE:Hid (∀r a,Q9a w1.drew b g (ins x.l e) r a->(r= .returned .nilIface/\Ja w [p,b,g] p ((Tree.one x).put e) a)\/(∃d,r= .returned (lfV d)/\(a.cell? (p,0)=some (lfV b)/\(∀o o2,((a.alloc o).alloc o2).cell? (p,0)=some (lfV b))/\∀o o2,((a.alloc o).alloc o2).frozen? (p,0)=false)/\Ja w [p,b,g] p ((Tree.one x).put e) (((a.alloc (.cells #[lfV b,lfV d] 226)).alloc (.cells #[I (-1),.slice (some (a,0)) 2 2] 300)).setCell (p,0) (inV (a.heap.size+1))))):=by
  have hl:=Qdr x.l e;rintro r a (⟨q1,rfl,q,z,H,s⟩|⟨q1,d,M,W,rfl,z,H,s,X,Y,q7,N⟩)
  ·have hq:q=g\/w1.heap.size<=q:=H;rw[show(Tree.one x).put e= .one ⟨-1,ins x.l e⟩ by simp only[Tree.put];rw[QqH O]];refine .inl ⟨rfl,[p,b,q],⟨[b,q],lfV b,rfl,p1.keep s O,b,q,rfl,rfl,z⟩,(Q8v u).trans s λk i=>.inl (by rcases i with rfl|rfl<;>simp),λk i=>?_⟩;simp only[QqF,QkU,QyA]at i ⊢;omega
  ·have s:w1.heap.size<=d:=s;have X:w1.heap.size<=W:=X;have Y:M=g\/w1.heap.size<=M:=Y;have s5:w1.heap.size<=a.heap.size:=N.size;have K:=p1.keep N O;have l2:=z.lt;have l3:=H.lt;refine .inr ⟨d,rfl,⟨K.cell 0,λ_ _=>((K.alloc _).alloc _).cell 0,λ_ _=>((K.alloc _).alloc _).fz 0⟩,Qa6 (F':=[a.heap.size+1,a.heap.size,b,M,d,W]) ((K.alloc _).alloc _) ?_ U (λk i=>?_) (((((Q8v u).trans N λk i=>.inl (by rcases i with rfl|rfl<;>simp)).alloc _).alloc _))⟩
   ·simp only[Tree.put,QqE (show ¬x.l.length<8 by omega),halves];have Z:Keep (λ_=>False) a ((a.alloc (.cells #[lfV b,lfV d] 226)).alloc (.cells #[I (-1),.slice (some (a,0)) 2 2] 300)):=((Keep.refl _ _).alloc _).alloc _;exact⟨_,_,_,_,_,_,rfl,rfl,⟨2,Whole.new' _ _ _ _ U,Row.of ((Whole.new _ _ _).alloc _) U (by unfold maxLen;omega) U (λj hj=>U)⟩,z.keep Z id id,H.keep Z id id,O,q7⟩
   ·simp only[QqF,QkU,QyA]at i ⊢;omega
 have aa:w.heap.size≠p:=O;obtain⟨f,n,k,t⟩:=e;generalize(Tree.one x).put _=T at *;unfold Ext.val at *;unfold lfV inV at *;simp only[Ext.cells]at *;generalize Q9a w1.drew b g _=Q at *;have HI:=Q7h V;clear V L c m p1 S hi;go_in
 go_wp2_with fail
 go_still_tail 5,J
 go_wp2_with fail
 with_reducible refine HI.o.mono ?_
 intro r a hq;rcases HE.o r a hq with⟨rfl,c⟩|⟨d,rfl,⟨y1,y2,y3⟩,c⟩
 ·have R:=Q7h c;clear c hq;go_wp2_with fail
  go_end0
  exact⟨rfl,R.o⟩
 ·have R:=Q7h c;clear c hq;go_wp2_with fail
  go_end0
  exact⟨rfl,R.o⟩
theorem Zqz{a:Int}{x y:Lf}(W:TrAt w F p (.two a x y))(u:(Tree.two a x y).Ok)(h9:(x.l++y.l).length<=9)(N:∀z∈x.l++y.l,Qb z=true)(hi:Inc (x.l++y.l))(X:Qb e=true):C 273 #[(p,0),e.val] w λm w'=>m= .returned (.tuple #[])/\Ja w F p ((Tree.two a x y).put e) w':=by
 obtain⟨F',v,rfl,H,i,h,b,g,b2,d,rfl,rfl,t⟩:=W;have t:TwAt w i h b g b2 d a x y:=t;obtain⟨o1,o2,Y⟩:=u;obtain⟨n1,n2⟩:=Q88 H t.1 t.2.1 t.2.2.1 t.2.2.2.1 t.2.2.2.2;obtain⟨n1,n3⟩:=QqP.1 n1;obtain⟨w1,q⟩:=Zx (w.alloc (.cells e.cells.toArray 255));have j:Keep (λ_=>False) w w1.drew:=q▸((Keep.refl _ w).alloc _).drew;have s:Whole w1 w.heap.size 255 e.cells.toArray:=q▸Whole.new w _ _;have z0:w1.cell? (w,0)=some (I e.fr):=s.cell 0;have z1:w1.cell? (w,1)=some (I e.n):=s.cell 1;have z2:w1.cell? (w,2)=some (I e.kind):=s.cell 2;have z3:w1.cell? (w,3)=some (I e.at_):=s.cell 3;have p1:=H.keep j id;have c0:w1.cell? (p,0)=some (inV i):=p1.cell 0;have Q:=Q9f (e:=e) (t:=(⟨t.1.keep j id id,t.2.1.keep j id id,t.2.2.1.keep j id id,t.2.2.2⟩:TwAt w1.drew i h b g b2 d a x y)) o1 o2 Y N hi X;have Z:Hid (∀c,(if Sm y.l<=e.fr then TwPost w1.drew i h b g b2 d x ⟨-1,ins y.l e⟩ c else TwPost w1.drew i h b g b2 d ⟨-1,ins x.l e⟩ y c)->Ja w [p,i,h,b,g,b2,d] p ((Tree.two a x y).put e) c):=λc hq=>by
  have key:∀m K,TwPost w1.drew i h b g b2 d m K c->Ja w [p,i,h,b,g,b2,d] p (.two (-1) m K) c:=λm K ⟨R,S,q1,q2,q3,V⟩=>by
   have s1:=j.size;refine⟨[p,i,h,b,R,b2,S],⟨_,_,rfl,p1.keep V n1,i,h,b,R,b2,S,rfl,rfl,q1⟩,(Q8v j).trans V λk L=>.inl (QzA _ L),λk L=>?_⟩;simp only[QqF,QkU,QyA]at L ⊢;omega
  simp only[Tree.put];split
  ·rename_i M;rw[QqH M]at hq;exact key _ _ hq
  ·rename_i M;rw[QqE M]at hq;exact key _ _ hq
 obtain⟨f,n,k,tt⟩:=e;generalize(Tree.two a x y).put _=T at *;unfold Ext.val at *;unfold inV at *;simp only[Ext.cells]at *;have A:=Q7h Q;clear Q t H s p1 N hi;go_in
 go_wp2_with fail
 go_still_tail 5,J
 go_wp2_with fail
 with_reducible refine A.o.mono ?_
 rintro r c ⟨rfl,hq⟩;have B:=Q7h (Z.o c hq);clear hq;go_wp2_with fail
 go_end0
 exact⟨rfl,B.o⟩
theorem Qqu{T:Tree}(c:TrAt w F p T)(b:T.Ok)(g:T.flat.length<=9)(d:∀z∈T.flat,Qb z=true)(hi:Inc T.flat)(f:Qb e=true):C 273 #[(p,0),e.val] w λh w'=>h= .returned (.tuple #[])/\Ja w F p (T.put e) w':=by
 cases T with
 |no=>exact Qvc c
 |one x=>exact Q71 c b.1 b.2 d hi f
 |two a x y=>exact Zqz c b g d hi f
end
end tr
namespace tr
open Go.RowKit er
section
variable {w:World} {F:List Nat} {p:Nat} {s:Int}
theorem Q9v{x:Lf}(z:TrAt w F p (.one x))(H:x.l.length<=8)(hi:Inc x.l):C 272 #[.pointer (some ⟨p,0,none⟩),I s] w λK w'=>K= .returned (.tuple #[])/\Ja w F p ((Tree.one x).take s) w':=by
 obtain⟨F',v,rfl,f,b,g,rfl,rfl,j⟩:=z;obtain⟨n1,n2⟩:=NsAt.fine (T:= .one x) ⟨b,g,rfl,rfl,j⟩ f;simp only[QqP,QqF,QkU,QyA,QuE,QoT,QoW]at n1 n2;have c0:w.cell? ⟨p,0,none⟩=some (lfV b):=f.cell 0;have L:=Q7h (Qbe s j O);have M:Hid (∀d,Q8y w b g (del x.l s) d->(d.cell? ⟨p,0,none⟩=some (lfV b)/\d.frozen? ⟨p,0,none⟩=false)/\(∃h c,d.cell? ⟨b,1,none⟩=some (.slice (some ⟨h,0,none⟩) (del x.l s).length c))/\(if del x.l s=[]then Ja w [p,b,g] p ((Tree.one x).take s) (d.setCell ⟨p,0,none⟩ .nilIface)else Ja w [p,b,g] p ((Tree.one x).take s) d)):=by
  rintro d ⟨h,o,S,t⟩;have i:=f.keep t O;refine⟨⟨i.cell 0,i.fz 0⟩,⟨h,o.elim λc q=>⟨c,q.1.cell 1⟩⟩,?_⟩;have u:Keep (λk=>k∈[p,b,g]) w d:=t.mono λk _ m=>by rcases m with rfl|rfl<;>simp
  by_cases a:del x.l s=[]
  ·rw[QqH a];exact Qa6 (F':=[]) i (by simp only[Tree.take];rw[QqH a];exact⟨rfl,rfl⟩) U U u
  ·rw[QqE a,show(Tree.one x).take s= .one ⟨-1,del x.l s⟩ by simp only[Tree.take];rw[QqE a]];refine⟨[p,b,h],⟨[b,h],lfV b,rfl,i,b,h,rfl,rfl,o⟩,u,λk m=>?_⟩;simp only[QqF,QkU,QyA]at m ⊢;omega
 have N:=N8;generalize(Tree.one x).take s=T at *;unfold lfV at *;have Q:(del x.l s).length<=8:=QqR (QkE _ _) H;have y:Hid (del x.l s=[]↔(del x.l s).length=0):=List.length_eq_zero_iff.symm;clear j f hi;go_in
 go_wp2_with fail
 with_reducible refine L.out.mono ?_
 rintro r d ⟨rfl,f⟩;obtain⟨⟨V,W⟩,⟨h,c,R⟩,hq⟩:=M.out d f;clear f;by_cases a:del x.l s=[]
 ·rw[QqH a]at hq;have n:=Q7h hq;rw[y.out.1 a]at R;clear hq a;go_wp2_with fail
  go_end0
  exact⟨rfl,n.out⟩
 ·rw[QqE a]at hq;have n:=Q7h hq;have X:0<(del x.l s).length:=Nat.pos_of_ne_zero λe=>a (y.out.2 e);have h1:(((del x.l s).length:Int)==0)=false:=beq_eq_false_iff_ne.2 O;have h2:¬(((del x.l s).length:Int)=0):=O;clear hq a;go_wp2_with fail
  go_end0
  exact⟨rfl,n.out⟩
theorem Zqu{a:Int}{x y:Lf}(S:TrAt w F p (.two a x y))(q:(Tree.two a x y).Ok)(hi:Inc (x.l++y.l)):C 272 #[(p,0),I s] w λL w'=>L= .returned (.tuple #[])/\Ja w F p ((Tree.two a x y).take s) w':=by
 obtain⟨F',v,rfl,m,i,h,b,g,b2,u,rfl,rfl,t⟩:=S;have t:=t;obtain⟨o1,o2,V⟩:=q;obtain⟨n1,n2⟩:=Q88 m t.1 t.2.1 t.2.2.1 t.2.2.2.1 t.2.2.2.2;obtain⟨n1,n3⟩:=QqP.1 n1;have c0:=m.cell 0;have W:=Q7h (Q9e (s:=s) t o1 o2 V hi);have X:Hid (∀T d,MdP w i h b g b2 u T d->(d.cell? (p,0)=some (inV i)/\d.frozen? (p,0)=false)/\((∃k,d.cell? (i,1)=some (.slice (some (h,0)) 2 k)/\Ja w [p,i,h,b,g,b2,u] p T d)\/∃k,d.cell? (i,1)=some (.slice (some (h,0)) 1 k)/\d.cell? (h,0)=some (lfV b)/\Ja w [p,i,h,b,g,b2,u] p T (d.setCell (p,0) (lfV b)))):=by
  intro T d e;cases T with
  |no=>exact e.elim
  |one z=>
   obtain⟨Y,n,k,q1,M,N,H,Q⟩:=e;obtain⟨Z,zl⟩:=z;obtain rfl:Z= -1:=Y;have f:=m.keep Q n1;refine⟨⟨f.cell 0,f.fz 0⟩,.inr ⟨k,q1.cell 1,M.cell rfl,Qa6 (F':=[b,n]) f ⟨b,n,rfl,rfl,N⟩ U (λk j=>?_) (Q.mono λk _ j=>QzA _ j)⟩⟩;simp only[QqF,QkU,QyA]at j ⊢;omega
  |two c L y'=>
   obtain⟨rfl,n,R,q1,M,N,H⟩:=e;have f:=m.keep H n1;refine⟨⟨f.cell 0,f.fz 0⟩,.inl ⟨_,(q1.1.see.choose_spec).2.1,[p,i,h,b,n,b2,R],⟨_,_,rfl,f,i,h,b,n,b2,R,rfl,rfl,q1⟩,H.mono λk _ j=>QzA _ j,λk j=>?_⟩⟩;simp only[QqF,QkU,QyA]at j ⊢;omega
 have A:=O4;have B:=Nf;generalize(Tree.two a x y).take s=T at *;unfold inV lfV at *;clear hi t m;go_in
 go_wp2_with fail
 with_reducible refine W.o.mono ?_
 rintro r d ⟨rfl,e⟩;obtain⟨⟨y1,y2⟩,⟨k,y3,hq⟩|⟨k,y3,y4,hq⟩⟩:=X.o T d e
 ·have K:=Q7h hq;clear hq e;go_wp2_with fail
  go_end0
  exact⟨rfl,K.o⟩
 ·have K:=Q7h hq;clear hq e;go_wp2_with fail
  go_end0
  exact⟨rfl,K.o⟩
theorem Wh{T:Tree}(d:TrAt w F p T)(b:T.Ok)(hi:Inc T.flat)(c:T.flat≠[]):C 272 #[(p,0),I s] w λe w'=>e= .returned (.tuple #[])/\Ja w F p (T.take s) w':=by
 cases T with
 |no=>exact absurd rfl c
 |one x=>exact Q9v d b.2 hi
 |two a x y=>exact Zqu d b hi
end
end tr
namespace tr
open Go.RowKit er
structure ListBy(w:World)(F:List Nat)(v:Value)(l:List Ext):Prop where
 own:∃B,w.ownsRow B 255 4 v l.length (Qz l)
 out:∀g,v.ownBlock=some g->g∉F/\g<w.heap.size
theorem ListBy.keep{w w':World}{F:List Nat}{v:Value}{l:List Ext}(h:ListBy w F v l)(a:Keep (λk=>k∈F) w w'):ExtsAt w' v l:=by
 obtain⟨B,h1⟩:=h.own;exact(ExtsAt.own (Qa h1 a (λg b=>(h.out g b).1))).1
def ChgSt(w:World)(F:List Nat)(p:Nat)(T:Tree)(wr:World):Prop:=∃F',TrAt wr F' p T/\Mv (λk=>k∈F) w (λk=>k∈F') wr
theorem ChgSt.below{w:World}{F:List Nat}{p:Nat}{T:Tree}{wr w':World}(h:ChgSt w F p T wr)(hb:Below wr wr w'):ChgSt w F p T w':=by
 obtain⟨F',h1,h2⟩:=h;exact⟨F',h1.keep (Keep.below (F:=λ_=>False) hb) (λ_ _ h=>h),h2.keep.transBelow hb,h2.sub⟩
theorem ListBy.read{w:World}{F:List Nat}{v:Value}{l:List Ext}(h:ListBy w F v l):∃A c,v= .slice A l.length c/\∀wr,Keep (λk=>k∈F) w wr->0<l.length->∃g o,A=some (g,o)/\∀(j:Nat) (e:Ext),l[j]? =some e->ExtAt wr g (o+j*4) e:=by
 obtain⟨A,c,e,_⟩:=h.keep (Keep.refl _ w);refine⟨A,c,e,λwr a b=>?_⟩;obtain⟨p,q,d,f⟩:=h.keep a;obtain⟨g,o,i,m⟩:=f b;rw[d]at e;injection e with n;exact⟨g,o,n.symm.trans i,m⟩
theorem Ng{w:World}{F:List Nat}{p:Nat}{T:Tree}{vw vi:Value}{L W R V:List Ext}(ht:TrAt w F p T)(N:T.Ok)(hf:T.flat=L++W++R)(h1:Inc (L++W++R))(h2:Inc (L++V++R))(ac:(L++V++R).length<=10)(ho:∀x∈T.flat,Qb x=true)(hv:∀x∈V,Qb x=true)(hw:ListBy w F vw W)(hi:ListBy w F vi V)(au:W.length<=1000)(av:V.length<=1000):
  C 221 #[(p,0),vw,vi] w λx w'=>x= .returned (.tuple #[])/\ChgSt w F p (T.change W V) w':=by
 have aj:=Q7h λ(y:Ext) wr (hk:Keep (λk=>k∈F) w wr)=>Ru y W vw wr (hw.keep hk) O;have ak:=Q7h λ(y:Ext) wr (hk:Keep (λk=>k∈F) w wr)=>Ru y V vi wr (hi.keep hk) O;have h0:ChgSt w F p T w:=⟨F,ht,Mv.refl _ _⟩;have one:∀x,x∈(T.takes (W.filter (nin V))).flat->Qb x=true:=λx Q=>ho x (hf▸(((Q97 (V:=V) N hf h1).2.2 x).1 Q).1)
 -- the trees,step by step
 obtain⟨A,ad,ae,HA⟩:∃A:Nat->Tree,A 0=T/\A W.length=T.takes (W.filter (nin V))/\∀j e,W[j]? =some e->if e∈V then A (j+1)=A j else ∀X,ChgSt w F p (A j) X->C 272 #[(p,0),I e.fr] X λx w'=>x= .returned (.tuple #[])/\ChgSt w F p (A (j+1)) w':=by
  refine⟨λj=>T.takes ((W.take j).filter (nin V)),rfl,U,λj e he=>?_⟩;have v:=Au (p:=nin V) he;obtain⟨k1,k2,k3⟩:=Qap (V:=V) N hf h1 j;split
  ·rename_i q;simp only[v];rw[QqE (by simp[nin,q]),QzT]
  ·rename_i q;rintro X ⟨G,g1,g2⟩;refine(Wh (s:=e.fr) g1 k1 k2 (k3 e he q)).mono ?_;rintro x w' ⟨rfl,F',q1,q2⟩;show _/\ChgSt w F p (T.takes ((W.take (j+1)).filter (nin V))) w';rw[v,QqH (by simp[nin,q])];exact⟨rfl,F',by simpa[Tree.takes]using q1,g2.trans q2⟩
 obtain⟨B,af,ag,HB⟩:∃B:Nat->Tree,B 0=A W.length/\B V.length=T.change W V/\∀j e,V[j]? =some e->if e∈W then B (j+1)=B j else ∀X,ChgSt w F p (B j) X->C 273 #[(p,0),e.val] X λx w'=>x= .returned (.tuple #[])/\ChgSt w F p (B (j+1)) w':=by
  refine⟨λj=>(T.takes (W.filter (nin V))).puts ((V.take j).filter (nin W)),ae.symm,by simp[Tree.change],λj e he=>?_⟩;have v:=Au (p:=nin W) he;obtain⟨k0,k1,k2,k3⟩:=Qfi N hf h1 h2 ac j;split
  ·rename_i q;simp only[v];rw[QqE (by simp[nin,q]),QzT]
  ·rename_i q;rintro X ⟨G,g1,g2⟩;refine(Qqu (e:=e) g1 k1 (k3 e he q) (λz hz=>?_) k2 (hv e (QqL he))).mono ?_
   ·rw[k0]at hz;rcases(Qgq _ _ z).1 hz with hz|hz
    ·exact one z hz
    ·exact hv z (QjF (QzZ.1 hz).1)
   ·rintro x w' ⟨rfl,F',q1,q2⟩;show _/\ChgSt w F p ((T.takes (W.filter (nin V))).puts ((V.take (j+1)).filter (nin W))) w';rw[v,QqH (by simp[nin,q])];exact⟨rfl,F',by simpa[Tree.puts]using q1,g2.trans q2⟩
 rw[<-ag];have H0:Hid (ChgSt w F p (A 0) w):=ad▸h0;have⟨al,HA,HB⟩:=Q3 af HA HB;obtain⟨Aw,cw,rfl,ah⟩:=hw.read;obtain⟨Ai,ci,rfl,ai⟩:=hi.read;have⟨am,an⟩:=Q2 ah ai;have ao:Hid (∀j,j<W.length->∃e,W[j]? =some e):=λj h=>⟨_,QqC h⟩;have ap:Hid (∀j,j<V.length->∃e,V[j]? =some e):=λj h=>⟨_,QqC h⟩;generalize W.length=n at *;generalize V.length=m at *;clear ah ai hw hi ht N hf h1 h2 ac ho hv h0 one ad ae af ag;go_in
 go_wp2_with fail
 go_loopw [7,12] (λ_ i wr=>∃(j:Nat),j<=n/\i= I j/\Hid (ChgSt w F p (A j) wr)) (λ_ i _=>n-(intOf i).toNat)
 case atStart=>exact⟨0,QqM _,rfl,H0⟩
 case round=>
  obtain⟨j,hj,rfl,S⟩:=hrel;by_cases Y:j<n
  ·have aq:(j:Int)<(n:Int):=O;have d:Keep (λk=>k∈F) w wr:=by obtain⟨F',_,Z⟩:=S.o;exact Z.keep
   obtain⟨g,o,rfl,H⟩:=am.o wr d O;obtain⟨e,Q⟩:=ao.o j Y;obtain⟨c0,c1,c2,c3⟩:=H j e Q;have b:=HA.o j e Q;have⟨K,l⟩:=Q2 (ak.o e _ (d.alloc (.cells e.cells.toArray 255))) (S.o.below (B0.alloc N0 (.cells e.cells.toArray 255)));clear H Q d;obtain⟨f,en,k,t⟩:=e;simp only at c0 c1 c2 c3 b;simp only[Ext.val,Ext.cells]at K l;by_cases c:(⟨f,en,k,t⟩:Ext)∈V
   ·rw[QqH c]at b;rw[QxA c]at K;have u:=Q7h b;clear b c;go_wp2_with fail
    with_reducible refine K.o.mono ?_
    rintro r w5 ⟨rfl,a⟩;have aa:Hid (ChgSt w F p (A (j+1)) w5):=by rw[u.o];exact l.o.below a
    clear a;go_wp2_with fail
    go_roundw
    case rel=>exact⟨j+1,O,by go_num,aa⟩
    case measure=>simp[intOf];omega
   ·rw[QqE c]at b;rw[QyF c]at K;have u:=Q7h b;clear b c;go_wp2_with fail
    with_reducible refine K.o.mono ?_
    rintro r w5 ⟨rfl,a⟩;have HT:=Q7h (u.o w5 (l.o.below a));have z0:=ol a wr.heap.size 0 U;simp at z0;clear a;go_wp2_with fail
    with_reducible refine HT.o.mono ?_
    rintro r w6 ⟨rfl,M⟩;have ab:=Q7h M;clear M;go_wp2_with fail
    go_roundw
    case rel=>exact⟨j+1,O,by go_num,ab⟩
    case measure=>simp[intOf];omega
  ·obtain rfl:j=n:=O;obtain⟨wo,ar⟩:∃wo,wo=wr:=⟨_,rfl⟩;subst ar;rw[<-al.o]at S;go_wp2_with fail
   go_loopw [9,27] (λ_ i wr=>∃(j:Nat),j<=m/\i= I j/\Hid (ChgSt w F p (B j) wr)) (λ_ i _=>m-(intOf i).toNat)
   case atStart=>exact⟨0,QqM _,rfl,S⟩
   case round=>
    obtain⟨i,hi,rfl,S⟩:=hrel;by_cases Y:i<m
    ·have aq:(i:Int)<(m:Int):=O;have d:Keep (λk=>k∈F) w wr:=by obtain⟨F',_,Z⟩:=S.o;exact Z.keep
     obtain⟨g,o,rfl,H⟩:=an.o wr d O;obtain⟨e,Q⟩:=ap.o i Y;obtain⟨c0,c1,c2,c3⟩:=H i e Q;have b:=HB.o i e Q;have⟨K,l⟩:=Q2 (aj.o e _ (d.alloc (.cells e.cells.toArray 255))) (S.o.below (B0.alloc N0 (.cells e.cells.toArray 255)));clear H Q d;obtain⟨f,en,k,t⟩:=e;simp only at c0 c1 c2 c3;simp only[Ext.val,Ext.cells]at K l b;by_cases c:(⟨f,en,k,t⟩:Ext)∈W
     ·rw[QqH c]at b;rw[QxA c]at K;have u:=Q7h b;clear b c;go_wp2_with fail
      with_reducible refine K.o.mono ?_
      rintro r w5 ⟨rfl,a⟩;have aa:Hid (ChgSt w F p (B (i+1)) w5):=by rw[u.o];exact l.o.below a
      clear a;go_wp2_with fail
      go_roundw
      case rel=>exact⟨i+1,O,by go_num,aa⟩
      case measure=>simp[intOf];omega
     ·rw[QqE c]at b;rw[QyF c]at K;have u:=Q7h b;clear b c;go_wp2_with fail
      with_reducible refine K.o.mono ?_
      rintro r w5 ⟨rfl,a⟩;have HT:=Q7h (u.o w5 (l.o.below a));have z0:=ol a wr.heap.size 0 U;have z1:=ol a wr.heap.size 1 U;have z2:=ol a wr.heap.size 2 U;have z3:=ol a wr.heap.size 3 U;simp at z0 z1 z2 z3;clear a;go_wp2_with fail
      with_reducible refine HT.o.mono ?_
      rintro r w6 ⟨rfl,M⟩;have ab:=Q7h M;clear M;go_wp2_with fail
      go_roundw
      case rel=>exact⟨i+1,O,by go_num,ab⟩
      case measure=>simp[intOf];omega
    ·obtain rfl:i=m:=O;go_wp2_with fail
     go_end0
     exact⟨rfl,S.o⟩
structure Hand(g:Nat)(lb:Array Value)(gd:Ext->Bool)(S:List Ext->World->Prop)(G:Nat->Prop)(w0:World):Prop where
 eg:∀args w,(callFunc g args).run Tryz.prog w= .ok (.enter g args) w
 call:∀done e w,done.length<16777216->Qb e=true->S done w->C g (#[e.val]++lb) w λx w'=>x= .returned (.bool (gd e))/\S (done++[e]) w'
 below:∀done w w',S done w->Below w w w'->S done w'
 keep:∀done w,S done w->Keep G w0 w
theorem R5{l:List Ext}{s:Int}{j:Nat}{e:Ext}(h:l[j]? =some e):Qd (l.take (j+1)) s=Qd (l.take j) s++(if s<e.end_ then[e]else[]):=by
 obtain⟨a,b⟩:=QqD.1 h;rw[QkC a,b,O6];congr 1;unfold Qd;by_cases c:s<e.end_<;>simp[c]
theorem Quf{l:List Ext}{s:Int}{j:Nat}{e:Ext}(h:l[j]? =some e)(a:s<e.end_):∃r,Qd l s=Qd (l.take j) s++e::r:=by
 obtain⟨b,_⟩:=(show l=l.take j++e::l.drop (j+1)/\True by
  obtain⟨c,d⟩:=QqD.1 h;refine⟨?_,trivial⟩;have a1:l.drop j=e::l.drop (j+1):=by rw[<-d];exact QkM c
  rw[<-a1,QkB])
 refine⟨Qd (l.drop (j+1)) s,?_⟩;conv=>lhs;rw[b]
 rw[O6];congr 1;unfold Qd;simp[a]
theorem Qag(g:Nat)(lb:Array Value)(gd:Ext->Bool)(S:List Ext->World->Prop)(G:Nat->Prop)(w0:World)(H:Hand g lb gd S G w0)(b q:Nat)(z:Lf)(s:Int)(done:List Ext)(w:World)(hl:LfAt w0 b q z)(hb:¬G b)(hq:¬G q)(hc:∀e∈z.l,Qb e=true)(hm:z.l.length<=100)(hN:done.length+z.l.length<=16777216)(hS:S done w):
  C 259 #[lfV b,I s,.func (.func g) #[] lb] w λx w'=>x= .returned (.bool ((Qd z.l s).all gd))/\S (done++handed gd (Qd z.l s)) w':=by
 obtain⟨a,l⟩:=z;simp only at hc hm hN ⊢;have eg:=H.eg;have HH:=Q7h H;have HL:Hid (∀done X,S done X->LfAt X b q ⟨a,l⟩):=λdone X h=>hl.keep (H.keep done X h) hb hq;have HC:=Q7h hc;obtain⟨n,Y⟩:=Zx l.length;have HN:=Q7h Y;obtain⟨c,c1⟩:∃c,w.cell? (b,1)=some (.slice (some (q,0)) n c):=by obtain⟨c,h1,_⟩:=HL.o done w hS;have:=h1.cell 1;simp only[Y]at this;exact⟨c,this⟩
 have aa:=Q7h hS;rw[Y]at hm hN;have M:Hid (∀j,(Qd (l.take j) s).length<=j):=λj=>QqR (QkE _ _) (by rw[QzJ];omega);have ad:=N8;have ae:=Qja;obtain⟨Z,v⟩:=Zx (Qd l s);have N:=Q7h v;rw[v];clear v Y hl hb hq hc hS H;unfold lfV;go_in
 go_wp2_with fail
 go_loopw [9,22] (λs9 i wr=>∃(j:Nat),j<=n/\i= I j/\Hid ((Qd (l.take j) s).all gd=true)/\Hid (S (done++Qd (l.take j) s) wr)) (λ_ i _=>n-(intOf i).toNat)
 case atStart=>exact⟨0,QqM _,rfl,rfl,by show S _ _;simpa[Qd]using aa.o⟩
 case round=>
  obtain⟨j,hj,rfl,L,A⟩:=hrel;by_cases af:j<n
  ·have ag:(j:Int)<(n:Int):=O;obtain⟨e,y⟩:∃e,l[j]? =some e:=⟨l[j]'(by have:=HN.o;omega),QqC (by have:=HN.o;omega)⟩;have HX:=Q7h y;obtain⟨k0,k1,k2,k3⟩:=Jo l j e y;obtain⟨c',_,d⟩:=HL.o _ wr A.o;have c0:=d.cell k0;have ab:=d.cell k1;have c2:=d.cell k2;have c3:=d.cell k3;have ho:=HC.o e (QqL y);have HO:=Q7h ho;obtain⟨o1,o2,o3,o4⟩:=Qg ho;have Q:Hid (s<e.fr+e.n->Qd (l.take (j+1)) s=Qd (l.take j) s++[e]):=λh=>by rw[R5 y,QqH (show s<e.end_ from h)]
   have R:Hid (¬s<e.fr+e.n->Qd (l.take (j+1)) s=Qd (l.take j) s):=λh=>by rw[R5 y,QqE (show ¬s<e.end_ from h),QzT]
   have ac:Hid (s<e.fr+e.n->∃r,Qd l s=Qd (l.take j) s++e::r):=λh=>Quf y h;obtain⟨f,T,k,t⟩:=e;simp only at c0 ab c2 c3 o1 o2 o3;have V:Hid (S (done++Qd (l.take j) s) (wr.alloc (.cells #[I f,I T,I k,I t] 255))):=HH.o.below _ _ _ A.o (B0.alloc N0 _);clear y k0 k1 k2 k3 d ho o4;by_cases W:s<f+T
   ·have m:=Q7h (HH.o.call _ _ _ (by rw[QqK];have:=M.o j;omega) HO.o V.o);simp only[Ext.val]at m;cases hg:gd ⟨f,T,k,t⟩
    ·have B:Hid (Z.all gd=false/\done++handed gd Z=done++Qd (l.take j) s++[⟨f,T,k,t⟩]):=by
      obtain⟨r,hr⟩:=ac.o W;show _/\_;rw[<-N.o,hr,Ot,QqH L.o];refine⟨by simp[hg],?_⟩;unfold handed;rw[QqE (by simp[hg])];simp
     rw[hg]at m;clear hg;go_wp2_with fail
     refine(m.o).mono ?_;rintro e w5 ⟨rfl,p⟩;have u:=Q7h p;clear p;go_wp2_with fail
     go_ret
     exact⟨by rw[B.o.1];rfl,by rw[B.o.2];exact u.o⟩
    ·have F:Hid ((Qd (l.take (j+1)) s).all gd=true):=by show _=_;rw[Q.o W,QgH,L.o];simp[hg]
     rw[hg]at m;clear hg;go_wp2_with fail
     refine(m.o).mono ?_;rintro e w5 ⟨rfl,p⟩;have u:Hid (S (done++Qd (l.take (j+1)) s) w5):=by show S _ _;rw[Q.o W,<-QqU];exact p
     clear p;go_wp2_with fail
     go_roundw
     case rel=>exact⟨j+1,O,by go_num,F,u⟩
     case measure=>simp[intOf];omega
   ·have F:Hid ((Qd (l.take (j+1)) s).all gd=true):=by show _=_;rw[R.o W];exact L.o
    have u:Hid (S (done++Qd (l.take (j+1)) s) (wr.alloc (.cells #[I f,I T,I k,I t] 255))):=by show S _ _;rw[R.o W];exact V.o
    go_wp2_with fail
    go_roundw
    case rel=>exact⟨j+1,O,by go_num,F,u⟩
    case measure=>simp[intOf];omega
  ·obtain rfl:j=n:=O;have K:l.take j=l:=by rw[<-HN.o];exact QzU
   rw[K,N.o]at L A;have B:Hid (handed gd Z=Z):=Gi L.o;go_wp2_with fail
   go_ret
   exact⟨by rw[L.o];rfl,by rw[B.o];exact A.o⟩
theorem Q91{l r:List Ext}{s:Int}(b:Chk (l++r))(c:1<=r.length)(d:Sm r<=s):Qd (l++r) s=Qd r s:=by
 rw[O6,Qrw (λe f=>?_),QjL];cases r with
 |nil=>simp at c
 |cons a r=>exact QiJ ((QkA.1 b.ord).2.2 e f a U).1 d
theorem Q94{g:Nat}{lb:Array Value}{gd:Ext->Bool}{S:List Ext->World->Prop}{G:Nat->Prop}{w0 w:World}{i h b q b2 B:Nat}{a s:Int}{x y:Lf}(H:Hand g lb gd S G w0)(t:TwAt w0 i h b q b2 B a x y)(hG:∀k∈[i,h,b,q,b2,B],¬G k)(hx:4<=x.l.length)(hy:4<=y.l.length)(hm:x.l.length+y.l.length<=10)(A:Chk (x.l++y.l))(hS:S [] w):
  C 259 #[inV i,I s,.func (.func g) #[] lb] w λr w'=>r= .returned (.bool ((Qd (x.l++y.l) s).all gd))/\S (handed gd (Qd (x.l++y.l) s)) w':=by
 simp only[QqF,QkU,QyA,QoT,QoW]at hG;obtain⟨m1,m2,m3,m4,m5,m6⟩:=hG;have p:S [] w.drew:=H.below _ _ _ hS (QqZ B0);have HX:=Q7h λm (hq:S [] m)=>Qag g lb gd S G w0 H b q x s [] m t.2.1 m3 m4 (λe he=>A.one e (by simp[he])) O (by simp;omega) hq;have HY:=Q7h λd m (hd:d.length<=10) (hq:S d m)=>Qag g lb gd S G w0 H b2 B y s d m t.2.2.1 m5 m6 (λe he=>A.one e (by simp[he])) O O hq;have HC:Hid (∀d m,S d m->m.cell? (h,0)=some (lfV b)/\m.cell? (h,1)=some (lfV b2)):=λd m hq=>by obtain⟨_,_,_,q⟩:=(t.1.keep (H.keep d m hq) m1 m2).see;exact q
 obtain⟨k,i1,i2⟩:=t.1.keep (H.keep [] w hS) m1 m2;have M:=Q7h (Q8q (s:=s) (t.1.keep (H.keep [] _ p) m1 m2) (t.2.2.1.keep (H.keep [] _ p) m5 m6) O);have hk:=i2.fit;simp at hk;have N:=i2.cap;unfold maxLen at N;have ae:¬k=1:=O;have af:¬k=0:=O;have ag:=O4;have ah:=Nf;have⟨u,HP⟩:=Q2 p (O6 x.l y.l s);have T:Hid (Sm y.l<=s->Qd (x.l++y.l) s=Qd y.l s):=Q91 A O;have aa:Hid ((Qd x.l s).length<=10):=QqR (QkE _ _) O;have c1:w.cell? (i,1)=some (.slice (some (h,0)) 2 k):=i1.cell 1;obtain⟨V,n⟩:=Zx ((Qd (x.l++y.l) s).all gd);obtain⟨R,X⟩:=Zx (handed gd (Qd (x.l++y.l) s));rw[n,X];have ab:Hid (Sm y.l<=s->(Qd y.l s).all gd=V/\handed gd (Qd y.l s)=R):=λh=>by rw[<-n,<-X,T.o h];exact⟨rfl,rfl⟩
 have ac:Hid ((Qd x.l s).all gd=false->V=false/\handed gd (Qd x.l s)=R):=λh=>by rw[<-n,<-X,HP.o,QgH,h,Ot,QqE (by rw[h];decide)];exact⟨rfl,rfl⟩
 have ad:Hid ((Qd x.l s).all gd=true->(Qd y.l s).all gd=V/\Qd x.l s++handed gd (Qd y.l s)=R/\handed gd (Qd x.l s)=Qd x.l s):=λh=>by rw[<-n,<-X,HP.o,QgH,h,Ot,QqH h];exact⟨rfl,rfl,Gi h⟩
 generalize Qd x.l s=P at *;generalize Qd y.l s=Q at *;clear i1 i2 t p hS H A N HP T n X;unfold inV;unfold lfV at *;by_cases hs:Sm y.l<=s
 ·rw[QqH hs]at M;have L:=Q7h (ab.o hs);have c:=HY.o [] w.drew U u.o;have z2:=(HC.o [] w.drew u.o).2;rw[L.o.1,L.o.2]at c;try unfold lfV at c
  simp only[QjL,L.o.2]at c;have z:=Q7h c;clear c;go_in
  go_wp2_with fail
  go_region_held3 (λW=>W.cell? (i,1)=some (.slice (some (h,0)) 2 k)/\W=w.drew) (first|exact⟨c1,rfl⟩|exact⟨c1,trivial⟩) ((go_at_call 299;(with_reducible refine(M.o).mono ?_);rintro e F ⟨rfl,rfl⟩))
  go_wp2_with fail
  refine QoS 2 ?_;rw[QoR];go_wp2_with fail
  with_reducible refine z.o.mono ?_
  rintro e F ⟨rfl,f⟩;have v:=Q7h f;clear f;cases V
  ·go_wp2_with fail
   go_ret
   exact⟨rfl,v.o⟩
  ·go_wp2_with fail
   rw[QoR];go_wp2_with fail
   go_ret
   exact⟨rfl,v.o⟩
 ·rw[QqE hs]at M;have j:=HX.o w.drew u.o;obtain⟨z1,z2⟩:=HC.o [] w.drew u.o;try unfold lfV at j
  simp only[QjL]at j;cases hb:P.all gd
  ·obtain⟨rfl,h2⟩:=ac.o hb;rw[hb,h2]at j;have K:=Q7h j;clear j hb h2;go_in
   go_wp2_with fail
   go_region_held3 (λW=>W.cell? (i,1)=some (.slice (some (h,0)) 2 k)/\W=w.drew) (first|exact⟨c1,rfl⟩|exact⟨c1,trivial⟩) ((go_at_call 299;(with_reducible refine(M.o).mono ?_);rintro e F ⟨rfl,rfl⟩))
   go_wp2_with fail
   refine QoS 1 ?_;rw[QoR];go_wp2_with fail
   with_reducible refine K.o.mono ?_
   rintro e F ⟨rfl,f⟩;have v:=Q7h f;clear f;go_wp2_with fail
   go_ret
   exact⟨rfl,v.o⟩
  ·obtain⟨h1,h2,h3⟩:=ad.o hb;rw[hb,h3]at j;have⟨K,L⟩:=Q2 j (⟨h1,h2⟩:_/\_);clear j hb h1 h2 h3;go_in
   go_wp2_with fail
   go_region_held3 (λW=>W.cell? (i,1)=some (.slice (some (h,0)) 2 k)/\W=w.drew) (first|exact⟨c1,rfl⟩|exact⟨c1,trivial⟩) ((go_at_call 299;(with_reducible refine(M.o).mono ?_);rintro e F ⟨rfl,rfl⟩))
   go_wp2_with fail
   refine QoS 3 ?_;rw[QoR];go_wp2_with fail
   with_reducible refine K.o.mono ?_
   rintro e F ⟨rfl,f⟩;have y2:=(HC.o P F f).2;have c:=HY.o P F aa.o f

   rw[L.o.1,L.o.2]at c;have z:=Q7h c;clear f c;go_wp2_with fail
   rw[QoR];go_wp2_with fail
   with_reducible refine z.o.mono ?_
   rintro e w6 ⟨rfl,Y⟩;have Z:=Q7h Y;clear Y;cases V
   ·go_wp2_with fail
    go_ret
    exact⟨rfl,Z.o⟩
   ·go_wp2_with fail
    rw[QoR];go_wp2_with fail
    go_ret
    exact⟨rfl,Z.o⟩
theorem Qpe:∀(l:List Ext) (a:Int),Chk l->0<=a->a<=16777216->(∀e∈l,a<=e.fr)->(l.length:Int)<=16777216-a
 |[],a,_,h0,h1,_=>by simp;omega
 |e::l,a,hc,h0,h1,hl=>by
  have d:=Qg (hc.one e U);have b:=QzS.1 hc.ord;have f:e.end_=e.fr+e.n:=rfl;have:=Qpe l e.end_ hc.tail O O (λx c=>(b.1 x c).1);have:=hl e U;simp only[QzN];omega
theorem Xi{l:List Ext}(h:Chk l):l.length<=16777216:=by
 have:=Qpe l 0 h O O (λe a=>(Qg (h.one e a)).1);omega
theorem Qer(g:Nat)(lb:Array Value)(gd:Ext->Bool)(S:List Ext->World->Prop)(G:Nat->Prop)(w0:World)(H:Hand g lb gd S G w0)(F:List Nat)(p:Nat)(T:Tree)(s:Int)(w:World)(N:TrAt w0 F p T)(l:∀k∈F,¬G k)(c:T.Ok)(m:Chk T.flat)(f:S [] w):
  C 208 #[(p,0),I s,.func (.func g) #[] lb] w λx w'=>x= .returned (.tuple #[])/\S (handed gd (Qd T.flat s)) w':=by
 obtain⟨F',v,rfl,u,n⟩:=N;have c0:=(u.keep (H.keep _ _ f) (l p U)).cell 0;have d:∀k∈F',¬G k:=λk Q=>l k (by simp[Q]);have fin:∀t q,v= .iface t q->(∃K,C 259 #[v,I s,.func (.func g) #[] lb] w λr w'=>r= .returned (.bool K)/\S (handed gd (Qd T.flat s)) w')->C 208 #[(p,0),I s,.func (.func g) #[] lb] w λx w'=>x= .returned (.tuple #[])/\S (handed gd (Qd T.flat s)) w':=by
  rintro t q rfl ⟨K,M⟩;have R:=Q7h M;generalize handed gd (Qd T.flat s)=L at *;clear M n u l d c m f H;go_in
  go_wp2_with fail
  with_reducible refine R.o.mono ?_
  rintro e X ⟨rfl,j⟩;have z:=Q7h j;clear j;go_wp2_with fail
  go_end0
  exact⟨rfl,z.o⟩
 cases T with
 |no=>
  obtain⟨rfl,rfl⟩:=n;have V:=Q7h f;clear H l d c m f u fin;go_in
  go_wp2_with fail
  go_end0
  exact⟨rfl,V.o⟩
 |one x=>
  obtain⟨b,q,rfl,rfl,W⟩:=n;have:=Qag g lb gd S G w0 H b q x s [] w W (d _ U) (d _ U) m.one (by have:=c.2;omega) (by have:=c.2;simp;omega) f;rw[QjL]at this;exact fin _ _ rfl ⟨_,this⟩
 |two a x y=>
  obtain⟨i,h,b,q,b2,Y,rfl,rfl,t⟩:=n;exact fin _ _ rfl ⟨_,Q94 H t d c.1 c.2.1 c.2.2 m f⟩
def NearS(w:World)(B pf pt po:Nat)(fr up:Int)(done:List Ext)(wq:World):Prop:=
 Keep (λ_=>False) w wq/\B<=wq.heap.size/\(pf<B/\pt<B/\po<B)/\Whole wq pf 3 #[I fr]/\Whole wq pt 3 #[I up]/\w.heap.size<=po/\pf≠po/\pt≠po/\∃v,Whole wq po 261 #[v]/\wq.ownsRow B 255 4 v (done.filter (Yt fr up)).length (Qz (done.filter (Yt fr up)))
theorem NearS.below{w:World}{B e f g:Nat}{fr up:Int}{done:List Ext}{a w':World}(h:NearS w B e f g fr up done a)(hb:Below a a w'):NearS w B e f g fr up done w':=by
 obtain⟨h1,h2,h3,h4,h5,b,c,d,v,i,j⟩:=h;exact⟨h1.transBelow hb,QqR h2 hb.size,h3,h4.below hb h4.lt,h5.below hb h5.lt,b,c,d,v,i.below hb i.lt,own_below j hb⟩
theorem Qr5(done:List Ext)(e:Ext)(fr up:Int):(done++[e]).filter (Yt fr up)=done.filter (Yt fr up)++(if Yt fr up e=true then[e]else[]):=by
 rw[QjZ];congr 1;by_cases h:Yt fr up e=true<;>simp[h]
theorem Qr8(w:World)(B V W i:Nat)(fr up:Int)(done:List Ext)(e:Ext)(z:World)(hd:done.length<16777216)(he:Qb e=true)(h:NearS w B V W i fr up done z):
  C 270 (#[e.val]++#[.pointer (some ⟨W,0,none⟩),.pointer (some ⟨V,0,none⟩),.pointer (some ⟨i,0,none⟩)]) z λx w'=>x= .returned (.bool (decide (e.fr<=up)))/\NearS w B V W i fr up (done++[e]) w':=by
 obtain⟨o1,o2,o3,_⟩:=Qg he;have b:=Qr5 done e fr up;have aa:(done.filter (Yt fr up)).length<=done.length:=QkE _ _;obtain⟨L,hL⟩:∃L,done.filter (Yt fr up)=L:=⟨_,rfl⟩;obtain⟨f,a,k,t⟩:=e;simp only at o1 o2 o3;have H:Below z.heap.size z (z.alloc (.cells #[I f,I a,I k,I t] 255)):=(QqA _ _).alloc (QqB _) _;have al:=h.below H;obtain⟨a1,a2,a3,K,M,l,m,o,v,F,s⟩:=al;obtain⟨A,c,rfl⟩:=Qk s;have cf:=K.cell 0;have ct:=M.cell 0;have co:=F.cell 0;simp at cf ct co;show C 270 #[.agg #[I f,I a,I k,I t],.pointer (some ⟨W,0,none⟩),.pointer (some ⟨V,0,none⟩),.pointer (some ⟨i,0,none⟩)] z _;by_cases h1:f<=up
 ·by_cases h2:fr<=f+a
  ·have d:Yt fr up ⟨f,a,k,t⟩=true:=by unfold Yt;simp[h1];exact h2
   rw[d,QqH rfl,hL]at b;have y:decide (f<=up)=true:=by simpa using h1
   have ab:¬up<f:=O;obtain⟨i0,ac,ad,ae,af⟩:=QzX Np;have⟨am,an,ao,ap⟩:=Q4 ac ad ae af;rw[hL]at s aa co F;obtain⟨n,hn⟩:∃n,L.length=n:=⟨_,rfl⟩;rw[hn]at s aa co F;obtain⟨w1,ag⟩:∃w1,z.alloc (.cells #[I f,I a,I k,I t] 255)=w1:=⟨_,rfl⟩;rw[ag]at a1 a2 K M F s cf ct co;have N:Whole w1 z.heap.size 255 #[I f,I a,I k,I t]:=by rw[<-ag];exact Whole.new _ _ _
   obtain⟨⟨y0,y1,y2,y3⟩,_⟩:=K7 N;have aq:=Q7h (s.alloc (.cells #[I f,I a,I k,I t] 255));have ar:Hid (∀(j':Nat) (u:Value),([I f,I a,I k,I t]:List Value)[j']? =some u->((w1).alloc (.cells #[I f,I a,I k,I t] 255)).cell? ((⟨(w1).heap.size,0,none⟩:Addr).add j')=some u):=World.news_of_block (by simpa using QzY (w1) (.cells #[I f,I a,I k,I t] 255));have Q:∀u∈([I f,I a,I k,I t]:List Value),u.oneCell'=true:=by simp[Value.oneCell']
   have ah:=Q7h Q;have ai:Hid (B<=((w1).alloc (.cells #[I f,I a,I k,I t] 255)).heap.size):=by show _<=_;simp only[QqW];omega
   have au:=a3.2.2;have aj:Hid (∀R r,r.ownsRow B 255 4 R (n+1) (Qz L++[I f,I a,I k,I t])->(w1.alloc (.cells #[I f,I a,I k,I t] 255)).grownBy r (Value.slice A n c).ownBlock->(r.cell? ⟨i,0,none⟩=some (.slice A n c)/\r.frozen? ⟨i,0,none⟩=false)/\NearS w B V W i fr up (done++[⟨f,a,k,t⟩]) (r.setCell ⟨i,0,none⟩ R)):=by
    intro R r q1 q2;have S:∀j,(Value.slice A n c).ownBlock=some j->B<=j:=λj Z=>(s.lt j Z).1;have X:∀{j},j<B->some j≠(Value.slice A n c).ownBlock:=λ{j} Z e=>by have:=S j e.symm;omega
    have b6:=(F.alloc (.cells #[I f,I a,I k,I t] 255)).grown q2 (X au);have b4:=(K.alloc (.cells #[I f,I a,I k,I t] 255)).grown q2 (X a3.1);have b5:=(M.alloc (.cells #[I f,I a,I k,I t] 255)).grown q2 (X a3.2.1);have av:Keep (λ_=>False) w r:=by
     have h0:Keep (λ_=>False) w (w1.alloc (.cells #[I f,I a,I k,I t] 255)):=a1.alloc _;exact h0.grown q2 (λj Z=>.inr (by have:=S j Z;omega))
    refine⟨⟨b6.cell 0,b6.fz 0⟩,?_⟩;have Y:Keep (λj=>j=i) r (r.setCell ⟨i,0,none⟩ R):=Keep.set1 r i 0 R;have aw:=q2.size;simp only[QqW]at aw;have ax:∀j,R.ownBlock=some j->¬(j=i):=λj Z e=>by have:=(q1.lt j Z).1;omega
    refine⟨av.setCell (p:=⟨i,0,none⟩) (.inr l) _,by rw[size_set];omega,a3,b4.keep Y (by simpa using m),b5.keep Y (by simpa using o),l,m,o,R,?_,?_⟩
    ·have:=b6.set 0 R;simpa using this
    ·rw[b,Zn,QqK,hn];exact Qa q1 Y ax
   clear Q hn N ac ad ae af a1 a2 a3 K M l m o F s b hL d H h he;go_enter Tryz.func270,Tryz.ntmps270
   go_wp2_with (at_builtin;go_must (refine QkW _ rfl (.tmp 17) (.tmp 19) 261 rfl B 255 i0 _ 4 32 Tryz.underlying261 am.out an.out ao.out ap.out rfl O (.slice A n c) n (Qz L) rfl aq.out ⟨(w1).heap.size,0,none⟩ 1 1 [I f,I a,I k,I t] rfl rfl ar.out ah.out (by simp only[maxLen];omega) O ai.out ?_;intro v2 r q ak _;obtain⟨⟨z0,z1⟩,T⟩:=aj.out v2 r q ak;have g:=Q7h T;obtain⟨A2,c2,e2⟩:=Qk q;subst e2;clear q ak T))
   go_ret
   exact⟨by first|rfl|(rw[y];rfl),g.out⟩
  ·have d:Yt fr up ⟨f,a,k,t⟩=false:=by unfold Yt;simp;intro _;show f+a<fr;omega
   have y:decide (f<=up)=true:=by simpa using h1
   have ab:¬up<f:=O;rw[d,QqE D,QzT]at b;have g:Hid (NearS w B V W i fr up (done++[⟨f,a,k,t⟩]) (z.alloc (.cells #[I f,I a,I k,I t] 255))):=⟨a1,a2,a3,K,M,l,m,o,_,F,by rw[b];exact s⟩;clear a1 a2 a3 K M l m o F s b hL d H h he;go_enter Tryz.func270,Tryz.ntmps270
   go_wp2_with fail
   go_ret
   exact⟨by first|rfl|(rw[y];rfl),g.out⟩
 ·have d:Yt fr up ⟨f,a,k,t⟩=false:=by unfold Yt;simp[h1]
  have y:decide (f<=up)=false:=by simpa using h1
  have ab:up<f:=O;rw[d,QqE D,QzT]at b;have g:Hid (NearS w B V W i fr up (done++[⟨f,a,k,t⟩]) (z.alloc (.cells #[I f,I a,I k,I t] 255))):=⟨a1,a2,a3,K,M,l,m,o,_,F,by rw[b];exact s⟩;clear a1 a2 a3 K M l m o F s b hL d H h he;go_enter Tryz.func270,Tryz.ntmps270
  go_wp2_with fail
  go_ret
  exact⟨by first|rfl|(rw[y];rfl),g.out⟩
theorem Qr7(w:World)(B a b c:Nat)(fr up:Int):Hand 270 #[(b,0),(a,0),(c,0)] (λe=>decide (e.fr<=up)) (NearS w B a b c fr up) (λ_=>False) w where
 eg:=λ_ _=>J
 call:=λdone e d f g h=>Qr8 w B a b c fr up done e d f g h
 below:=λdone d w' h hb=>h.below hb
 keep:=λdone d h=>h.1
theorem Qwq{l:List Ext}(h:Chk l)(lo hi:Int):(handed (λx=>decide (x.fr<=hi)) (Qd l (lo-1))).filter (Yt lo hi)=Ki l lo hi:=by
 have h1:=Qr6 h lo hi;have h2:((handed (λx=>decide (x.fr<=hi)) (Qd l (lo-1))).filter (λx=>decide (x.fr<=hi))).filter (λx=>decide (lo<=x.end_))=Ki l lo hi:=by
  rw[h1];unfold Ki;rw[QjD];intro x a;have:=(QzZ.1 a).2;unfold Yt at this;simp only[QzC]at this;exact this.2
 rw[List.filter_filter]at h2;rw[<-h2];refine QgN λx _=>?_;unfold Yt;exact Bool.and_comm _ _
theorem Hw(w:World)(F:List Nat)(p:Nat)(T:Tree)(fr up:Int)(q:TrAt w F p T)(f:T.Ok)(k:Chk T.flat)(N:0<=fr)(h1:fr<=16777216):
  C 220 #[(p,0),I fr,I up] w λx w'=>∃r,x= .returned r/\w'.ownsRow w.heap.size 255 4 r (Ki T.flat fr up).length (Qz (Ki T.flat fr up))/\Below w w w':=by
 obtain⟨b,a⟩:=Zx (((w.alloc (.cells #[I fr] 3)).alloc (.cells #[I up] 3)).alloc (.cells #[.slice none 0 0] 261));have s:Keep (λ_=>False) w b:=by rw[<-a];exact(((Keep.refl _ _).alloc _).alloc _).alloc _
 have l:b.heap.size=w.heap.size+3:=by rw[<-a];simp
 have b1:Whole b w.heap.size 3 #[I fr]:=by rw[<-a];exact((Whole.new w _ _).alloc _).alloc _
 have b2:Whole b (w.heap.size+1) 3 #[I up]:=by rw[<-a];exact(Whole.new' _ _ _ _ U).alloc _
 have b3:Whole b (w.heap.size+2) 261 #[.slice none 0 0]:=by rw[<-a];exact Whole.new' _ _ _ _ U
 have t:NearS w (w.heap.size+3) w.heap.size (w.heap.size+1) (w.heap.size+2) fr up [] b:=⟨s,O,⟨O,O,O⟩,b1,b2,O,O,O,_,b3,⟨rfl,.inl ⟨rfl,rfl⟩⟩⟩;have u:=Qer _ _ _ _ _ w (Qr7 w (w.heap.size+3) w.heap.size (w.heap.size+1) (w.heap.size+2) fr up) F p T (fr-1) b q (λ_ _ h=>h) f k t;have g:=Qwq k fr up;have y:Hid (C 208 #[(p,0),I (fr-1),.func (.func 270) #[] #[(w.heap.size+1,0),(w,0),(w.heap.size+1+1,0)]] b λx w'=>x= .returned (.tuple #[])/\∃A c,w'.cell? (w.heap.size+1+1,0)=some (.slice A (Ki T.flat fr up).length c)/\w'.ownsRow w.heap.size 255 4 (.slice A (Ki T.flat fr up).length c) (Ki T.flat fr up).length (Qz (Ki T.flat fr up))/\Below w w w'):=by
  refine u.mono ?_;rintro x w' ⟨rfl,q1,Q,R,S,V,W,X,Y,v,K,d⟩;rw[g]at d;obtain⟨A,c,rfl⟩:=Qk d;exact⟨rfl,A,c,K.cell 0,Qr d O,⟨q1.os,q1.tape,q1.output,q1.size,λj L=>q1.block j L (λh=>h)⟩⟩
 have M:wrap64 (fr-1)=fr-1:=by unfold wrap64;omega
 obtain⟨c1,c2⟩:b.cell? (w,0)=some (I fr)/\True:=⟨b1.cell 0,trivial⟩;obtain⟨Z,i⟩:=Zx (Ki T.flat fr up);rw[i]at y ⊢;clear i g u t b1 b2 b3 s l q f k c2;go_in
 go_wp2_with fail
 with_reducible refine y.o.mono ?_
 rintro e B ⟨rfl,A,c,z1,z,H⟩;have⟨m,n⟩:=Q2 z H;clear z H;go_wp2_with fail
 go_ret
 exact⟨_,rfl,m.o,n.o⟩
def NodS(w:World)(B po:Nat)(vs:List Value)(wq:World):Prop:=
 Keep (λ_=>False) w wq/\B<=wq.heap.size/\po<B/\w.heap.size<=po/\∃v,Whole wq po 291 #[v]/\wq.ownsRow B 226 1 v vs.length vs
theorem Qv6(w:World)(B d:Nat)(vs:List Value)(t b:Nat)(m:World)(hd:vs.length<=2)(h:NodS w B d vs m):
  C 252 #[.iface t (b,0),(d,0)] m λe w'=>e= .returned (.tuple #[])/\NodS w B d (vs++[.iface t (b,0)]) w':=by
 obtain⟨a1,a2,a3,N,v,L,q⟩:=h;obtain⟨A,c,rfl⟩:=Qk q;have co:=L.cell 0;simp at co;obtain⟨i0,r,s,x,y⟩:=QzX Bw;generalize Q:m.alloc (.cells #[.iface t (b,0)] 226)=W;obtain⟨n,R⟩:=Zx vs.length;rw[R]at q hd co L;have f:Hid (W.ownsRow B 226 1 (.slice A n c) n vs/\B<=W.heap.size/\∀l g,g.ownsRow B 226 1 l (n+1) (vs++[.iface t (b,0)])->W.grownBy g (Value.slice A n c).ownBlock->(g.cell? (d,0)=some (.slice A n c)/\g.frozen? (d,0)=false)/\NodS w B d (vs++[.iface t (b,0)]) (g.setCell (d,0) l)):=by
  subst Q;refine⟨q.alloc _,by simp only[QqW];omega,λl g q1 S=>?_⟩;have i:∀j,(Value.slice A n c).ownBlock=some j->B<=j:=λj z=>(q.lt j z).1;have T:=(L.alloc (.cells #[.iface t (b,0)] 226)).grown S (λe=>by have:=i d e.symm;omega);have V:=(a1.alloc _).grown S (λj z=>.inr (by have:=i j z;omega));refine⟨⟨T.cell 0,T.fz 0⟩,?_⟩;have X:=S.size;simp only[QqW]at X;have Y:∀j,l.ownBlock=some j->¬(j=d):=λj z e=>by have:=(q1.lt j z).1;omega
  refine⟨V.setCell (p:=(d,0)) (.inr N) _,by rw[size_set];omega,a3,N,l,?_,?_⟩
  ·have:=T.set 0 l;simpa using this
  ·rw[QqK,R];exact Qa q1 (Keep.set1 g d 0 l) Y
 have Z:Hid (∀(j':Nat) (u:Value),([.iface t (b,0)]:List Value)[j']? =some u->W.cell? (((m,0):Addr).add j')=some u):=by subst Q;exact Z4 _ _ _
 have F:Hid (∀u∈([.iface t (b,0)]:List Value),u.oneCell'=true):=by show ∀_,_;simp[Value.oneCell']
 have M:=Q7h (⟨r,s,x,y⟩:_/\_/\_/\_);clear R r s x y a1 a2 a3 N L q;subst Q;go_in
 go_wp2_with (at_builtin;go_must (refine QkW _ rfl (.tmp 3) (.tmp 5) 291 rfl B 226 i0 _ 1 16 Tryz.underlying291 M.o.1 M.o.2.1 M.o.2.2.1 M.o.2.2.2 rfl O (.slice A n c) n vs rfl f.o.1 (m,0) 1 1 [.iface t (b,0)] rfl rfl Z.o F.o (by simp only[maxLen];omega) O f.o.2.1 ?_;intro v2 g a H _;obtain⟨⟨z0,z1⟩,k⟩:=f.o.2.2 v2 g a H;have K:=Q7h k;obtain⟨A2,c2,e2⟩:=Qk a;subst e2;clear a H k))
 go_end0
 exact⟨rfl,K.o⟩
theorem egN(args:Array Value)(w:World):(callFunc 252 args).run Tryz.prog w= .ok (.enter 252 args) w:=J
theorem Qs0(w:World)(B c:Nat)(vs:List Value)(b:Nat)(d:World)(g:vs.length<=2)(h:NodS w B c vs d):
  C 251 #[lfV b,.func (.func 252) #[] #[(c,0)]] d λe w'=>e= .returned (.tuple #[])/\NodS w B c (vs++[lfV b]) w':=by
 have i:=Q7h (Qv6 w B c vs 348 b d g h);have j:=Qja;have eg:=egN;clear h;unfold lfV;go_in
 go_wp2_with fail
 with_reducible refine i.o.mono ?_
 rintro e k ⟨rfl,a⟩;have f:=Q7h a;clear a;go_wp2_with fail
 go_end0
 exact⟨rfl,f.o⟩
theorem Q8w(w:World)(B g i h b b2:Nat)(a:Int)(c:World)(hi:InAt w i h b b2 a)(m:NodS w B g [] c):
  C 251 #[inV i,.func (.func 252) #[] #[(g,0)]] c λe w'=>e= .returned (.tuple #[])/\NodS w B g [lfV b,lfV b2,inV i] w':=by
 have t:=Q7h λvs b c n h=>Qs0 w B g vs b c n h;have v:=Q7h λvs c n h=>Qv6 w B g vs 297 i c n h;have u:Hid (∀d c,NodS w B g d c->∃k,c.cell? (i,1)=some (.slice (some (h,0)) 2 k)/\c.cell? (h,0)=some (lfV b)/\c.cell? (h,1)=some (lfV b2)):=λd c hq=>by obtain⟨k,_,q⟩:=(hi.keep hq.1 id id).see;exact⟨k,q⟩
 have x:=Q7h m;obtain⟨k,c1,c2,c3⟩:=u.o _ _ m;have y:=O4;have eg:=egN;clear hi m;unfold inV;unfold lfV at *;go_in
 go_wp2_with fail
 refine QoS 3 ?_;rw[QoR];go_wp2_with fail
 with_reducible refine(t.o [] b c U x.o).mono ?_
 rintro e z ⟨rfl,f⟩;have p:=Q7h f;obtain⟨_,_,_,H⟩:=u.o _ _ f;clear f;go_wp2_with fail
 rw[QoR];go_wp2_with fail
 with_reducible refine(t.o _ b2 z U p.o).mono ?_
 rintro e F ⟨rfl,j⟩;have r:=Q7h j;clear j;go_wp2_with fail
 rw[QoR];go_wp2_with fail
 with_reducible refine(v.o _ F U r.o).mono ?_
 rintro e K ⟨rfl,l⟩;have s:=Q7h l;clear l;go_wp2_with fail
 go_end0
 exact⟨rfl,s.o⟩
def Qfs(w:World)(vs:List Value)(x:Ending)(w':World):Prop:=∃A c,x= .returned (.slice A vs.length c)/\w'.ownsRow w.heap.size 226 1 (.slice A vs.length c) vs.length vs/\Below w w w'
theorem NodS.ret{w w':World}{vs:List Value}(h:NodS w (w.heap.size+1) w.heap.size vs w'):∃A c,w'.cell? (w,0)=some (.slice A vs.length c)/\Qfs w vs (.returned (.slice A vs.length c)) w':=by
 obtain⟨a,f,g,i,v,d,b⟩:=h;obtain⟨A,c,rfl⟩:=Qk b;exact⟨A,c,d.cell 0,A,c,rfl,Qr b O,a.os,a.tape,a.output,a.size,λj e=>a.block j e id⟩
def Q81(w:World)(F:List Nat)(T:Tree)(vs:List Value):Prop:=match T with
 |.no=>vs=[]
 |.one x=>∃b g,F=[b,g]/\vs=[lfV b]
 |.two .. =>∃i h b g b2 g2,F=[i,h,b,g,b2,g2]/\vs=[lfV b,lfV b2,inV i]
theorem Qr3(w:World)(F:List Nat)(p:Nat)(T:Tree)(z:TrAt w F p T):∃F' vs,F=p::F'/\Q81 w F' T vs/\
  C 203 #[(p,0)] w (Qfs w vs):=by
 obtain⟨k,f⟩:=Zx (w.alloc (.cells #[.slice none 0 0] 291));have n:Keep (λ_=>False) w k:=by rw[<-f];exact(Keep.refl _ _).alloc _
 have q:k.heap.size=w.heap.size+1:=by rw[<-f];simp
 have b3:Whole k w.heap.size 291 #[.slice none 0 0]:=by rw[<-f];exact Whole.new _ _ _
 have d:Hid (NodS w (w.heap.size+1) w.heap.size [] k):=⟨n,O,O,O,_,b3,⟨rfl,.inl ⟨rfl,rfl⟩⟩⟩;obtain⟨F',v,rfl,u,r⟩:=z;have c0:=(u.keep n id).cell 0;have c1:=b3.cell 0;simp at c0 c1;have m:=Q7h λvs w'=>NodS.ret (w:=w) (vs:=vs) (w':=w');clear q n b3;cases T with
 |no=>
  obtain⟨rfl,rfl⟩:=r;refine⟨[],[],rfl,rfl,?_⟩;obtain⟨A,c,e,h⟩:=m.o _ _ d.o;rw[c1]at e;injection e with e;injection e with K L M;subst K M;have H:=Q7h h;clear h L u m d;go_in
  go_wp2_with fail
  go_ret
  exact H.o
 |one x=>
  obtain⟨b,g,rfl,rfl,h2⟩:=r;refine⟨_,_,rfl,⟨b,g,rfl,rfl⟩,?_⟩;have s:=Q7h (Qs0 w _ _ [] b k U d.o);clear h2;unfold lfV at *;go_in
  go_wp2_with fail
  with_reducible refine s.o.mono ?_
  rintro e N ⟨rfl,h5⟩;obtain⟨A,c,Q,l⟩:=m.o _ _ h5;have t:=Q7h l;clear h5 l;go_wp2_with fail
  go_ret
  exact t.o
 |two a x y=>
  obtain⟨i,j,b,g,b2,R,rfl,rfl,h2,_⟩:=r;refine⟨_,_,rfl,⟨i,j,b,g,b2,R,rfl,rfl⟩,?_⟩;have s:=Q7h (Q8w w _ _ _ _ _ _ _ k h2 d.o);clear h2;unfold inV lfV at *;go_in
  go_wp2_with fail
  with_reducible refine s.o.mono ?_
  rintro e N ⟨rfl,h5⟩;obtain⟨A,c,Q,l⟩:=m.o _ _ h5;have t:=Q7h l;clear h5 l;go_wp2_with fail
  go_ret
  exact t.o
end tr
end Go.Proofs.YtfialjmemcobjaaGreatDoor
