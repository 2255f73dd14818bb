/- A part of the proof. -/
import Derived.Test.YtfialjmemcobjaaGreatDoorPbFlD
import Derived.Test.YtfialjmemcobjaaGreatDoorPbGeA
import Derived.Test.YtfialjmemcobjaaGreatDoorPbNdJ
import Derived.Test.YtfialjmemcobjaaGreatDoorPbPgB
import Derived.Test.YtfialjmemcobjaaGreatDoorPbWeB
import Derived.Lib.SliceRun
set_option maxRecDepth 100000
set_option maxHeartbeats 16000000
set_option linter.unusedVariables false
set_option linter.unusedSimpArgs false
namespace Go.Proofs.YtfialjmemcobjaaGreatDoor
namespace st
open Go.RowKit er nd we ge pg
structure Sto where
 n:Nand
 state:List Int
 valid:List Int
 op:Int
 seq:Int
def ints(l:List Int):List Value:=l.map (.int .i64)
def Pq(p:Nat)(sv vv:Value)(s:Sto):Array Value:=
 #[(p,0),I s.n.blocks,I s.n.per,I (s.n.blocks*s.n.per),I ((s.n.blocks:Int)/8),I (Ye s.n.blocks s.n.per),I (Dm s.n.blocks s.n.per),I (Dm s.n.blocks s.n.per+1),sv,vv,I s.op,I s.seq]
structure StoIn(w:World)(q p:Nat)(sv vv:Value)(N:Nat->Prop)(s:Sto):Prop where
 obj:Whole w q 121 (Pq p sv vv s)
 st:w.ownsRow 0 3 1 sv s.state.length (ints s.state)
 va:w.ownsRow 0 3 1 vv s.valid.length (ints s.valid)
 arr:NandAt w N p s.n
 ls:s.state.length=s.n.blocks
 lv:s.valid.length=s.n.blocks
 o0:-1<=s.op
 o1:s.op<s.n.blocks
 q0:0<=s.seq
 q1:s.seq<=281474976710656
 dq:¬N q
 ds:∀k,sv.ownBlock=some k->¬N k/\k≠q
 dv:∀k,vv.ownBlock=some k->¬N k/\k≠q
 dsv:∀k,sv.ownBlock=some k->vv.ownBlock≠some k
def foot(q:Nat)(sv vv:Value)(N:Nat->Prop):Nat->Prop:=λk=>k=q\/sv.ownBlock=some k\/vv.ownBlock=some k\/N k
theorem StoIn.keep{G:Nat->Prop}{w w':World}{q p:Nat}{sv vv:Value}{N:Nat->Prop}{s:Sto}(h:StoIn w q p sv vv N s)(a:Keep G w w')(b:∀k,foot q sv vv N k->¬G k):StoIn w' q p sv vv N s:=
 ⟨h.obj.keep a (b _ (.inl rfl)),Qa h.st a (λg c=>b _ (.inr (.inl c))),Qa h.va a (λg c=>b _ (.inr (.inr (.inl c)))),h.arr.keep a (λk d=>b _ (.inr (.inr (.inr d)))),h.ls,h.lv,h.o0,h.o1,h.q0,h.q1,h.dq,h.ds,h.dv,h.dsv⟩
theorem StoIn.below{w w':World}{q p:Nat}{sv vv:Value}{N:Nat->Prop}{s:Sto}(h:StoIn w q p sv vv N s)(hb:Below w w w'):StoIn w' q p sv vv N s:=h.keep (G:=λ_=>False) (Keep.below hb) (λ_ _=>id)
theorem StoIn.drewN{w:World}{q p:Nat}{sv vv:Value}{N:Nat->Prop}{s:Sto}(h:StoIn w q p sv vv N s)(n:Nat):StoIn (w.drewN n) q p sv vv N s:=h.below (below_drewN B0 _)
theorem ints_at(l:List Int)(j:Nat)(x:Int)(h:l[j]? =some x):(ints l)[j]? =some (I x):=by simp[ints,h]
def Qfe(s:Sto)(b:Nat):Bk:=⟨s.state.getD b 0,s.valid.getD b 0,s.n.wornB b⟩
def Il(s:Sto):Nat->List Bk
 |0=>[]
 |k+1=>Il s k++[Qfe s k]
def Zqm(s:Sto):List Bk:=Il s s.n.blocks
theorem Ue(s:Sto):∀k,(Il s k).length=k
 |0=>rfl
 |k+1=>by simp[Il,Ue s k]
theorem Yb{wr w2:World}{o:Obj}{k:Nat}{base:Nat}{e:TypeId}{size:Nat}{v:Value}{n:Nat}{xs:List Value}(a:wr.ownsRow base e size v n xs)(b:((wr.alloc o).drewN k).grownBy w2 v.ownBlock)(hb:base<=wr.heap.size):Below base wr w2:=
 ⟨b.os,b.tape,b.output,QqR (by show _<=(wr.alloc o).heap.size;simp) b.size,λi hi=>(b.block i (by show i<(wr.alloc o).heap.size;simp;omega) (λe=>by have:=(a.lt i e.symm).1;omega)).trans (QuF _ _ _ O)⟩
theorem Q0s:(Tryz.prog.info? 92).map (λi=>(i.zero,i.size,i.bytes))=some (some (.agg #[I 0,I 0,I 0]),3,24):=J
structure Q7e(w:World)(q p:Nat)(sv vv:Value)(s:Sto):Prop where
 c0:w.cell? (q,0)=some (p,0)
 c1:w.cell? (q,1)=some (I s.n.blocks)
 c2:w.cell? (q,2)=some (I s.n.per)
 c3:w.cell? (q,3)=some (I (s.n.blocks*s.n.per))
 c4:w.cell? (q,4)=some (I ((s.n.blocks:Int)/8))
 c8:w.cell? (q,8)=some sv
 c9:w.cell? (q,9)=some vv
 c10:w.cell? (q,10)=some (I s.op)
 c11:w.cell? (q,11)=some (I s.seq)
theorem StoIn.cells{w:World}{q p:Nat}{sv vv:Value}{N:Nat->Prop}{s:Sto}(h:StoIn w q p sv vv N s):Q7e w q p sv vv s:=
 ⟨h.obj.cell 0,h.obj.cell 1,h.obj.cell 2,h.obj.cell 3,h.obj.cell 4,h.obj.cell 8,h.obj.cell 9,h.obj.cell 10,h.obj.cell 11⟩
theorem Zzc(w:World)(q p:Nat)(sv vv:Value)(N:Nat->Prop)(s:Sto)(h:StoIn w q p sv vv N s):
  C 49 #[.pointer (some ⟨q,0,none⟩)] w λe w'=>∃v,e= .returned v/\w'.ownsRow w.heap.size 92 3 v (Zqm s).length (Uk (Zqm s))/\Below w.heap.size w w':=by
 obtain⟨A,c,rfl⟩:=Qk h.st;obtain⟨A2,c2,rfl⟩:=Qk h.va;have k:=h.cells;have aj:=h.arr.ok.b1;have ak:=h.ls;have al:=h.lv;have H:=Q7h h;obtain⟨k0,k1,k2,k3,k4,k8,k9,S,T⟩:=k;have am:(s.state.length:Int)<=64:=O;clear h k1 k2 k3 k4 S T;obtain⟨i0,V,W,X,Y⟩:=QzX Q0s;go_enter Tryz.func49,Tryz.ntmps49
 go_wp2_with fail
 go_loopw [3,13] (λnv i wr=>∃(j:Nat) (B:Option Addr) (d:Nat),j<=s.state.length/\i= I j/\nv= .slice B j d/\Hid (wr.ownsRow w.heap.size 92 3 (.slice B j d) j (Uk (Il s j)))/\Hid (Below w.heap.size w wr)) (λ_ i _=>s.state.length-(intOf i).toNat)
 case atStart=>exact⟨0,none,0,QqM _,rfl,rfl,⟨rfl,.inl ⟨rfl,rfl⟩⟩,QqA _ _⟩
 case round=>
  obtain⟨j,B,d,hj,rfl,rfl,M,a⟩:=hrel;by_cases Z:j<s.state.length
  ·have an:(j:Int)<(s.state.length:Int):=O;have aa:j<s.valid.length:=O;have ai:(j:Int)<(s.valid.length:Int):=O;obtain⟨gs,rfl,_,_,_,l,_⟩:=Qx H.out.st O;obtain⟨Q,rfl,_,_,_,m,_⟩:=Qx H.out.va O;obtain⟨x,hx⟩:∃x,s.state[j]? =some x:=⟨s.state[j],QqC Z⟩;obtain⟨y,hy⟩:∃y,s.valid[j]? =some y:=⟨s.valid[j],QqC aa⟩;have a0:=Qq a.out (l j _ (ints_at _ _ _ hx));have a1:=m j _ (ints_at _ _ _ hy);obtain⟨o,ho⟩:∃o,s.n.wornB (j:Int)=o:=⟨_,rfl⟩;have ab:Hid (Il s (j+1)=Il s j++[⟨x,y,o⟩]):=by show Il s j++[Qfe s j]=_;rw[Qfe,List.getD,hx,List.getD,hy,ho];rfl
   have ac:=Q7h ho;have R:Hid (∀w',Below w.heap.size w w'->(w'.cell? ⟨q,0,none⟩=some (.pointer (some ⟨p,0,none⟩))/\w'.cell? ⟨q,9,none⟩=some (.slice (some ⟨Q,0,none⟩) s.valid.length c2)/\w'.cell? ⟨Q,j,none⟩=some (I y))):=λw' hb=>⟨Qq hb H.out.cells.c0,Qq hb H.out.cells.c9,Qq hb a1⟩;have ad:=Q7h (λk=>own_below (M.out.alloc (.cells #[I x,I y,I o] 92)) (below_drewN (QqA _ _) k));have f:∀u∈[Value.int .i64 x,I y,I o],u.oneCell'=true:=by simp[Value.oneCell']
   have r:=Q7h f;have ae:Hid (∀k,w.heap.size<=((wr.alloc (.cells #[I x,I y,I o] 92)).drewN k).heap.size):=λk=>(below_drewN (a.out.alloc a.out.size (.cells #[I x,I y,I o] 92)) k).size;have t:Hid (∀(k j':Nat) (u:Value),[Value.int .i64 x,I y,I o][j']? =some u->((wr.alloc (.cells #[I x,I y,I o] 92)).drewN k).cell? ((⟨wr.heap.size,0,none⟩:Addr).add j')=some u):=λk=>World.news_of_block (w:=(wr.alloc (.cells #[I x,I y,I o] 92)).drewN k) (QzY wr _);have g:=Q7h a.out.drew;have af:=Q7h (λk=>R.out _ (below_drewN a.out k));have ag:=Q7h (λk=>R.out _ (below_drewN (a.out.alloc a.out.size (.cells #[I x,I y,I o] 92)) k));clear f hx hy ho a1 l m k0 k8 k9;go_wp2_with fail
   go_region_held3 (λw'=>w'.cell? ⟨q,0,none⟩=some (.pointer (some ⟨p,0,none⟩))/\w'.cell? ⟨q,9,none⟩=some (.slice (some ⟨Q,0,none⟩) s.valid.length c2)/\w'.cell? ⟨Q,j,none⟩=some (I y)) (first|exact R.out _ z.out|exact R.out _ g.out|exact af.out _|exact ag.out _)
    (first|(go_at_call 108;refine(Qok _ N p s.n (j:Int) (H.out.below g.out).arr).mono ?_;rw[ac.out];rintro e w4 ⟨rfl,d2,rfl⟩;have ao:=Q7h (below_drewN g.out d2))|(refine step_append_lies _ ?_ (.tmp 18) (.tmp 34) 89 ?_ w.heap.size 92 i0 _ 3 24 Tryz.underlying89 V W X Y (by rfl) O (.slice B j d) j (Uk (Il s j)) (by rfl) (ad.out _) ⟨wr.heap.size,0,none⟩ 1 1 [I x,I y,I o] (by rfl) (by rfl) (t.out _) r.out O (by simp only[maxLen];omega) O (ae.out _) _ rfl ?_;rfl;rfl;intro g2 F w5 b K _ _;have ah:=Q7h b;have z:=Q7h (a.out.trans (Yb M.out K a.out.size));clear b K))
   go_wp2_with fail
   exact⟨⟨j+1,some ⟨g2,0,none⟩,F,O,by go_num,rfl,by rw[ab.out,Qzf];exact ah,z⟩,by simp[intOf];omega⟩
  ·obtain rfl:j=s.state.length:=O;go_wp2_with fail
   go_ret
   have L:s.state.length=(Zqm s).length:=by rw[Zqm,Ue];exact H.out.ls
   obtain⟨e,he⟩:∃e,s.state.length=e:=⟨_,rfl⟩;refine⟨_,rfl,?_,a.out⟩;rw[L]at M ⊢;have hO:=M.out;rw[show Il s (Zqm s).length=Zqm s from by rw[Zqm,Ue]]at hO;exact hO
theorem Ym(w:World)(q p:Nat)(sv vv:Value)(N:Nat->Prop)(s:Sto)(h:StoIn w q p sv vv N s):
  C 49 #[.pointer (some ⟨q,0,none⟩)] w λe w'=>∃v,e= .returned v/\TabAt w' v (Zqm s)/\Below w.heap.size w w':=by
 have b:(Zqm s).length<=64:=by rw[Zqm,Ue];exact h.arr.ok.b1
 refine(Zzc w q p sv vv N s h).mono ?_;rintro e w' ⟨v,rfl,a,hb⟩;obtain⟨A,cap,rfl⟩:=Qk a;exact⟨_,rfl,TabAt.own a O,hb⟩
end st
namespace st
open Go.RowKit er nd we ge pg
attribute [local go_sem ↓] Go.wp_at_zero Go.wp_at_succ
theorem Q7q(p:Nat)(w:World):(binOp .neq 43 (p,0) (.pointer none)).run Tryz.prog w= .ok (.bool true) w:=J
theorem Qhy(p:Nat)(w:World):(binOp .eql 43 (p,0) (.pointer none)).run Tryz.prog w= .ok (.bool false) w:=J
theorem Qje(w:World)(q p:Nat)(sv vv:Value)(N:Nat->Prop)(s:Sto)(h:StoIn w q p sv vv N s):
  C 40 #[(q,0)] w λe w'=>e= .returned (I (G6 (Zqm s) 3))/\Below w w w':=by
 have H:=Q7h h;clear h;go_in
 go_wp2_with (first|(go_at_call 49;refine(Ym _ _ _ _ _ _ _ H.o).mono ?_;rintro e w1 ⟨v,rfl,d,a⟩;have⟨g,f⟩:=Q2 d a;clear a d)|(go_at_call 102;refine(Ae _ _ _ _ g.o).mono ?_;rintro e w2 ⟨rfl,b⟩;have c:=Q7h (f.o.trans (b.mono f.o.size));clear b))
 go_ret
 exact⟨rfl,c.o⟩
def Zzh(s:Sto):Bool:=decide ((s.n.blocks:Int)/8<G6 (Zqm s) 3)
theorem F4(w:World)(q p:Nat)(sv vv:Value)(N:Nat->Prop)(s:Sto)(h:StoIn w q p sv vv N s):
  C 41 #[(q,0)] w λe w'=>e= .returned (.bool (Zzh s))/\Below w w w':=by
 have H:=Q7h h;have i:Hid (∀w',Below w w w'->w'.cell? (q,4)=some (I ((s.n.blocks:Int)/8))):=λw' hb=>Qq hb H.o.cells.c4;have a:=Q7h (QqA w.heap.size w).drew;have hq:=Qhy q;have j:Hid (∀d,StoIn d q p sv vv N s->_):=λd hq=>Qje d q p sv vv N s hq;obtain⟨r,f⟩:=Zx (G6 (Zqm s) 3);rw[f]at j;have g:Hid (Zzh s=decide ((s.n.blocks:Int)/8<r)):=by show _=_;rw[<-f];rfl
 clear h f;go_in
 go_wp2_with fail
 go_region_held3 (λw'=>w'.cell? (q,4)=some (I ((s.n.blocks:Int)/8))) (first|exact i.o _ a.o|exact i.o _ b.o) ((go_at_call 40;refine(j.o _ (H.o.below a.o)).mono ?_;rintro e w1 ⟨rfl,c⟩;have b:=Q7h (a.o.trans (c.mono a.o.size));clear c))
 go_wp2_with fail
 go_ret
 exact⟨by rw[g.o];simp,b.o⟩
def Sto.sealed(s:Sto):Sto:=if 0<=s.op then {s with state:=s.state.set s.op.toNat 2,op:= -1}else s
def Sto.retire(s:Sto)(b:Nat):Sto:={s with state:=s.state.set b 3,op:=if s.op=(b:Int)then -1 else s.op}
theorem ints_set(l:List Int)(i:Nat)(x:Int):ints (l.set i x)=(ints l).set i (I x):=by simp[ints,List.map_set]
theorem Qim{w:World}{base g c n:Nat}{e:TypeId}{xs:List Value}(h:w.ownsRow base e 1 (.slice (some (g,0)) n c) n xs)(i:Nat)(u:Value)(hi:i<n):
  (w.setCell (g,i) u).ownsRow base e 1 (.slice (some (g,0)) n c) n (xs.set i u):=by
 refine⟨by simpa using h.1,?_⟩;rcases h.2 with⟨h1,h2⟩|⟨l,cap,b,h1,h2,h3,h4,h5,d,f⟩
 ·omega
 ·injection h1 with a m j;injection a with a;injection a with a;subst a j;have k:=Whole.set (w:=w) (g:=g) (t:=e) (cs:=b) h3 i u;refine .inr ⟨g,c,_,rfl,h2,k,h4,h5,by simpa using d,?_⟩;rw[<-f];simp[List.take_set]
theorem StoIn.setState{w:World}{q p g:Nat}{c:Nat}{vv:Value}{N:Nat->Prop}{s:Sto}(h:StoIn w q p (.slice (some (g,0)) s.state.length c) vv N s)(b:Nat)(x:Int)(hb:b<s.state.length):
  StoIn (w.setCell (g,b) (I x)) q p (.slice (some (g,0)) s.state.length c) vv N {s with state:=s.state.set b x}:=by
 have f:=h.ds g rfl;have i:=h.dsv g rfl;have a:=Keep.set1 w g b (I x);have j:=h.st;refine⟨h.obj.keep a (λe=>f.2 e.symm),?_,Qa h.va a (λk d e=>i (e▸d)),h.arr.keep a (λk l e=>f.1 (e▸l)),by simpa using h.ls,h.lv,h.o0,h.o1,h.q0,h.q1,h.dq,h.ds,h.dv,h.dsv⟩;have:=Qim j b (I x) hb;rw[<-ints_set]at this;simpa using this
theorem StoIn.setOp{w:World}{q p:Nat}{sv vv:Value}{N:Nat->Prop}{s:Sto}(h:StoIn w q p sv vv N s)(o:Int)(c:-1<=o)(h1:o<s.n.blocks):
  StoIn (w.setCell (q,10) (I o)) q p sv vv N {s with op:=o}:=by
 have a:=Keep.set1 w q 10 (I o);have d:=h.obj.set 10 (I o);exact⟨by simpa[Pq]using d,Qa h.st a (λg b e=>(h.ds g b).2 e),Qa h.va a (λg b e=>(h.dv g b).2 e),h.arr.keep a (λk f e=>h.dq (e▸f)),h.ls,h.lv,c,h1,h.q0,h.q1,h.dq,h.ds,h.dv,h.dsv⟩
theorem StoIn.setSeq{w:World}{q p:Nat}{sv vv:Value}{N:Nat->Prop}{s:Sto}(h:StoIn w q p sv vv N s)(o:Int)(c:0<=o)(h1:o<=281474976710656):
  StoIn (w.setCell (q,11) (I o)) q p sv vv N {s with seq:=o}:=by
 have a:=Keep.set1 w q 11 (I o);have d:=h.obj.set 11 (I o);exact⟨by simpa[Pq]using d,Qa h.st a (λg b e=>(h.ds g b).2 e),Qa h.va a (λg b e=>(h.dv g b).2 e),h.arr.keep a (λk f e=>h.dq (e▸f)),h.ls,h.lv,h.o0,h.o1,c,h1,h.dq,h.ds,h.dv,h.dsv⟩
structure Moved(w:World)(q:Nat)(sv vv:Value)(N:Nat->Prop)(w':World)(N':Nat->Prop):Prop where
 keep:Keep (foot q sv vv N) w w'
 sub:∀k,N' k->N k\/w.heap.size<=k
theorem Moved.refl(w:World)(q:Nat)(sv vv:Value)(N:Nat->Prop):Moved w q sv vv N w N:=⟨Keep.refl _ _,λ_ h=>.inl h⟩
theorem Moved.below{w w':World}{q:Nat}{sv vv:Value}{N:Nat->Prop}(h:Below w w w'):Moved w q sv vv N w' N:=⟨Keep.below h,λ_ h=>.inl h⟩
theorem Moved.trans{w w' b:World}{q:Nat}{sv vv:Value}{N N' c:Nat->Prop}(h:Moved w q sv vv N w' N')(k:Moved w' q sv vv N' b c):Moved w q sv vv N b c:=
 ⟨h.keep.trans k.keep (λx a=>by
  rcases a with a|a|a|a
  ·exact .inl (.inl a)
  ·exact .inl (.inr (.inl a))
  ·exact .inl (.inr (.inr (.inl a)))
  ·exact(h.sub x a).imp (λh=>.inr (.inr (.inr h))) id),
  λx a=>(k.sub x a).elim (h.sub x) (λh2=>.inr (QqR h.keep.size h2))⟩
theorem Moved.setQ{w w':World}{q:Nat}{sv vv:Value}{N N':Nat->Prop}(h:Moved w q sv vv N w' N')(i:Nat)(u:Value):Moved w q sv vv N (w'.setCell (q,i) u) N':=
 ⟨h.keep.setCell (p:=(q,i)) (.inl (.inl rfl)) u,h.sub⟩
theorem Moved.setS{w w':World}{q:Nat}{sv vv:Value}{N N':Nat->Prop}(h:Moved w q sv vv N w' N'){g:Nat}(a:sv.ownBlock=some g)(i:Nat)(u:Value):Moved w q sv vv N (w'.setCell (g,i) u) N':=
 ⟨h.keep.setCell (p:=(g,i)) (.inl (.inr (.inl a))) u,h.sub⟩
theorem Moved.drewN{w w':World}{q:Nat}{sv vv:Value}{N N':Nat->Prop}(h:Moved w q sv vv N w' N')(n:Nat):Moved w q sv vv N (w'.drewN n) N':=⟨h.keep.drewN n,h.sub⟩
theorem Qqk(w:World)(q p:Nat)(sv vv:Value)(N:Nat->Prop)(s:Sto)(h:StoIn w q p sv vv N s)(j:0<=s.op):
  C 314 #[(q,0)] w λe w'=>e= .returned (.tuple #[])/\StoIn w' q p sv vv N s.sealed/\Moved w q sv vv N w' N:=by
 have c10:=h.cells.c10;have c8:=h.cells.c8;have k:=h.obj.fz 10;have hq:=Q7q q;have h1:=h.o1;have h2:=h.ls;obtain⟨A,c,rfl⟩:=Qk h.st;obtain⟨g,rfl,_,_,_,a,d⟩:=Qx h.st O;obtain⟨b,hb⟩:∃b:Nat,s.op=(b:Int):=⟨s.op.toNat,O⟩;have f:b<s.state.length:=O;have l:(b:Int)<(s.state.length:Int):=O;obtain⟨x,m⟩:∃x,s.state[b]? =some x:=⟨s.state[b],QqC f⟩;have y:=a b _ (ints_at _ _ _ m);have a1:=d b;have r:Hid (s.sealed={s with state:=s.state.set b 2,op:= -1}):=by show _=_;rw[Sto.sealed,QqH j,hb];rfl
 rw[hb]at c10;have i:=(h.ds g rfl).2;have t:=Q7h ((h.setState b 2 f).setOp (-1) O (by show(-1:Int)<s.n.blocks;omega));have u:Hid (w.cell? (q,8)=some (.slice (some (g,0)) s.state.length c)/\w.cell? (q,10)=some (I (b:Int))):=⟨c8,c10⟩;have v:Hid ((w.setCell (g,b) (I 2)).cell? (q,8)=some (.slice (some (g,0)) s.state.length c)/\(w.setCell (g,b) (I 2)).cell? (q,10)=some (I (b:Int))):=⟨(Keep.set1 w g b (I 2)).cell c8 (λe=>i e.symm),(Keep.set1 w g b (I 2)).cell c10 (λe=>i e.symm)⟩;clear h a d h2 h1;go_in
 go_wp2_with fail
 go_region_held3 (λw'=>w'.cell? (q,8)=some (.slice (some (g,0)) s.state.length c)/\w'.cell? (q,10)=some (I (b:Int))) (first|exact u.o|exact v.o) (fail)
 go_wp2_with fail
 go_end0
 rw[r.o];exact⟨rfl,t.o.drewN 1,(((Moved.refl w q _ vv N).setS rfl b _).setQ 10 _).drewN 1⟩
end st
namespace st
open Go.RowKit er nd we ge pg
attribute [local go_sem ↓] Go.wp_at_zero Go.wp_at_succ
theorem Mc{n:Nand}(h:n.Ok)(i:Int):0<=n.next i/\n.next i<=n.per:=by
 unfold Nand.next;split
 ·have a:=h.pl i.toNat (n.blk i.toNat);unfold Nand.blk at a ⊢;rw[List.getD];cases hb:n.b[i.toNat]? with
  |none=>simp
  |some b=>
   rw[List.getD,hb]at a;have:=a rfl;simp;have h2:=this.1;simp at h2;omega
 ·omega
theorem Pd{b B P:Int}(a:0<=b)(h1:b<B)(h2:B<=64)(h3:8<=P)(h4:P<=32):0<=b*P/\b*P<=2048:=
 ⟨Int.mul_nonneg a O,by
  calc b*P<=64*P:=QgG O O
   _<=2048:=O⟩
theorem Q1s(w:World)(q p:Nat)(sv vv:Value)(N:Nat->Prop)(s:Sto)(b:Nat)(h:StoIn w q p sv vv N s)(m:s.op=(b:Int))(Q:s.n.next (b:Int)<s.n.per):
  C 298 #[(q,0)] w λe w'=>e= .returned (.tuple #[I ((b:Int)*s.n.per+s.n.next (b:Int)),.nilIface])/\Below w w w':=by
 have H:=Q7h h;have a:=h.arr.ok;have R:=a.b0;have S:=a.b1;have T:=a.p0;have V:=a.p1;have h1:=h.o1;rw[m]at h1;have r:=Mc a (b:Int);have t:=Pd (QkD b) h1 O (show(8:Int)<=(s.n.per:Int) by omega) O;obtain⟨x,i⟩:=Zx (s.n.next (b:Int));obtain⟨y,j⟩:=Zx ((b:Int)*(s.n.per:Int));rw[i]at Q r;rw[j]at t;have K:=Q7h i;have u:Hid (∀c,C 316 #[.agg #[I s.n.blocks,I s.n.per],I (b:Int)] c λe w'=>e= .returned (I y)/\Below c c w'):=λc=>j▸Rq s.n.blocks s.n.per b c O O O O (QkD b) h1;obtain⟨c0,c1,c2,_,_,_,_,c10,_⟩:=h.cells;rw[m]at c10;have L:=Q7h (QqA w.heap.size w).drew;have l:Hid (∀w',Below w w w'->(w'.cell? (q,0)=some (p,0)/\w'.cell? (q,1)=some (I s.n.blocks)/\w'.cell? (q,2)=some (I s.n.per)/\w'.cell? (q,10)=some (I (b:Int)))):=λw' hb=>⟨Qq hb c0,Qq hb c1,Qq hb c2,Qq hb c10⟩;have M:=Q7h (l.o _ (QqA _ _));have z:Hid (∀k c,Below (w.drewN k).heap.size (w.drewN k) c->Below w w c):=λk c hb=>(below_drewN (QqA _ _) k).trans hb;rw[i,j];clear h a i j m;go_enter Tryz.func298,Tryz.ntmps298
 go_wp2_with fail
 go_region_held3 (λw'=>w'.cell? (q,0)=some (p,0)/\w'.cell? (q,1)=some (I s.n.blocks)/\w'.cell? (q,2)=some (I s.n.per)/\w'.cell? (q,10)=some (I (b:Int))) (first|exact M.o|exact l.o _ F.o) ((go_at_call 189;refine(Ui _ N p s.n (b:Int) (H.o.below L.o).arr).mono ?_;rw[K.o];rintro e w1 ⟨rfl,d,rfl⟩;have F:=Q7h (below_drewN L.o d)))
 go_wp2_with fail
 go_region_held3 (λw'=>w'.cell? (q,0)=some (p,0)/\w'.cell? (q,1)=some (I s.n.blocks)/\w'.cell? (q,2)=some (I s.n.per)/\w'.cell? (q,10)=some (I (b:Int))) (first|exact M.o|exact l.o _ f.o|exact l.o _ (below_drewN f.o _)) (first|(go_at_call 189;refine(Ui _ N p s.n (b:Int) (H.o.below f.o).arr).mono ?_;rw[K.o];rintro e X ⟨rfl,Y,rfl⟩)|(go_at_call 316;refine(u.o _).mono ?_;rintro e Z ⟨rfl,g⟩;have f:=Q7h (z.o _ _ g);clear g))
 go_wp2_with fail
 have W:IntKind.i64.wrap (y+x)=y+x:=by rw[QqN];omega
 refine QqG (v:= .tuple #[I (y+x),.nilIface]) (by simp[results,Tryz.results298,go_sem,W]) rfl ⟨rfl,below_drewN f.o _⟩
def Sto.opened(s:Sto)(b:Nat):Sto:={s with op:=b,state:=s.state.set b 1}
theorem Qms(w:World)(q p:Nat)(sv vv:Value)(N:Nat->Prop)(s:Sto)(b:Nat)(h:StoIn w q p sv vv N s)(ho:s.op= -1)(hp:X9 (Zqm s)=(b:Int))(hb:b<s.n.blocks):
  C 298 #[(q,0)] w λe w'=>e= .returned (.tuple #[I ((b:Int)*s.n.per+s.n.next (b:Int)),.nilIface])/\StoIn w' q p sv vv N (s.opened b)/\Moved w q sv vv N w' N:=by
 have H:=Q7h h;have f:=h.arr.ok;have ad:=f.b0;have ae:=f.b1;have af:=f.p0;have ag:=f.p1;have ah:=h.ls;have h1:(b:Int)<(s.n.blocks:Int):=O;have r:b<s.state.length:=O;have Y:=Mc f (b:Int);have Z:=Pd (QkD b) h1 O (show(8:Int)<=(s.n.per:Int) by omega) O;obtain⟨x,V⟩:=Zx (s.n.next (b:Int));obtain⟨y,W⟩:=Zx ((b:Int)*(s.n.per:Int));rw[V]at Y;rw[W]at Z;have HX:=Q7h V;have B:Hid (∀a,C 316 #[.agg #[I s.n.blocks,I s.n.per],I (b:Int)] a λe w'=>e= .returned (I y)/\Below a a w'):=λa=>W▸Rq s.n.blocks s.n.per b a O O O O (QkD b) h1;obtain⟨A,c,rfl⟩:=Qk h.st;obtain⟨g,rfl,_,_,_,_,_⟩:=Qx h.st O;obtain⟨c0,c1,c2,_,_,c8,_,c10,_⟩:=h.cells;rw[ho]at c10;have i:=(h.ds g rfl).2;have HP:Hid (∀a v,TabAt a v (Zqm s)->C 315 #[v] a λe w'=>e= .returned (I (b:Int))/\Below a a w'):=λa v X=>hp▸Dc (Zqm s) v a X;have aa:Hid (∀k a,Below (w.drewN k).heap.size (w.drewN k) a->Below w w a):=λk a hb=>(below_drewN B0 k).trans hb;rw[V,W];clear h f V W hp;go_in
 go_wp2_with fail
 refine rg.rgB (λw'=>w'.cell? ⟨q,10,none⟩=some (I (-1))) c10 (λab=>?_);iterate 6 refine rg.Ta ?_
 iterate 15 refine rg.Sa ?_
 iterate 1 refine rg.Ta ?_
 refine rg.rgD ?_;go_wp2_with fail
 refine(Ym _ _ _ _ _ N s (H.o.drewN 1)).mono ?_;rintro e w1 ⟨v,rfl,X,t⟩;have⟨HT,u⟩:=Q2 X (aa.o 1 _ t);clear t X;go_wp2_with fail
 refine(HP.o _ _ HT.o).mono ?_;rintro e w2 ⟨rfl,F⟩;have K:=Q7h (u.o.trans (F.mono u.o.size));have H2:=Q7h (H.o.below K.o);have ai:=H2.o.cells.c10;have aj:=H2.o.obj.fz 10;have H3:=Q7h (H2.o.setOp (b:Int) O h1);obtain⟨e0,e1,e2,_,_,e8,_,L,_⟩:=H3.o.cells;obtain⟨gx,j,_,_,_,M,Q⟩:=Qx H3.o.st (by show 0<s.state.length;omega);obtain rfl:g=gx:=by injection j with j;injection j with j
 obtain⟨z,hz⟩:∃z,s.state[b]? =some z:=⟨s.state[b],QqC r⟩;have a0:=M b _ (ints_at _ _ _ hz);have a1:=Q b;have ac:Hid (((w2.setCell (q,10) (I b)).cell? (q,0)=some (p,0)/\(w2.setCell (q,10) (I b)).cell? (q,1)=some (I s.n.blocks)/\(w2.setCell (q,10) (I b)).cell? (q,2)=some (I s.n.per)/\(w2.setCell (q,10) (I b)).cell? (q,8)=some (.slice (some (g,0)) s.state.length c)/\(w2.setCell (q,10) (I b)).cell? (q,10)=some (I (b:Int)))):=⟨e0,e1,e2,e8,L⟩;have m:=Keep.set1 (w2.setCell (q,10) (I b)) g b (I 1);have d:Hid ((((w2.setCell (q,10) (I b)).setCell (g,b) (I 1)).cell? (q,0)=some (p,0)/\((w2.setCell (q,10) (I b)).setCell (g,b) (I 1)).cell? (q,1)=some (I s.n.blocks)/\((w2.setCell (q,10) (I b)).setCell (g,b) (I 1)).cell? (q,2)=some (I s.n.per)/\((w2.setCell (q,10) (I b)).setCell (g,b) (I 1)).cell? (q,8)=some (.slice (some (g,0)) s.state.length c)/\((w2.setCell (q,10) (I b)).setCell (g,b) (I 1)).cell? (q,10)=some (I (b:Int)))):=⟨m.cell e0 (λe=>i e.symm),m.cell e1 (λe=>i e.symm),m.cell e2 (λe=>i e.symm),m.cell e8 (λe=>i e.symm),m.cell L (λe=>i e.symm)⟩;have H4:=Q7h (StoIn.setState (s:={s with op:=(b:Int)}) H3.o b 1 r);have R:Hid (∀w',Below ((w2.setCell (q,10) (I b)).setCell (g,b) (I 1)).heap.size ((w2.setCell (q,10) (I b)).setCell (g,b) (I 1)) w'->(w'.cell? (q,0)=some (p,0)/\w'.cell? (q,1)=some (I s.n.blocks)/\w'.cell? (q,2)=some (I s.n.per)/\w'.cell? (q,8)=some (.slice (some (g,0)) s.state.length c)/\w'.cell? (q,10)=some (I (b:Int)))):=λw' hb=>⟨Qq hb d.o.1,Qq hb d.o.2.1,Qq hb d.o.2.2.1,Qq hb d.o.2.2.2.1,Qq hb d.o.2.2.2.2⟩;have S:Hid (∀a,Below ((w2.setCell (q,10) (I b)).setCell (g,b) (I 1)).drew.drew.heap.size ((w2.setCell (q,10) (I b)).setCell (g,b) (I 1)).drew.drew a->Below ((w2.setCell (q,10) (I b)).setCell (g,b) (I 1)).heap.size ((w2.setCell (q,10) (I b)).setCell (g,b) (I 1)) a):=λa hb=>B0.drew.drew.trans hb;clear F M Q j m hz;go_wp2_with fail
 go_region_held3 (λw'=>(w'.cell? (q,0)=some (p,0)/\w'.cell? (q,1)=some (I s.n.blocks)/\w'.cell? (q,2)=some (I s.n.per)/\w'.cell? (q,8)=some (.slice (some (g,0)) s.state.length c)/\w'.cell? (q,10)=some (I (b:Int)))) (first|exact ac.o|exact d.o) (fail)
 go_wp2_with fail
 go_region_held3 (λw'=>(w'.cell? (q,0)=some (p,0)/\w'.cell? (q,1)=some (I s.n.blocks)/\w'.cell? (q,2)=some (I s.n.per)/\w'.cell? (q,8)=some (.slice (some (g,0)) s.state.length c)/\w'.cell? (q,10)=some (I (b:Int)))) (first|exact d.o|exact R.o _ l.o|exact R.o _ (below_drewN l.o _)) (first|(go_at_call 189;refine(Ui _ N p s.n (b:Int) (H4.o.below l.o).arr).mono ?_;rw[HX.o];rintro e w6 ⟨rfl,d6,rfl⟩)|(go_at_call 316;refine(B.o _).mono ?_;rintro e w5 ⟨rfl,T⟩;have l:=Q7h (S.o _ T);clear T))
 go_wp2_with fail
 have hw:IntKind.i64.wrap (y+x)=y+x:=by rw[QqN];omega
 refine QqG (v:= .tuple #[I (y+x),.nilIface]) (by simp[results,Tryz.results298,go_sem,hw]) rfl ⟨rfl,(H4.o.below l.o).drewN _,((((Moved.below K.o).setQ 10 _).setS rfl b _).trans (Moved.below l.o)).drewN _⟩
end st
namespace st
open Go.RowKit er nd we ge pg
attribute [local go_sem ↓] Go.wp_at_zero Go.wp_at_succ
theorem Qub(w:World)(q p:Nat)(sv vv:Value)(N:Nat->Prop)(s:Sto)(o b:Nat)(h:StoIn w q p sv vv N s)(ho:s.op=(o:Int))(hr:(s.n.per:Int)<=s.n.next (o:Int))(hp:X9 (Zqm s.sealed)=(b:Int))(hb:b<s.sealed.n.blocks):
  C 298 #[(q,0)] w λe w'=>e= .returned (.tuple #[I ((b:Int)*s.sealed.n.per+s.sealed.n.next (b:Int)),.nilIface])/\StoIn w' q p sv vv N (s.sealed.opened b)/\Moved w q sv vv N w' N:=by
 have H:=Q7h h;have j:=h.arr.ok;have ao:=j.b0;have ap:=j.b1;have aq:=j.p0;have ar:=j.p1;have h1:=h.o1;rw[ho]at h1;have u:0<=s.op:=O;have ad:=Mc j (o:Int);obtain⟨x,hx⟩:=Zx (s.n.next (o:Int));rw[hx]at hr ad;have HX:=Q7h hx;obtain⟨c0,c1,c2,_,_,_,_,c10,_⟩:=h.cells;rw[ho]at c10;have B0:=Q7h (QqA w.heap.size w).drew;have HK:Hid (∀w',Below w w w'->(w'.cell? (q,0)=some (p,0)/\w'.cell? (q,1)=some (I s.n.blocks)/\w'.cell? (q,2)=some (I s.n.per)/\w'.cell? (q,10)=some (I (o:Int)))):=λw' hb=>⟨Qq hb c0,Qq hb c1,Qq hb c2,Qq hb c10⟩;have SA:=Q7h (HK.o _ (QqA _ _));obtain⟨s1,r⟩:=Zx s.sealed;have ae:s1.op= -1:=by rw[<-r,Sto.sealed,QqH u]
 have af:Hid (∀a,StoIn a q p sv vv N s->C 314 #[(q,0)] a λe w'=>e= .returned (.tuple #[])/\StoIn w' q p sv vv N s1/\Moved a q sv vv N w' N):=λa hq=>r▸Qqk a q p sv vv N s hq u;rw[r]at hp hb ⊢;obtain⟨X,hX⟩:=Zx (s1.n.next (b:Int));obtain⟨y,hy⟩:=Zx ((b:Int)*(s1.n.per:Int));rw[hX,hy];clear h j hx ho r u;go_enter Tryz.func298,Tryz.ntmps298
 go_wp2_with fail
 go_region_held3 (λw'=>w'.cell? (q,0)=some (p,0)/\w'.cell? (q,1)=some (I s.n.blocks)/\w'.cell? (q,2)=some (I s.n.per)/\w'.cell? (q,10)=some (I (o:Int))) (first|exact SA.o|exact HK.o _ ag.o) ((go_at_call 189;refine(Ui _ N p s.n (o:Int) (H.o.below B0.o).arr).mono ?_;rw[HX.o];rintro e w1 ⟨rfl,d,rfl⟩;have ag:=Q7h (below_drewN B0.o d)))
 go_wp2_with fail
 have Q:=Q7h (below_drewN (QqA w.heap.size w) (1+d));refine(af.o _ (H.o.below Q.o)).mono ?_;rintro e wt ⟨rfl,F,R⟩;have⟨H1,M1⟩:=Q2 F ((Moved.below Q.o).trans R);have c10:=F.cells.c10;rw[ae]at c10;have f:=H1.o.arr.ok;have au:=f.b0;have av:=f.b1;have aw:=f.p0;have ax:=f.p1;have am:=H1.o.ls;have K:(b:Int)<(s1.n.blocks:Int):=O;have S:b<s1.state.length:=O;have an:(b:Int)<(s1.state.length:Int):=O;have ah:=Mc f (b:Int);have ai:=Pd (QkD b) K O (show(8:Int)<=(s1.n.per:Int) by omega) O;rw[hX]at ah;rw[hy]at ai;have aj:=Q7h hX;have ak:Hid (∀a,C 316 #[.agg #[I s1.n.blocks,I s1.n.per],I (b:Int)] a λe w'=>e= .returned (I y)/\Below a a w'):=λa=>hy▸Rq s1.n.blocks s1.n.per b a O O O O (QkD b) K;have HP:Hid (∀a v,TabAt a v (Zqm s1)->C 315 #[v] a λe w'=>e= .returned (I (b:Int))/\Below a a w'):=λa v ht=>hp▸Dc (Zqm s1) v a ht;clear f hX hy hp;clear F R;go_wp2_with fail
 refine(Ym _ _ _ _ _ N s1 H1.o).mono ?_;rintro e ay ⟨v,rfl,ht,T⟩;have⟨HT,t⟩:=Q2 ht T;clear T ht;go_wp2_with fail
 refine(HP.o _ _ HT.o).mono ?_;rintro e w2 ⟨rfl,V⟩;have W:=Q7h (t.o.trans (V.mono t.o.size));have⟨L,M2⟩:=Q2 (H1.o.below W.o) (M1.o.trans (Moved.below W.o));obtain⟨A,c,rfl⟩:=Qk L.o.st;obtain⟨g,rfl,_,_,_,_,_⟩:=Qx L.o.st O;have k:=(L.o.ds g rfl).2;have az:=L.o.cells.c10;have aF:=L.o.obj.fz 10;have H3:=Q7h (L.o.setOp (b:Int) O K);obtain⟨e0,e1,e2,_,_,e8,_,Y,_⟩:=H3.o.cells;obtain⟨gx,l,_,_,_,Z,B⟩:=Qx H3.o.st (by show 0<s1.state.length;omega);obtain rfl:g=gx:=by injection l with l;injection l with l
 obtain⟨z,hz⟩:∃z,s1.state[b]? =some z:=⟨s1.state[b],QqC S⟩;have a0:=Z b _ (ints_at _ _ _ hz);have a1:=B b;have al:Hid (((w2.setCell (q,10) (I b)).cell? (q,0)=some (p,0)/\(w2.setCell (q,10) (I b)).cell? (q,1)=some (I s1.n.blocks)/\(w2.setCell (q,10) (I b)).cell? (q,2)=some (I s1.n.per)/\(w2.setCell (q,10) (I b)).cell? (q,8)=some (.slice (some (g,0)) s1.state.length c)/\(w2.setCell (q,10) (I b)).cell? (q,10)=some (I (b:Int)))):=⟨e0,e1,e2,e8,Y⟩;have M:=Keep.set1 (w2.setCell (q,10) (I b)) g b (I 1);have i:Hid ((((w2.setCell (q,10) (I b)).setCell (g,b) (I 1)).cell? (q,0)=some (p,0)/\((w2.setCell (q,10) (I b)).setCell (g,b) (I 1)).cell? (q,1)=some (I s1.n.blocks)/\((w2.setCell (q,10) (I b)).setCell (g,b) (I 1)).cell? (q,2)=some (I s1.n.per)/\((w2.setCell (q,10) (I b)).setCell (g,b) (I 1)).cell? (q,8)=some (.slice (some (g,0)) s1.state.length c)/\((w2.setCell (q,10) (I b)).setCell (g,b) (I 1)).cell? (q,10)=some (I (b:Int)))):=⟨M.cell e0 (λe=>k e.symm),M.cell e1 (λe=>k e.symm),M.cell e2 (λe=>k e.symm),M.cell e8 (λe=>k e.symm),M.cell Y (λe=>k e.symm)⟩;have H4:=Q7h (StoIn.setState (s:={s1 with op:=(b:Int)}) H3.o b 1 S);have aa:Hid (∀w',Below ((w2.setCell (q,10) (I b)).setCell (g,b) (I 1)).heap.size ((w2.setCell (q,10) (I b)).setCell (g,b) (I 1)) w'->(w'.cell? (q,0)=some (p,0)/\w'.cell? (q,1)=some (I s1.n.blocks)/\w'.cell? (q,2)=some (I s1.n.per)/\w'.cell? (q,8)=some (.slice (some (g,0)) s1.state.length c)/\w'.cell? (q,10)=some (I (b:Int)))):=λw' hb=>⟨Qq hb i.o.1,Qq hb i.o.2.1,Qq hb i.o.2.2.1,Qq hb i.o.2.2.2.1,Qq hb i.o.2.2.2.2⟩;have ab:Hid (∀a,Below ((w2.setCell (q,10) (I b)).setCell (g,b) (I 1)).drew.drew.heap.size ((w2.setCell (q,10) (I b)).setCell (g,b) (I 1)).drew.drew a->Below ((w2.setCell (q,10) (I b)).setCell (g,b) (I 1)).heap.size ((w2.setCell (q,10) (I b)).setCell (g,b) (I 1)) a):=λa hb=>(QqA _ _).drew.drew.trans hb;clear V Z B l M hz;go_wp2_with fail
 go_region_held3 (λw'=>w'.cell? (q,0)=some (p,0)/\w'.cell? (q,1)=some (I s1.n.blocks)/\w'.cell? (q,2)=some (I s1.n.per)/\w'.cell? (q,8)=some (.slice (some (g,0)) s1.state.length c)/\w'.cell? (q,10)=some (I (b:Int))) (first|exact al.o|exact i.o) (fail)
 go_wp2_with fail
 go_region_held3 (λw'=>w'.cell? (q,0)=some (p,0)/\w'.cell? (q,1)=some (I s1.n.blocks)/\w'.cell? (q,2)=some (I s1.n.per)/\w'.cell? (q,8)=some (.slice (some (g,0)) s1.state.length c)/\w'.cell? (q,10)=some (I (b:Int))) (first|exact i.o|exact aa.o _ m.o|exact aa.o _ (below_drewN m.o _)) (first|(go_at_call 189;refine(Ui _ N p s1.n (b:Int) (H4.o.below m.o).arr).mono ?_;rw[aj.o];rintro e w6 ⟨rfl,d6,rfl⟩)|(go_at_call 316;refine(ak.o _).mono ?_;rintro e w5 ⟨rfl,ac⟩;have m:=Q7h (ab.o _ ac);clear ac))
 go_wp2_with fail
 have hw:IntKind.i64.wrap (y+X)=y+X:=by rw[QqN];omega
 refine QqG (v:= .tuple #[I (y+X),.nilIface]) (by simp[results,Tryz.results298,go_sem,hw]) rfl ⟨rfl,(H4.o.below m.o).drewN _,((((M2.o).setQ 10 _).setS rfl b _).trans (Moved.below m.o)).drewN _⟩
theorem Qbn(w:World)(q p:Nat)(sv vv:Value)(N:Nat->Prop)(s:Sto)(h:StoIn w q p sv vv N s)(i:s.op= -1)(m:X9 (Zqm s)= -1):
  C 298 #[(q,0)] w λe w'=>e= .returned (.tuple #[I 0,.iface 28 (I 60)])/\StoIn w' q p sv vv N (s)/\Moved w q sv vv N w' N:=by
 have c10:=h.cells.c10;rw[i]at c10;have n:=Q7h (h.drewN 1);have u:=Q7h (Moved.below (q:=q) (sv:=sv) (vv:=vv) (N:=N) (below_drewN (QqA w.heap.size w) 1));have j:=i;have x:Hid (∀b v,TabAt b v (Zqm s)->C 315 #[v] b λe w'=>e= .returned (I (-1))/\Below b b w'):=λb v g=>m▸Dc (Zqm s) v b g;clear m;clear h i;go_in
 go_wp2_with fail
 refine rg.rgB (λw'=>w'.cell? ⟨q,10,none⟩=some (I (-1))) c10 (λk=>?_);iterate 6 refine rg.Ta ?_
 iterate 15 refine rg.Sa ?_
 iterate 1 refine rg.Ta ?_
 refine rg.rgD ?_;go_wp2_with fail
 refine(Ym _ _ _ _ _ N s n.o).mono ?_;rintro e y ⟨v,rfl,g,c⟩;have⟨z,a⟩:=Q2 g c;clear c g;go_wp2_with fail
 refine(x.o _ _ z.o).mono ?_;rintro e w2 ⟨rfl,d⟩;have f:=Q7h (a.o.trans (d.mono a.o.size));have⟨l,F⟩:=Q2 (n.o.below f.o) (u.o.trans (Moved.below f.o));have H:=l.o.cells.c10;have K:=l.o.obj.fz 10;have r:({s with op:= -1}:Sto)=s:=by rw[<-j]
 have t:=Q7h (l.o.setOp (-1) O O);have L:Hid (StoIn (w2.setCell (q,10) (I (-1))) q p sv vv N s):=r▸t.o;have M:=Q7h (F.o.setQ 10 (I (-1)));have c3:=t.o.cells.c10;clear d r;go_wp2_with fail
 go_returns;exact⟨rfl,L.o,M.o⟩
theorem Qqg(w:World)(q p:Nat)(sv vv:Value)(N:Nat->Prop)(s:Sto)(o:Nat)(h:StoIn w q p sv vv N s)(M:s.op=(o:Int))(V:(s.n.per:Int)<=s.n.next (o:Int))(u:X9 (Zqm s.sealed)= -1):
  C 298 #[(q,0)] w λe w'=>e= .returned (.tuple #[I 0,.iface 28 (I 60)])/\StoIn w' q p sv vv N (s.sealed)/\Moved w q sv vv N w' N:=by
 have H:=Q7h h;have f:0<=s.op:=O;obtain⟨x,y⟩:=Zx (s.n.next (o:Int));rw[y]at V;have W:=Q7h y;obtain⟨c0,c1,c2,_,_,_,_,c10,_⟩:=h.cells;rw[M]at c10;have z:=Q7h (QqA w.heap.size w).drew;have Q:Hid (∀w',Below w w w'->(w'.cell? (q,0)=some (p,0)/\w'.cell? (q,1)=some (I s.n.blocks)/\w'.cell? (q,2)=some (I s.n.per)/\w'.cell? (q,10)=some (I (o:Int)))):=λw' hb=>⟨Qq hb c0,Qq hb c1,Qq hb c2,Qq hb c10⟩;have X:=Q7h (Q.o _ z);obtain⟨s1,b⟩:=Zx s.sealed;have i:s1.op= -1:=by rw[<-b,Sto.sealed,QqH f]
 have F:Hid (∀a,StoIn a q p sv vv N s->C 314 #[(q,0)] a λe w'=>e= .returned (.tuple #[])/\StoIn w' q p sv vv N s1/\Moved a q sv vv N w' N):=λa hq=>b▸Qqk a q p sv vv N s hq f;rw[b]at u ⊢;clear h y M b f;go_in
 go_wp2_with fail
 go_region_held3 (λw'=>w'.cell? (q,0)=some (p,0)/\w'.cell? (q,1)=some (I s.n.blocks)/\w'.cell? (q,2)=some (I s.n.per)/\w'.cell? (q,10)=some (I (o:Int))) (first|exact X.o|exact Q.o _ K.o) ((go_at_call 189;refine(Ui _ N p s.n (o:Int) (H.o.below z.o).arr).mono ?_;rw[W.o];rintro e w1 ⟨rfl,d,rfl⟩;have K:=Q7h (below_drewN z.o d)))
 go_wp2_with fail
 have j:=Q7h (below_drewN (QqA w.heap.size w) (1+d));refine(F.o _ (H.o.below j.o)).mono ?_;rintro e wt ⟨rfl,g,k⟩;have⟨R,Y⟩:=Q2 g ((Moved.below j.o).trans k);have c10:=g.cells.c10;rw[i]at c10;have Z:Hid (∀a v,TabAt a v (Zqm s1)->C 315 #[v] a λe w'=>e= .returned (I (-1))/\Below a a w'):=λa v t=>u▸Dc (Zqm s1) v a t;clear u;clear g k;go_wp2_with fail
 refine(Ym _ _ _ _ _ N s1 R.o).mono ?_;rintro e A ⟨v,rfl,t,l⟩;have⟨B,c⟩:=Q2 t l;clear l t;go_wp2_with fail
 refine(Z.o _ _ B.o).mono ?_;rintro e w2 ⟨rfl,m⟩;have r:=Q7h (c.o.trans (m.mono c.o.size));have⟨L,M2⟩:=Q2 (R.o.below r.o) (Y.o.trans (Moved.below r.o));have aa:=L.o.cells.c10;have ab:=L.o.obj.fz 10;have S:({s1 with op:= -1}:Sto)=s1:=by rw[<-i]
 have T:=Q7h (L.o.setOp (-1) O O);have H4:Hid (StoIn (w2.setCell (q,10) (I (-1))) q p sv vv N s1):=S▸T.o;have M3:=Q7h (M2.o.setQ 10 (I (-1)));have c3:=T.o.cells.c10;clear m S;go_wp2_with fail
 go_returns;exact⟨rfl,H4.o,M3.o⟩
end st
namespace st
open Go.RowKit er nd we ge pg
attribute [local go_sem ↓] Go.wp_at_zero Go.wp_at_succ
theorem Quz(w:World)(q p:Nat)(sv vv:Value)(N:Nat->Prop)(s:Sto)(b:Nat)(h:StoIn w q p sv vv N s)(hb:b<s.n.blocks):
  C 182 #[(q,0),I (b:Int)] w λe w'=>e= .returned (.tuple #[])/\StoIn w' q p sv vv N (s.retire b)/\Moved w q sv vv N w' N:=by
 have f:=h.ls;have i:b<s.state.length:=O;have l:(b:Int)<(s.state.length:Int):=O;obtain⟨A,c,rfl⟩:=Qk h.st;obtain⟨g,rfl,_,_,_,a,d⟩:=Qx h.st O;obtain⟨z,hz⟩:∃z,s.state[b]? =some z:=⟨s.state[b],QqC i⟩;have u:=a b _ (ints_at _ _ _ hz);have a1:=d b;have c8:=h.cells.c8;have j:=Q7h (h.setState b 3 i);have m:=j.o.cells.c10;have r:=j.o.obj.fz 10;cases hq:(s.op==(b:Int))
 ·have k:Hid (s.retire b={s with state:=s.state.set b 3}):=by show _=_;unfold Sto.retire;rw[QqE (by simpa using hq)]
  clear h a d hz f;go_in
  go_wp2_with fail
  go_end0
  rw[k.o];exact⟨rfl,j.o,(Moved.refl w q _ vv N).setS rfl b _⟩
 ·have k:Hid (s.retire b={s with state:=s.state.set b 3,op:= -1}):=by show _=_;unfold Sto.retire;rw[QqH (by simpa using hq)]
  have t:=Q7h (StoIn.setOp (s:={s with state:=s.state.set b 3}) j.o (-1) O (by show(-1:Int)<s.n.blocks;omega));clear h a d hz f;go_in
  go_wp2_with fail
  go_end0
  rw[k.o];exact⟨rfl,t.o,((Moved.refl w q _ vv N).setS rfl b _).setQ 10 _⟩
theorem Qbm(n:Nand)(a:Int)(t:ByteArray):(n.program a t).2.blocks=n.blocks/\(n.program a t).2.per=n.per/\(n.program a t).2.ops<=n.ops+1/\n.ops<=(n.program a t).2.ops:=by
 unfold Nand.program;split
 ·exact⟨rfl,rfl,by show n.ops<=n.ops+1;omega,QxL _⟩
 ·split
  ·exact⟨rfl,rfl,by show n.ops<=n.ops+1;omega,QxL _⟩
  ·simp only;split
   ·exact⟨rfl,rfl,by show n.ops<=n.ops+1;omega,QxL _⟩
   ·split
    ·exact⟨rfl,rfl,by show n.ops<=n.ops+1;omega,QxL _⟩
    ·split
     ·exact⟨rfl,rfl,QxL _,by show n.ops<=n.ops+1;omega⟩
     ·split
      ·exact⟨rfl,rfl,QxL _,by show n.ops<=n.ops+1;omega⟩
      ·exact⟨rfl,rfl,QxL _,by show n.ops<=n.ops+1;omega⟩
theorem Qhl(n:Nand)(a:Int)(t:ByteArray)(h:(n.program a t).1=41):0<=a/\a<n.blocks*n.per:=by
 unfold Nand.program at h;split at h
 ·exact absurd h U
 ·split at h
  ·exact absurd h U
  ·rename_i h2;have:=Decidable.of_not_not h2;exact⟨this.1,this.2.1⟩
theorem StoIn.under{w w':World}{q p:Nat}{sv vv:Value}{N N':Nat->Prop}{s:Sto}{b:Nand}(h:StoIn w q p sv vv N s)(i:NandAt w' N' p b)(d:Mv N w N' w')(hb:b.blocks=s.n.blocks)(j:b.per=s.n.per):
  StoIn w' q p sv vv N' {s with n:=b}/\Moved w q sv vv N w' N':=by
 have hq:=h.obj.lt;have e:∀{v:Value} {xs:List Value} {n:Nat},w.ownsRow 0 3 1 v n xs->∀k,v.ownBlock=some k->k<w.heap.size:=λl k a=>(l.lt k a).2;have c:∀k,k<w.heap.size->¬N k->¬N' k:=λk a m h2=>(d.sub k h2).elim m (λh3=>O);refine⟨⟨?_,Qa h.st d.keep (λg f=>(h.ds g f).1),Qa h.va d.keep (λg f=>(h.dv g f).1),i,by show s.state.length=b.blocks;rw[hb];exact h.ls,by show s.valid.length=b.blocks;rw[hb];exact h.lv,h.o0,by show s.op<(b.blocks:Int);rw[hb];exact h.o1,h.q0,h.q1,c _ hq h.dq,λk a=>⟨c _ (e h.st k a) (h.ds k a).1,(h.ds k a).2⟩,λk a=>⟨c _ (e h.va k a) (h.dv k a).1,(h.dv k a).2⟩,h.dsv⟩,
  ⟨d.keep.mono (λk _ a=>.inr (.inr (.inr a))),d.sub⟩⟩
 have:=h.obj.keep d.keep h.dq;unfold Pq at this ⊢;simp only[hb,j];exact this
def Sto.full(s:Sto):Sto:=if 0<=s.op/\(s.n.per:Int)<=s.n.next s.op then s.sealed else s
def Sto.place?(s:Sto):Option (Sto×Int):=
 if 0<=s.full.op then some (s.full,s.full.op*s.full.n.per+s.full.n.next s.full.op)
 else if 0<=X9 (Zqm s.full)then some (s.full.opened (X9 (Zqm s.full)).toNat,X9 (Zqm s.full)*s.full.n.per+s.full.n.next (X9 (Zqm s.full)))else none
theorem Qvx(s:Sto):s.sealed.n=s.n:=by unfold Sto.sealed;split<;>rfl
theorem Qhu(s:Sto):s.sealed.seq=s.seq:=by unfold Sto.sealed;split<;>rfl
theorem Qlj(s:Sto):s.full.n=s.n:=by
 unfold Sto.full;split
 ·exact Qvx s
 ·rfl
theorem P8(s:Sto):s.full.seq=s.seq:=by
 unfold Sto.full;split
 ·exact Qhu s
 ·rfl
theorem Qo6{s:Sto}(h:0<=s.op):s.sealed.op= -1:=by unfold Sto.sealed;rw[QqH h]
theorem Db(s:Sto):-1<=X9 (Zqm s)/\(0<=X9 (Zqm s)->X9 (Zqm s)<s.n.blocks):=by
 have h:=Qif (Zqm s) (Zqm s).length;have a:(Zqm s).length=s.n.blocks:=Ue s _;rw[a]at h;have b:X9 (Zqm s)=J4 (Zqm s) s.n.blocks:=by rw[X9,a]
 rw[b];omega
theorem Qic(w:World)(q p:Nat)(sv vv:Value)(N:Nat->Prop)(s u:Sto)(a:Int)(h:StoIn w q p sv vv N s)(c:s.place? =some (u,a)):
  C 298 #[(q,0)] w λe w'=>e= .returned (.tuple #[I a,.nilIface])/\StoIn w' q p sv vv N u/\Moved w q sv vv N w' N:=by
 unfold Sto.place? at c;have j:=h.o0;by_cases d:0<=s.op/\(s.n.per:Int)<=s.n.next s.op
 ·have f:s.full=s.sealed:=by unfold Sto.full;rw[QqH d]
  rw[f,QqE (by rw[Qo6 d.1];decide)]at c;split at c
  ·rename_i h2;injection c with c;injection c with h4 h5;subst h4 h5;obtain⟨o,i⟩:∃o:Nat,s.op=(o:Int):=⟨s.op.toNat,O⟩;obtain⟨b,hb⟩:∃b:Nat,X9 (Zqm s.sealed)=(b:Int):=⟨(X9 (Zqm s.sealed)).toNat,O⟩;have g:=(Db s.sealed).2 h2;rw[hb]at g ⊢;exact Qub w q p sv vv N s o b h i (by have:=d.2;rw[i]at this;exact this) hb O
  ·exact absurd c U
 ·have f:s.full=s:=by unfold Sto.full;rw[QqE d]
  rw[f]at c;split at c
  ·rename_i k;injection c with c;injection c with h2 h3;subst h2 h3;have h1:s.n.next s.op<s.n.per:=O;obtain⟨b,hb⟩:∃b:Nat,s.op=(b:Int):=⟨s.op.toNat,O⟩;rw[hb]at h1 ⊢;refine(Q1s w q p sv vv N s b h hb h1).mono ?_;rintro e w' ⟨rfl,hb⟩;exact⟨rfl,h.below hb,Moved.below hb⟩
  ·split at c
   ·rename_i h1 h2;injection c with c;injection c with h4 h5;subst h4 h5;have h3:=(Db s).2 h2;obtain⟨b,hb⟩:∃b:Nat,X9 (Zqm s)=(b:Int):=⟨(X9 (Zqm s)).toNat,O⟩;rw[hb]at h3 ⊢;exact Qms w q p sv vv N s b h O hb O
   ·exact absurd c U
theorem Qhp(w:World)(q p:Nat)(sv vv:Value)(N:Nat->Prop)(s:Sto)(h:StoIn w q p sv vv N s)(a:s.place? =none):
  C 298 #[(q,0)] w λe w'=>e= .returned (.tuple #[I 0,.iface 28 (I 60)])/\StoIn w' q p sv vv N s.full/\Moved w q sv vv N w' N:=by
 unfold Sto.place? at a;have f:=h.o0;by_cases c:0<=s.op/\(s.n.per:Int)<=s.n.next s.op
 ·have b:s.full=s.sealed:=by unfold Sto.full;rw[QqH c]
  rw[b,QqE (by rw[Qo6 c.1];decide)]at a;split at a
  ·exact absurd a U
  ·rename_i h2;obtain⟨o,d⟩:∃o:Nat,s.op=(o:Int):=⟨s.op.toNat,O⟩;rw[b];have:=(Db s.sealed).1;exact Qqg w q p sv vv N s o h d (by have:=c.2;rw[d]at this;exact this) O
 ·have b:s.full=s:=by unfold Sto.full;rw[QqE c]
  rw[b]at a;split at a
  ·exact absurd a U
  ·split at a
   ·exact absurd a U
   ·rename_i h1 h2;rw[b];have:=(Db s).1;exact Qbn w q p sv vv N s h O O
def Tg:Nat->Sto->ByteArray->Option (Sto×Int×Int×Bool)
 |0,_,_=>none
 |f+1,s,t=>
  if Zzh s=true then some (s,0,61,false)
  else match s.place? with
   |none=>some (s.full,0,60,false)
   |some (u,a)=>
    if(u.n.program a t).1=41 then Tg f (Sto.retire {u with n:=(u.n.program a t).2} (a.toNat/u.n.per)) t
    else some ({u with n:=(u.n.program a t).2},a,(u.n.program a t).1,true)
def Q4x(r:Sto×Int×Int×Bool):List (ByteArray×Int):=if r.2.2.2=true then[(⟨#[112,114,111,103,114,97,109]⟩,r.2.1)]else[]
theorem Qss{w:World}{F:Nat->Prop}{l:List (ByteArray×Int)}{c:Int}{v:Value}(h:Cu w F l c v):Cu w (λ_=>False) l c v:=by
 rcases h with h|⟨a,b,d,_⟩
 ·exact .inl h
 ·exact .inr ⟨a,b,d,λ_ _=>id⟩
theorem Q1r{s u:Sto}{a:Int}(h:s.place? =some (u,a)):u.n=s.n:=by
 unfold Sto.place? at h;split at h
 ·injection h with h;injection h with h _;rw[<-h];exact Qlj s
 ·split at h
  ·injection h with h;injection h with h _;rw[<-h];exact Qlj s
  ·exact absurd h U
theorem Qqu(w:World)(q p:Nat)(sv vv:Value)(N:Nat->Prop)(s:Sto)(t:ByteArray)(f:Nat)(r:Sto×Int×Int×Bool)(h:StoIn w q p sv vv N s)(hr:Tg f s t=some r)(ho:s.n.ops+f<=1000000000000000000)(ae:t.size<=9223372036854775807):
  C 258 #[(q,0),.string t] w λe w'=>∃v N',e= .returned (.tuple #[I r.2.1,v])/\StoIn w' q p sv vv N' r.1/\Moved w q sv vv N w' N'/\Cu w' (λ_=>False) (Q4x r) r.2.2.1 v:=by
 have⟨H,HR,HO⟩:=Q3 h hr ho;clear h hr ho;go_in
 go_wp2_with fail
 go_loopg [] f (λk wr=>Hid (∃s' N',Tg k s' t=some r/\StoIn wr q p sv vv N' s'/\Moved w q sv vv N wr N'/\s'.n.ops+k<=1000000000000000000))
 case atStart=>exact⟨s,N,HR.o,H.o,Moved.refl _ _ _ _ _,HO.o⟩
 case round=>
  obtain⟨s',N',g,hs,T,j⟩:=hrel.o;clear hrel;cases gk with
  |zero=>exact absurd g (by simp[Tg])
  |succ k=>
   have⟨R,HM⟩:=Q2 hs T;cases hw:Zzh s'
   ·rw[Tg,hw,QqE U]at g;cases hpl:s'.place? with
    |none=>
     rw[hpl]at g;injection g with g;have⟨HW,M,ai⟩:=Q3 hw hpl g;clear g hs T hw hpl j;go_wp2_with fail
     refine(F4 _ _ _ _ _ _ _ R.o).mono ?_;rw[HW.o];rintro e w1 ⟨rfl,b⟩;have⟨V,W⟩:=Q2 (R.o.below b) (HM.o.trans (Moved.below b));clear b;go_wp2_with fail
     refine(Qhp _ _ _ _ _ _ _ V.o M.o).mono ?_;rintro e w2 ⟨rfl,h2,S⟩;have⟨X,M2⟩:=Q2 h2 (W.o.trans S);clear h2 S;go_wp2_with fail
     obtain rfl:=ai.o;go_returns;exact⟨_,N',rfl,X.o,M2.o,.inr ⟨(show(60:Int)≠0 from D),[],rfl,U⟩⟩
    |some ua=>
     obtain⟨u,a⟩:=ua;rw[hpl]at g;simp only at g;have x:=Q1r hpl;have⟨HW,M⟩:=Q2 hw hpl;obtain⟨g1,g2,g3,g4⟩:=Qbm u.n a t;have⟨Q,Y⟩:=Q2 g1 g2;have Z:u.n.ops<=1000000000000000000:=by rw[x];omega
     have af:=Q7h Z;have A:(u.n.program a t).2.ops+k<=1000000000000000000:=by rw[x]at g3 ⊢;omega
     have aj:=Q7h A;obtain⟨c,B⟩:=Zx ((u.n.program a t).1);cases hcc:(c==41)
     ·have aa:=Q7h hcc;have ag:r=({u with n:=(u.n.program a t).2},a,c,true):=by
       rw[B,QqE (by simpa using hcc)]at g;injection g with g;exact g.symm
      have⟨ab,HC⟩:=Q2 ag B;clear g hs T hw hpl g1 g2 g3 g4 Z A B hcc ag x j;go_wp2_with fail
      refine(F4 _ _ _ _ _ _ _ R.o).mono ?_;rw[HW.o];rintro e w1 ⟨rfl,b⟩;have⟨V,W⟩:=Q2 (R.o.below b) (HM.o.trans (Moved.below b));clear b;go_wp2_with fail
      refine(Qic _ _ _ _ _ _ _ _ _ V.o M.o).mono ?_;rintro e w2 ⟨rfl,h2,S⟩;have⟨X,M2⟩:=Q2 h2 (W.o.trans S);have c0:=h2.cells.c0;clear h2 S;go_wp2_with fail
      refine(Qxg _ _ _ _ a t X.o.arr af.o ae).mono ?_;rintro e w3 ⟨v,N3,rfl,y,z,i⟩;obtain⟨h3,m3⟩:=X.o.under y z Q.o Y.o;rw[HC.o]at i;have⟨H3,M3,E3⟩:=Q3 h3 (M2.o.trans m3) i;clear h3 m3 i y z;go_wp2_with fail
      refine(Q6g _ _ c 41 v _ E3.o D).mono ?_;rw[aa.o];rintro e w4 ⟨rfl,rfl⟩;go_wp2_with fail
      obtain rfl:=ab.o;go_returns;exact⟨v,N3,rfl,H3.o,M3.o,Qss E3.o⟩
     ·have aa:=Q7h hcc;have F:c=41:=by simpa using hcc
      have K:=Qhl u.n a t (B.trans F);rw[B,QqH F]at g;have l:=hs.arr.ok;rw[<-x]at l;have ak:=l.b0;have ah:=l.b1;have al:=l.p0;have am:=l.p1;have L:a/(u.n.per:Int)=((a.toNat/u.n.per:Nat):Int):=by
       obtain⟨m,T⟩:∃m:Nat,a=(m:Int):=⟨a.toNat,O⟩;rw[T];simp
      have ac:a.toNat/u.n.per<u.n.blocks:=by
       rw[Nat.div_lt_iff_lt_mul O];have:=K.2;have h2:=Int.toNat_of_nonneg K.1;have h3:(a.toNat:Int)<((u.n.blocks*u.n.per:Nat):Int):=by rw[h2];push_cast;exact this
       omega
      obtain⟨d,hd⟩:∃d:Nat,a.toNat/u.n.per=d:=⟨_,rfl⟩;rw[hd]at L ac g;have an:Hid (∀wq,C 200 #[.agg #[I u.n.blocks,I u.n.per],I a] wq λe w'=>e= .returned (I (d:Int))/\Below wq wq w'):=λwq=>L▸Qg9 u.n.blocks u.n.per a wq O O O O K.1 K.2;have⟨ao,HP,HC⟩:=Q3 ac g B;clear g hs T hw hpl g1 g2 g3 g4 Z A B hcc x j K l ak ah al am L ac F hd;go_wp2_with fail
      refine(F4 _ _ _ _ _ _ _ R.o).mono ?_;rw[HW.o];rintro e w1 ⟨rfl,b⟩;have⟨V,W⟩:=Q2 (R.o.below b) (HM.o.trans (Moved.below b));clear b;go_wp2_with fail
      refine(Qic _ _ _ _ _ _ _ _ _ V.o M.o).mono ?_;rintro e w2 ⟨rfl,h2,S⟩;have⟨X,M2⟩:=Q2 h2 (W.o.trans S);have c0:=h2.cells.c0;clear h2 S;go_wp2_with fail
      refine(Qxg _ _ _ _ a t X.o.arr af.o ae).mono ?_;rintro e w3 ⟨v,N3,rfl,y,z,i⟩;obtain⟨h3,m3⟩:=X.o.under y z Q.o Y.o;rw[HC.o]at i;have⟨H3,M3,E3⟩:=Q3 h3 (M2.o.trans m3) i;clear h3 m3 i y z;go_wp2_with fail
      refine(Q6g _ _ c 41 v _ E3.o D).mono ?_;rw[aa.o];rintro e w4 ⟨rfl,rfl⟩;have k1:w3.cell? (q,1)=some (I u.n.blocks):=by rw[<-Q.o];exact H3.o.cells.c1
      have k2:w3.cell? (q,2)=some (I u.n.per):=by rw[<-Y.o];exact H3.o.cells.c2
      go_wp2_with fail
      refine(an.o _).mono ?_;rintro e w5 ⟨rfl,ad⟩;have⟨H5,M5⟩:=Q2 (H3.o.below ad) (M3.o.trans (Moved.below ad));clear ad;go_wp2_with fail
      refine(Quz _ _ _ _ _ _ _ _ H5.o (by show _<(u.n.program a t).2.blocks;rw[Q.o];exact ao.o)).mono ?_;rintro e w6 ⟨rfl,h6,m6⟩;have⟨H6,M6⟩:=Q2 h6 (M5.o.trans m6);clear h6 m6;go_wp2_with fail
      go_roundg k
      case measure=>exact Nat.lt_succ_self _
      case rel=>exact⟨_,N3,HP.o,H6.o,M6.o,aj.o⟩
   ·rw[Tg,QqH hw]at g;injection g with g;have⟨HW,ab⟩:=Q2 hw g;clear g hs T hw j;go_wp2_with fail
    refine(F4 _ _ _ _ _ _ _ R.o).mono ?_;rw[HW.o];rintro e w1 ⟨rfl,b⟩;have⟨V,W⟩:=Q2 (R.o.below b) (HM.o.trans (Moved.below b));clear b;go_wp2_with fail
    obtain rfl:=ab.o;go_returns;exact⟨_,N',rfl,V.o,W.o,.inr ⟨by show(61:Int)≠0;decide,[],rfl,U⟩⟩
end st
namespace st
open Go.RowKit er nd we ge pg
attribute [local go_sem ↓] Go.wp_at_zero Go.wp_at_succ
theorem Qhd(s:Sto)(b:Nat):(s.retire b).seq=s.seq:=rfl
theorem Qib{s u:Sto}{a:Int}(h:s.place? =some (u,a)):u.seq=s.seq:=by
 unfold Sto.place? at h;split at h
 ·injection h with h;injection h with h _;rw[<-h];exact P8 s
 ·split at h
  ·injection h with h;injection h with h _;rw[<-h];exact P8 s
  ·exact absurd h U
theorem Quo:∀(f:Nat) (s:Sto) (t:ByteArray) (r:Sto×Int×Int×Bool),Tg f s t=some r->r.1.seq=s.seq
 |0,_,_,_,h=>absurd h (by simp[Tg])
 |f+1,s,t,r,h=>by
  rw[Tg]at h;split at h
  ·injection h with h;rw[<-h]
  ·split at h
   ·injection h with h;rw[<-h];exact P8 s
   ·rename_i u a b;split at h
    ·rw[Quo f _ t r h,Qhd];show u.seq=s.seq;exact Qib b
    ·injection h with h;rw[<-h];show u.seq=s.seq;exact Qib b
def Xv(f:Nat)(s:Sto)(p:Page):Option (Sto×Int×Int):=
 if Jd {p with seq:=0}=false then some (s,0,1)
 else match Tg f s (Kr {p with seq:=s.seq})with
  |none=>none
  |some r=>some (if s.n.ops<r.1.n.ops then {r.1 with seq:=r.1.seq+1}else r.1,if r.2.2.1=0 then r.2.1 else 0,r.2.2.1)
theorem Moved.laid{w w':World}{q:Nat}{sv vv:Value}{N N':Nat->Prop}(h:Moved w q sv vv N w' N')(c:LaidT w)(b:¬foot q sv vv N 0):LaidT w'/\¬foot q sv vv N' 0:=
 ⟨h.keep.cell c b,λa=>by
  rcases a with a|a|a|a
  ·exact b (.inl a)
  ·exact b (.inr (.inl a))
  ·exact b (.inr (.inr (.inl a)))
  ·rcases h.sub 0 a with h2|h2
   ·exact b (.inr (.inr (.inr h2)))
   ·have:=c.lt;omega⟩
theorem Bn{p:Page}(h:Jd {p with seq:=0}=true){n:Int}(a:0<=n)(h1:n<=281474976710655):Jd {p with seq:=n}=true:=by
 simp only[Jd,inB,QzC,QzD]at h ⊢;refine⟨⟨⟨h.1.1.1,h.1.1.2⟩,a,h1⟩,h.2⟩
theorem StoIn.box{w w':World}{q p x:Nat}{sv vv:Value}{N:Nat->Prop}{s:Sto}(h:StoIn w q p sv vv N s)(a:Keep (λk=>k=x) w w')(b:¬foot q sv vv N x):StoIn w' q p sv vv N s:=h.keep a (λk c e=>b (e▸c))
theorem StoIn.lt{w:World}{q p:Nat}{sv vv:Value}{N:Nat->Prop}{s:Sto}(h:StoIn w q p sv vv N s):∀k,foot q sv vv N k->k<w.heap.size:=λk a=>by
 rcases a with rfl|a|a|a
 ·exact h.obj.lt
 ·exact(h.st.lt k a).2
 ·exact(h.va.lt k a).2
 ·obtain⟨pb,pv,vs,ha⟩:=h.arr;exact ha.lt k a
theorem Gc{w:World}{F:Nat->Prop}{l:List (ByteArray×Int)}{v:Value}(h:Cu w F l 0 v):v= .nilIface:=by
 rcases h with⟨_,h⟩|⟨h,_⟩
 ·exact h
 ·exact absurd rfl h
theorem I4{w:World}{F:Nat->Prop}{l:List (ByteArray×Int)}{c:Int}{v:Value}(h:Cu w F l c v)(a:c≠0):∃t x,v= .iface t x:=by
 rcases h with⟨h,_⟩|⟨_,d,b,_⟩
 ·exact absurd h a
 ·exact b.iface
theorem Qc4{F:Nat->Prop}{w w':World}{l:List (ByteArray×Int)}{c:Int}{v:Value}{x:Nat}{t:TypeId}{cs:Array Value}(h:Cu w F l c v)(e:Keep (λk=>k=x) w w')(f:Whole w x t cs)(g:t≠187):Cu w' F l c v:=by
 rcases h with h|⟨i,a,d,hb⟩
 ·exact .inl h
 ·refine .inr ⟨i,a,d.keep e ?_,hb⟩;have:∀(a:List Nat) (l:List (ByteArray×Int)) (v:Value),ErrAt w a l c v->∀b∈a,b≠x:=by
   intro a;induction a with
   |nil=>intro l v _ b hb;simp at hb
   |cons b0 a ih=>
    intro l v h b hb;cases l with
    |nil=>exact h.elim
    |cons s l=>
     obtain⟨_,y,j,m⟩:=h;rcases QqF.1 hb with rfl|hb
     ·exact O3 j f g.symm
     ·exact ih l _ m b hb
  exact this a l v d
def Qp2(q p:Nat)(sv vv:Value)(w:World)(N:Nat->Prop)(r:Sto×Int×Int)(e:Ending)(w':World):Prop:=
 ∃N',e= .returned (.tuple #[I r.2.1,Yk r.2.2])/\StoIn w' q p sv vv N' r.1/\Moved w q sv vv N w' N'
theorem Qpm(w:World)(q p:Nat)(sv vv:Value)(N:Nat->Prop)(s:Sto)(pg:Page)(f:Nat)(r:Sto×Int×Int)(h:StoIn w q p sv vv N s)(Y:LaidT w)(Z:¬foot q sv vv N 0)(i:Xv f s pg=some r)(A:s.n.ops+f<=1000000000000000000)(hq:s.seq<=281474976710655):
  C 207 #[(q,0),pg.val] w (Qp2 q p sv vv w N r):=by
 obtain⟨k,sp,y,sq,b⟩:=pg;show C 207 #[.pointer (some ⟨q,0,none⟩),.agg #[I k,I sp,I y,I sq,.string b]] w _;have m:=Q7h ((QqA w.heap.size w).alloc N0 (.cells #[I k,I sp,I y,I 0,.string b] 32));have H1:=Q7h (h.below m.o);have hs:=Qhy q;have⟨HL,K,B⟩:=Q3 Y Z h.lt;have aa:=Q7h (λL=>F3 ⟨k,sp,y,0,b⟩ L);unfold Xv at i;simp only at i;cases hm:Jd ⟨k,sp,y,0,b⟩
 ·rw[hm,QqH rfl]at i;injection i with i;have l:=Q7h i;have ab:=Q7h (λL=>Ew ⟨k,sp,y,0,b⟩ L hm);clear h Y Z i hm A;go_in
  go_wp2_with fail
  refine(ab.o _).mono ?_;rintro e w2 ⟨rfl,g⟩;have⟨u,T⟩:=Q2 (m.o.trans (g.mono m.o.size)) (H1.o.below g);clear g;go_wp2_with fail
  obtain rfl:=l.o;go_returns;exact⟨N,rfl,T.o,Moved.below u.o⟩
 ·rw[hm,QqE U]at i;cases hp:Tg f s (Kr ⟨k,sp,y,s.seq,b⟩)with
  |none=>rw[hp]at i;exact absurd i U
  |some r1=>
   rw[hp]at i;injection i with i;have⟨l,HP,HO,x⟩:=Q4 i hp A (Quo _ _ _ _ hp);have ac:=h.q0;have M:=Bn (p:=⟨k,sp,y,0,b⟩) hm h.q0 hq;have⟨HM,ad⟩:=Q2 hm M;have Q:=(Xy hm).2.2.2.2.2.2.2.2;have ae:Hid ((Kr ⟨k,sp,y,s.seq,b⟩).size<=9223372036854775807):=by show _<=_;rw[Ce];simp only at Q ⊢;omega
   clear h Y Z i hp A hm M Q;go_in
   go_wp2_with fail
   refine(aa.o _ HM.o).mono ?_;rintro e w2 ⟨rfl,g⟩;have⟨T,u⟩:=Q2 (H1.o.below g) (m.o.trans (g.mono m.o.size));have R:=Whole.below (Whole.new w 32 #[I k,I sp,I y,I 0,.string b]) g U;obtain⟨⟨q0,q1,q2,q3,q4⟩,z0,z1,z2,z3,z4⟩:=Q9 R;have c11:=T.o.cells.c11;have af:Hid (¬foot q sv vv N w.heap.size):=λhf=>by have:=B.o _ hf;omega
   have ag:=Q7h (T.o.box (Keep.set1 w2 w.heap.size 3 (I s.seq)) af.o);have M3:Hid (Moved w q sv vv N (w2.setCell (w,3) (I s.seq)) N):=Moved.below (u.o.setCell (p:=(w,3)) N0 _);have ah:=Q7h (λL=>F3 ⟨k,sp,y,s.seq,b⟩ L ad.o);clear g R;go_wp2_with fail
   refine(ah.o _).mono ?_;rintro e w4 ⟨rfl,z⟩;have⟨H4,M4⟩:=Q2 (ag.o.below z) (M3.o.trans (Moved.below z));have c0:=H4.o.cells.c0;clear z q0 q1 q2 q3 q4 z0 z1 z2 z3 z4;go_wp2_with fail
   refine(Qyk _ _ _ _ H4.o.arr).mono ?_;rintro e w5 ⟨rfl,rfl⟩;go_wp2_with fail
   refine(Qqu _ _ _ _ _ _ _ _ f r1 H4.o HP.o HO.o ae.o).mono ?_;rintro e w6 ⟨v,V,rfl,F,m6,e6⟩;obtain⟨s1,a,c,wr⟩:=r1;simp only at F e6 x l;have⟨W,X,t⟩:=Q3 F (M4.o.trans m6) e6;have d0:=F.cells.c0;have ak:=F.cells.c11;have al:=F.obj.fz 11;have ai:s1.seq<=281474976710655:=by rw[show s1.seq=s.seq from x.o];exact hq
   have aj:0<=s1.seq:=by rw[show s1.seq=s.seq from x.o];exact ac
   have⟨H7,M7⟩:=Q2 (F.setSeq (s1.seq+1) O O) (X.o.setQ 11 (I (s1.seq+1)));clear F m6 e6;go_wp2_with fail
   refine(Qyk _ _ _ _ W.o.arr).mono ?_;rintro e w5 ⟨rfl,rfl⟩;by_cases S:s.n.ops<s1.n.ops
   ·rw[QqH S]at l;have⟨LL,t⟩:=Q2 (M7.o.laid HL.o K.o).1 (Qc4 t.o (Keep.set1 _ q 11 (I (s1.seq+1))) W.o.obj D);by_cases d:c=0
    ·subst d;obtain rfl:=Gc t.o;go_wp2_with fail
     go_returns;exact⟨V,by rw[<-l.o];simp[Yk],by rw[<-l.o];exact H7.o,M7.o⟩
    ·have H:=Q7h d;obtain⟨tv,xv,rfl⟩:=I4 t.o d;clear d;go_wp2_with fail
     refine(Qk9 _ _ c _ _ t.o LL.o).mono ?_;rintro e w8 ⟨rfl,j⟩;have⟨H8,M8⟩:=Q2 (H7.o.below j) (M7.o.trans (Moved.below j));clear j;go_wp2_with fail
     go_returns;exact⟨V,by rw[<-l.o];simp[Yk,H.o],by rw[<-l.o];exact H8.o,M8.o⟩
   ·rw[QqE S]at l;have LL:=Q7h (X.o.laid HL.o K.o).1;by_cases d:c=0
    ·subst d;obtain rfl:=Gc t.o;go_wp2_with fail
     go_returns;exact⟨V,by rw[<-l.o];simp[Yk],by rw[<-l.o];exact W.o,X.o⟩
    ·have H:=Q7h d;obtain⟨tv,xv,rfl⟩:=I4 t.o d;clear d;go_wp2_with fail
     refine(Qk9 _ _ c _ _ t.o LL.o).mono ?_;rintro e w8 ⟨rfl,j⟩;have⟨H8,M8⟩:=Q2 (W.o.below j) (X.o.trans (Moved.below j));clear j;go_wp2_with fail
     go_returns;exact⟨V,by rw[<-l.o];simp[Yk,H.o],by rw[<-l.o];exact H8.o,M8.o⟩
def Tj:ByteArray:=⟨#[97,112,112,101,110,100]⟩
def Q7n(q p:Nat)(sv vv:Value)(w:World)(N:Nat->Prop)(key:Int)(r:Sto×Int×Int)(e:Ending)(w':World):Prop:=
 ∃v N',e= .returned (.tuple #[I r.2.1,v])/\StoIn w' q p sv vv N' r.1/\Moved w q sv vv N w' N'/\Cu w' (foot q sv vv N') [(Tj,key)] r.2.2 v
theorem Qog(w:World)(q p:Nat)(sv vv:Value)(N:Nat->Prop)(s:Sto)(pg:Page)(f:Nat)(r:Sto×Int×Int)(h:StoIn w q p sv vv N s)(m:LaidT w)(F:¬foot q sv vv N 0)(H:Xv f s pg=some r)(K:s.n.ops+f<=1000000000000000000)(hq:s.seq<=281474976710655):
  C 145 #[(q,0),pg.val] w (Q7n q p sv vv w N pg.key r):=by
 obtain⟨k,sp,y,sq,b⟩:=pg;show C 145 #[.pointer (some ⟨q,0,none⟩),.agg #[I k,I sp,I y,I sq,.string b]] w _;have g:=Q7h ((QqA w.heap.size w).alloc N0 (.cells #[I k,I sp,I y,I sq,.string b] 32));have Q:=Q7h (h.below g.o);have t:Hid (¬foot q sv vv N w.heap.size):=λu=>by have:=h.lt _ u;omega
 have⟨R,S⟩:=Q2 (Whole.new w 32 #[I k,I sp,I y,I sq,.string b]) (Qpm (w.alloc (.cells #[I k,I sp,I y,I sq,.string b] 32)) q p sv vv N s ⟨k,sp,y,sq,b⟩ f r Q.o (m.below g.o m.lt) F H K hq);clear h m F H K hq;go_in
 go_wp2_with fail
 refine S.o.mono ?_;rintro e w2 ⟨L,rfl,h2,v⟩;obtain⟨s1,a,c⟩:=r;have⟨x,M⟩:=Q2 h2 (Moved.trans (Moved.below g.o) v);have i:=R.o.keep v.keep t.o;obtain⟨⟨q0,q1,q2,T,V⟩,W,X,Y,Z,A⟩:=Q9 i;clear h2 v i q0 q1 T V W X Y Z A;by_cases d:c=0
 ·subst d;go_wp2_with (go_at_call 57;refine(Ij _ _ _).mono ?_;rintro e B ⟨rfl,rfl⟩)
  go_returns;exact⟨_,L,rfl,x.o,M.o,.inl ⟨rfl,rfl⟩⟩
 ·have z:=Q7h d;have j:Yk c= .iface 28 (I c):=QqE d;simp only[j];clear d j;go_wp2_with (go_at_call 57;refine(Dx _ _ _ _ _).mono ?_;rintro e B ⟨rfl,rfl⟩)
  have l:Below w2 w2 (w2.alloc (.cells #[.string Tj,I y,.iface 28 (I c)] 187)):=B0.alloc N0 _;go_returns;exact⟨_,L,rfl,x.o.below l,M.o.trans (Moved.below l),.inr ⟨z.o,[w2.heap.size],⟨rfl,_,Whole.new _ _ _,rfl⟩,λb hb u=>by have:=x.o.lt _ u;have:=QzG.1 hb;omega⟩⟩
end st
namespace st
open Go.RowKit er nd we ge pg
attribute [local go_sem ↓] Go.wp_at_zero Go.wp_at_succ
def Qj(n:Nand)(a:Int):Page×Int:=if(n.read a).1=0 then Xh (n.read a).2 else(Zqn,(n.read a).1)
theorem Qrr{u:ByteArray}{p:Page}{e:Int}(h:Xf u=(p,e))(a:e≠0):p=Zqn:=by
 unfold Xf at h;split at h
 ·exact(congrArg Prod.fst h).symm
 ·split at h
  ·exact(congrArg Prod.fst h).symm
  ·split at h
   ·exact(congrArg Prod.fst h).symm
   ·split at h
    ·exact(congrArg Prod.fst h).symm
    ·exact absurd (congrArg Prod.snd h).symm a
theorem Qux{t:ByteArray}{p:Page}{e:Int}(h:Xh t=(p,e))(a:e≠0):p=Zqn:=by
 unfold Xh at h;split at h
 ·exact Qrr h a
 ·exact(congrArg Prod.fst h).symm
theorem Rw(w:World)(q p:Nat)(sv vv:Value)(N:Nat->Prop)(s:Sto)(a:Int)(h:StoIn w q p sv vv N s)(hl:LaidT w)(X:(s.n.read a).2.size<=70368744177664):
  C 190 #[(q,0),I a] w λe w'=>e= .returned (.tuple #[(Qj s.n a).1.val,Yk (Qj s.n a).2])/\Below w w w':=by
 obtain⟨c,t,K⟩:∃c t,s.n.read a=(c,t):=⟨_,_,rfl⟩;have L:=Q7h (λwq hq=>Qoj wq N p s.n a hq);unfold Qj;rw[K]at L X ⊢;simp only at L X ⊢;have m:=Q7h ((QqA w.heap.size w).alloc N0 (.cells #[I 0,I 0,I 0,I 0,.string ⟨#[]⟩] 32));have⟨Y,HL⟩:=Q2 (h.below m.o) (hl.below m.o hl.lt);have c0:=Y.o.cells.c0;have F:=Q7h m.o.size;clear h hl K;by_cases r:c=0
 ·subst r;rw[QqH rfl];obtain⟨pg,e,z⟩:∃pg e,Xh t=(pg,e):=⟨_,_,rfl⟩;have Z:=Q7h (λwq=>Xj t wq X);rw[z]at Z ⊢;obtain⟨k,sp,y,sq,b⟩:=pg;simp only[Page.val]at Z ⊢;clear X;by_cases M:e=0
  ·subst M;clear z;go_in
   go_wp2_with fail
   refine(L.o _ Y.o.arr).mono ?_;rintro e w1 ⟨v,rfl,d,g⟩;obtain rfl:=Gc g;have⟨i,j⟩:=Q2 (Jr d) (m.o.trans (d.mono F.o));clear d g;go_wp2_with fail
   refine(Z.o _).mono ?_;rintro e w2 ⟨rfl,f⟩;have⟨u,l⟩:=Q2 ((Whole.below i.o f i.o.lt).alloc (.cells #[I k,I sp,I y,I sq,.string b] 32)) (j.o.trans (f.mono j.o.size));have H:=Q7h (l.o.alloc l.o.size (.cells #[I k,I sp,I y,I sq,.string b] 32));obtain⟨⟨q0,q1,A,B,q4⟩,z0,z1,z2,z3,z4⟩:=Q9 u.o;clear f;go_wp2_with fail
   obtain⟨Q,R,S,T,V⟩:=Zr u.o (I k) (I sp) (I y) (I sq) (.string b);refine QqG (v:= .tuple #[.agg #[I k,I sp,I y,I sq,.string b],.nilIface]) (by simp[results,Tryz.results190,go_sem,Q,R,S,T,V]) rfl ⟨rfl,Zv H.o N0 _ _ _ _ _⟩
  ·have aa:(⟨k,sp,y,sq,b⟩:Page)=Zqn:=Qux z M;injection aa with p1 p2 p3 p4 p5;subst p1 p2 p3 p4 p5;have x:Yk e= .iface 28 (I e):=QqE M;rw[x];have ac:(e==0)=false:=by simpa using M
   clear z M x;go_in
   go_wp2_with fail
   refine(L.o _ Y.o.arr).mono ?_;rintro ez w1 ⟨v,rfl,d,g⟩;obtain rfl:=Gc g;have⟨i,j⟩:=Q2 (Jr d) (m.o.trans (d.mono F.o));clear d g;go_wp2_with fail
   refine(Z.o _).mono ?_;rintro ez w2 ⟨rfl,f⟩;have⟨u,l⟩:=Q2 ((Whole.below i.o f i.o.lt).alloc (.cells #[I 0,I 0,I 0,I 0,.string ⟨#[]⟩] 32)) (j.o.trans (f.mono j.o.size));have H:=Q7h (l.o.alloc l.o.size (.cells #[I 0,I 0,I 0,I 0,.string ⟨#[]⟩] 32));obtain⟨⟨q0,q1,A,B,q4⟩,z0,z1,z2,z3,z4⟩:=Q9 u.o;clear f;go_wp2_with fail
   obtain⟨Q,R,S,T,V⟩:=Zr u.o (I 0) (I 0) (I 0) (I 0) (.string ⟨#[]⟩);refine QqG (v:= .tuple #[.agg #[I 0,I 0,I 0,I 0,.string ⟨#[]⟩],.iface 28 (I e)]) (by simp[results,Tryz.results190,go_sem,Q,R,S,T,V]) rfl ⟨rfl,Zv H.o N0 _ _ _ _ _⟩
 ·rw[QqE r];have x:Yk c= .iface 28 (I c):=QqE r;rw[x];clear x;have ad:=Q7h r;go_in
  go_wp2_with fail
  refine(L.o _ Y.o.arr).mono ?_;rintro e w1 ⟨v,rfl,d,g⟩;obtain⟨tv,xv,rfl⟩:=I4 g r;have⟨i,j,HE,ab⟩:=Q4 (Jr d) (m.o.trans (d.mono F.o)) g (HL.o.below d HL.o.lt);obtain⟨⟨q0,q1,A,B,q4⟩,z0,z1,z2,z3,z4⟩:=Q9 i.o;clear d g r;go_wp2_with fail
  refine(Qk9 _ _ c _ _ HE.o ab.o).mono ?_;rintro e w2 ⟨rfl,f⟩;have⟨W,l⟩:=Q2 (Whole.below i.o f i.o.lt) (j.o.trans (f.mono j.o.size));clear q0 q1 A B q4 z0 z1 z2 z3 z4;obtain⟨⟨q0,q1,A,B,q4⟩,z0,z1,z2,z3,z4⟩:=Q9 W.o;clear f;go_wp2_with fail
  obtain⟨Q,R,S,T,V⟩:=Zr W.o (I 0) (I 0) (I 0) (I 0) (.string ⟨#[]⟩);refine QqG (v:= .tuple #[Zqn.val,.iface 28 (I c)]) (by simp[results,Tryz.results190,go_sem,Zqn,Page.val,Q,R,S,T,V]) rfl ⟨rfl,Zv l.o N0 _ _ _ _ _⟩
theorem Ni{w:World}{g:Nat}{t:TypeId}{a b c d e:Value}(h:Whole w g t #[a,b,c,d,e]):
  w.drew.cell? (g,0)=some a/\w.drew.cell? (g,1)=some b/\w.drew.cell? (g,2)=some c/\w.drew.cell? (g,3)=some d/\w.drew.cell? (g,4)=some e:=
 have hb:=(QqA w.heap.size w).drew;⟨Qq hb (h.cell 0),Qq hb (h.cell 1),Qq hb (h.cell 2),Qq hb (h.cell 3),Qq hb (h.cell 4)⟩
theorem Qst{w:World}{b:Nat}{op:ByteArray}{k c:Int}(h:Whole w b 187 #[.string op,I k,.iface 28 (I c)]):ErrAt w.drew [b] [(op,k)] c (.iface 183 (b,0)):=
 ⟨rfl,_,h.keep ((Keep.refl (λ_=>False) w).drew) id,rfl⟩
theorem Qws(w:World)(g:Nat)(a b c d e:Value):Keep (λk=>k=g) w (((((w.setCell ⟨g,0,none⟩ a).setCell ⟨g,1,none⟩ b).setCell ⟨g,2,none⟩ c).setCell ⟨g,3,none⟩ d).setCell ⟨g,4,none⟩ e):=
 Keep.setCell (p:=⟨g,4,none⟩) (Keep.setCell (p:=⟨g,3,none⟩) (Keep.setCell (p:=⟨g,2,none⟩) (Keep.setCell (p:=⟨g,1,none⟩) (Keep.set1 w g 0 a) (.inl rfl) b) (.inl rfl) c) (.inl rfl) d) (.inl rfl) e
def Qbc:ByteArray:=⟨#[114,101,97,100]⟩
theorem Lp(w:World)(q p:Nat)(sv vv:Value)(N:Nat->Prop)(s:Sto)(a:Int)(h:StoIn w q p sv vv N s)(K:LaidT w)(L:(s.n.read a).2.size<=70368744177664):
  C 148 #[(q,0),I a] w λe w'=>∃v,e= .returned (.tuple #[(Qj s.n a).1.val,v])/\Below w w w'/\Cu w' (λ_=>False) [(Qbc,a)] (Qj s.n a).2 v:=by
 have d:=Q7h ((QqA w.heap.size w).alloc N0 (.cells #[I 0,I 0,I 0,I 0,.string ⟨#[]⟩] 32));have B:=Q7h (h.below d.o);have⟨M,r⟩:=Q2 (Rw _ q p sv vv N s a B.o (K.below d.o K.lt) L) (Rw w q p sv vv N s a h K L);have hs:=Qhy q;obtain⟨pg,c,t⟩:∃pg c,Qj s.n a=(pg,c):=⟨_,_,rfl⟩;rw[t]at M r ⊢;obtain⟨k,sp,y,sq,b⟩:=pg;simp only[Page.val]at M r ⊢;clear t h K L;go_in
 go_wp2_with fail
 refine M.o.mono ?_;rintro e w1 ⟨rfl,i⟩;have⟨j,u⟩:=Q2 (Jr i) (d.o.trans (i.mono d.o.size));have⟨l,m,f⟩:=Q3 (j.o.alloc (.cells #[I k,I sp,I y,I sq,.string b] 32)) (u.o.alloc u.o.size (.cells #[I k,I sp,I y,I sq,.string b] 32)) (Whole.new w1 32 #[I k,I sp,I y,I sq,.string b]);clear i;have x:¬w1.heap.size=w.heap.size:=by have:=j.o.lt;omega
 have z:=Q7h x;clear x;have A:=Q7h (Ni f.o);by_cases g:c=0
 ·subst g;simp only[show Yk (0:Int)=Value.nilIface from rfl];obtain⟨⟨q0,q1,q2,q3,q4⟩,z0,z1,z2,z3,z4⟩:=Q9 l.o;have Q:=Q7h (Ni (f.o.keep (Qws (w1.alloc (.cells #[I k,I sp,I y,I sq,.string b] 32)) w.heap.size (I k) (I sp) (I y) (I sq) (.string b)) z.o));go_wp2_with fail
  go_region_held3 (λw'=>w'.cell? (w1,0)=some (I k)/\w'.cell? (w1,1)=some (I sp)/\w'.cell? (w1,2)=some (I y)/\w'.cell? (w1,3)=some (I sq)/\w'.cell? (w1,4)=some (.string b)) (first|with_reducible exact A.o|with_reducible exact Q.o) ((go_at_call 57;refine(Ij _ _ _).mono ?_;rintro e w3 ⟨rfl,rfl⟩))
  go_wp2_with fail
  obtain⟨R,S,T,V,W⟩:=Zr l.o (I k) (I sp) (I y) (I sq) (.string b);refine QqG (v:= .tuple #[.agg #[I k,I sp,I y,I sq,.string b],.nilIface]) (by simp[results,Tryz.results148,go_sem,R,S,T,V,W]) rfl ⟨_,rfl,(Zv m.o N0 _ _ _ _ _).drew,.inl ⟨rfl,rfl⟩⟩
 ·have X:=Q7h g;have F:Yk c= .iface 28 (I c):=QqE g;simp only[F];clear g F;have⟨H,Y⟩:=Q2 (l.o.alloc (.cells #[.string ⟨#[114,101,97,100]⟩,I a,.iface 28 (I c)] 187)) (m.o.alloc m.o.size (.cells #[.string ⟨#[114,101,97,100]⟩,I a,.iface 28 (I c)] 187));obtain⟨⟨q0,q1,q2,q3,q4⟩,z0,z1,z2,z3,z4⟩:=Q9 H.o;have Q:Hid (((w1.alloc (.cells #[I k,I sp,I y,I sq,.string b] 32)).alloc (.cells #[.string ⟨#[114,101,97,100]⟩,I a,.iface 28 (I c)] 187)).drew.cell? (w1,0)=some (I k)/\((w1.alloc (.cells #[I k,I sp,I y,I sq,.string b] 32)).alloc (.cells #[.string ⟨#[114,101,97,100]⟩,I a,.iface 28 (I c)] 187)).drew.cell? (w1,1)=some (I sp)/\((w1.alloc (.cells #[I k,I sp,I y,I sq,.string b] 32)).alloc (.cells #[.string ⟨#[114,101,97,100]⟩,I a,.iface 28 (I c)] 187)).drew.cell? (w1,2)=some (I y)/\((w1.alloc (.cells #[I k,I sp,I y,I sq,.string b] 32)).alloc (.cells #[.string ⟨#[114,101,97,100]⟩,I a,.iface 28 (I c)] 187)).drew.cell? (w1,3)=some (I sq)/\((w1.alloc (.cells #[I k,I sp,I y,I sq,.string b] 32)).alloc (.cells #[.string ⟨#[114,101,97,100]⟩,I a,.iface 28 (I c)] 187)).drew.cell? (w1,4)=some (.string b)):=Ni (f.o.alloc (.cells #[.string ⟨#[114,101,97,100]⟩,I a,.iface 28 (I c)] 187));have SC:Hid ((((((((w1.alloc (.cells #[I k,I sp,I y,I sq,.string b] 32)).alloc (.cells #[.string ⟨#[114,101,97,100]⟩,I a,.iface 28 (I c)] 187)).setCell (w,0) (I k)).setCell (w,1) (I sp)).setCell (w,2) (I y)).setCell (w,3) (I sq)).setCell (w,4) (.string b)).drew.cell? (w1,0)=some (I k)/\(((((((w1.alloc (.cells #[I k,I sp,I y,I sq,.string b] 32)).alloc (.cells #[.string ⟨#[114,101,97,100]⟩,I a,.iface 28 (I c)] 187)).setCell (w,0) (I k)).setCell (w,1) (I sp)).setCell (w,2) (I y)).setCell (w,3) (I sq)).setCell (w,4) (.string b)).drew.cell? (w1,1)=some (I sp)/\(((((((w1.alloc (.cells #[I k,I sp,I y,I sq,.string b] 32)).alloc (.cells #[.string ⟨#[114,101,97,100]⟩,I a,.iface 28 (I c)] 187)).setCell (w,0) (I k)).setCell (w,1) (I sp)).setCell (w,2) (I y)).setCell (w,3) (I sq)).setCell (w,4) (.string b)).drew.cell? (w1,2)=some (I y)/\(((((((w1.alloc (.cells #[I k,I sp,I y,I sq,.string b] 32)).alloc (.cells #[.string ⟨#[114,101,97,100]⟩,I a,.iface 28 (I c)] 187)).setCell (w,0) (I k)).setCell (w,1) (I sp)).setCell (w,2) (I y)).setCell (w,3) (I sq)).setCell (w,4) (.string b)).drew.cell? (w1,3)=some (I sq)/\(((((((w1.alloc (.cells #[I k,I sp,I y,I sq,.string b] 32)).alloc (.cells #[.string ⟨#[114,101,97,100]⟩,I a,.iface 28 (I c)] 187)).setCell (w,0) (I k)).setCell (w,1) (I sp)).setCell (w,2) (I y)).setCell (w,3) (I sq)).setCell (w,4) (.string b)).drew.cell? (w1,4)=some (.string b)):=Ni ((f.o.alloc (.cells #[.string ⟨#[114,101,97,100]⟩,I a,.iface 28 (I c)] 187)).keep (Qws ((w1.alloc (.cells #[I k,I sp,I y,I sq,.string b] 32)).alloc (.cells #[.string ⟨#[114,101,97,100]⟩,I a,.iface 28 (I c)] 187)) w.heap.size (I k) (I sp) (I y) (I sq) (.string b)) z.o);have Z:Hid (Whole (((((((w1.alloc (.cells #[I k,I sp,I y,I sq,.string b] 32)).alloc (.cells #[.string ⟨#[114,101,97,100]⟩,I a,.iface 28 (I c)] 187)).setCell (w,0) (I k)).setCell (w,1) (I sp)).setCell (w,2) (I y)).setCell (w,3) (I sq)).setCell (w,4) (.string b)) (w1.heap.size+1) 187 #[.string ⟨#[114,101,97,100]⟩,I a,.iface 28 (I c)]):=(Whole.new' (w1.alloc (.cells #[I k,I sp,I y,I sq,.string b] 32)) _ _ _ U).keep (Qws ((w1.alloc (.cells #[I k,I sp,I y,I sq,.string b] 32)).alloc (.cells #[.string ⟨#[114,101,97,100]⟩,I a,.iface 28 (I c)] 187)) w.heap.size (I k) (I sp) (I y) (I sq) (.string b)) (by have:=j.o.lt;omega);go_wp2_with fail
  go_region_held3 (λw'=>w'.cell? (w1,0)=some (I k)/\w'.cell? (w1,1)=some (I sp)/\w'.cell? (w1,2)=some (I y)/\w'.cell? (w1,3)=some (I sq)/\w'.cell? (w1,4)=some (.string b)) (first|with_reducible exact A.o|with_reducible exact Q.o|with_reducible exact SC.o) ((go_at_call 57;refine(Dx _ _ _ _ _).mono ?_;rintro e w3 ⟨rfl,rfl⟩))
  go_wp2_with fail
  obtain⟨R,S,T,V,W⟩:=Zr H.o (I k) (I sp) (I y) (I sq) (.string b);refine QqG (v:= .tuple #[.agg #[I k,I sp,I y,I sq,.string b],.iface 183 (.pointer (some ⟨w1.heap.size+1,0,none⟩))]) (by simp[results,Tryz.results148,go_sem,R,S,T,V,W]) rfl ⟨_,rfl,(Zv Y.out (QqB _) _ _ _ _ _).drew,.inr ⟨X.out,[w1.heap.size+1],Qst Z.out,λ_ _=>id⟩⟩
end st
namespace st
open Go.RowKit er nd we ge pg
attribute [local go_sem ↓] Go.wp_at_zero Go.wp_at_succ
def Ov(n:Nand)(b:Int):Int:=if n.badB b=true then 3 else if n.next b=0 then 0 else 2
theorem Qgl(w:World)(p:Nat)(N:Nat->Prop)(n:Nand)(b:Int)(h:NandAt w N p n):
  C 123 #[(p,0),I b] w λe w'=>e= .returned (I (Ov n b))/\∃k,w'=w.drewN k:=by
 have a:=Q7h (Qp1 w N p n b h);have f:Hid (∀k,C 189 #[(p,0),I b] (w.drewN k) λe w'=>e= .returned (I (n.next b))/\∃m,w'=(w.drewN k).drewN m):=λk=>Ui _ N p n b (h.below (below_drewN B0 k));cases hb:n.badB b
 ·obtain⟨x,c⟩:=Zx (n.next b);rw[c]at f;cases hz:(x==0)
  ·have d:Hid (Ov n b=2):=by show _=_;unfold Ov;rw[hb,c,QqE U,QqE (by simpa using hz)]
   rw[hb]at a;clear h hb c;go_in
   go_wp2_with fail
   refine a.o.mono ?_;rintro e w1 ⟨rfl,k,rfl⟩;go_wp2_with fail
   refine(f.o k).mono ?_;rintro e w1 ⟨rfl,m,rfl⟩;go_wp2_with fail
   go_ret
   exact⟨by rw[d.o];rfl,_,rfl⟩
  ·have d:Hid (Ov n b=0):=by show _=_;unfold Ov;rw[hb,c,QqE U,QqH (by simpa using hz)]
   rw[hb]at a;clear h hb c;go_in
   go_wp2_with fail
   refine a.o.mono ?_;rintro e w1 ⟨rfl,k,rfl⟩;go_wp2_with fail
   refine(f.o k).mono ?_;rintro e w1 ⟨rfl,m,rfl⟩;go_wp2_with fail
   go_ret
   exact⟨by rw[d.o];rfl,_,rfl⟩
 ·have d:Hid (Ov n b=3):=by show _=_;unfold Ov;rw[hb,QqH rfl]
  rw[hb]at a;clear h hb;go_in
  go_wp2_with fail
  refine a.o.mono ?_;rintro e w1 ⟨rfl,k,rfl⟩;go_wp2_with fail
  go_ret
  exact⟨by rw[d.o];rfl,_,rfl⟩
structure Fnd where
 at_:Int
 p:Page
def Qv(l:List Fnd):List Value:=l.flatMap λf=>[I f.at_,I f.p.kind,I f.p.space,I f.p.key,I f.p.seq,.string f.p.body]
def Ql(n:Nand):Nat->List Fnd
 |0=>[]
 |k+1=>if(Qj n k).2=0 then Ql n k++[⟨k,(Qj n k).1⟩]else Ql n k
theorem Hg(n:Nand):∀k,(Ql n k).length<=k
 |0=>by simp[Ql]
 |k+1=>by have:=Hg n k;unfold Ql;split<;>simp<;>omega
theorem Fb(l:List Fnd)(f:Fnd):Qv (l++[f])=Qv l++[I f.at_,I f.p.kind,I f.p.space,I f.p.key,I f.p.seq,.string f.p.body]:=by simp[Qv]
theorem Qdv:(Tryz.prog.info? 109).map (λi=>(i.zero,i.size,i.bytes))=some (some (.agg #[I 0,I 0,I 0,I 0,I 0,.string ⟨#[]⟩]),6,56):=J
theorem Qy4(w:World)(q p:Nat)(sv vv:Value)(N:Nat->Prop)(s:Sto)(h:StoIn w q p sv vv N s)(K:LaidT w)(ht:∀a,(s.n.read a).2.size<=70368744177664):
  C 124 #[(q,0)] w λe w'=>∃A c,e= .returned (.slice A (Ql s.n (s.n.blocks*s.n.per)).length c)/\w'.ownsRow w.heap.size 109 6 (.slice A (Ql s.n (s.n.blocks*s.n.per)).length c) (Ql s.n (s.n.blocks*s.n.per)).length (Qv (Ql s.n (s.n.blocks*s.n.per)))/\Below w w w':=by
 have⟨H,HL,HT⟩:=Q3 h K ht;have L:=h.arr.ok;obtain⟨m,W⟩:∃m:Nat,s.n.blocks*s.n.per=m:=⟨_,rfl⟩;have ak:m<=2048:=by
  rw[<-W];calc s.n.blocks*s.n.per<=64*32:=QgS L.b1 L.p1
   _=2048:=rfl
 have c3:=h.cells.c3;rw[show(s.n.blocks:Int)*s.n.per=(m:Int) by rw[<-W];push_cast;rfl]at c3;rw[W];have al:(m:Int)<=2048:=O;obtain⟨i0,Z,aa,ab,ac⟩:=QzX Qdv;clear h K ht L W;go_in
 go_wp2_with fail
 go_loopw [3,12] (λnv i wr=>∃(j:Nat) (B:Option Addr) (d:Nat),j<=m/\i= I j/\nv= .slice B (Ql s.n j).length d/\Hid (wr.ownsRow w.heap.size 109 6 (.slice B (Ql s.n j).length d) (Ql s.n j).length (Qv (Ql s.n j)))/\Hid (Below w w wr)) (λ_ i _=>m-(intOf i).toNat)
 case atStart=>exact⟨0,none,0,QqM _,rfl,rfl,⟨rfl,.inl ⟨rfl,rfl⟩⟩,QqA _ _⟩
 case round=>
  obtain⟨j,B,d,hj,rfl,rfl,X,f⟩:=hrel;by_cases am:j<m
  ·have an:(j:Int)<(m:Int):=O;have t:=Q7h (Rw wr q p sv vv N s (j:Int) (H.o.below f.o) (HL.o.below f.o HL.o.lt) (HT.o _));obtain⟨pg,e,M⟩:∃pg e,Qj s.n (j:Int)=(pg,e):=⟨_,_,rfl⟩;have ad:=Hg s.n j;rw[M]at t;have v:Hid (Ql s.n (j+1)=if e=0 then Ql s.n j++[⟨j,pg⟩]else Ql s.n j):=by show _=_;simp only[Ql,M]
   obtain⟨k,sp,y,sq,b⟩:=pg;simp only[Page.val]at t;clear M;by_cases Y:e=0
   ·subst Y;simp only[show Yk (0:Int)=Value.nilIface from rfl]at t;rw[QqH rfl]at v;obtain⟨l,K⟩:=Zx ((Ql s.n j).length);rw[K]at X ad;have Q:=Q7h K;simp only[K];clear K;go_wp2_with fail
    refine t.o.mono ?_;rintro e w2 ⟨rfl,g⟩;have⟨x,z,ae⟩:=Q3 (f.o.trans (g.mono f.o.size)) (own_below X.o g) (Whole.new w2 32 #[I k,I sp,I y,I sq,.string b]);have⟨af,R⟩:=Q2 ((z.o.alloc (.cells #[I k,I sp,I y,I sq,.string b] 32)).alloc (.cells #[I (j:Int),I k,I sp,I y,I sq,.string b] 109)) (x.o.alloc x.o.size (.cells #[I k,I sp,I y,I sq,.string b] 32));have ag:Hid (∀(j':Nat) (u:Value),([I (j:Int),I k,I sp,I y,I sq,.string b]:List Value)[j']? =some u->((w2.alloc (.cells #[I k,I sp,I y,I sq,.string b] 32)).alloc (.cells #[I (j:Int),I k,I sp,I y,I sq,.string b] 109)).cell? (((w2.heap.size+1,0):Addr).add j')=some u):=World.news_of_block (by simpa using QzY (w2.alloc (.cells #[I k,I sp,I y,I sq,.string b] 32)) (.cells #[I (j:Int),I k,I sp,I y,I sq,.string b] 109));have F:∀u∈([I (j:Int),I k,I sp,I y,I sq,.string b]:List Value),u.oneCell'=true:=by simp[Value.oneCell']
    have S:=Q7h F;have ah:Hid (w.heap.size<=((w2.alloc (.cells #[I k,I sp,I y,I sq,.string b] 32)).alloc (.cells #[I (j:Int),I k,I sp,I y,I sq,.string b] 109)).heap.size):=by show _<=_;have:=x.o.size;simp only[QqW];omega
    obtain⟨⟨p0,p1,p2,p3,p4⟩,_⟩:=Q9 ae.o;clear g F;go_wp2_with (at_builtin;go_must (refine QkW _ rfl (.tmp 23) (.tmp 27) 104 rfl w.heap.size 109 i0 _ 6 56 Tryz.underlying104 Z aa ab ac rfl O (.slice B l d) l (Qv (Ql s.n j)) rfl af.o (w2.heap.size+1,0) 1 1 [I (j:Int),I k,I sp,I y,I sq,.string b] rfl rfl ag.o S.o (by simp only[maxLen];omega) O ah.o ?_;intro v2 w5 r T _;have⟨ai,aj⟩:=Q2 r (R.o.trans (Qy (z.o.alloc (.cells #[I k,I sp,I y,I sq,.string b] 32)) T R.o.size));obtain⟨A2,c2,e2⟩:=Qk r;subst e2;clear r T))
    go_roundw
    case rel=>exact⟨j+1,A2,c2,O,by go_num,by rw[v.o,QqK,Q.o];rfl,by rw[v.o,QqK,Q.o,Fb];exact ai.o,aj.o⟩
    case measure=>simp[intOf];omega
   ·have V:Yk e= .iface 28 (I e):=QqE Y;rw[V]at t;rw[QqE Y]at v;clear V Y;go_wp2_with fail
    refine t.o.mono ?_;rintro e w2 ⟨rfl,g⟩;have⟨x,z⟩:=Q2 (f.o.trans (g.mono f.o.size)) (own_below X.o g);clear g;go_wp2_with fail
    go_roundw
    case rel=>exact⟨j+1,B,d,O,by go_num,by rw[v.o],by rw[v.o];exact z.o.alloc _,x.o.alloc x.o.size _⟩
    case measure=>simp[intOf];omega
  ·obtain rfl:j=m:=O;go_wp2_with fail
   go_ret
   exact⟨B,d,rfl,X.o,f.o⟩
end st
namespace st
open Go.RowKit er nd we ge pg
attribute [local go_sem ↓] Go.wp_at_zero Go.wp_at_succ
theorem Qbu{w:World}{g:Nat}{t:TypeId}{x0 x1 i x3 x4 x5 x6 k x8 j f x11:Value}(h:Whole w g t #[x0,x1,i,x3,x4,x5,x6,k,x8,j,f,x11])(a b c d e:Value):
  Whole (((((w.setCell (g,3) a).setCell (g,4) b).setCell (g,5) c).setCell (g,6) d).setCell (g,7) e) g t #[x0,x1,i,a,b,c,d,e,x8,j,f,x11]:=by
 simpa using((((h.set 3 a).set 4 b).set 5 c).set 6 d).set 7 e
theorem Qnb:(Tryz.prog.info? 3).map (λi=>(i.zero,i.size,i.bytes))=some (some (I 0),1,8):=J
def Qkq(n:Nand):Nat->List Int
 |0=>[]
 |k+1=>Qkq n k++[Ov n k]
theorem Hq(n:Nand):∀k,(Qkq n k).length=k
 |0=>rfl
 |k+1=>by simp[Qkq,Hq n k]
theorem Qi0(n:Nat):(madeCells (Value.int .i64 0).cells (n*1)).toList=ints (List.replicate n 0):=by
 simp only[madeCells,ints,QkN,Array.toList_map,Array.toList_range,List.map_replicate];apply List.ext_getElem
 ·simp
 ·intro i h1 h2;simp[Value.cells,Nat.mod_one]
structure OpR(w wr:World)(q p:Nat)(n:Nand)(x3 x4 x5 x6:Int)(sv vv:Value)(j:Nat):Prop where
 obj:Whole wr q 121 #[(p,0),I n.blocks,I n.per,I x3,I x4,I x5,I x6,I (x6+1),sv,vv,I (-1),I 0]
 st:wr.ownsRow w.heap.size 3 1 sv j (ints (Qkq n j))
 va:wr.ownsRow w.heap.size 3 1 vv n.blocks (ints (List.replicate n.blocks 0))
 bel:Below w w wr
 hq:w.heap.size<=q
 apart:∀g,sv.ownBlock=some g->vv.ownBlock≠some g
theorem OpR.next{w wr l:World}{q p:Nat}{n:Nand}{x3 x4 x5 x6:Int}{B:Option Addr}{vv:Value}{j d g cap k:Nat}(h:OpR w wr q p n x3 x4 x5 x6 (.slice B j d) vv j)
  (s:l.ownsRow w.heap.size 3 1 (.slice (some (g,0)) (j+1) cap) (j+1) (ints (Qkq n j)++[I (Ov n j)])) (b:((wr.drewN k).alloc (.cells #[I (Ov n j)] 3)).grownBy l (Value.slice B j d).ownBlock)
  (a:(Value.slice B j d).ownBlock=some g\/g=wr.heap.size+1):OpR w (l.setCell (q,8) (.slice (some (g,0)) (j+1) cap)) q p n x3 x4 x5 x6 (.slice (some (g,0)) (j+1) cap) vv (j+1):=by
 have m:=(((Keep.refl _ _).drewN k).alloc _).grown b (λg b=>.inl b);have o:(Value.slice B j d).ownBlock≠some q:=λe=>own_ne h.st h.obj D e.symm;have r:=h.obj.keep m o;have f:=Keep.set1 l q 8 (.slice (some (g,0)) (j+1) cap);have i:=Qa h.va m (λg b e=>h.apart g e b);refine⟨by simpa using r.set 8 _,?_,Qa i f (λg b e=>?_),?_,h.hq,?_⟩
 ·have:=Qa s f (λt c e=>own_ne s r D (by rw[<-e,c]));simpa[Qkq,ints]using this
 ·exact own_ne i r D (by rw[<-e,b])
 ·refine(h.bel.trans (m.toBelow h.bel.size (λx u=>(h.st.lt x u).1))).setCell (p:=(q,8)) h.hq _
 ·intro t c;have:g=t:=by simpa[Value.ownBlock]using c
  subst this;rcases a with a|a
  ·exact h.apart g a
  ·intro v;have:=(h.va.lt g v).2;omega
def Pp(n:Nand):Sto:=⟨n,Qkq n n.blocks,List.replicate n.blocks 0,-1,0⟩
theorem Qkm{w:World}{N:Nat->Prop}{p:Nat}{n:Nand}(h:NandAt w N p n):∀k,N k->k<w.heap.size:=by
 obtain⟨pb,pv,vs,h⟩:=h;exact h.lt
theorem OpR.made{w wr:World}{q p:Nat}{n:Nand}{x3 x4 x5 x6:Int}{sv vv:Value}{N:Nat->Prop}(h:OpR w wr q p n x3 x4 x5 x6 sv vv n.blocks)(h3:(n.blocks:Int)*n.per=x3)(h4:(n.blocks:Int)/8=x4)(h5:Ye n.blocks n.per=x5)(g:Dm n.blocks n.per=x6)(c:NandAt wr N p n)(b:∀k,N k->k<w.heap.size):StoIn wr q p sv vv N (Pp n):=by
 subst h3 h4 h5 g;have hb:=c.ok.b0;have d:(Pp n).state.length=n.blocks:=Hq _ _;have f:(Pp n).valid.length=n.blocks:=by simp[Pp]
 refine⟨h.obj,?_,?_,c,d,f,by show(-1:Int)<=-1;omega,by show(-1:Int)<(n.blocks:Int);omega,by show(0:Int)<=0;omega,by show(0:Int)<=_;omega,λhq=>by have:=b _ hq;have:=h.hq;omega,λk a=>⟨λhq=>by have:=b _ hq;have:=(h.st.lt k a).1;omega,λe=>own_ne h.st h.obj D (by rw[<-e,a])⟩,λk a=>⟨λhq=>by have:=b _ hq;have:=(h.va.lt k a).1;omega,λe=>own_ne h.va h.obj D (by rw[<-e,a])⟩,h.apart⟩
 ·rw[d];exact Qr h.st (QqM _)
 ·rw[f];exact Qr h.va (QqM _)
theorem Qhe{u:ByteArray}{p:Page}(h:Xf u=(p,0)):Jd p=true:=by
 unfold Xf at h;split at h
 ·exact absurd (congrArg Prod.snd h) (by show ¬(3:Int)=0;decide)
 ·split at h
  ·exact absurd (congrArg Prod.snd h) (by show ¬(3:Int)=0;decide)
  ·split at h
   ·exact absurd (congrArg Prod.snd h) (by show ¬(3:Int)=0;decide)
   ·split at h
    ·exact absurd (congrArg Prod.snd h) (by show ¬(3:Int)=0;decide)
    ·rename_i a;have:=congrArg Prod.fst h;simp only at this;rw[<-this];simpa using a
theorem Qrs{t:ByteArray}{p:Page}(h:Xh t=(p,0)):Jd p=true:=by
 unfold Xh at h;split at h
 ·exact Qhe h
 ·rename_i h2;exact absurd (congrArg Prod.snd h) h2
theorem R3{n:Nand}{a:Int}(h:(Qj n a).2=0):Jd (Qj n a).1=true:=by
 unfold Qj at h ⊢;split at h
 ·rename_i h1;rw[QqH h1];exact Qrs (p:=(Xh (n.read a).2).1) (Prod.ext rfl h)
 ·rename_i h1;exact absurd h h1
theorem I6(n:Nand):∀(k:Nat) (f:Fnd),f∈Ql n k->Jd f.p=true
 |0,f,h=>by simp[Ql]at h
 |k+1,f,h=>by
  unfold Ql at h;split at h
  ·rename_i h2;rcases QqJ.1 h with h|h
   ·exact I6 n k f h
   ·simp at h;subst h;exact R3 h2
  ·exact I6 n k f h
def Ur(l:List Fnd):Nat->Int
 |0=>0
 |j+1=>match l[j]? with
  |some f=>max (Ur l j) (f.p.seq+1)
  |none=>Ur l j
theorem Qqq(l:List Fnd)(h:∀f∈l,Jd f.p=true):∀j,0<=Ur l j/\Ur l j<=281474976710656
 |0=>⟨QxL _,by show(0:Int)<=_;omega⟩
 |j+1=>by
  have a:=Qqq l h j;unfold Ur;split
  ·rename_i f b;have:=Xy (h f (QqL b));omega
  ·exact a
def Ju(n:Nand):Sto:={Pp n with seq:=Ur (Ql n (n.blocks*n.per)) (Ql n (n.blocks*n.per)).length}
def Qfr(n:Nand)(p:Nat)(N:Nat->Prop)(w:World)(e:Ending)(w':World):Prop:=
 ∃q sv vv,e= .returned (.tuple #[(q,0),.nilIface])/\StoIn w' q p sv vv N (Ju n)/\Below w w w'/\(∀k,foot q sv vv (λ_=>False) k->w.heap.size<=k)
theorem Y4:∀(l:List Fnd) (j:Nat) (f:Fnd),l[j]? =some f->
  (Qv l)[j*6]? =some (I f.at_)/\(Qv l)[j*6+1]? =some (I f.p.kind)/\(Qv l)[j*6+2]? =some (I f.p.space)/\(Qv l)[j*6+3]? =some (I f.p.key)/\(Qv l)[j*6+4]? =some (I f.p.seq)/\(Qv l)[j*6+5]? =some (.string f.p.body)
 |[],_,_,h=>by simp at h
 |x::r,0,m,h=>by
  simp at h;subst h;simp[Qv]
 |x::r,j+1,m,h=>by
  have a:=Y4 r j m (by simpa using h);have e:Qv (x::r)= I x.at_::I x.p.kind::I x.p.space::I x.p.key::I x.p.seq::.string x.p.body::Qv r:=by simp[Qv]
  rw[e,show(j+1)*6=j*6+6 from by omega];simpa using a
theorem Qdd(w:World)(N:Nat->Prop)(p:Nat)(n:Nand)(h:NandAt w N p n)(hd:n.down=false)(hl:LaidT w)(ht:∀a,(n.read a).2.size<=70368744177664):
  C 59 #[(p,0)] w (Qfr n p N w):=by
 have hn:=Qw2 p;have HD:=Q7h (Qoy w N p n h);rw[hd]at HD;have⟨H,HL,HT⟩:=Q3 h hl ht;have F:=h.ok;have bh:=F.b0;have aH:=F.b1;have bi:=F.p0;have aK:=F.p1;clear h hd hl ht;go_in
 go_wp2_with (go_at_call 45;refine HD.o.mono ?_;rintro e w3 ⟨rfl,rfl⟩)
 refine(Qzw w N p n H.o).mono ?_;rintro e w1 ⟨rfl,ah⟩;have s:=Q7h ah;clear ah;go_wp2_with fail
 refine(Pe n.blocks n.per _ O O O O).mono ?_;rintro e w2 ⟨rfl,W⟩;have b:=Q7h (Whole.below (Whole.new w1 121 #[(p,0),I n.blocks,I n.per,I 0,I 0,I 0,I 0,I 0,.slice none 0 0,.slice none 0 0,I (-1),I 0]) W U);have ai:=Q7h ((s.o.alloc s.o.size (.cells #[(p,0),I n.blocks,I n.per,I 0,I 0,I 0,I 0,I 0,.slice none 0 0,.slice none 0 0,I (-1),I 0] 121)).trans (W.mono (by have:=s.o.size;simp;omega)));clear W;obtain⟨x3,X⟩:∃x:Int,(n.blocks:Int)*n.per=x:=⟨_,rfl⟩;obtain⟨x4,Y⟩:∃x:Int,(n.blocks:Int)/8=x:=⟨_,rfl⟩;obtain⟨x5,Z⟩:∃x:Int,Ye n.blocks n.per=x:=⟨_,rfl⟩;obtain⟨x6,aa⟩:∃x:Int,Dm n.blocks n.per=x:=⟨_,rfl⟩;rw[X,Y,Z,aa];have⟨aL,aM,aN,aQ⟩:=Q4 X Y Z aa;clear X Y Z aa;have aR:=Q7h (Qbu b.o (I x3) (I x4) (I x5) (I x6) (I (x6+1)));have c1:=b.o.cell 1;have c3:=b.o.cell 3;have c4:=b.o.cell 4;have c5:=b.o.cell 5;have c6:=b.o.cell 6;have c7:=b.o.cell 7;have z3:=b.o.fz 3;have z4:=b.o.fz 4;have z5:=b.o.fz 5;have z6:=b.o.fz 6;have z7:=b.o.fz 7;obtain⟨i0,aj,ak,al,am⟩:=QzX Qnb;have Q:Hid ((((((w2.setCell (w1,3) (I x3)).setCell (w1,4) (I x4)).setCell (w1,5) (I x5)).setCell (w1,6) (I x6)).setCell (w1,7) (I (x6+1))).heap.size=w2.heap.size):=by show _=_;simp[size_set]
 have an:Hid (Below w w (((((w2.setCell (w1,3) (I x3)).setCell (w1,4) (I x4)).setCell (w1,5) (I x5)).setCell (w1,6) (I x6)).setCell (w1,7) (I (x6+1)))):=by
  have hq:=s.o.size;exact((((ai.o.setCell (p:=(w1,3)) hq _).setCell (p:=(w1,4)) hq _).setCell (p:=(w1,5)) hq _).setCell (p:=(w1,6)) hq _).setCell (p:=(w1,7)) hq _
 go_wp2_with ((at_make;refine wpList_make_full _ rfl _ _ 39 rfl w2.heap.size 3 i0 (I 0) 1 Tryz.underlying39 aj ak al _ _ _ _ n.blocks (by rfl) (by rfl) (by rfl) (by rfl) (by rw[am];omega) (by unfold maxLen;omega) (QyV Q.o.symm) ?_;intro w4 m t;have⟨aS,v⟩:=Q2 m t;have y:=aR.o.grown t U;have ao:=Q7h y;have d9:=y.cell 9;have y9:=y.fz 9;have d1:=y.cell 1;clear m t y))
 have aT:Hid (OpR w (w4.setCell (w1,9) (.slice (some (w2,0)) n.blocks n.blocks)) w1.heap.size p n x3 x4 x5 x6 (.slice none 0 0) (.slice (some (w2,0)) n.blocks n.blocks) 0):=by
  have hq:=s.o.size;have aV:Below w w w4:=an.o.trans (Below.mono ⟨v.o.os,v.o.tape,v.o.output,v.o.size,λi hi=>v.o.block i hi U⟩ an.o.size);have aW:=Keep.set1 w4 w1.heap.size 9 (.slice (some (w2,0)) n.blocks n.blocks);have ho:=aS.o;rw[Q.o]at ho;have ap:w4.ownsRow w.heap.size 3 1 (.slice (some (w2,0)) n.blocks n.blocks) n.blocks (ints (List.replicate n.blocks 0)):=by
   have:=Qr ho ai.o.size;rw[Qi0]at this;exact this
  refine⟨by simpa using ao.o.set 9 _,⟨rfl,.inl ⟨rfl,rfl⟩⟩,Qa ap aW (λg t e=>own_ne ap ao.o D (by rw[<-e,t])),aV.setCell (p:=(w1,9)) hq _,hq,λg t=>by simp[Value.ownBlock]at t⟩
 clear c1 c3 c4 c5 c6 c7 z3 z4 z5 z6 z7 d9 y9 d1;go_loopw [48] (λi wr=>∃(j:Nat) (B:Option Addr) (d:Nat),j<=n.blocks/\i= I j/\Hid (OpR w wr w1.heap.size p n x3 x4 x5 x6 (.slice B j d) (.slice (some (w2,0)) n.blocks n.blocks) j)) (λi _=>n.blocks-(intOf i).toNat)
 case atStart=>exact⟨0,none,0,QqM _,rfl,aT.o⟩
 case round=>
  obtain⟨j,B,d,hj,rfl,q⟩:=hrel;by_cases aq:j<n.blocks
  ·have aX:(j:Int)<(n.blocks:Int):=O;have k8:=q.o.obj.cell 8;have bj:∀(R:Nat) (o:Obj),((wr.drewN R).alloc o).cell? (w1,8)=some (.slice B j d):=λR o=>Qq ((below_drewN (QqA wr.heap.size wr) R).alloc (below_drewN (QqA wr.heap.size wr) R).size o) k8;have bl:∀(R:Nat),(wr.drewN R).cell? (w1,8)=some (.slice B j d):=λR=>Qq (below_drewN (QqA wr.heap.size wr) R) k8;have aY:=Q7h ((H.o.below q.o.bel).below (QqA wr.heap.size wr).drew);obtain⟨x,hx⟩:=Zx (Ov n (j:Int));have HX:=Q7h hx;have aZ:=Q7h (λk=>(own_below q.o.st (below_drewN B0 k)).alloc (.cells #[I x] 3));have aA:Hid (∀(k j':Nat) (u:Value),[Value.int .i64 x][j']? =some u->((wr.drewN k).alloc (.cells #[I x] 3)).cell? (((wr,0):Addr).add j')=some u):=λk=>World.news_of_block (w:=(wr.drewN k).alloc (.cells #[I x] 3)) (QzY (wr.drewN k) _);have aB:Hid (∀k,w.heap.size<=((wr.drewN k).alloc (.cells #[I x] 3)).heap.size):=λk=>((below_drewN q.o.bel k).alloc (below_drewN q.o.bel k).size _).size;have a0:Hid (∀(k:Nat) (w6:World),((wr.drewN k).alloc (.cells #[I x] 3)).grownBy w6 (Value.slice B j d).ownBlock->w6.cell? (w1,8)=some (.slice B j d)/\w6.frozen? (w1,8)=false):=λk w6 t=>by
    have K:=(((Keep.refl _ _).drewN k).alloc _).grown t (λg t=>.inl t);have hw:=q.o.obj.keep K (λe=>own_ne q.o.st q.o.obj D e.symm);exact⟨hw.cell 8,hw.fz 8⟩
   have S:∀u∈[Value.int .i64 x],u.oneCell'=true:=by simp[Value.oneCell']
   have ar:=Q7h S;clear S hx;go_wp2_with fail
   go_region_law (first|(go_simp;go_at_call 123;refine(Qgl _ p N n (j:Int) aY.o).mono ?_;rw[HX.o];rintro e w5 ⟨rfl,k5,rfl⟩)|(refine step_append_lies _ ?_ (.tmp 55) (.tmp 59) 39 ?_ w.heap.size 3 i0 (I 0) 1 8 Tryz.underlying39 aj ak al am (by rfl) O (.slice B j d) j (ints (Qkq n j)) (by rfl) (aZ.o _) (wr,0) 1 1 [I x] (by rfl) (by rfl) (aA.o _) ar.o O (by unfold maxLen;omega) O (aB.o _) (wr.heap.size+1) U ?_;rfl;rfl;(intro g cap w6 z ab T bf;obtain⟨q6,z6⟩:=a0.o _ w6 ab;have⟨a4,a5,au⟩:=Q3 z ab T;clear z ab T)))
   all_goals
    have a6:=Q7h (q.o.next (by rw[HX.o];exact a4.o) (by rw[HX.o];exact a5.o) au.o);go_wp2_with fail
    go_roundw
    case rel=>exact⟨j+1,some (g,0),cap,O,by go_num,a6⟩
    case measure=>simp[intOf];omega
  ·obtain rfl:j=n.blocks:=O;have HC:=Q7h (q.o.made aL.o aM.o aN.o aQ.o (H.o.below q.o.bel) (Qkm H.o));go_wp2_with fail
   refine(Qy4 _ _ _ _ _ _ _ HC.o (HL.o.below q.o.bel HL.o.lt) HT.o).mono ?_;rintro e w5 ⟨A,c,rfl,m,ac⟩;have⟨H5,ad,a7⟩:=Q3 (HC.o.below ac) m (q.o.bel.trans (ac.mono q.o.bel.size));clear m ac;obtain⟨l,hl⟩:=Zx (Ql n (n.blocks*n.per));have L:=I6 n (n.blocks*n.per);have av:=Hg n (n.blocks*n.per);have a8:n.blocks*n.per<=2048:=by
    calc n.blocks*n.per<=64*32:=QgS aH aK
     _=2048:=rfl
   have a9:Hid (Ju n={Pp n with seq:=Ur l l.length}):=by show _=_;rw[Ju,hl]
   simp only[show(Pp n).n=n from rfl]at ad ⊢;rw[hl]at ad L av ⊢;have⟨ba,bb⟩:=Q2 (Qqq l L) L;have bg:(l.length:Int)<=2048:=O;clear L hl av a8;go_wp2_with fail
   go_loopw [67] (λi wr=>∃(j:Nat),j<=l.length/\i= I j/\Hid (StoIn wr w1.heap.size p (.slice B n.blocks d) (.slice (some (w2,0)) n.blocks n.blocks) N {Pp n with seq:=Ur l j})/\Hid (Below w w wr)/\Hid (wr.ownsRow 0 109 6 (.slice A l.length c) l.length (Qv l))) (λi _=>l.length-(intOf i).toNat)
   case atStart=>exact⟨0,QqM _,rfl,H5.o,a7.o,Qr ad.o (QqM _)⟩
   case round=>
    obtain⟨j,hj,rfl,HS,aw,ae⟩:=hrel;by_cases aq:j<l.length
    ·have aX:(j:Int)<(l.length:Int):=O;obtain⟨f,hf⟩:∃f,l[j]? =some f:=⟨l[j],QqC aq⟩;obtain⟨gf,rfl,_,_,_,r,_⟩:=Qx ae.o O;obtain⟨e0,e1,e2,e3,e4,e5⟩:=Y4 l j f hf;have f0:=r _ _ e0;have f1:=r _ _ e1;have f2:=r _ _ e2;have f3:=r _ _ e3;have f4:=r _ _ e4;have f5:=r _ _ e5;have M:=Xy (bb.o f (QqL hf));have ax:=ba.o j;have af:Hid (Ur l (j+1)=max (Ur l j) (f.p.seq+1)):=by show _=_;rw[Ur,hf]
     obtain⟨sq,ay⟩:=Zx (Ur l j);rw[ay]at HS ax af;obtain⟨fq,az⟩:=Zx f.p.seq;rw[az]at f4 M af;have bm:=M.2.2.2.2.2.2.1;have bn:=M.2.2.2.2.2.2.2.1;have bo:=HS.o.cells.c11;have bp:=HS.o.obj.fz 11;have bq:=HS.o.obj.lt;have⟨bc,be⟩:=Q2 (HS.o.setSeq (max sq (fq+1)) O O) (Keep.set1 wr w1.heap.size 11 (I (max sq (fq+1))));have aF:=Q7h (Qa ae.o be.o (λg t e=>own_ne ae.o HS.o.obj D (by rw[<-e,t])));have V:=Q7h (aw.o.setCell (p:=(w1,11)) s.o.size (I (max sq (fq+1))));have ag:=Q7h (((QqA (wr.setCell (w1,11) (I (max sq (fq+1)))).heap.size (wr.setCell (w1,11) (I (max sq (fq+1))))).alloc N0 (.cells #[I f.at_,I f.p.kind,I f.p.space,I f.p.key,I fq,.string f.p.body] 109)).drew);clear e0 e1 e2 e3 e4 e5 r M ax ay az hf;go_wp2_with fail
     go_region_law (fail)
     all_goals
      go_wp2_with fail
      go_roundw
      case rel=>exact⟨j+1,O,by go_num,by rw[af.o];exact bc.o.below ag.o,V.o.trans (ag.o.mono V.o.size),own_below aF.o ag.o⟩
      case measure=>simp[intOf];omega
    ·obtain rfl:j=l.length:=O;go_wp2_with fail
     go_returns;refine ?_
     refine⟨w1.heap.size,.slice B n.blocks d,.slice (some (w2,0)) n.blocks n.blocks,rfl,by rw[a9.o];exact HS.o,aw.o,λk K=>?_⟩;rcases K with rfl|K|K|K
     ·exact q.o.hq
     ·exact(q.o.st.lt k K).1
     ·exact(q.o.va.lt k K).1
     ·exact K.elim
end st
namespace st
open Go.RowKit er nd we ge pg
def fs:Nand:=Uc 16 8
def s0:Sto:=⟨fs,List.replicate 16 0,List.replicate 16 0,-1,0⟩
def bk(l:List ByteArray)(bad:Bool):Blk:=⟨l,0,bad⟩
def s1(t:ByteArray):Sto:=⟨⟨16,8,bk [t] false::List.replicate 15 (bk [] false),1,[],false⟩,1::List.replicate 15 0,List.replicate 16 0,0,0⟩
def s2(t u:ByteArray)(l:List Mis):Sto:=⟨⟨16,8,bk [t,u] false::List.replicate 15 (bk [] false),2,l,false⟩,1::List.replicate 15 0,List.replicate 16 0,0,1⟩
def pl:List Mis:=[⟨3,2,0,⟨#[]⟩⟩]
def s3(t u v:ByteArray):Sto:=⟨⟨16,8,bk [t,u,spoilt ⟨3,2,0,⟨#[]⟩⟩ v] true::bk [v] false::List.replicate 14 (bk [] false),4,pl,false⟩,3::1::List.replicate 14 0,List.replicate 16 0,1,2⟩
def pg(key:Int)(b:ByteArray):Page:=⟨1,1,key,0,b⟩
def b97:ByteArray:=⟨#[97]⟩
def b98:ByteArray:=⟨#[98]⟩
def b99:ByteArray:=⟨#[99]⟩
def t5:ByteArray:=Kr {pg 5 b97 with seq:=0}
def t6:ByteArray:=Kr {pg 6 b98 with seq:=1}
def t7:ByteArray:=Kr {pg 7 b99 with seq:=2}
def a1:Sto:={s1 t5 with seq:=1}
def a2:Sto:={s2 t5 t6 []with seq:=2}
def a3:Sto:={s3 t5 t6 t7 with seq:=3}
end st
namespace st
open Go.RowKit er nd we ge pg
attribute [local go_sem ↓] Go.wp_at_zero Go.wp_at_succ
def Sto.may(s:Sto)(b:Int):Prop:=0<=b/\b<s.n.blocks/\s.state.getD b.toNat 0=2/\s.valid.getD b.toNat 0=0
instance (s:Sto)(b:Int):Decidable (s.may b):=by unfold Sto.may;infer_instance
end st
namespace vo
open Go.RowKit er st nd pg we ge
def Qie(s:Nand)(page:Int)(t:ByteArray):Int×Nand:=
 if s.down then(9,s)
 else if ¬(0<=page/\page<s.blocks*s.per)then(1,s)
 else
  let i:=page.toNat/s.per;let b:=s.blk i;if b.bad then(41,s)
  else if page.toNat%s.per≠b.pages.length then(40,s)
  else
   let m:=waits s.plan (s.ops+1);if m.kind=1 then(9,{s.count.setB i {b with pages:=b.pages++[spoilt m t]}with down:=true})
   else if m.kind=2 then(41,s.count.setB i {b with pages:=b.pages++[spoilt m t],bad:=true})
   else(0,s.count.setB i {b with pages:=b.pages++[t]})
theorem Q4y(s:Nand)(a:Int)(t:ByteArray)(h:t.size<=128):s.program a t=Qie s a t:=by
 unfold Nand.program Qie;by_cases h1:0<=a/\a<s.blocks*s.per
 ·rw[QqE (show ¬¬(0<=a/\a<s.blocks*s.per/\t.size<=128)from λk=>k ⟨h1.1,h1.2,h⟩),QqE (show ¬¬(0<=a/\a<s.blocks*s.per)from λk=>k h1)]
 ·rw[QqH (show ¬(0<=a/\a<s.blocks*s.per/\t.size<=128)from λk=>h1 ⟨k.1,k.2.1⟩),QqH h1]
def Qhf:Nat->Sto->ByteArray->Option (Sto×Int×Int×Bool)
 |0,_,_=>none
 |f+1,s,t=>
  if Zzh s=true then some (s,0,61,false)
  else match s.place? with
   |none=>some (s.full,0,60,false)
   |some (u,a)=>
    if(Qie u.n a t).1=41 then Qhf f (Sto.retire {u with n:=(Qie u.n a t).2} (a.toNat/u.n.per)) t
    else some ({u with n:=(Qie u.n a t).2},a,(Qie u.n a t).1,true)
theorem Qvh(t:ByteArray)(h:t.size<=128):∀(f:Nat) (s:Sto),Tg f s t=Qhf f s t
 |0,s=>rfl
 |f+1,s=>by
  rw[Tg,Qhf];cases s.place? with
  |none=>rfl
  |some ua=>
   obtain⟨u,a⟩:=ua;simp only[Q4y _ _ _ h,Qvh t h f]
theorem Qlf(f:Nat)(s:Sto)(p:Page)(r:Sto×Int×Int×Bool)(a:Jd {p with seq:=0}=true)(b:Qhf f s (Kr {p with seq:=s.seq})=some r):Xv f s p=some (if s.n.ops<r.1.n.ops then {r.1 with seq:=r.1.seq+1}else r.1,if r.2.2.1=0 then r.2.1 else 0,r.2.2.1):=by
 have hz:(Kr {p with seq:=s.seq}).size<=128:=by
  have:=(Xy a).2.2.2.2.2.2.2.2;rw[Ce];simp only at this ⊢;omega
 unfold Xv;rw[a,QqE U,Qvh _ hz,b]
def emp:Blk:=⟨[],0,false⟩
def nV(l:List ByteArray):Nand:=⟨16,16,⟨l,0,false⟩::List.replicate 15 emp,l.length,[],false⟩
def sV(l:List ByteArray)(vv:List Int):Sto:=⟨nV l,1::List.replicate 15 0,vv,0,l.length⟩
def sE(vv:List Int):Sto:=⟨nV [],List.replicate 16 0,vv,-1,0⟩
theorem Qw6:Uc 16 16=nV []:=J
theorem Q15:Ju (nV [])=sE (List.replicate 16 0):=J
theorem Ql8{p:Page}(h:Jd p=true):(Kr p).size<=128:=by
 have:=(Xy h).2.2.2.2.2.2.2.2;rw[Ce];omega
theorem Q0f:Ye 16 16=10:=D
theorem Q7x(t:ByteArray)(vv:List Int):Qhf 3 (sE vv) t=some ({sV [t] vv with seq:=0},0,0,true):=J
theorem Q7j(t u:ByteArray)(vv:List Int):Qhf 3 (sV [t] vv) u=some ({sV [t,u] vv with seq:=1},1,0,true):=J
theorem Q7k(t u x:ByteArray)(vv:List Int):Qhf 3 (sV [t,u] vv) x=some ({sV [t,u,x] vv with seq:=2},2,0,true):=J
theorem app0(p:Page)(vv:List Int)(h:Jd {p with seq:=0}=true):Xv 3 (sE vv) p=some (sV [Kr {p with seq:=0}] vv,0,0):=by
 rw[Qlf 3 (sE vv) p _ h (Q7x (Kr {p with seq:=0}) vv)];rfl
theorem app1(t:ByteArray)(p:Page)(vv:List Int)(h:Jd {p with seq:=0}=true):Xv 3 (sV [t] vv) p=some (sV [t,Kr {p with seq:=1}] vv,1,0):=by
 rw[Qlf 3 (sV [t] vv) p _ h (Q7j t (Kr {p with seq:=1}) vv)];rfl
theorem Q3z(t u:ByteArray)(p:Page)(vv:List Int)(h:Jd {p with seq:=0}=true):Xv 3 (sV [t,u] vv) p=some (sV [t,u,Kr {p with seq:=2}] vv,2,0):=by
 rw[Qlf 3 (sV [t,u] vv) p _ h (Q7k t u (Kr {p with seq:=2}) vv)];rfl
theorem rd0(t u x:ByteArray):(nV [t,u,x]).read 0=(0,t):=J
theorem rd1(t u x:ByteArray):(nV [t,u,x]).read 1=(0,u):=J
theorem rd2(t u x:ByteArray):(nV [t,u,x]).read 2=(0,x):=J
theorem Qqd{α:Type}{f g:Nat->α}{n:Nat}(h:(List.range n).map f=(List.range n).map g)(i:Nat)(hi:i<n):f i=g i:=by
 have:=congrArg (λl=>l[i]?) h;simpa[QzF,QxV hi]using this
theorem Qig(t u x:ByteArray)(a:Nat)(ha:a<253):((nV [t,u,x]).read ((a+3:Nat):Int)).1=42:=
 Qqd (f:=λa=>((nV [t,u,x]).read ((a+3:Nat):Int)).1) (g:=λ_=>(42:Int)) (n:=253) J a ha
theorem Qva(t u x:ByteArray)(a:Int)(h:¬(0<=a/\a<256)):(nV [t,u,x]).read a=(1,⟨#[]⟩):=by
 unfold Nand.read;rw[QqE (show ¬(nV [t,u,x]).down=true from λe=>by cases e)];exact QqH h
theorem Qml(t u x:ByteArray)(b:t.size<=128)(c:u.size<=128)(d:x.size<=128)(a:Int):((nV [t,u,x]).read a).2.size<=70368744177664:=by
 by_cases h:0<=a/\a<256
 ·obtain⟨m,rfl⟩:∃m:Nat,a=(m:Int):=⟨a.toNat,O⟩;by_cases h3:m<3
  ·rcases(show m=0\/m=1\/m=2 by omega)with rfl|rfl|rfl
   ·exact QqR (QyV (congrArg (λq=>q.2.size) (rd0 t u x))) (show t.size<=70368744177664 by omega)
   ·exact QqR (QyV (congrArg (λq=>q.2.size) (rd1 t u x))) (show u.size<=70368744177664 by omega)
   ·exact QqR (QyV (congrArg (λq=>q.2.size) (rd2 t u x))) (show x.size<=70368744177664 by omega)
  ·obtain⟨q,rfl⟩:∃q,m=q+3:=⟨m-3,O⟩;have e:=Qqd (f:=λa=>(nV [t,u,x]).read ((a+3:Nat):Int)) (g:=λ_=>((42:Int),(⟨#[]⟩:ByteArray))) (n:=253) J q O;exact QqR (QyV (congrArg (λq=>q.2.size) e)) (QqM _)
 ·rw[Qva t u x a h];exact QqM _
theorem Q1l(t u x:ByteArray)(p q r:Page)(b:Xh t=(p,0))(c:Xh u=(q,0))(d:Xh x=(r,0)):Ql (nV [t,u,x]) 256=[⟨0,p⟩,⟨1,q⟩,⟨2,r⟩]:=by
 have s0:Qj (nV [t,u,x]) 0=(p,0):=by unfold Qj;rw[rd0];exact b
 have s1:Qj (nV [t,u,x]) 1=(q,0):=by unfold Qj;rw[rd1];exact c
 have s2:Qj (nV [t,u,x]) 2=(r,0):=by unfold Qj;rw[rd2];exact d
 have h3:Ql (nV [t,u,x]) 3=[⟨0,p⟩,⟨1,q⟩,⟨2,r⟩]:=by
  show(if(Qj (nV [t,u,x]) ((2:Nat):Int)).2=0 then(if(Qj (nV [t,u,x]) ((1:Nat):Int)).2=0 then(if(Qj (nV [t,u,x]) ((0:Nat):Int)).2=0 then[]++[_]else[])++[_]else _)++[_]else _)=_;rw[show((2:Nat):Int)=2 from rfl,show((1:Nat):Int)=1 from rfl,show((0:Nat):Int)=0 from rfl,s0,s1,s2];rfl
 have a:∀m,m<=253->Ql (nV [t,u,x]) (m+3)=Ql (nV [t,u,x]) 3:=by
  intro m;induction m with
  |zero=>intro _;rfl
  |succ m ih=>
   intro a;have e:(Qj (nV [t,u,x]) ((m+3:Nat):Int)).2=42:=by
    unfold Qj;rw[Qig t u x m O,QqE D]
   show(if(Qj (nV [t,u,x]) ((m+3:Nat):Int)).2=0 then _ else _)=_;rw[e,QqE D];exact ih O
 rw[<-h3];exact a 253 N0
end vo
end Go.Proofs.YtfialjmemcobjaaGreatDoor
namespace Go.Proofs.YtfialjmemcobjaaGreatDoor
namespace st
open Go.RowKit er nd we ge pg
attribute [local go_sem ↓] Go.wp_at_zero Go.wp_at_succ
theorem StoIn.setValid{w:World}{q p g n c:Nat}{sv:Value}{N:Nat->Prop}{s:Sto}(h:StoIn w q p sv (.slice (some (g,0)) n c) N s)(a:s.valid.length=n)(b:Nat)(x:Int)(hb:b<n):
  StoIn (w.setCell (g,b) (I x)) q p sv (.slice (some (g,0)) n c) N {s with valid:=s.valid.set b x}:=by
 subst a;have i:=h.dv g rfl;have j:sv.ownBlock≠some g:=λk=>h.dsv g k rfl;have d:=Keep.set1 w g b (I x);have l:=h.va;refine⟨h.obj.keep d (λe=>i.2 e.symm),Qa h.st d (λk f e=>j (e▸f)),?_,h.arr.keep d (λk a e=>i.1 (e▸a)),h.ls,by simpa using h.lv,h.o0,h.o1,h.q0,h.q1,h.dq,h.ds,h.dv,h.dsv⟩;have:=Qim l b (I x) hb;rw[<-ints_set]at this;simpa using this
theorem Moved.setV{w w':World}{q:Nat}{sv vv:Value}{N N':Nat->Prop}(h:Moved w q sv vv N w' N'){g:Nat}(a:vv.ownBlock=some g)(i:Nat)(u:Value):Moved w q sv vv N (w'.setCell (g,i) u) N':=
 ⟨h.keep.setCell (p:=(g,i)) (.inl (.inr (.inr (.inl a)))) u,h.sub⟩
def Qyy(l:List Int):Nat->Nat->List Int
 |_,0=>l
 |k,m+1=>Qyy (l.set k 0) (k+1) m
theorem Qem:∀(m k:Nat) (l:List Int) (i:Nat),k+m<=l.length->(Qyy l k m)[i]? =if k<=i/\i<k+m then some 0 else l[i]?
 |0,k,l,i,_=>by rw[Qyy,QqE O]
 |m+1,k,l,i,h=>by
  rw[Qyy,Qem m (k+1) (l.set k 0) i (by simp;omega)];by_cases h1:i=k
  ·subst h1;rw[QqE O,QqH O];exact QiD O
  ·by_cases h2:k<=i/\i<k+(m+1)
   ·rw[QqH O,QqH h2]
   ·rw[QqE O,QqE h2,QxD O]
theorem Qp3(l:List Int):Qyy l 0 l.length=List.replicate l.length 0:=by
 apply QyR;intro i;rw[Qem _ _ _ _ O,QuD];by_cases h:i<l.length
 ·rw[QqH O,QqH h]
 ·rw[QqE O,QqE h,QkY O]
theorem StoIn.zeros{q p g n c:Nat}{sv:Value}{N:Nat->Prop}:∀(m k:Nat) (w:World) (s:Sto),StoIn w q p sv (.slice (some (g,0)) n c) N s->s.valid.length=n->k+m=n->
  StoIn (w.setCells g k (List.replicate m (I 0))) q p sv (.slice (some (g,0)) n c) N {s with valid:=Qyy s.valid k m}
 |0,k,w,s,h,_,_=>h
 |m+1,k,w,s,h,hn,hk=>by
  rw[List.replicate_succ];exact StoIn.zeros m (k+1) (w.setCell (g,k) (I 0)) {s with valid:=s.valid.set k 0} (h.setValid hn k 0 O) (by simpa using hn) O
theorem Moved.zeros{w:World}{q g n c:Nat}{sv:Value}{N N':Nat->Prop}:∀(m k:Nat) (w':World),Moved w q sv (.slice (some (g,0)) n c) N w' N'->Moved w q sv (.slice (some (g,0)) n c) N (w'.setCells g k (List.replicate m (I 0))) N'
 |0,k,w',h=>h
 |m+1,k,w',h=>by
  rw[List.replicate_succ];exact Moved.zeros m (k+1) _ (h.setV rfl k _)
def Qxj(s:Sto)(a:Int):Int:=if 0<=a/\a<s.n.blocks*s.n.per then a/s.n.per else -1
def Yo(s:Sto)(l:List Int):Nat->List Int
 |0=>List.replicate s.n.blocks 0
 |j+1=>match l[j]? with
  |some a=>if 0<=Qxj s a then(Yo s l j).set (Qxj s a).toNat ((Yo s l j).getD (Qxj s a).toNat 0+1)else Yo s l j
  |none=>Yo s l j
theorem Qis(s:Sto)(l:List Int):∀(j i:Nat) (y:Int),(Yo s l j)[i]? =some y->0<=y/\y<=j
 |0,i,y,h=>by
  rw[Yo,QuD]at h;split at h
  ·injection h with h;omega
  ·exact absurd h U
 |j+1,i,y,h=>by
  rw[Yo]at h;have c:=Qis s l j;cases hl:l[j]? with
  |none=>
   rw[hl]at h;have:=c i y h;omega
  |some a=>
   rw[hl]at h;simp only at h;split at h
   ·rw[QuC]at h;split at h
    ·split at h
     ·rename_i b;injection h with h;have h2:(Yo s l j).getD (Qxj s a).toNat 0=(Yo s l j)[(Qxj s a).toNat]:=by rw[List.getD,QqC b];rfl
      have:=c _ _ (QqC b);omega
     ·exact absurd h U
    ·have:=c i y h;omega
   ·have:=c i y h;omega
def Sto.need(s:Sto)(l:List Int):Sto:={s with valid:=Yo s l l.length}
theorem Q36(w:World):(zeroValue 3).run Tryz.prog w= .ok (I 0) w:=J
def Q3y(w:World)(F:Nat->Prop)(A:Option Addr)(l:List Int):Prop:=l=[]\/∃b off,A=some ⟨b,off,none⟩/\¬F b/\∀j x,l[j]? =some x->w.cell? ⟨b,off+j,none⟩=some (I x)
theorem Qv9(w:World)(q p:Nat)(sv vv:Value)(N:Nat->Prop)(s:Sto)(A:Option Addr)(n c:Nat)(l:List Int)(hn:l.length=n)(ad:n<=1000000)(h:StoIn w q p sv vv N s)(ha:Q3y w (foot q sv vv N) A l):
  C 135 #[.pointer (some ⟨q,0,none⟩),.slice A n c] w λe w'=>e= .returned (.tuple #[])/\StoIn w' q p sv vv N (s.need l)/\Moved w q sv vv N w' N:=by
 have⟨H,HA⟩:=Q2 h ha;have hq:=Qhy q;have k:=h.arr.ok;have ae:=k.b0;have af:=k.b1;have ag:=k.p0;have ah:=k.p1;have u:=h.lv;have v:=h.va;rw[u]at v;obtain⟨A2,c2,rfl⟩:=Qk v;obtain⟨g,rfl,_,_,_,M,Q⟩:=Qx v O;obtain⟨c0,c1,ai,_,_,c8,c9,c10,c11⟩:=h.cells;have R:∀ty,(Builtin.clear_ #[39] ty #[.slice (some ⟨g,0,none⟩) s.n.blocks c2]).run Tryz.prog w= .ok (.tuple #[]) (w.setCells g 0 (List.replicate s.n.blocks (I 0))):=
  λty=>Lib.run_clear_slice w 39 3 ty (I 0) Tryz.underlying39 Q36 rfl rfl g 0 s.n.blocks c2 O (λj hj=>by
   obtain⟨y,S⟩:∃y,s.valid[j]? =some y:=⟨s.valid[j]'O,QqC O⟩;rw[QkG,M j _ (ints_at _ _ _ S)];rfl) (λj hj=>by rw[QkG];exact Q j)
 have HZ:Hid (StoIn (w.setCells g 0 (List.replicate s.n.blocks (I 0))) q p sv (.slice (some ⟨g,0,none⟩) s.n.blocks c2) N {s with valid:=List.replicate s.n.blocks 0}):=by
  have:=StoIn.zeros s.n.blocks 0 w s h u O;rw[show Qyy s.valid 0 s.n.blocks=List.replicate s.n.blocks 0 from by rw[<-u];exact Qp3 _]at this;exact this
 have MZ:Hid (Moved w q sv (.slice (some ⟨g,0,none⟩) s.n.blocks c2) N (w.setCells g 0 (List.replicate s.n.blocks (I 0))) N):=Moved.zeros _ _ _ (Moved.refl _ _ _ _ _);obtain⟨wz,T⟩:∃wz,w.setCells g 0 (List.replicate s.n.blocks (I 0))=wz:=⟨_,rfl⟩;rw[T]at R HZ MZ;clear h M Q T ha k v u;go_enter Tryz.func135,Tryz.ntmps135
 go_wp2_with (simp only[R])
 go_loopw [15] (λi wr=>∃j:Nat,j<=n/\i= I j/\Hid (StoIn wr q p sv (.slice (some ⟨g,0,none⟩) s.n.blocks c2) N {s with valid:=Yo s l j})/\Hid (Moved w q sv (.slice (some ⟨g,0,none⟩) s.n.blocks c2) N wr N)) (λi _=>n-(intOf i).toNat)
 case atStart=>exact⟨0,QqM _,rfl,HZ.out,MZ.out⟩
 case round=>
  obtain⟨j,hj,rfl,K,HM⟩:=hrel;by_cases aj:j<n
  ·have ak:(j:Int)<(n:Int):=O;obtain⟨a,V⟩:∃a,l[j]? =some a:=⟨l[j]'O,QqC O⟩;obtain⟨b,off,rfl,aa,W⟩:∃b off,A=some ⟨b,off,none⟩/\¬foot q sv (.slice (some ⟨g,0,none⟩) s.n.blocks c2) N b/\∀j x,l[j]? =some x->w.cell? ⟨b,off+j,none⟩=some (I x):=by
    rcases HA.out with h|h
    ·rw[h]at V;simp at V
    ·exact h
   have a0:=HM.out.keep.cell (W j a V) aa;obtain⟨d0,d1,d2,_,_,d8,d9,al,am⟩:=K.out.cells;have X:=Q7h V;clear V W;by_cases f:0<=a/\a<(s.n.blocks:Int)*s.n.per
   ·obtain⟨m,hm⟩:∃m:Nat,a/(s.n.per:Int)=(m:Int):=⟨(a/(s.n.per:Int)).toNat,by
     have:0<=a/(s.n.per:Int):=Int.ediv_nonneg f.1 O;omega⟩
    have Y:m<s.n.blocks:=by
     have:a/(s.n.per:Int)<(s.n.blocks:Int):=Int.ediv_lt_of_lt_mul O f.2;omega
    have an:(m:Int)<(s.n.blocks:Int):=O;have L:Hid (∀o,C 200 #[.agg #[I s.n.blocks,I s.n.per],I a] o λe w'=>e= .returned (I (m:Int))/\Below o.heap.size o w'):=λo=>hm▸Qg9 s.n.blocks s.n.per a o O O O O f.1 f.2;have Z:(Yo s l j).length=s.n.blocks:=K.out.lv;have r:=K.out.va;simp only[Z]at r;obtain⟨gx,t,_,_,_,z,F⟩:=Qx r O;obtain rfl:g=gx:=by injection t with t;injection t with t
    obtain⟨y,S⟩:∃y,(Yo s l j)[m]? =some y:=⟨(Yo s l j)[m]'O,QqC O⟩;have b0:=z m _ (ints_at _ _ _ S);have b1:=F m;clear z F t r Z;go_wp2_with fail
    refine(L.out _).mono ?_;rintro e w2 ⟨rfl,d⟩;have B:=Q7h d;have e0:=Qq d b0;have e1:=Yj d b0 b1;have e9:=Qq d d9;clear d;go_wp2_with fail
    have ao:=Qis s l j m y S;have ab:wrap64 (y+1)=y+1:=by unfold wrap64;omega
    have HN:Hid (Yo s l (j+1)=(Yo s l j).set m (y+1)):=by
     show _=_;rw[Yo,X.out];simp only;have ac:Qxj s a=(m:Int):=by unfold Qxj;rw[QqH f];exact hm
     rw[ac,QqH O];have:(m:Int).toNat=m:=O;rw[this,List.getD,S];rfl
    have H2:=Q7h (StoIn.setValid (s:={s with valid:=Yo s l j}) (K.out.below B.out) K.out.lv m (y+1) Y);have M2:=Q7h ((HM.out.trans (Moved.below B.out)).setV (g:=g) rfl m (I (y+1)));rw[ab];exact⟨⟨j+1,O,by go_num,by rw[HN.out];exact H2,M2⟩,by simp[intOf];omega⟩
   ·have L:Hid (∀o,C 200 #[.agg #[I s.n.blocks,I s.n.per],I a] o λe w'=>e= .returned (I (-1))/\Below o.heap.size o w'):=λo=>Qtq s.n.blocks s.n.per a o O O O O O;have HN:Hid (Yo s l (j+1)=Yo s l j):=by
     show _=_;rw[Yo,X.out];simp only;rw[QqE];unfold Qxj;rw[QqE f];decide
    go_wp2_with fail
    refine(L.out _).mono ?_;rintro e w2 ⟨rfl,d⟩;have⟨H2,M2⟩:=Q2 (K.out.below d) (HM.out.trans (Moved.below d));clear d;go_wp2_with fail
    go_roundw
    case rel=>exact⟨j+1,O,by go_num,by rw[HN.out];exact H2,M2⟩
    case measure=>simp[intOf];omega
  ·obtain rfl:j=n:=O;go_wp2_with fail
   go_end0
   exact⟨rfl,by rw[Sto.need,hn];exact K.out,HM.out⟩
end st
end Go.Proofs.YtfialjmemcobjaaGreatDoor
