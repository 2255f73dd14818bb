/- A part of the proof. -/
import Derived.Test.YtfialjmemcobjaaGreatDoorPbDx
set_option maxRecDepth 100000
set_option maxHeartbeats 16000000
set_option linter.unusedVariables false
set_option linter.unusedSimpArgs false
namespace Go.Proofs.YtfialjmemcobjaaGreatDoor
namespace pl
open Go.RowKit er st vo dc
structure SyH(v:Nat)(c:Pt)(X:XL)(V:Vo)(r:Dv):Prop where
 len:r.l.length=X.length
 len8:X.length<=8
 left:Ug r=V.cap-tot (Zd (Zq X))
 cap:0<=r.cap/\r.cap<=1000000000
 sp:∀(i:Nat) (x:Sp×Bl) (y:Spc),X[i]? =some x->r.l[i]? =some y->y.id=x.1.id/\y.size=x.1.size/\(y.s.length:Int)=x.1.used/\y.s.length<=1000/\(0<=y.size/\y.size<=16777216)/\∀z∈y.s,0<=z.at_/\z.at_<=16777216
 rd:∀(i:Nat) (x:Sp×Bl) (y:Spc),X[i]? =some x->r.l[i]? =some y->∀a,0<=a->a<y.size->∀W,VoIn W v c X V->C 24 #[(v,0),I y.id,I a,I 1] W λe w'=>e= .returned (.tuple #[.string (dOf y a),.nilIface])/\Below W W w'
theorem Qba(w:World)(v:Nat)(c:Pt)(X:XL)(V:Vo)(F:Nat->Prop)(rv:Value)(r:Dv)(hv:VoIn w v c X V)(hd:DvAt w F rv r)(hs:SyH v c X V r):
  C 36 #[.pointer (some ⟨v,0,none⟩),rv] w λe w'=>e= .returned (.bool true)/\Below w.heap.size w w':=by
 obtain⟨lv,rfl,hr⟩:=hd.row;obtain⟨A,cc,rfl,_,aw⟩:=hr;have⟨HD,HS⟩:=Q2 hd hs;obtain⟨n,hn⟩:∃n,r.l.length=n:=⟨_,rfl⟩;have aa:X.length=n:=by rw[<-hs.len,hn]
 have bX:n<=8:=by rw[<-aa];exact hs.len8
 rw[hn]at HD ⊢;have HR:Hid (∀(j:Nat) (y:Spc),r.l[j]? =some y->∃g o,A=some ⟨g,o,none⟩/\g<w.heap.size/\Q08 w F g (o+j*3) y):=λj y hy=>by
  obtain⟨g,o,h1,h2,h3⟩:=aw (by have:=(QqD.1 hy).1;omega);exact⟨g,o,h1,hd.lt g h2,h3 j y hy⟩
 have⟨HN,ba⟩:=Q2 hn aa;obtain⟨S,ab⟩:∃q,r.cap=q:=⟨_,rfl⟩;have L:Below w.heap.size w (w.alloc (.cells #[I r.cap,.slice A n cc] 64)):=(QqA _ _).alloc (QqB _) _;have ac:=Whole.new w 64 #[I r.cap,.slice A n cc];obtain⟨w1,ax⟩:∃w1,w.alloc (.cells #[I r.cap,.slice A n cc] 64)=w1:=⟨_,rfl⟩;rw[ax]at L ac;have HK:Hid (∀W,Below w1.heap.size w1 W->W.cell? ⟨w.heap.size,0,none⟩=some (I S)/\W.cell? ⟨w.heap.size,1,none⟩=some (.slice A n cc)):=λW hb=>by
  have:=ac.below hb ac.lt;rw[<-ab];exact⟨this.cell 0,this.cell 1⟩
 have HV:=Q7h (λW hb=>hv.below (L.trans ((hb:Below w1.heap.size w1 W).mono L.size)));have⟨ad,ay⟩:=Q2 L (Qju w1 v c X V (hv.below L));rw[aa]at ay;obtain⟨lf,am⟩:∃q,Ug r=q:=⟨_,rfl⟩;have bb:Hid (∀W,Below w1.heap.size w1 W->C 15 #[.pointer (some ⟨v,0,none⟩)] W λe w'=>e= .returned (I lf)/\Below W.heap.size W w'):=λW hb=>by
  have:=Qoh W v c X V (HV.out W hb);rw[<-hs.left,am]at this;exact this
 have bc:Hid (∀W,Below w1.heap.size w1 W->C 98 #[.agg #[I S,.slice A n cc]] W λe w'=>e= .returned (I lf)/\Below W.heap.size W w'):=λW hb=>by
  have:=Bp W F _ r (HD.out.below (L.trans (hb.mono L.size))) hs.cap;rw[ab,am]at this;exact this
 rw[ab]at ax ⊢;clear hv hd hs aw hn aa L ac ab am;go_enter Tryz.func36,Tryz.ntmps36
 go_wp2_with fail
 refine ay.out.mono ?_;rintro e w2 ⟨v2,rfl,an,az⟩;obtain⟨A2,c2,rfl⟩:=Qk an;have⟨be,h⟩:=Q2 an az;have S2:=Q7h (HK.out _ h.out.drew);clear an az;go_wp2_with fail
 go_region_held3 (λW=>W.cell? ⟨w.heap.size,0,none⟩=some (I S)/\W.cell? ⟨w.heap.size,1,none⟩=some (.slice A n cc)) (first|with_reducible exact S2.out|with_reducible exact S3.out|with_reducible exact S4.out) (first|(go_at_call 15;refine(bb.out _ h.out.drew).mono ?_;rintro ee w3 ⟨rfl,aF⟩;have ae:=Q7h (((QqA w2.heap.size w2).drew).trans aF);have S3:=Q7h (HK.out _ (h.out.trans (ae.out.mono h.out.size)));clear aF)|(go_at_call 98;refine(bc.out _ (h.out.trans (ae.out.mono h.out.size))).mono ?_;rintro ee w4 ⟨rfl,aH⟩;have aK:=Q7h (ae.out.trans (aH.mono ae.out.size));have S4:=Q7h (HK.out _ (h.out.trans (aK.out.mono h.out.size)));clear aH))
 go_wp2_with fail
 go_loopw [6,7,8,9,10,11,12,13,14,15] (λiv _ _ _ _ _ _ _ _ _ wr=>∃i:Nat,i<=n/\iv= I i/\Hid (Below w2.heap.size w2 wr)) (λiv _ _ _ _ _ _ _ _ _ _=>n-(intOf iv).toNat)
 case atStart=>exact⟨0,QqM _,rfl,aK⟩
 case round=>
  obtain⟨i,hi,rfl,HW⟩:=hrel;obtain⟨qb,bf⟩:∃q,wr.heap.size=q:=⟨_,rfl⟩;by_cases bY:i<n
  ·have bg:(i:Int)<n:=O;obtain⟨x,hx⟩:∃x,X[i]? =some x:=⟨_,QqC (by have:=ba.out;omega)⟩;obtain⟨y,hy⟩:∃y,r.l[i]? =some y:=⟨_,QqC (by have:=HN.out;omega)⟩;obtain⟨g,o,rfl,hg,sv,a1,a2,a3,a4⟩:=HR.out i y hy;obtain⟨e1,e2,e3,e4,e5,e6⟩:=HS.out.sp i x y hx hy;have af:Hid (Below w1.heap.size w1 wr):=h.out.trans (HW.out.mono h.out.size);have Q:Hid (Below w.heap.size w wr):=ad.out.trans (af.out.mono ad.out.size);have aL:=Q7h (HS.out.rd i x y hx hy);have b1:=Qq Q.out a1;have b2:=Qq Q.out a2;have b3:=Qq Q.out a3;have bh:=Q7h (a4.below Q.out);obtain⟨A3,c3,rfl,a5,a6⟩:=a4;have aM:=QqL hx;have aN:(X.map (·.1.id))[i]? =some y.id:=by rw[QzF,hx,e1];rfl
   have ag:∀W,Below w1.heap.size w1 W->C 18 #[.pointer (some ⟨v,0,none⟩),I y.id] W λe w'=>e= .returned (.tuple #[I y.size,I y.s.length,.nilIface])/\Below W.heap.size W w':=λW hb=>by
    rw[e1,e2,e3];exact V9 _ v c X V x (HV.out _ hb) aM
   obtain⟨p,t,ys⟩:=y;simp only at aL b1 b2 b3 aN ag e4 e5 e6 a6;obtain⟨m,hm⟩:∃m,ys.length=m:=⟨_,rfl⟩;rw[hm]at b3 ag e4;have⟨HM,bi,bj⟩:=Q3 hm ag e6;clear e1 e2 e3 e6 hx hy aM ag hm a1 a2 a3;obtain⟨d,aQ⟩:∃d,wr.alloc (.cells #[I p,I t,.slice A3 m c3] 155)=d:=⟨_,rfl⟩;have ao:Below wr.heap.size wr d:=by rw[<-aQ];exact(QqA _ _).alloc (QqB _) _
   have ah:Whole d qb 155 #[I p,I t,.slice A3 m c3]:=by rw[<-aQ,<-bf];exact Whole.new _ _ _
   have H:=Q7h ao;have ap:Hid (Below w1.heap.size w1 d):=af.out.trans (ao.mono af.out.size);have M:Hid (∀W,Below d.heap.size d W->W.cell? ⟨qb,0,none⟩=some (I p)/\W.cell? ⟨qb,1,none⟩=some (I t)/\W.cell? ⟨qb,2,none⟩=some (.slice A3 m c3)):=λW hb=>by
    have:=ah.below hb ah.lt;exact⟨this.cell 0,this.cell 1,this.cell 2⟩
   obtain⟨x0,x1,x2⟩:=M.out _ (QqA _ _);have bl:Hid (∀W,Below d.heap.size d W->∀(j:Nat) (z:Sec),ys[j]? =some z->∃g o,A3=some ⟨g,o,none⟩/\g<d.heap.size/\W.cell? ⟨g,o+j*2,none⟩=some (I z.at_)):=λW hb j z hz=>by
    obtain⟨g,o,h1,h3,h2⟩:=a6 (by have:=(QqD.1 hz).1;omega);exact⟨g,o,h1,by have:=HD.out.lt g h3;have:=Q.out.size;have:=H.out.size;omega,Qq (Q.out.trans ((H.out.trans (hb.mono H.out.size)).mono Q.out.size)) (h2 j z hz).1⟩
   have bm:qb<d.heap.size:=ah.lt;have bn:Hid (∀W,Below d.heap.size d W->∀a,C 99 #[.agg #[I p,I t,.slice A3 m c3],I a] W λe w'=>e= .returned (.string (dOf ⟨p,t,ys⟩ a))/\Below W.heap.size W w'):=λW hb a=>Qde W F _ ⟨p,t,ys⟩ a (by
    have:=bh.out.below (H.out.trans (hb.mono H.out.size));rw[<-HM.out];exact this)
   clear ao ah a6;obtain⟨z1,z2⟩:=HK.out _ af.out;obtain⟨gi,rfl,_,_,_,bo,_⟩:=Qx be.out O;have i1:wr.cell? ⟨gi,i,none⟩=some (I p):=Qq HW.out (bo i _ (st.ints_at _ i p aN));have aR:Hid (∀W,Below d.heap.size d W->W.cell? ⟨gi,i,none⟩=some (I p)):=λW hb=>Qq (H.out.trans (hb.mono H.out.size)) i1;go_wp2_with fail
   refine(bi.out _ ap.out).mono ?_;rintro e w5 ⟨rfl,aS⟩;have R:=Q7h aS;have S5:Hid (((w5.drew.cell? ⟨qb,0,none⟩=some (I p))/\w5.drew.cell? ⟨qb,1,none⟩=some (I t)/\w5.drew.cell? ⟨qb,2,none⟩=some (.slice A3 m c3))/\w5.drew.cell? ⟨gi,i,none⟩=some (I p)):=⟨M.out _ R.out.drew,aR.out _ R.out.drew⟩;obtain⟨v0,v1,v2⟩:=M.out _ R.out;have v3:=aR.out _ R.out;clear aS i1 x0 x1 x2;go_wp2_with fail
   go_region_held3 (λW=>(W.cell? ⟨qb,0,none⟩=some (I p)/\W.cell? ⟨qb,1,none⟩=some (I t)/\W.cell? ⟨qb,2,none⟩=some (.slice A3 m c3))/\W.cell? ⟨gi,i,none⟩=some (I p)) (with_reducible exact S5.out) (fail)
   have bZ:-9223372036854775808<=t-1/\t-1<=9223372036854775807:=O;go_wp2_with fail
   obtain⟨w6,aq⟩:∃w6,(w5.alloc (.cells #[I 0,I (t-1)] 3)).drew=w6:=⟨_,rfl⟩;have bp:Hid (Below d.heap.size d w6):=by rw[<-aq];exact(R.out.alloc R.out.size _).drew
   have bq:Hid (w6.ownsRow d.heap.size 3 1 (.slice (some ⟨w5.heap.size,0,none⟩) 2 2) 2 (ints [0,t-1])):=by
    refine⟨rfl,.inr ⟨w5.heap.size,2,#[I 0,I (t-1)],rfl,R.out.size,?_,QqB _,by simp only[maxLen];omega,rfl,rfl⟩⟩;rw[<-aq];exact tr.Un (Whole.new w5 _ _)
   obtain⟨i0,aT,aV,aW,aX⟩:=QzX Ex;have⟨br,bs,bu,bv⟩:=Q4 aT aV aW aX;clear aT aV aW aX;rw[aq];go_loopw [11,12] (λav kv w7=>∃(k:Nat) (l:List Int) (K:Nat) (B:Option Addr) (S:Nat),k<=m/\kv= I k/\av= .slice B K S/\K<=2+3*k/\Hid (l.length=K)/\Hid (w7.ownsRow d.heap.size 3 1 (.slice B K S) K (ints l))/\Hid (Below d.heap.size d w7)) (λ_ kv _=>m-(intOf kv).toNat)
   case atStart=>exact⟨0,[0,t-1],2,_,_,QqM _,rfl,rfl,QqB _,rfl,bq,bp⟩
   case round=>
    obtain⟨k,l,K,B,S,hk,rfl,rfl,bA,aY,ai,f⟩:=hrel;obtain⟨t0,t1,t2⟩:=M.out _ f.out;by_cases bB:k<m
    ·have bx:(k:Int)<m:=O;obtain⟨z,hz⟩:∃z,ys[k]? =some z:=⟨_,QqC (by have:=HM.out;omega)⟩;have bz:=bj.out z (QqL hz);obtain⟨g3,o3,rfl,bF,t3⟩:=bl.out _ f.out k z hz;obtain⟨b,_⟩:=z;simp only at bz t3;clear hz;have b0:IntKind.i64.wrap (b-1)=b-1:=by rw[QqN];omega
     have b4:IntKind.i64.wrap (b+1)=b+1:=by rw[QqN];omega
     have T7:Hid (∀W,Below wr.heap.size wr W->W.cell? ⟨qb,2,none⟩=some (.slice (some ⟨g3,o3,none⟩) m c3)/\W.cell? ⟨g3,o3+k*2,none⟩=some (I b)):=λW hb=>⟨Qq hb t2,Qq hb t3⟩;have⟨bH,bK⟩:=Q2 (T7.out _ (QqA _ _).drew) (T7.out _ ((QqA _ _).alloc (QqB _) (.cells #[I (b-1),I b,I (b+1)] 3)).drew);have aj:∀u∈[Value.int .i64 (b-1),I b,I (b+1)],u.oneCell'=true:=by simp[Value.oneCell']
     have aZ:=Q7h aj;have bL:Hid (∀q,d.heap.size<=((wr.alloc (.cells #[I (b-1),I b,I (b+1)] 3)).drewN q).heap.size):=λq=>by
      have:=f.out.size;show _<=(wr.alloc _).heap.size;simp only[QqW];omega
     have bM:Hid (∀(q j':Nat) (u:Value),[Value.int .i64 (b-1),I b,I (b+1)][j']? =some u->((wr.alloc (.cells #[I (b-1),I b,I (b+1)] 3)).drewN q).cell? ((⟨wr.heap.size,0,none⟩:Addr).add j')=some u):=λq=>World.news_of_block (w:=(wr.alloc (.cells #[I (b-1),I b,I (b+1)] 3)).drewN q) (QzY wr _);have bN:Hid (∀w8 q,((wr.alloc (.cells #[I (b-1),I b,I (b+1)] 3)).drewN q).grownBy w8 (Value.slice B K S).ownBlock->w8.cell? ⟨qb,2,none⟩=some (.slice (some ⟨g3,o3,none⟩) m c3)/\w8.cell? ⟨g3,o3+k*2,none⟩=some (I b)):=λw8 q hg=>by
      have aA:∀g' i',g'<d.heap.size->some (⟨g',i',none⟩:Addr).block≠(Value.slice B K S).ownBlock:=λg' i' hl e=>by
       have:=(ai.out.lt g' e.symm).1;omega
      obtain⟨c2,c3⟩:=T7.out _ (below_drewN ((QqA _ _).alloc (QqB _) (.cells #[I (b-1),I b,I (b+1)] 3)) q);exact⟨hg.cell c2 (aA _ _ bm),hg.cell c3 (aA _ _ bF)⟩
     clear aj;have bQ:Hid (∀q,((wr.alloc (.cells #[I (b-1),I b,I (b+1)] 3)).drewN q).ownsRow d.heap.size 3 1 (.slice B K S) K (ints l)):=λq=>own_below (ai.out.alloc _) (below_drewN (QqA _ _) q);go_wp2_with fail
     go_region_held3 (λW=>W.cell? ⟨qb,2,none⟩=some (.slice (some ⟨g3,o3,none⟩) m c3)/\W.cell? ⟨g3,o3+k*2,none⟩=some (I b)) (first|with_reducible exact T8.out|with_reducible exact bH.out|with_reducible exact bK.out) ((refine step_append_lies _ ?_ (.tmp 84) (.tmp 105) 39 ?_ d.heap.size 3 i0 _ 1 8 Tryz.underlying39 br.out bs.out bu.out bv.out (by rfl) O (.slice B K S) K (ints l) (by rfl) (bQ.out _) ⟨wr.heap.size,0,none⟩ 3 3 [I (b-1),I b,I (b+1)] (by rfl) (by rfl) (bM.out _) aZ.out O (by simp only[maxLen];omega) O (bL.out _) _ rfl ?_;rfl;rfl;intro g2 bW w8 ak ar _ _;have⟨bR,bS,T8⟩:=Q3 ak (f.out.trans (Yb ai.out ar f.out.size)) (bN.out _ _ ar);clear ak ar))
     go_wp2_with fail
     refine⟨⟨k+1,l++[b-1,b,b+1],K+3,_,_,O,by rw[QuZ],rfl,O,?_,?_,bS⟩,by simp only[intOf];omega⟩
     ·show(l++[b-1,b,b+1]).length=K+3;rw[QqK,aY.out];rfl
     ·have:=bR.out;unfold ints at this ⊢;rw[QqY];exact this
    ·have bx:¬(k:Int)<m:=O;obtain⟨w7,bT⟩:∃q,q=wr:=⟨_,rfl⟩;subst bT;go_wp2_with fail
     go_loopw [13,14,15] (λjv _ _ w9=>∃j:Nat,j<=K/\jv= I j/\Hid (Below w7.heap.size w7 w9)) (λjv _ _ _=>K-(intOf jv).toNat)
     case atStart=>exact⟨0,QqM _,rfl,QqA _ _⟩
     case round=>
      obtain⟨j,hj,rfl,N⟩:=hrel;by_cases b5:j<K
      ·have bV:(j:Int)<K:=O;obtain⟨a,ha⟩:∃a,l[j]? =some a:=⟨_,QqC (by have:=aY.out;omega)⟩;obtain⟨g7,rfl,_,_,_,aB,_⟩:=Qx ai.out O;have T:Hid (∀W,Below w7.heap.size w7 W->W.cell? ⟨g7,j,none⟩=some (I a)):=λW hb=>Qq hb (aB j _ (st.ints_at l j a ha));have p1:=T.out _ N.out;clear aB ha;by_cases h0:a<0
       ·go_wp2_with fail
        exact⟨⟨j+1,O,by rw[QuZ],N⟩,by simp only[intOf];omega⟩
       ·by_cases h1:t<=a
        ·go_wp2_with fail
         exact⟨⟨j+1,O,by rw[QuZ],N⟩,by simp only[intOf];omega⟩
        ·have al:Hid (Below d.heap.size d wr):=f.out.trans (N.out.mono f.out.size);have a0:=Q7h (aL.out a O O);have a7:=Q7h (λW hb=>bn.out W hb a);obtain⟨D,hD⟩:∃D,dOf ⟨p,t,ys⟩ a=D:=⟨_,rfl⟩;rw[hD]at a0 a7;have U0:Hid (wr.drew.cell? ⟨qb,0,none⟩=some (I p)/\wr.drew.cell? ⟨g7,j,none⟩=some (I a)):=⟨(M.out _ al.out.drew).1,T.out _ N.out.drew⟩;clear hD;go_wp2_with fail
         go_region_held3 (λW=>W.cell? ⟨qb,0,none⟩=some (I p)/\W.cell? ⟨g7,j,none⟩=some (I a)) (first|with_reducible exact U0.out|with_reducible exact U1.out) ((go_at_call 24;refine(a0.out _ (HV.out _ (ap.out.trans (al.out.drew.mono ap.out.size)))).mono ?_;rintro ee wa ⟨rfl,a8⟩;have Y:=Q7h (N.out.trans ((((QqA wr.heap.size wr).drew).trans a8).mono N.out.size));have Z:=Q7h (f.out.trans (Y.out.mono f.out.size));have U1:Hid (wa.cell? ⟨qb,0,none⟩=some (I p)/\wa.cell? ⟨g7,j,none⟩=some (I a)):=⟨(M.out _ Z.out).1,T.out _ Y.out⟩;clear a8))
         have U2:Hid ((wa.drew.cell? ⟨qb,0,none⟩=some (I p)/\wa.drew.cell? ⟨qb,1,none⟩=some (I t)/\wa.drew.cell? ⟨qb,2,none⟩=some (.slice A3 m c3))/\wa.drew.cell? ⟨g7,j,none⟩=some (I a)):=⟨M.out _ Z.out.drew,T.out _ Y.out.drew⟩;go_wp2_with fail
         go_region_held3 (λW=>((W.cell? ⟨qb,0,none⟩=some (I p)/\W.cell? ⟨qb,1,none⟩=some (I t)/\W.cell? ⟨qb,2,none⟩=some (.slice A3 m c3))/\W.cell? ⟨g7,j,none⟩=some (I a))) (first|with_reducible exact U2.out|with_reducible exact U3.out) ((go_at_call 99;refine(a7.out _ Z.out.drew).mono ?_;rintro ee wb ⟨rfl,a9⟩;have au:=Q7h (Y.out.trans ((((QqA wa.heap.size wa).drew).trans a9).mono Y.out.size));have U3:Hid ((wb.cell? ⟨qb,0,none⟩=some (I p)/\wb.cell? ⟨qb,1,none⟩=some (I t)/\wb.cell? ⟨qb,2,none⟩=some (.slice A3 m c3))/\wb.cell? ⟨g7,j,none⟩=some (I a)):=⟨M.out _ (f.out.trans (au.out.mono f.out.size)),T.out _ au.out⟩;clear a9))
         go_wp2_with fail
         exact⟨⟨j+1,O,by rw[QuZ],au⟩,by simp only[intOf];omega⟩
      ·have bV:¬(j:Int)<K:=O;go_wp2_with fail
       exact⟨⟨i+1,O,by rw[QuZ],HW.out.trans ((H.out.trans ((f.out.trans (N.out.mono f.out.size)).mono H.out.size)).mono HW.out.size)⟩,by simp only[intOf];omega⟩
  ·have bg:¬(i:Int)<n:=O;go_wp2_with fail
   go_ret
   exact⟨rfl,ad.out.trans ((h.out.trans (HW.out.mono h.out.size)).mono ad.out.size)⟩
theorem Qpy{B:Nat->Prop}{w0 w:World}{b v:Nat}{c:Pt}{X:XL}{V:Vo}{F:Nat->Prop}{r su:Dv}(id fr n:Int)(d:ByteArray){G:XL->Vo->Prop}(h:PlIn B w0 w b v c X V F r su)(z:∀W,VoIn W v c X V->C 31 #[(v,0),I n] W λe w'=>e= .returned .nilIface/\∃l m q,l.p=c.p/\VoIn w' v l m q/\Mv (vF v c X) W (vF v l m) w'/\G m q):
  C 35 #[(b,0),.agg #[I 8,I id,I fr,I n,.string d]] w (DoRet B w0 b v r su G):=by
 obtain⟨w1,A,ln,cc,f⟩:=Uq h #[I 8,I id,I fr,I n,.string d];have H:=Q7h (h.below f.hb);have K:=f.al;have L:=f.act.cell 0;simp at L;have s:=Q7h (λW hb=>z W (H.o.vo.below hb));have g:Hid (∀W,Keep (vF v c X) w1 W->W.cell? (b,1)=some (v,0)/\W.cell? (w,3)=some (I n)):=λW M=>by
  obtain⟨q1,_,N⟩:=Qfq h f M;exact⟨N,q1.cell 3⟩
 have Q:=Q7h (g.o _ (Keep.refl _ _).drew);clear h z f;go_in
 go_wp2_with fail
 go_region_held3 (λW=>W.cell? (b,1)=some (v,0)/\W.cell? (w,3)=some (I n)) (first|with_reducible exact Q.o|with_reducible exact R.o) ((go_at_call 31;refine(s.o _ B0.drew).mono ?_;rintro S T ⟨rfl,l,m,q,i,j,a,k⟩;have⟨t,u,x,y,R⟩:=Q5 i j a k (g.o _ (Zi a.keep));clear i j a k))
 go_wp2_with fail
 go_ret
 exact⟨rfl,_,_,_,_,(H.o.turned u.o (U8 x.o) t.o),y.o⟩
theorem PlIn.sured{B:Nat->Prop}{w0 w:World}{b v:Nat}{c:Pt}{X:XL}{V:Vo}{F:Nat->Prop}{r su:Dv}(h:PlIn B w0 w b v c X V F r su):∃A ln cc,(∀i,w.frozen? ⟨b,i,none⟩=false)/\w.cell? ⟨b,2,none⟩=some (I r.cap)/\w.cell? ⟨b,3,none⟩=some (.slice A ln cc)/\(∃u o,w.cell? ⟨b,4,none⟩=some u/\w.cell? ⟨b,5,none⟩=some o)/\w.cell? ⟨b,1,none⟩=some (.pointer (some ⟨v,0,none⟩))/\Keep (λk=>k=b) w ((w.setCell ⟨b,4,none⟩ (I r.cap)).setCell ⟨b,5,none⟩ (.slice A ln cc))/\PlIn B w0 ((w.setCell ⟨b,4,none⟩ (I r.cap)).setCell ⟨b,5,none⟩ (.slice A ln cc)) b v c X V F r r:=by
 obtain⟨rl,sl,f,a,q⟩:=h.obj;obtain⟨A,cc,rfl,j⟩:=a;have a:SpcsAt w F (.slice A r.l.length cc) r.l:=⟨A,cc,rfl,j⟩;have d:Keep (λk=>k=b) w ((w.setCell ⟨b,4,none⟩ (I r.cap)).setCell ⟨b,5,none⟩ (.slice A r.l.length cc)):=((Keep.refl (λk=>k=b) w).setCell (p:=⟨b,4,none⟩) (.inl rfl) _).setCell (p:=⟨b,5,none⟩) (.inl rfl) _;have m:∀k,vF v c X k\/k=0->¬k=b:=by
  rintro k (d|rfl)
  ·exact(h.far k d).2
  ·exact λe=>h.b0 e.symm
 have g:∀k,F k->¬k=b:=by
  rintro k s rfl;exact h.fb s
 have t:Whole ((w.setCell ⟨b,4,none⟩ (I r.cap)).setCell ⟨b,5,none⟩ (.slice A r.l.length cc)) b 66 #[.pointer (some ⟨c.p,0,none⟩),.pointer (some ⟨v,0,none⟩),I r.cap,.slice A r.l.length cc,I r.cap,.slice A r.l.length cc]:=by
  have:=(f.set 4 (I r.cap)).set 5 (.slice A r.l.length cc);simpa using this
 refine⟨A,_,cc,f.fz,f.cell 2,f.cell 3,⟨_,_,f.cell 4,f.cell 5⟩,f.cell 1,d,h.vo.keep d m,⟨h.own.1.trans d h.bk,h.own.2⟩,⟨_,_,t,a.keep d g,a.keep d g⟩,λk n=>QzB (h.lt k n) d.size,h.far,h.fb,h.bb,h.b0⟩
theorem Qs1{B:Nat->Prop}{w0 w:World}{b v:Nat}{c:Pt}{X:XL}{V:Vo}{F:Nat->Prop}{r su:Dv}(id fr n:Int)(d:ByteArray){G:XL->Vo->Prop}(h:PlIn B w0 w b v c X V F r su)(R:∀W,VoIn W v c X V->C 23 #[(v,0)] W λe w'=>e= .returned .nilIface/\∃j k l,j.p=c.p/\VoIn w' v j k l/\Mv (vF v c X) W (vF v j k) w'/\l.sure=true/\G k l):
  C 35 #[(b,0),.agg #[I 7,I id,I fr,I n,.string d]] w (DoRet B w0 b v r r G):=by
 obtain⟨w1,A,ln,cc,u⟩:=Uq h #[I 7,I id,I fr,I n,.string d];have T:=Q7h (h.below u.hb);have Y:=u.al;have Z:=u.act.cell 0;simp at Z;obtain⟨A,ln,cc,x,c2,c3,⟨u4,u5,c4,c5⟩,c1,i,a⟩:=T.o.sured;have f4:=x 4;have f5:=x 5;obtain⟨S,y⟩:=Zx ((w1.setCell (b,4) (I r.cap)).setCell (b,5) (.slice A ln cc));rw[y]at i a;have⟨HX,z⟩:=Q2 a (R _ a.vo);have x1:S.cell? (b,1)=some (v,0):=by
  obtain⟨rl,sl,H,_,_⟩:=a.obj;exact H.cell 1
 have K:Hid (∀W,Keep (vF v c X) S W->W.cell? (b,1)=some (v,0)):=λW i=>by
  obtain⟨rl,sl,H,_,_⟩:=a.obj;exact(H.keep i (λi=>(a.far b i).2 rfl)).cell 1
 clear h R u x i a;go_in
 go_wp2_with fail
 refine z.o.mono ?_;rintro e w5 ⟨rfl,j,k,l,m,f,g,q,s⟩;have⟨L,M,N,Q⟩:=Q4 m f g s;have x2:=K.o _ g.keep;have t:=Q7h (Qz4 w5 v j k l f);rw[q]at t;clear m f g s q;go_wp2_with fail
 with_reducible refine t.o.mono ?_
 rintro e w6 ⟨rfl,rfl⟩;go_wp2_with fail
 go_ret
 exact⟨rfl,_,_,_,_,HX.o.turned M.o N.o L.o,Q.o⟩
def Q1k(B:Nat->Prop)(w0:World)(b:Nat)(r su:Dv)(G:XL->Vo->Prop)(x:Ending)(w':World):Prop:=x= .returned (.bool true)/\∃v F c X V,PlIn B w0 w' b v c X V F r su/\G X V
theorem DoRet.any{B:Nat->Prop}{w0:World}{b v:Nat}{r su:Dv}{G:XL->Vo->Prop}{x:Ending}{w':World}(h:DoRet B w0 b v r su G x w'):Q1k B w0 b r su G x w':=by
 obtain⟨h1,F,c,X,V,h2⟩:=h;exact⟨h1,v,F,c,X,V,h2⟩
theorem PlIn.opened{B:Nat->Prop}{w0 w f:World}{b v g:Nat}{c m:Pt}{X o:XL}{V L:Vo}{F:Nat->Prop}{r su:Dv}(h:PlIn B w0 w b v c X V F r su)(y:VoIn f g m o L)(q:Mv (vF v c X) w (vF g m o) f)(N:m.p=c.p):∃A ln cc,(∀i,f.frozen? ⟨b,i,none⟩=false)/\f.cell? ⟨b,4,none⟩=some (I su.cap)/\f.cell? ⟨b,5,none⟩=some (.slice A ln cc)/\(∃u1 u2 u3,f.cell? ⟨b,1,none⟩=some u1/\f.cell? ⟨b,2,none⟩=some u2/\f.cell? ⟨b,3,none⟩=some u3)/\PlIn B w0 (((f.setCell ⟨b,2,none⟩ (I su.cap)).setCell ⟨b,3,none⟩ (.slice A ln cc)).setCell ⟨b,1,none⟩ (.pointer (some ⟨g,0,none⟩))) b g m o L F su su:=by
 obtain⟨rl,sl,M,Q,n⟩:=h.obj;obtain⟨A,cc,rfl,z⟩:=n;have n:SpcsAt w F (.slice A su.l.length cc) su.l:=⟨A,cc,rfl,z⟩;have s:∀k,F k->¬vF v c X k:=λk a y=>(h.far k y).1 a;have d:=M.keep q.keep (λa=>(h.far b a).2 rfl);have t:=n.keep q.keep s;have a:Keep (λk=>k=b) f (((f.setCell ⟨b,2,none⟩ (I su.cap)).setCell ⟨b,3,none⟩ (.slice A su.l.length cc)).setCell ⟨b,1,none⟩ (.pointer (some ⟨g,0,none⟩))):=(((Keep.refl (λk=>k=b) f).setCell (p:=⟨b,2,none⟩) (.inl rfl) _).setCell (p:=⟨b,3,none⟩) (.inl rfl) _).setCell (p:=⟨b,1,none⟩) (.inl rfl) _;have j:∀k,vF g m o k->¬F k/\k≠b:=by
  intro k a;rcases q.sub k a with a|a
  ·exact h.far k a
  ·exact⟨λs=>by have:=h.lt k s;omega,λe=>by have:=M.lt;omega⟩
 have u:∀k,F k->¬k=b:=by
  rintro k s rfl;exact h.fb s
 have H:∀k,vF g m o k\/k=0->¬k=b:=by
  rintro k (a|rfl)
  ·exact(j k a).2
  ·exact λe=>h.b0 e.symm
 have x:=Zq5 h.own q;have R:Whole (((f.setCell ⟨b,2,none⟩ (I su.cap)).setCell ⟨b,3,none⟩ (.slice A su.l.length cc)).setCell ⟨b,1,none⟩ (.pointer (some ⟨g,0,none⟩))) b 66 #[.pointer (some ⟨m.p,0,none⟩),.pointer (some ⟨g,0,none⟩),I su.cap,.slice A su.l.length cc,I su.cap,.slice A su.l.length cc]:=by
  have:=((d.set 2 (I su.cap)).set 3 (.slice A su.l.length cc)).set 1 (.pointer (some ⟨g,0,none⟩));rw[N];simpa using this
 refine⟨A,_,cc,d.fz,d.cell 4,d.cell 5,⟨_,_,_,d.cell 1,d.cell 2,d.cell 3⟩,y.keep a H,⟨x.1.trans a h.bk,x.2⟩,⟨_,_,R,t.keep a u,t.keep a u⟩,λk K=>QzB (h.lt k K) (QqR q.keep.size a.size),j,h.fb,h.bb,h.b0⟩
theorem Q69(p:Nat)(w:World):(binOp .neq 24 (p,0) (.pointer none)).run Tryz.prog w= .ok (.bool true) w:=J
theorem Q2s{B:Nat->Prop}{w0 w:World}{b v:Nat}{c:Pt}{X:XL}{V:Vo}{F:Nat->Prop}{r su:Dv}(id fr n:Int)(d:ByteArray){G:XL->Vo->Prop}(h:PlIn B w0 w b v c X V F r su)(K:∀W,VoIn W v c X V->C 14 #[(c.p,0)] W λe w'=>∃a f g i,e= .returned (.tuple #[(a,0),.nilIface])/\f.p=c.p/\VoIn w' a f g i/\Mv (vF v c X) W (vF a f g) w'/\i.sure=true/\G g i):
  C 35 #[(b,0),.agg #[I 9,I id,I fr,I n,.string d]] w (Q1k B w0 b su su G):=by
 obtain⟨w1,A0,M,N,j⟩:=Uq h #[I 9,I id,I fr,I n,.string d];have L:=Q7h (h.below j.hb);have Q:=j.al;have R:=j.act.cell 0;simp at R;have y:=Q7h (K _ L.o.vo);have y0:=(Qfq h j (Keep.refl _ _)).2.1;clear h K j;go_in
 go_wp2_with fail
 refine y.o.mono ?_;rintro e S ⟨a,f,g,i,rfl,k,l,m,q,s⟩;obtain⟨A,ln,cc,u,c4,c5,⟨u1,u2,u3,c1,c2,c3⟩,x⟩:=L.o.opened l m k;have T:=Q69 a;have f2:=u 2;have f3:=u 3;have f4:=u 1;obtain⟨Y,z⟩:=Zx (((S.setCell (b,2) (I su.cap)).setCell (b,3) (.slice A ln cc)).setCell (b,1) (a,0));rw[z]at x;have⟨Z,t⟩:=Q2 x (Qz4 Y a f g i x.vo);rw[q]at t;have H:=Q7h s;clear l m k q s u x;go_wp2_with fail
 with_reducible refine t.o.mono ?_
 rintro e w6 ⟨rfl,rfl⟩;go_wp2_with fail
 go_ret
 exact⟨rfl,_,_,_,_,_,Z.o,H.o⟩
end pl
namespace pl
open Go.RowKit er tr st vo nd pg dc
theorem Q0u{B:Nat->Prop}{w0 w:World}{b v:Nat}{c:Pt}{X:XL}{V:Vo}{F:Nat->Prop}{r su:Dv}(k id fr n:Int)(d:ByteArray){G:XL->Vo->Prop}(h:PlIn B w0 w b v c X V F r su)(l:k<0\/9<k)(e:G X V):
  C 35 #[(b,0),.agg #[I k,I id,I fr,I n,.string d]] w (DoRet B w0 b v r su G):=by
 obtain⟨w1,A,ln,cc,a⟩:=Uq h #[I k,I id,I fr,I n,.string d];have f:=Q7h (h.below a.hb);have g:=a.al;have i:=a.act.cell 0;simp at i;have m:(k==0)=false:=by simp;omega
 have p:(k==1)=false:=by simp;omega
 have q:(k==2)=false:=by simp;omega
 have s:(k==3)=false:=by simp;omega
 have t:(k==4)=false:=by simp;omega
 have u:(k==5)=false:=by simp;omega
 have x:(k==6)=false:=by simp;omega
 have y:(k==7)=false:=by simp;omega
 have z:(k==8)=false:=by simp;omega
 have H:(k==9)=false:=by simp;omega
 have j:=Q7h e;clear h a e;go_in
 go_wp2_with fail
 go_ret
 exact⟨rfl,_,_,_,_,f.o,j.o⟩
end pl
end Go.Proofs.YtfialjmemcobjaaGreatDoor
