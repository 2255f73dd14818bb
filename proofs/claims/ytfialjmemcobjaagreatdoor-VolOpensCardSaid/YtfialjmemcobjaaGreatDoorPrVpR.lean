/- A part of the proof. -/
import Derived.Test.YtfialjmemcobjaaGreatDoorPrRtE
import Derived.Test.YtfialjmemcobjaaGreatDoorPrVpM
import Derived.Test.YtfialjmemcobjaaGreatDoorPrVpP
set_option linter.unusedVariables false
set_option linter.unusedSimpArgs false
namespace Go.Proofs.YtfialjmemcobjaaGreatDoor
namespace vo
open Go.RowKit Go.Maps er st tr nd pg
set_option maxRecDepth 100000
set_option maxHeartbeats 16000000
structure LdW (w:World) (v:Nat) (c:Pt) (b3:Nat) (fc:Array Value) (rv:Value) (l:List rt.Space) (V:Vo) (j:Nat) (X:XL) (wr:World):Prop where
 vo:VoIn wr v c X {V with l:=X.map (·.1)}
 row:wr.ownsRow (w.heap.size+1) 206 4 rv l.length (rt.Q0 l)
 box:Whole wr b3 109 fc
 far:∀k,(k=b3∨rv.ownBlock=some k)→¬vF v c X k
 ord:∀x∈X,∀y∈l.drop j,x.1.id < y.id
 mv:Mv (vF v c []) w (vF v c X) wr
section
variable {w:World} {v:Nat} {c:Pt} {b3:Nat} {fc:Array Value} {rv:Value} {l:List rt.Space} {V:Vo} {j:Nat} {X:XL} {wr:World}
theorem LdW.lt (h:LdW w v c b3 fc rv l V j X wr):∀k,(k=b3∨rv.ownBlock=some k)→k < wr.heap.size:=by
 rintro k (rfl|hk)
 ·exact h.box.lt
 ·exact (h.row.lt k hk).2
theorem LdW.move {w':World} {Y:XL} {i:Nat} (h:LdW w v c b3 fc rv l V j X wr) (hv:VoIn w' v c Y {V with l:=Y.map (·.1)}) (hm:Mv (vF v c X) wr (vF v c Y) w') (ho:∀x∈Y,∀y∈l.drop i,x.1.id < y.id):LdW w v c b3 fc rv l V i Y w':=by
 have hl:=h.lt
 have hf:=h.far
 refine ⟨hv,Qj h.row hm.keep (fun g hg=>hf g (.inr hg)),h.box.keep hm.keep (hf _ (.inl rfl)),fun k hk hv'=>?_,ho,h.mv.trans hm⟩
 rcases hm.sub k hv' with e|e
 ·exact hf k hk e
 ·have:=hl k hk;omega
theorem LdW.below {w':World} (h:LdW w v c b3 fc rv l V j X wr) (hb:Below wr.heap.size wr w'):LdW w v c b3 fc rv l V j X w':=h.move (h.vo.below hb) (Mv.below hb) h.ord
end
def Qbx (w:World) (v:Nat) (c:Pt) (V:Vo) (w':World):Prop:=StoIn w' c.q c.p c.sv c.vv c.N V.s∧LaidT w'∧Keep (vF v c []) w w'
noncomputable def Zo (n:Nand) (cap:Int) (f:Fnd):Option (Int×List Sp):=
 match rt.Xa f.p.body with
 |some (g,l)=>(Ke n cap [] l).map fun L=>(g,L)
 |none=>none
def Qxk (w:World) (v:Nat) (c:Pt) (V:Vo) (f:Fnd) (r:Option (Int×List Sp)) (e:Ending) (w':World):Prop:=
 match r with
 |some (g,L)=>∃X lv P,e= .returned (.bool true)∧X.map (·.1)=L∧P.Perm (J9 X)∧VoIn w' v {c with lv:=lv} X {V with l:=L,gen:=g,root:=f.at_,last:=P}∧Mv (vF v c []) w (vF v {c with lv:=lv} X) w'
 |none=>e= .returned (.bool false)∧Qbx w v c V w'
theorem LdW.no {w:World} {v:Nat} {c:Pt} {b3:Nat} {fc:Array Value} {rv:Value} {l:List rt.Space} {V:Vo} {j:Nat} {X:XL} {wr:World} (h:LdW w v c b3 fc rv l V j X wr):Qbx w v c V wr:=⟨h.vo.sto,h.vo.laid,h.mv.keep⟩
theorem LdW.no' {w:World} {v:Nat} {c:Pt} {b3:Nat} {fc:Array Value} {rv:Value} {l:List rt.Space} {V:Vo} {j:Nat} {X:XL} {wr w':World} (h:LdW w v c b3 fc rv l V j X wr) (hk:Keep (fun k=>k=c.mb) wr w'):Qbx w v c V w':=by
 have hm:c.mb∈Dl v c X:=by simp [Dl]
 refine ⟨h.vo.sto.keep hk (fun k hs e=>(h.vo.far _ hm).1 (e▸hs)),hk.cell h.vo.laid (fun e=>(h.vo.far _ hm).2 e.symm),h.mv.keep.trans hk (fun k e=>h.mv.sub k (by subst e;exact .inr hm))⟩
theorem LdW.add {w:World} {v:Nat} {c:Pt} {b3:Nat} {fc:Array Value} {rv:Value} {l:List rt.Space} {V:Vo} {j:Nat} {X:XL} {wr w':World} {x:rt.Space} {u:Int} {T:Tree} {ab p:Nat} {F:List Nat} (h:LdW w v c b3 fc rv l V j X wr) (hup:rt.upB l=true) (hx:l[j]? =some x) (hn:∀z∈X,z.1.id < x.id) (hk:Keep (fun k=>k=c.mb∨k=c.tb) wr w') (hl:LedIn w' c.lb c.mb V.cap (Z0 (Q5 X) (⟨x.id,x.size,u⟩,ab))) (ht:MapAt w' c.tb (Iw (Zm X) x.id p)) (hp:TrAt w' F p T) (hok:T.Ok) (hc:Chk T.flat) (hab:wr.heap.size≤ab) (hF:∀k∈F,wr.heap.size≤k) (hne:ab∉F):LdW w v c b3 fc rv l V (j+1) (X++[((⟨x.id,x.size,u,T⟩:Sp),(⟨ab,p,F⟩:Bl))]) w':=by
 have hv:=h.vo.loaded (T:=T) (u:=u) (fun z hz=>by have:=hn z hz;omega) hk hl ht hp hok hc hab hF hne
 have e1:Xx X ((⟨x.id,x.size,u,T⟩:Sp),(⟨ab,p,F⟩:Bl))=X++[((⟨x.id,x.size,u,T⟩:Sp),(⟨ab,p,F⟩:Bl))]:=Qxo hn
 have hperm:=Qj2 (v:=v) (c:=c) (X:=X) (s:=(⟨x.id,x.size,u,T⟩:Sp)) (ab:=ab) (p:=p) (F:=F) (fun z hz=>by have:=hn z hz;show z.1.id≠x.id;omega)
 rw [e1] at hv hperm
 refine h.move hv ⟨hk.mono (fun k _ e=>?_),fun k hk=>?_⟩ (fun z hz y hy=>?_)
 ·rcases e with rfl|rfl <;> exact .inr (by simp [Dl])
 ·rcases hk with hk|hk
  ·exact .inl (.inl hk)
  ·rcases List.mem_append.1 (hperm.mem_iff.1 hk) with hk|hk
   ·rcases List.mem_cons.1 hk with rfl|hk
    ·exact .inr hab
    ·exact .inr (hF k hk)
   ·exact .inl (.inr hk)
 ·rcases List.mem_append.1 hz with hz|hz
  ·refine h.ord z hz y ?_
   rw [List.drop_eq_getElem_cons (List.getElem?_eq_some_iff.1 hx).1]
   exact List.mem_cons_of_mem _ hy
  ·simp only [List.mem_singleton] at hz
   subst hz
   exact Qa2 hup hx y hy
theorem Qij (w:World) (v:Nat) (c:Pt) (V:Vo) (f:Fnd) (h:VoIn w v c [] V) (ht:∀a,(V.s.n.read a).2.size≤70368744177664) (hs:∀a,(Qx V.s.n a).1.body.size≤1000000) (hb:f.p.body.size≤1000000) (hsm:∀g L,Zo V.s.n V.cap f=some (g,L)→∀s∈L,Small s.tr):
  Calls Tryz.prog 63 #[.pointer (some ⟨v,0,none⟩),.agg #[.int .i64 f.at_,.int .i64 f.p.kind,.int .i64 f.p.space,.int .i64 f.p.key,.int .i64 f.p.seq,.string f.p.body]] w (Qxk w v c V f (Zo V.s.n V.cap f)):=by
 obtain ⟨at_,⟨pk,ps,py,pq,pb⟩⟩:=f
 simp only at hb ⊢
 have hlt:=h.lt
 have h00:=h.laid.lt
 have HRR:Hid (∀W,Calls Tryz.prog 125 #[.string pb] W (rt.Gy pb W)):=fun W=>rt.Xl pb W (by omega)
 cases hd:rt.Xa pb with
 |none=>
  have hD:Zo V.s.n V.cap ⟨at_,⟨pk,ps,py,pq,pb⟩⟩=none:=by unfold Zo;rw [hd]
  rw [hD]
  unfold rt.Gy at HRR
  rw [hd] at HRR
  simp only at HRR
  have H:=Ql4 h
  clear h hs ht hsm hd hD
  go_enter Tryz.func63,Tryz.ntmps63
  go_wp2_with fail
  refine (HRR.out _).mono ?_
  rintro e w1 ⟨rfl,hb1⟩
  have HB1:=Ql4 hb1
  clear hb1
  go_wp2_with fail
  go_ret
  have hbw:=((Below.refl w.heap.size w).alloc (Nat.le_refl _) (.cells #[.int .i64 at_,.int .i64 pk,.int .i64 ps,.int .i64 py,.int .i64 pq,.string pb] 109)).trans (HB1.out.mono (by simp))
  exact ⟨rfl,(H.out.below hbw).sto,(H.out.below hbw).laid,Keep.below hbw⟩
 |some gl=>
  obtain ⟨g,l⟩:=gl
  unfold rt.Gy at HRR
  rw [hd] at HRR
  simp only at HRR
  obtain ⟨g0,g1,hl8,hsp,hup⟩:=rt.Oj (Hr hd)
  have HSP:=Ql4 hsp
  have HUP:=Ql4 hup
  have hD:Zo V.s.n V.cap ⟨at_,⟨pk,ps,py,pq,pb⟩⟩=(Ke V.s.n V.cap [] l).map fun L=>(g,L):=by unfold Zo;rw [hd]
  rw [hD] at hsm ⊢
  obtain ⟨r,hr⟩:∃r,Ke V.s.n V.cap [] l=r:=⟨_,rfl⟩
  rw [hr] at hsm ⊢
  have HR:=Ql4 hr
  have HSM:=Ql4 hsm
  have H:=Ql4 h
  have HT:=Ql4 ht
  have HS:=Ql4 hs
  obtain ⟨m,hm⟩:∃m,l.length=m:=⟨_,rfl⟩
  rw [hm] at HRR hl8
  have HM:=Ql4 hm
  have HLT:=Ql4 hlt
  have H0:=Ql4 h00
  have HST:Hid (∀W A d,W.ownsRow (w.alloc (.cells #[.int .i64 at_,.int .i64 pk,.int .i64 ps,.int .i64 py,.int .i64 pq,.string pb] 109)).heap.size 206 4 (.slice A m d) m (rt.Q0 l)→Below (w.alloc (.cells #[.int .i64 at_,.int .i64 pk,.int .i64 ps,.int .i64 py,.int .i64 pq,.string pb] 109)).heap.size (w.alloc (.cells #[.int .i64 at_,.int .i64 pk,.int .i64 ps,.int .i64 py,.int .i64 pq,.string pb] 109)) W→LdW w v c w.heap.size #[.int .i64 at_,.int .i64 pk,.int .i64 ps,.int .i64 py,.int .i64 pq,.string pb] (.slice A m d) l V 0 [] W):=by
   intro W A d ho hb1
   have hbw:=((Below.refl w.heap.size w).alloc (Nat.le_refl _) (.cells #[.int .i64 at_,.int .i64 pk,.int .i64 ps,.int .i64 py,.int .i64 pq,.string pb] 109)).trans (hb1.mono (by simp))
   have hv:=h.below hbw
   have hspl:({V with l:=([]:XL).map (·.1)}:Vo)=V:=by
    have:=h.spl
    obtain ⟨_,_,l',_,_,_,_⟩:=V
    simp only at this
    rw [←this]
   refine ⟨by rw [hspl];exact hv,?_,(Whole.new w _ _).below hb1 (by simp),fun k hk hv'=>?_,fun x hx=>by simp at hx,⟨Keep.below hbw,fun k hk=>.inl hk⟩⟩
   ·rw [hm]
    simpa using ho
   ·have:=hlt k hv'
    rcases hk with rfl|hk
    ·omega
    ·have:=(ho.lt k hk).1
     simp at this
     omega
  clear h hs ht hsm hd hD hr hsp hup hm hlt h00
  go_enter Tryz.func63,Tryz.ntmps63
  go_wp2_with fail
  refine (HRR.out _).mono ?_
  rintro e w1 ⟨v1,rfl,ho1,hb1⟩
  obtain ⟨A1,d1,rfl⟩:=Qk ho1
  have HL1:=Ql4 (HST.out w1 A1 d1 ho1 hb1)
  clear ho1 hb1 HST
  go_wp2_with fail
  go_loopw [9,10,11,24] (fun _ _ _ iv wr=>∃(j:Nat) (X:XL),j≤m∧iv= .int .i64 j∧Hid (X.length=j)∧Hid (Ke V.s.n V.cap (X.map (·.1)) (l.drop j)=r)∧Hid (LdW w v c w.heap.size #[.int .i64 at_,.int .i64 pk,.int .i64 ps,.int .i64 py,.int .i64 pq,.string pb] (.slice A1 m d1) l V j X wr)) (fun _ _ _ iv _=>m - (intOf iv).toNat)
  case atStart=>exact ⟨0,[],Nat.zero_le _,rfl,rfl,HR.out,HL1.out⟩
  case round=>
   obtain ⟨j,X,hj,rfl,HX,HLL,HL⟩:=hrel
   by_cases hlt:j < m
   ·have hji:(j:Int) < (m:Int):=by omega
    have hj0:(0:Int)≤(j:Int):=Int.natCast_nonneg _
    obtain ⟨x,hx⟩:∃x,l[j]? =some x:=⟨_,List.getElem?_eq_getElem (by have:=HM.out;omega)⟩
    have hdr:l.drop j=x::l.drop (j+1):=by
     rw [List.drop_eq_getElem_cons (by have:=HM.out;omega)]
     congr 1
     exact (List.getElem?_eq_some_iff.1 hx).2
    rw [hdr] at HLL
    have hxs:rt.spB x=true:=HSP.out x (List.mem_of_getElem? hx)
    have hnx:∀z∈X,z.1.id < x.id:=fun z hz=>HL.out.ord z hz x (by rw [hdr];simp)
    have hrow:wr.ownsRow (w.heap.size+1) 206 4 (.slice A1 m d1) m (rt.Q0 l):=by
     have:=HL.out.row
     rwa [HM.out] at this
    obtain ⟨gi,rfl,_,_,_,hcell,_⟩:=Qo hrow (by omega)
    obtain ⟨s0,s1,s2,s3⟩:=rt.Yq l j x hx
    have q0:wr.cell? ⟨gi,j * 4,none⟩=some (.int .i64 x.id):=by have:=hcell _ _ s0;simpa using this
    have q1:wr.cell? ⟨gi,j * 4+1,none⟩=some (.int .i64 x.size):=by have:=hcell _ _ s1;simpa using this
    have q2:wr.cell? ⟨gi,j * 4+2,none⟩=some (.int .i64 x.top):=by have:=hcell _ _ s2;simpa using this
    have q3:wr.cell? ⟨gi,j * 4+3,none⟩=some (.int .i64 x.high):=by have:=hcell _ _ s3;simpa using this
    obtain ⟨b9,hb9⟩:∃q,wr.heap.size=q:=⟨_,rfl⟩
    obtain ⟨W2,hW2⟩:∃W2,wr.alloc (.cells #[.int .i64 x.id,.int .i64 x.size,.int .i64 x.top,.int .i64 x.high] 206)=W2:=⟨_,rfl⟩
    have hb2:Below wr.heap.size wr W2:=by rw [←hW2];exact (Below.refl _ _).alloc (Nat.le_refl _) _
    have HL2:=Ql4 (HL.out.below hb2)
    have hx9:Whole W2 b9 206 #[.int .i64 x.id,.int .i64 x.size,.int .i64 x.top,.int .i64 x.high]:=by rw [←hW2];exact Whole.new' _ _ _ _ hb9
    have HX9:=Ql4 hx9
    have HB2:=Ql4 hb2
    have c90:=hx9.cell 0
    have c91:=hx9.cell 1
    have c92:=hx9.cell 2
    have c93:=hx9.cell 3
    simp at c90 c91 c92 c93
    have HK:Hid (∀W,Below W2.heap.size W2 W→W.cell? ⟨b9,0,none⟩=some (.int .i64 x.id)∧W.cell? ⟨b9,2,none⟩=some (.int .i64 x.top)∧W.cell? ⟨b9,3,none⟩=some (.int .i64 x.high)):=fun W hb=>⟨Qq hb c90,Qq hb c92,Qq hb c93⟩
    have HGT:Hid (∀W,Below W2.heap.size W2 W→Calls Tryz.prog 133 #[.pointer (some ⟨v,0,none⟩),.int .i64 x.id] W fun e w'=>∃b1 b2,e= .returned (.func (.func 198) #[] #[.pointer (some ⟨b1,0,none⟩),.pointer (some ⟨b2,0,none⟩)])∧Below W2.heap.size W2 w'∧Calls Tryz.prog 132 #[.int .i64 x.top,.int .i64 x.high,.func (.func 198) #[] #[.pointer (some ⟨b1,0,none⟩),.pointer (some ⟨b2,0,none⟩)]] w' fun e w3=>(∃T p F,K6 V.s.n x=some T∧e= .returned (.tuple #[.pointer (some ⟨p,0,none⟩),.nilIface])∧TrAt w3 F p T∧(∀k∈F,W2.heap.size≤k)∧Below W2.heap.size W2 w3)∨(K6 V.s.n x=none∧∃y,e= .returned (.tuple #[.pointer none,.iface 183 y])∧Below W2.heap.size W2 w3)):=by
     intro W hbW
     refine (Qz9 W v x.id).mono ?_
     rintro e w' ⟨rfl,o1,o2,hb'⟩
     have hbb:=hbW.trans (hb'.mono hbW.size)
     have hv':=(HL2.out.below hbb).vo
     refine ⟨_,_,rfl,hbb,(Qyo w' v c X _ x _ _ hv' o1 o2 hxs HT.out HS.out).mono ?_⟩
     rintro e w3 (⟨T,p,F,k1,rfl,k2,k3,k4⟩|⟨k1,y,rfl,k4⟩)
     ·exact .inl ⟨T,p,F,k1,rfl,k2,fun k hk=>Nat.le_trans hbb.size (k3 k hk),hbb.trans (k4.mono hbb.size)⟩
     ·exact .inr ⟨k1,y,rfl,hbb.trans (k4.mono hbb.size)⟩
    clear c91 hx9 q0 q1 q2 q3
    cases hrt:K6 V.s.n x with
    |none=>
     have hrn:r=none:=by
      rw [←HLL.out]
      unfold Ke Yg
      rw [hrt]
     have HG2:Hid (∀W,Below W2.heap.size W2 W→Calls Tryz.prog 133 #[.pointer (some ⟨v,0,none⟩),.int .i64 x.id] W fun e w'=>∃b1 b2,e= .returned (.func (.func 198) #[] #[.pointer (some ⟨b1,0,none⟩),.pointer (some ⟨b2,0,none⟩)])∧Below W2.heap.size W2 w'∧Calls Tryz.prog 132 #[.int .i64 x.top,.int .i64 x.high,.func (.func 198) #[] #[.pointer (some ⟨b1,0,none⟩),.pointer (some ⟨b2,0,none⟩)]] w' fun e w3=>∃y,e= .returned (.tuple #[.pointer none,.iface 183 y])∧Below W2.heap.size W2 w3):=fun W hbW=>(HGT.out W hbW).mono (fun e w' ⟨b1,b2,h1,h2,h3⟩=>⟨b1,b2,h1,h2,h3.mono (fun e w3 hq=>by
      rcases hq with ⟨T,p,F,k1,_⟩|⟨_,y,h,hb⟩
      ·rw [hrt] at k1
       cases k1
      ·exact ⟨y,h,hb⟩)⟩)
     have HRN:=Ql4 hrn
     clear HGT hrt hrn
     go_wp2_with fail
     go_region_held3 (fun w'=>w'.cell? ⟨b9,0,none⟩=some (.int .i64 x.id)∧w'.cell? ⟨b9,2,none⟩=some (.int .i64 x.top)∧w'.cell? ⟨b9,3,none⟩=some (.int .i64 x.high)) (first|with_reducible exact HK.out _ HB3.out|with_reducible exact HK.out _ HB4.out|with_reducible exact HK.out _ (Below.refl _ _)|with_reducible exact HK.out _ (Below.refl _ _).drew) (first|(go_at_call 133;refine (HG2.out _ (Below.refl _ _).drew).mono ?_;rintro e w4 ⟨b1,b2,rfl,hb4,hw4⟩;have HB4:=Ql4 hb4;have HW4:=Ql4 hw4;clear hb4 hw4)|(go_at_call 132;refine HW4.out.mono ?_;rintro e w3 ⟨y,rfl,hb3⟩;have HB3:=Ql4 hb3;clear hb3))
     go_wp2_with fail
     go_ret
     rw [HRN.out]
     exact ⟨rfl,(HL2.out.below HB3.out).no⟩
    |some T=>
     obtain ⟨hok,hc⟩:=Fx hrt
     have HG2:Hid (∀W,Below W2.heap.size W2 W→Calls Tryz.prog 133 #[.pointer (some ⟨v,0,none⟩),.int .i64 x.id] W fun e w'=>∃b1 b2,e= .returned (.func (.func 198) #[] #[.pointer (some ⟨b1,0,none⟩),.pointer (some ⟨b2,0,none⟩)])∧Below W2.heap.size W2 w'∧Calls Tryz.prog 132 #[.int .i64 x.top,.int .i64 x.high,.func (.func 198) #[] #[.pointer (some ⟨b1,0,none⟩),.pointer (some ⟨b2,0,none⟩)]] w' fun e w3=>∃p F,e= .returned (.tuple #[.pointer (some ⟨p,0,none⟩),.nilIface])∧TrAt w3 F p T∧(∀k∈F,W2.heap.size≤k)∧Below W2.heap.size W2 w3):=fun W hbW=>(HGT.out W hbW).mono (fun e w' ⟨b1,b2,h1,h2,h3⟩=>⟨b1,b2,h1,h2,h3.mono (fun e w3 hq=>by
      rcases hq with ⟨T',p,F,k1,k2⟩|⟨k1,_⟩
      ·rw [hrt] at k1
       injection k1 with k1
       subst k1
       exact ⟨p,F,k2⟩
      ·rw [hrt] at k1
       cases k1)⟩)
     clear HGT
     go_wp2_with fail
     go_region_held3 (fun w'=>w'.cell? ⟨b9,0,none⟩=some (.int .i64 x.id)∧w'.cell? ⟨b9,2,none⟩=some (.int .i64 x.top)∧w'.cell? ⟨b9,3,none⟩=some (.int .i64 x.high)) (first|with_reducible exact HK.out _ HB3.out|with_reducible exact HK.out _ HB4.out|with_reducible exact HK.out _ (Below.refl _ _)|with_reducible exact HK.out _ (Below.refl _ _).drew) (first|(go_at_call 133;refine (HG2.out _ (Below.refl _ _).drew).mono ?_;rintro e w4 ⟨b1,b2,rfl,hb4,hw4⟩;have HB4:=Ql4 hb4;have HW4:=Ql4 hw4;clear hb4 hw4)|(go_at_call 132;refine HW4.out.mono ?_;rintro e w3 ⟨p,F,rfl,ht3,hf3,hb3⟩;have HB3:=Ql4 hb3;have HT3:=Ql4 ht3;have HF3:=Ql4 hf3;clear hb3 ht3 hf3))
     have HL3:=Ql4 (HL2.out.below HB3.out)
     have hx3:=HX9.out.below HB3.out HX9.out.lt
     have e0:w3.cell? ⟨b9,0,none⟩=some (.int .i64 x.id):=hx3.cell 0
     have e1:w3.cell? ⟨b9,1,none⟩=some (.int .i64 x.size):=hx3.cell 1
     have e2:w3.cell? ⟨b9,2,none⟩=some (.int .i64 x.top):=hx3.cell 2
     have e3:w3.cell? ⟨b9,3,none⟩=some (.int .i64 x.high):=hx3.cell 3
     obtain ⟨y1,y2,y3,y4,y5,y6,_,_⟩:=rt.Jp hxs
     have HHO:Hid (Calls Tryz.prog 134 #[.pointer (some ⟨v,0,none⟩),.agg #[.int .i64 x.id,.int .i64 x.size,.int .i64 x.top,.int .i64 x.high],.pointer (some ⟨p,0,none⟩)] w3 fun e w'=>e= .returned (.bool (Z5 V.s.n x.id x.size T.flat))∧Below w3.heap.size w3 w'):=by
      have q:=Quo w3 v c X _ x.id x.size x.top x.high F p T HL3.out.vo HT3.out hok hc (by unfold vo.I64;omega) HT.out
      exact q
     clear hx3
     obtain ⟨S,hS⟩:∃S,Jz T.flat=S:=⟨_,rfl⟩
     cases hhb:Z5 V.s.n x.id x.size T.flat with
     |false=>
      have hrn:r=none:=by
       rw [←HLL.out]
       unfold Ke Yg
       rw [hrt]
       simp only
       rw [if_neg (by rw [hhb];simp)]
      rw [hhb] at HHO
      have HRN:=Ql4 hrn
      clear hrt hrn hhb
      go_wp2_with fail
      with_reducible refine HHO.out.mono ?_
      rintro e w4 ⟨rfl,hb4⟩
      have HB4':=Ql4 hb4
      clear hb4
      go_wp2_with fail
      go_ret
      rw [HRN.out]
      exact ⟨rfl,(HL3.out.below HB4'.out).no⟩
     |true=>
      rw [hhb] at HHO
      have hld:Yg V.s.n x=some ⟨x.id,x.size,S,T⟩:=by
       unfold Yg
       rw [hrt]
       simp only
       rw [if_pos hhb,hS]
      by_cases hch:S≤V.cap - Zw (X.map (·.1))
      ·have HLN:Hid (Ke V.s.n V.cap (X.map (·.1)++[⟨x.id,x.size,S,T⟩]) (l.drop (j+1))=r):=by
        show _=_
        rw [←HLL.out,Ke,hld]
        simp only
        rw [if_pos hch]
       clear hrt hhb hld
       go_wp2_with fail
       with_reducible refine HHO.out.mono ?_
       rintro e w4 ⟨rfl,hb4⟩
       have HL4b:=Ql4 hb4
       have HL4:=Ql4 (HL3.out.below hb4)
       have ht4:=HT3.out.keep (Keep.below (F:=fun _=>False) hb4) (fun _ _ h=>h)
       have hx4:=(HX9.out.below HB3.out HX9.out.lt).below hb4 (by have:=HB3.out.size;have:=HX9.out.lt;omega)
       have k90:w4.cell? ⟨b9,0,none⟩=some (.int .i64 x.id):=hx4.cell 0
       have k91:w4.cell? ⟨b9,1,none⟩=some (.int .i64 x.size):=hx4.cell 1
       have kv1:w4.cell? ⟨v,1,none⟩=some (.pointer (some ⟨c.lb,0,none⟩)):=HL4.out.vo.obj.cell 1
       have hmbl:c.mb < wr.heap.size:=HL.out.vo.led.map.lt
       have htbl:c.tb < wr.heap.size:=HL.out.vo.trs.lt
       have hmv:c.mb≠v:=HL.out.vo.vne _ (by simp)
       have htv:c.tb≠v:=HL.out.vo.vne _ (by simp)
       have hmt:c.mb≠c.tb:=by
        have:=HL.out.vo.nd
        unfold Dl at this
        simp only [List.nodup_cons,List.mem_cons,List.mem_append,not_or] at this
        exact this.2.2.1.1
       have hz2:=HB2.out.size
       have hz3:=HB3.out.size
       have hz4:=hb4.size
       have HK4:Hid (∀W,Below w4.heap.size w4 W→W.cell? ⟨v,1,none⟩=some (.pointer (some ⟨c.lb,0,none⟩))∧W.cell? ⟨b9,0,none⟩=some (.int .i64 x.id)∧W.cell? ⟨b9,1,none⟩=some (.int .i64 x.size)):=fun W hb=>⟨Qq hb kv1,Qq hb k90,Qq hb k91⟩
       have h8:X.length < 8:=by have:=HX.out;omega
       have hsn:=Po hc
       have HOP:Hid (∀W,Below w4.heap.size w4 W→Calls Tryz.prog 70 #[.pointer (some ⟨c.lb,0,none⟩),.int .i64 x.id,.int .i64 x.size] W fun e w5=>∃ab:Nat,e= .returned (.int .i64 0)∧(w5.cell? ⟨v,1,none⟩=some (.pointer (some ⟨c.lb,0,none⟩))∧w5.cell? ⟨b9,0,none⟩=some (.int .i64 x.id)∧w5.cell? ⟨b9,1,none⟩=some (.int .i64 x.size))∧(∀W',Below w5.heap.size w5 W'→Calls Tryz.prog 107 #[.pointer (some ⟨p,0,none⟩)] W' fun e w6=>e= .returned (.int .i64 S)∧(w6.cell? ⟨v,1,none⟩=some (.pointer (some ⟨c.lb,0,none⟩))∧w6.cell? ⟨b9,0,none⟩=some (.int .i64 x.id)∧w6.cell? ⟨b9,1,none⟩=some (.int .i64 x.size))∧Below w5.heap.size w5 w6)∧(∀W',Below w5.heap.size w5 W'→Calls Tryz.prog 106 #[.pointer (some ⟨c.lb,0,none⟩),.int .i64 x.id,.int .i64 S] W' fun e w7=>e= .returned (.int .i64 0)∧(w7.cell? ⟨v,1,none⟩=some (.pointer (some ⟨c.lb,0,none⟩))∧w7.cell? ⟨b9,0,none⟩=some (.int .i64 x.id)∧w7.cell? ⟨b9,1,none⟩=some (.int .i64 x.size))∧w4.heap.size≤ab∧LedIn w7 c.lb c.mb V.cap (Z0 (Q5 X) (⟨x.id,x.size,S⟩,ab))∧Keep (fun k=>k=c.mb) w4 w7∧TrAt w7 F p T)):=by
        intro W hbW
        refine (Qjf W v c X _ x (HL4.out.below hbW).vo hxs hnx h8).mono ?_
        rintro e w5 ⟨ab,rfl,hab,hl5,hk5⟩
        have hk45:Keep (fun k=>k=c.mb) w4 w5:=(Keep.below (F:=fun k=>k=c.mb) hbW).trans hk5 (fun k e=>.inl e)
        have hcs:w5.cell? ⟨v,1,none⟩=some (.pointer (some ⟨c.lb,0,none⟩))∧w5.cell? ⟨b9,0,none⟩=some (.int .i64 x.id)∧w5.cell? ⟨b9,1,none⟩=some (.int .i64 x.size):=⟨hk45.cell kv1 (fun e=>hmv e.symm),hk45.cell k90 (by show b9≠c.mb;omega),hk45.cell k91 (by show b9≠c.mb;omega)⟩
        have hzW:=hbW.size
        refine ⟨ab,rfl,hcs,fun W' hb'=>?_,fun W' hb'=>?_⟩
        ·have ht5:=ht4.keep hk45 (fun k hk e=>by have:=HF3.out k hk;omega)
         refine (Ct W' F p T (ht5.keep (Keep.below (F:=fun _=>False) hb') (fun _ _ h=>h)) hok hc).mono ?_
         rintro e w6 ⟨rfl,hb6⟩
         have hb56:=hb'.trans (hb6.mono hb'.size)
         rw [←hS]
         exact ⟨rfl,⟨Qq hb56 hcs.1,Qq hb56 hcs.2.1,Qq hb56 hcs.2.2⟩,hb56⟩
        ·refine (Qy7 W' c X V.cap x ab S (hl5.below hb') hnx (by omega) hch).mono ?_
         rintro e w7 ⟨rfl,hl7,hk7⟩
         have hkk:Keep (fun k=>k=c.mb) w4 w7:=(hk45.transBelow hb').trans hk7 (fun k e=>.inr (by omega))
         exact ⟨rfl,⟨hkk.cell kv1 (fun e=>hmv e.symm),hkk.cell k90 (by show b9≠c.mb;omega),hkk.cell k91 (by show b9≠c.mb;omega)⟩,by omega,hl7,hkk,ht4.keep hkk (fun k hk e=>by have:=HF3.out k hk;omega)⟩

       clear hx4 ht4 hb4 e0 e1 e2 e3 c90 c92 c93
       go_wp2_with fail
       go_region_held3 (fun w'=>w'.cell? ⟨v,1,none⟩=some (.pointer (some ⟨c.lb,0,none⟩))∧w'.cell? ⟨b9,0,none⟩=some (.int .i64 x.id)∧w'.cell? ⟨b9,1,none⟩=some (.int .i64 x.size)) (first|with_reducible exact HC7.out|with_reducible exact HC6.out|with_reducible exact HC5.out|with_reducible exact HK4.out _ (Below.refl _ _)|with_reducible exact HK4.out _ (Below.refl _ _).drew) (first|(go_at_call 70;refine (HOP.out _ (Below.refl _ _).drew).mono ?_;rintro e w5 ⟨ab,rfl,hc5,hn5,hg5⟩;have HC5:=Ql4 hc5;have HN5:=Ql4 hn5;have HG5:=Ql4 hg5;clear hc5 hn5 hg5)|(go_at_call 107;refine (HN5.out _ (Below.refl _ _)).mono ?_;rintro e w6 ⟨rfl,hc6,hb6⟩;have HC6:=Ql4 hc6;have HB6:=Ql4 hb6;clear hc6 hb6)|(go_at_call 106;refine (HG5.out _ HB6.out).mono ?_;rintro e w7 ⟨rfl,hc7,hab7,hl7,hk7,ht7⟩;have HC7:=Ql4 hc7;have HAB7:=Ql4 hab7;have HL7:=Ql4 hl7;have HK7:=Ql4 hk7;have HT7:=Ql4 ht7;clear hc7 hab7 hl7 hk7 ht7))

       have kv2:w7.cell? ⟨v,2,none⟩=some (.map (some c.tb)):=HK7.out.cell (HL4.out.vo.obj.cell 2) (fun e=>hmv e.symm)
       have kx0:w7.cell? ⟨b9,0,none⟩=some (.int .i64 x.id):=HC7.out.2.1
       have ht7:MapAt w7 c.tb (Zm X):=HL4.out.vo.trs.keep HK7.out (fun e=>hmt e.symm)
       have htl:(Zm X).length≤1000000:=by simp [Zm];omega
       have hi64:I64 x.id:=by unfold vo.I64;omega
       obtain ⟨w8,hmu,hm8,hk8,hs8⟩:=(ht7.below ((Below.refl w7.heap.size w7).drew)).store Tryz.underlying113 htl hi64 p
       have HK7':Hid (∀W,Below w7.heap.size w7 W→W.cell? ⟨v,2,none⟩=some (.map (some c.tb))∧W.cell? ⟨b9,0,none⟩=some (.int .i64 x.id)):=fun W hb=>⟨Qq hb kv2,Qq hb kx0⟩
       have HC8:Hid (w8.cell? ⟨v,2,none⟩=some (.map (some c.tb))∧w8.cell? ⟨b9,0,none⟩=some (.int .i64 x.id)):=⟨hk8.cell (show w7.drew.cell? ⟨v,2,none⟩=_ from (HK7'.out _ (Below.refl _ _).drew).1) (fun e=>htv e.symm),hk8.cell (HK7'.out _ (Below.refl _ _).drew).2 (by show b9≠c.tb;omega)⟩
       have HL8:Hid (LdW w v c w.heap.size #[.int .i64 at_,.int .i64 pk,.int .i64 ps,.int .i64 py,.int .i64 pq,.string pb] (.slice (some ⟨gi,0,none⟩) m d1) l V (j+1) (X++[((⟨x.id,x.size,S,T⟩:Sp),(⟨ab,p,F⟩:Bl))]) w8):=by
        have hk38:Keep (fun k=>k=c.mb∨k=c.tb) wr w8:=((((Keep.below (F:=fun k=>k=c.mb∨k=c.tb) (HB2.out.trans ((HB3.out.trans (HL4b.out.mono HB3.out.size)).mono HB2.out.size))).trans (HK7.out.mono (G:=fun k=>k=c.mb∨k=c.tb) (fun k _ e=>.inl e)) (fun k e=>.inl e))).transBelow ((Below.refl w7.heap.size w7).drew)).trans hk8 (fun k e=>.inl (.inr e))
        refine HL.out.add HUP.out hx hnx hk38 ?_ hm8 (TrAt.keep (TrAt.keep HT7.out (Keep.below (F:=fun _=>False) ((Below.refl w7.heap.size w7).drew)) (fun _ _ h=>h)) hk8 (fun k hk e=>by have:=HF3.out k hk;omega)) hok hc (by have:=HAB7.out;omega) (fun k hk=>by have:=HF3.out k hk;omega) (fun hk=>by have:=HT3.out.lt ab hk;have:=HAB7.out;omega)
        refine (HL7.out.below ((Below.refl w7.heap.size w7).drew)).keep hk8 (fun k hk e=>?_)
        subst e
        rcases hk with e|e|⟨y,hy,e⟩
        ·have hnd:=HL.out.vo.nd
         unfold Dl at hnd
         simp only [List.nodup_cons,List.mem_cons,List.mem_append,not_or] at hnd
         exact hnd.2.1.2.1 e.symm
        ·exact hmt e.symm
        ·rcases Em hy with rfl|hy
         ·have e':ab=c.tb:=e
          have:=HAB7.out
          omega
         ·obtain ⟨z,hz,rfl⟩:=List.mem_map.1 hy
          have hnd:=HL.out.vo.nd
          unfold Dl at hnd
          simp only [List.nodup_cons,List.mem_cons,List.mem_append,not_or] at hnd
          refine hnd.2.2.2.1.2 (List.mem_flatMap.2 ⟨z,hz,?_⟩)
          have e':z.2.a=c.tb:=e
          simp [e']
       clear ht7 hm8 hk8 hs8 htl
       go_wp2_with fail
       go_region_held3 (fun w'=>w'.cell? ⟨v,2,none⟩=some (.map (some c.tb))∧w'.cell? ⟨b9,0,none⟩=some (.int .i64 x.id)) (first|with_reducible exact HC8.out|with_reducible exact HK7'.out _ (Below.refl _ _)|with_reducible exact HK7'.out _ (Below.refl _ _).drew) (fail)
       go_wp2_with fail
       have hmeas:m - (intOf (.int .i64 ((j:Int)+1))).toNat < m - (intOf (.int .i64 (j:Int))).toNat:=by simp [intOf];omega
       refine ⟨⟨j+1,X++[((⟨x.id,x.size,S,T⟩:Sp),(⟨ab,p,F⟩:Bl))],by omega,by go_num,?_,?_,?_⟩,hmeas⟩
       ·show _=_
        rw [List.length_append,HX.out]
        rfl
       ·rw [List.map_append]
        exact HLN.out
       ·with_reducible exact HL8
      ·have hrn:r=none:=by
        rw [←HLL.out,Ke,hld]
        simp only
        rw [if_neg hch]
       have HRN:=Ql4 hrn
       clear hrt hhb hld hrn
       go_wp2_with fail
       with_reducible refine HHO.out.mono ?_
       rintro e w4 ⟨rfl,hb4⟩
       have HL4b:=Ql4 hb4
       have HL4:=Ql4 (HL3.out.below hb4)
       have ht4:=HT3.out.keep (Keep.below (F:=fun _=>False) hb4) (fun _ _ h=>h)
       have hx4:=(HX9.out.below HB3.out HX9.out.lt).below hb4 (by have:=HB3.out.size;have:=HX9.out.lt;omega)
       have k90:w4.cell? ⟨b9,0,none⟩=some (.int .i64 x.id):=hx4.cell 0
       have k91:w4.cell? ⟨b9,1,none⟩=some (.int .i64 x.size):=hx4.cell 1
       have kv1:w4.cell? ⟨v,1,none⟩=some (.pointer (some ⟨c.lb,0,none⟩)):=HL4.out.vo.obj.cell 1
       have hmbl:c.mb < wr.heap.size:=HL.out.vo.led.map.lt
       have htbl:c.tb < wr.heap.size:=HL.out.vo.trs.lt
       have hmv:c.mb≠v:=HL.out.vo.vne _ (by simp)
       have htv:c.tb≠v:=HL.out.vo.vne _ (by simp)
       have hmt:c.mb≠c.tb:=by
        have:=HL.out.vo.nd
        unfold Dl at this
        simp only [List.nodup_cons,List.mem_cons,List.mem_append,not_or] at this
        exact this.2.2.1.1
       have hz2:=HB2.out.size
       have hz3:=HB3.out.size
       have hz4:=hb4.size
       have HK4:Hid (∀W,Below w4.heap.size w4 W→W.cell? ⟨v,1,none⟩=some (.pointer (some ⟨c.lb,0,none⟩))∧W.cell? ⟨b9,0,none⟩=some (.int .i64 x.id)∧W.cell? ⟨b9,1,none⟩=some (.int .i64 x.size)):=fun W hb=>⟨Qq hb kv1,Qq hb k90,Qq hb k91⟩
       have h8:X.length < 8:=by have:=HX.out;omega
       have hsn:=Po hc
       have HOP:Hid (∀W,Below w4.heap.size w4 W→Calls Tryz.prog 70 #[.pointer (some ⟨c.lb,0,none⟩),.int .i64 x.id,.int .i64 x.size] W fun e w5=>∃ab:Nat,e= .returned (.int .i64 0)∧(w5.cell? ⟨v,1,none⟩=some (.pointer (some ⟨c.lb,0,none⟩))∧w5.cell? ⟨b9,0,none⟩=some (.int .i64 x.id)∧w5.cell? ⟨b9,1,none⟩=some (.int .i64 x.size))∧(∀W',Below w5.heap.size w5 W'→Calls Tryz.prog 107 #[.pointer (some ⟨p,0,none⟩)] W' fun e w6=>e= .returned (.int .i64 S)∧(w6.cell? ⟨v,1,none⟩=some (.pointer (some ⟨c.lb,0,none⟩))∧w6.cell? ⟨b9,0,none⟩=some (.int .i64 x.id)∧w6.cell? ⟨b9,1,none⟩=some (.int .i64 x.size))∧Below w5.heap.size w5 w6)∧(∀W',Below w5.heap.size w5 W'→Calls Tryz.prog 106 #[.pointer (some ⟨c.lb,0,none⟩),.int .i64 x.id,.int .i64 S] W' fun e w7=>e= .returned (.int .i64 71)∧(w7.cell? ⟨v,1,none⟩=some (.pointer (some ⟨c.lb,0,none⟩))∧w7.cell? ⟨b9,0,none⟩=some (.int .i64 x.id)∧w7.cell? ⟨b9,1,none⟩=some (.int .i64 x.size))∧Keep (fun k=>k=c.mb) w4 w7)):=by
        intro W hbW
        refine (Qjf W v c X _ x (HL4.out.below hbW).vo hxs hnx h8).mono ?_
        rintro e w5 ⟨ab,rfl,hab,hl5,hk5⟩
        have hk45:Keep (fun k=>k=c.mb) w4 w5:=(Keep.below (F:=fun k=>k=c.mb) hbW).trans hk5 (fun k e=>.inl e)
        have hcs:w5.cell? ⟨v,1,none⟩=some (.pointer (some ⟨c.lb,0,none⟩))∧w5.cell? ⟨b9,0,none⟩=some (.int .i64 x.id)∧w5.cell? ⟨b9,1,none⟩=some (.int .i64 x.size):=⟨hk45.cell kv1 (fun e=>hmv e.symm),hk45.cell k90 (by show b9≠c.mb;omega),hk45.cell k91 (by show b9≠c.mb;omega)⟩
        have hzW:=hbW.size
        refine ⟨ab,rfl,hcs,fun W' hb'=>?_,fun W' hb'=>?_⟩
        ·have ht5:=ht4.keep hk45 (fun k hk e=>by have:=HF3.out k hk;omega)
         refine (Ct W' F p T (ht5.keep (Keep.below (F:=fun _=>False) hb') (fun _ _ h=>h)) hok hc).mono ?_
         rintro e w6 ⟨rfl,hb6⟩
         have hb56:=hb'.trans (hb6.mono hb'.size)
         rw [←hS]
         exact ⟨rfl,⟨Qq hb56 hcs.1,Qq hb56 hcs.2.1,Qq hb56 hcs.2.2⟩,hb56⟩
        ·refine (Qek W' c X V.cap x ab S (hl5.below hb') hnx (by omega)).mono ?_
         rintro e w7 ⟨rfl,hb7⟩
         have hkk:Keep (fun k=>k=c.mb) w4 w7:=(hk45.transBelow hb').transBelow hb7
         exact ⟨rfl,⟨hkk.cell kv1 (fun e=>hmv e.symm),hkk.cell k90 (by show b9≠c.mb;omega),hkk.cell k91 (by show b9≠c.mb;omega)⟩,hkk⟩

       clear hx4 ht4 hb4 e0 e1 e2 e3 c90 c92 c93
       go_wp2_with fail
       go_region_held3 (fun w'=>w'.cell? ⟨v,1,none⟩=some (.pointer (some ⟨c.lb,0,none⟩))∧w'.cell? ⟨b9,0,none⟩=some (.int .i64 x.id)∧w'.cell? ⟨b9,1,none⟩=some (.int .i64 x.size)) (first|with_reducible exact HC7.out|with_reducible exact HC6.out|with_reducible exact HC5.out|with_reducible exact HK4.out _ (Below.refl _ _)|with_reducible exact HK4.out _ (Below.refl _ _).drew) (first|(go_at_call 70;refine (HOP.out _ (Below.refl _ _).drew).mono ?_;rintro e w5 ⟨ab,rfl,hc5,hn5,hg5⟩;have HC5:=Ql4 hc5;have HN5:=Ql4 hn5;have HG5:=Ql4 hg5;clear hc5 hn5 hg5)|(go_at_call 107;refine (HN5.out _ (Below.refl _ _)).mono ?_;rintro e w6 ⟨rfl,hc6,hb6⟩;have HC6:=Ql4 hc6;have HB6:=Ql4 hb6;clear hc6 hb6)|(go_at_call 106;refine (HG5.out _ HB6.out).mono ?_;rintro e w7 ⟨rfl,hc7,hk7⟩;have HC7:=Ql4 hc7;have HK7:=Ql4 hk7;clear hc7 hk7))

       go_wp2_with fail
       go_ret
       rw [HRN.out]
       exact ⟨rfl,HL4.out.no' HK7.out⟩
   ·obtain rfl:j=m:=by omega
    have b0:wr.cell? ⟨w.heap.size,0,none⟩=some (.int .i64 at_):=HL.out.box.cell 0
    have v3:=HL.out.vo.obj.cell 3
    have v4:=HL.out.vo.obj.cell 4
    have f3:=HL.out.vo.obj.fz 3
    have f4:=HL.out.vo.obj.fz 4
    simp [Qi] at v3 v4
    go_wp2_with fail
    have hdn:l.drop j=[]:=List.drop_eq_nil_of_le (by have:=HM.out;omega)
    rw [hdn] at HLL
    have hrr:some (X.map (·.1))=r:=HLL.out
    have HSX:Hid (Yr X):=⟨by rw [HX.out];exact hl8,fun x hx=>HSM.out g (X.map (·.1)) (by rw [←hrr];rfl) x.1 (List.mem_map.2 ⟨x,hx,rfl⟩)⟩
    have hkv:Keep (fun k=>k=v) wr ((wr.setCell ⟨v,3,none⟩ (.int .i64 g)).setCell ⟨v,4,none⟩ (.int .i64 at_)).drew:=((Keep.set1 wr v 3 _).setCell (.inl rfl) _).drew
    have HKV:=Ql4 hkv
    have HV4:Hid (VoIn ((wr.setCell ⟨v,3,none⟩ (.int .i64 g)).setCell ⟨v,4,none⟩ (.int .i64 at_)).drew v c X ({V with l:=X.map (fun y:Sp×Bl=>y.1),gen:=g,root:=at_}:Vo)):=HL.out.vo.setV hkv (show Whole ((wr.setCell ⟨v,3,none⟩ (.int .i64 g)).setCell ⟨v,4,none⟩ (.int .i64 at_)) v _ _ by simpa [Qi] using (HL.out.vo.obj.set 3 (.int .i64 g)).set 4 (.int .i64 at_)) rfl rfl rfl rfl
    have HVP:=Ql4 (Ic _ v c X _ HV4.out HSX.out)
    clear hkv
    go_region
    go_wp2_with fail
    refine HVP.out.mono ?_
    rintro e w5 ⟨v',L,rfl,hp5,ho5,hb5⟩
    have HP5:=Ql4 hp5
    have HO5:=Ql4 ho5
    have HB5:=Ql4 hb5
    have HV5:=Ql4 (HV4.out.below hb5)
    have f5:=HV5.out.obj.fz 5
    have c5:=HV5.out.obj.cell 5
    simp [Qi] at c5
    obtain ⟨A5,d5,rfl⟩:=Qk ho5
    clear hp5 ho5 hb5 v3 v4 f3 f4 b0
    go_wp2_with fail
    go_ret
    subst hrr
    have hk6:Keep (fun k=>k=v) w5 (w5.setCell ⟨v,5,none⟩ (.slice A5 L.length d5)):=Keep.set1 w5 v 5 _
    have hsz:((wr.setCell ⟨v,3,none⟩ (.int .i64 g)).setCell ⟨v,4,none⟩ (.int .i64 at_)).drew.heap.size=wr.heap.size:=by show ((wr.setCell ⟨v,3,none⟩ (.int .i64 g)).setCell ⟨v,4,none⟩ (.int .i64 at_)).heap.size=_;simp only [World.size_setCell]
    have hgo:∀q,(Value.slice A5 L.length d5).ownBlock=some q→wr.heap.size≤q∧¬vF v c X q:=fun q hq=>by
     have h1:=(HO5.out.lt q hq).1
     have h2:=HV4.out.lt
     rw [hsz] at h1
     exact ⟨h1,fun hv=>by have:=h2 q hv;rw [hsz] at this;omega⟩
    have hvl:v < wr.heap.size:=HL.out.vo.obj.lt
    have hws:w.heap.size≤wr.heap.size:=HL.out.mv.keep.size
    have h00:=H0.out
    have hvm:vF v c X v:= .inr (by simp [Dl])
    refine ⟨X,.slice A5 L.length d5,L,rfl,rfl,HP5.out,HV5.out.relast hk6 (by simpa [Qi] using HV5.out.obj.set 5 (.slice A5 L.length d5)) rfl rfl rfl (Qj (Qs HO5.out (Nat.zero_le _)) hk6 (fun q hq e=>by have:=(hgo q hq).1;omega)) (fun q hq=>⟨(hgo q hq).2,by have:=(hgo q hq).1;omega⟩),?_⟩
    have hm5:Mv (vF v c []) w (vF v c X) w5:=⟨(HL.out.mv.keep.trans HKV.out (fun k hk=>HL.out.mv.sub k (by subst hk;exact hvm))).transBelow HB5.out,HL.out.mv.sub⟩
    refine ⟨hm5.keep.trans hk6 (fun k hk=>hm5.sub k (by subst hk;exact hvm)),fun k hk=>?_⟩
    rcases hk with hk|hk
    ·exact hm5.sub k (.inl hk)
    ·rcases Oi hk with hk|hk
     ·exact hm5.sub k (.inr hk)
     ·exact .inr (by have:=(hgo k hk).1;omega)
end vo
namespace vo
open Go.RowKit er st tr nd pg
theorem Qje {h:Nat} (ih:∀n n':Nd h,strip n'=strip n→ats n'=ats n→n'=n):∀(l l':List (Nd h)),l'.map strip=l.map strip→l'.flatMap ats=l.flatMap ats→l'=l
 |[],[],_,_=>rfl
 |[],_::_,h,_=>by simp at h
 |_::_,[],h,_=>by simp at h
 |k::r,k'::r',h1,h2=>by
  rw [List.map_cons,List.map_cons] at h1
  injection h1 with e1 e2
  rw [List.flatMap_cons,List.flatMap_cons] at h2
  have hl:(ats k').length=(ats k).length:=by rw [Zf,Zf,←Xg k',e1,Xg]
  obtain ⟨a1,a2⟩:=List.append_inj h2 hl
  rw [ih k k' e1 a1,Qje ih r r' e2 a2]
theorem Qo5:∀{h:Nat} (n n':Nd h),strip n'=strip n→ats n'=ats n→n'=n
 |0,n,n',h1,h2=>by
  have e1:n'.l=n.l:=by
   have h:=congrArg Nd.l h1
   exact h
  have e2:n'.at_=n.at_:=by
   have h2:[n'.at_]=[n.at_]:=h2
   injection h2
  obtain ⟨a,l⟩:=n
  obtain ⟨a',l'⟩:=n'
  have e1:l'=l:=e1
  have e2:a'=a:=e2
  rw [e1,e2]
 |h+1,n,n',h1,h2=>by
  have e1:n'.ks.map strip=n.ks.map strip:=by
   have h:=congrArg Nd.ks h1
   exact h
  have h2:n'.ks.flatMap ats++[n'.at_]=n.ks.flatMap ats++[n.at_]:=h2
  obtain ⟨a1,a2⟩:=List.append_inj' h2 rfl
  have e2:n'.at_=n.at_:=by injection a2
  have e3:=Qje Qo5 n.ks n'.ks e1 a1
  obtain ⟨a,l⟩:=n
  obtain ⟨a',l'⟩:=n'
  have e3:l'=l:=e3
  have e2:a'=a:=e2
  rw [e3,e2]
theorem Nc:∀(xs:List Int) (ps:List Pg) (bs:List Int),(∀a∈xs,a≠-1)→Xo xs ps bs=[]
 |[],_,_,_=>by simp [Xo]
 |_::_,[],_,_=>by simp [Xo]
 |_::_,_::_,[],_=>by simp [Xo]
 |a::xs,p::ps,b::bs,h=>by
  unfold Xo
  rw [if_neg (h a (by simp)),Nc xs ps bs (fun x hx=>h x (by simp [hx]))]
  rfl
theorem Qk0 {σ:Type} {step:σ→Pg→Int→σ→Prop} {h:Nat} {n n':Nd h} {s0 s:σ} {j:Nat} (ho:∀a∈ats n,a≠-1) (hw:WrS step n s0 j n' s):n'=n∧s=s0:=by
 refine ⟨Qo5 n n' hw.strip ?_,?_⟩
 ·obtain ⟨_,l2⟩:=hw.lens
  apply List.ext_getElem?
  intro i
  cases hi:(ats n)[i]? with
  |none=>rw [List.getElem?_eq_none (by have:=List.getElem?_eq_none_iff.1 hi;omega)]
  |some a=>exact hw.old i a hi (ho a (List.mem_of_getElem? hi))
 ·have hr:=hw.run
  rw [Nc _ _ _ (fun a ha=>ho a (List.mem_of_mem_take ha))] at hr
  exact hr
def Old:Tree→Prop
 |.no=>True
 |.top _ m=>nfs m=ats m∧frN m=0∧(nfs m).Nodup∧(∀a∈nfs m,0≤a∧a < 2048)∧Zc m≤16777216
theorem Qow {h:Nat} {m:Nd h} (ho:Old (.top h m)):∀a∈ats m,a≠-1:=fun a ha=>by
 obtain ⟨h1,_,_,h4,_⟩:=ho
 have:=h4 a (by rw [h1];exact ha)
 omega
theorem Mf {n:Nand} {x:rt.Space} {hh:Nat} {m:Nd hh} (h:K6 n x=some (.top hh m)):x.high≠0∧hh=(x.high - 1).toNat∧Qd (Xv n x.id) x.top hh x.top=some m∧Chk (flat m):=by
 unfold K6 at h
 split at h
 ·cases h
 ·rename_i h0
  unfold Ac at h
  split at h
  ·rename_i m2 hm2
   split at h
   ·rename_i hc
    injection h with h
    injection h with e1 e2
    subst e1
    obtain rfl:=eq_of_heq e2
    exact ⟨h0,rfl,hm2,Xj _ hc⟩
   ·cases h
  ·cases h
theorem Qyg {n:Nand} {x:rt.Space} {T:Tree} (hn:n.blocks * n.per≤512) (h:K6 n x=some T):Old T:=by
 cases T with
 |no=>exact trivial
 |top hh m=>
  obtain ⟨_,_,hr,hc⟩:=Mf h
  obtain ⟨g1,g2,_⟩:=Fy hr hc
  obtain ⟨f1,f2⟩:=Qjd hr
  refine (show nfs m=ats m∧frN m=0∧(nfs m).Nodup∧(∀a∈nfs m,0≤a∧a < 2048)∧Zc m≤16777216 from ⟨f1,f2,by rw [f1];exact g1,fun a ha=>?_,by omega⟩)
  rw [f1] at ha
  have:=Lu hr a ha
  omega
theorem Qyu {n:Nand} {x:rt.Space} {T:Tree} (hx:rt.spB x=true) (h:K6 n x=some T):Qqh T=x.top∧((T.high:Nat):Int)=x.high:=by
 obtain ⟨_,_,_,_,q5,q6,q7,q8⟩:=rt.Jp hx
 cases T with
 |no=>
  have h0:x.high=0:=by
   unfold K6 at h
   split at h
   ·assumption
   ·unfold Ac at h
    split at h
    ·split at h
     ·cases h
     ·cases h
    ·cases h
  exact ⟨(q7 h0).symm,by rw [h0];rfl⟩
 |top hh m=>
  obtain ⟨h0,h1,hr,_⟩:=Mf h
  refine ⟨(Y6 hr).1,?_⟩
  show ((hh+1:Nat):Int)=x.high
  omega
def spS (s:Sp):rt.Space:=⟨s.id,s.size,Qqh s.tr,s.tr.high⟩
theorem Qdy (X:XL):X.map Q6=(X.map (·.1)).map spS:=by rw [List.map_map];rfl
theorem F9 {n:Nand} {x:rt.Space} {s:Sp} (h:Yg n x=some s):∃T,K6 n x=some T∧Z5 n x.id x.size T.flat=true∧s=⟨x.id,x.size,Jz T.flat,T⟩:=by
 unfold Yg at h
 split at h
 ·rename_i T hT
  split at h
  ·rename_i hh
   injection h with h
   exact ⟨T,hT,hh,h.symm⟩
  ·cases h
 ·cases h
theorem Qy9 {n:Nand} {x:rt.Space} {s:Sp} (hx:rt.spB x=true) (h:Yg n x=some s):spS s=x:=by
 obtain ⟨T,hT,_,rfl⟩:=F9 h
 obtain ⟨e1,e2⟩:=Qyu hx hT
 show (⟨x.id,x.size,Qqh T,((T.high:Nat):Int)⟩:rt.Space)=x
 rw [e1,e2]
theorem Qjq {size:Int}:∀{l:List Ext} {lo:Int},Chk l→(∀e∈l,e.end_≤size)→(∀e∈l,lo≤e.fr)→lo≤size→0≤Jz l∧Jz l≤size - lo
 |[],lo,_,_,_,h=>by simp only [Jz,List.map_nil,List.sum_nil];omega
 |e::r,lo,hc,he,hl,h=>by
  have hp:=List.pairwise_cons.1 hc.ord
  have hcr:Chk r:=⟨fun x hx=>hc.one x (by simp [hx]),hp.2⟩
  have ih:=Qjq (lo:=e.end_) hcr (fun x hx=>he x (by simp [hx])) (fun x hx=>(hp.1 x hx).1) (he e (by simp))
  have h1:=Qy (hc.one e (by simp))
  have h2:=hl e (by simp)
  have e1:Jz (e::r)=e.n+Jz r:=by simp [Jz]
  have e2:e.end_=e.fr+e.n:=rfl
  omega
theorem Qy8 {n:Nand} {x:rt.Space} {s:Sp} (hx:rt.spB x=true) (h:Yg n x=some s):0≤s.used∧s.used≤s.size:=by
 obtain ⟨T,hT,hh,rfl⟩:=F9 h
 obtain ⟨_,hc⟩:=Fx hT
 have hz:=(rt.Jp hx).2.2.1
 have:=Qjq (size:=x.size) (lo:=0) hc (fun e he=>by
  have h1:=List.all_eq_true.1 hh e he
  unfold Ug at h1
  simp only [Bool.and_eq_true,decide_eq_true_eq] at h1
  exact h1.1) (fun e he=>by have:=Qy (hc.one e he);omega) hz
 show 0≤Jz T.flat∧Jz T.flat≤x.size
 omega
theorem D9 (a b:List Sp):Zw (a++b)=Zw a+Zw b:=by simp [Zw]
theorem Ih (s:Sp) (b:List Sp):Zw (s::b)=s.used+Zw b:=by simp [Zw]
theorem L8:∀{L:List Sp},(∀s∈L,0≤s.used)→0≤Zw L
 |[],_=>by simp [Zw]
 |s::r,h=>by
  have:=L8 (L:=r) (fun x hx=>h x (by simp [hx]))
  have:=h s (by simp)
  rw [Ih]
  omega
theorem Nr {n:Nand} {cap:Int}:∀{L a:List Sp},(∀s∈L,Yg n (spS s)=some s∧0≤s.used)→Zw (a++L)≤cap→Ke n cap a (L.map spS)=some (a++L)
 |[],a,_,_=>by simp [Ke]
 |s::r,a,h,hc=>by
  obtain ⟨h1,h2⟩:=h s (by simp)
  have hr:=L8 (L:=r) (fun x hx=>(h x (by simp [hx])).2)
  rw [D9,Ih] at hc
  rw [List.map_cons]
  unfold Ke
  rw [h1]
  show (if s.used≤cap - Zw a then Ke n cap (a++[s]) (r.map spS) else none)=_
  rw [if_pos (by omega),Nr (fun x hx=>h x (by simp [hx])) (by rw [D9,D9,Ih];show Zw a+(s.used+Zw [])+Zw r≤cap;simp [Zw] at hc ⊢;omega)]
  simp
theorem Np {n:Nand} {cap:Int}:∀{l:List rt.Space} {a r:List Sp},Ke n cap a l=some r→∃L,r=a++L∧L.length=l.length∧∀s∈L,∃x∈l,Yg n x=some s
 |[],a,r,h=>by
  unfold Ke at h
  injection h with h
  exact ⟨[],by simp [h],rfl,fun s hs=>by cases hs⟩
 |x::l,a,r,h=>by
  unfold Ke at h
  split at h
  ·rename_i p hp
   split at h
   ·obtain ⟨L,h1,h3,h2⟩:=Np h
    refine ⟨p::L,by simp [h1],by simp [h3],fun s hs=>?_⟩
    rcases List.mem_cons.1 hs with rfl|hs
    ·exact ⟨x,by simp,hp⟩
    ·obtain ⟨y,hy,hy2⟩:=h2 s hs
     exact ⟨y,by simp [hy],hy2⟩
   ·cases h
  ·cases h
theorem El {n:Nand} {cap g:Int} {f:Fnd} {L:List Sp} (h:Zo n cap f=some (g,L)):∃l,rt.Xa f.p.body=some (g,l)∧rt.Ga f=g∧0≤g∧L.length≤8∧∀s∈L,rt.spB (spS s)=true∧Yg n (spS s)=some s:=by
 unfold Zo at h
 split at h
 ·rename_i g' l hd
  cases hl:Ke n cap [] l with
  |none=>rw [hl] at h;cases h
  |some r=>
   rw [hl] at h
   injection h with h
   injection h with h1 h2
   subst h1 h2
   obtain ⟨L,e1,h3,h2⟩:=Np hl
   rw [List.nil_append] at e1
   subst e1
   obtain ⟨m1,_,m3,m4,_⟩:=rt.Oj (Hr hd)
   refine ⟨l,hd,by unfold rt.Ga;rw [hd],m1,by omega,fun s hs=>?_⟩
   obtain ⟨x,hx,hx2⟩:=h2 s hs
   have:=Qy9 (m4 x hx) hx2
   rw [this]
   exact ⟨m4 x hx,hx2⟩
 ·cases h
structure Qqj (n n':Nand):Prop where
 get:∀(id a:Int),1≤id→Xv n' id a=Xv n id a
 std:∀(id sec a:Int),1≤id→Zk n' id sec a=Zk n id sec a
theorem Qjk {n n':Nand} (h:Qqj n n') {x:rt.Space} (hx:1≤x.id):Yg n' x=Yg n x:=by
 have hg:Xv n' x.id=Xv n x.id:=funext fun a=>h.get x.id a hx
 have ht:K6 n' x=K6 n x:=by
  unfold K6 Ac
  rw [hg]
 have he:∀(e:Ext) (k:Nat),Xh n' x.id e k=Xh n x.id e k:=fun e k=>by
  unfold Xh
  congr 1
  funext i
  exact h.std x.id _ _ hx
 have hh:∀l:List Ext,Z5 n' x.id x.size l=Z5 n x.id x.size l:=fun l=>by
  unfold Z5
  congr 1
  funext e
  unfold Ug
  rw [he]
 unfold Yg
 rw [ht]
 simp only [hh]
theorem C8 {n n':Nand} (h:Qqj n n') {cap:Int}:∀{l:List rt.Space} {a:List Sp},(∀x∈l,1≤x.id)→Ke n' cap a l=Ke n cap a l
 |[],a,_=>rfl
 |x::l,a,hl=>by
  unfold Ke
  rw [Qjk h (hl x (by simp))]
  split
  ·split
   ·exact C8 h (fun y hy=>hl y (by simp [hy]))
   ·rfl
  ·rfl
theorem Qq3 {n n':Nand} (h:Qqj n n') (cap:Int) (f:Fnd):Zo n' cap f=Zo n cap f:=by
 unfold Zo
 split
 ·rename_i g l hd
  rw [C8 h (fun x hx=>((rt.Jp ((rt.Oj (Hr hd)).2.2.2.1 x hx)).1))]
 ·rfl
theorem Qyr {n n':Nand} {cap g:Int} {S:List Fnd} {R f':Fnd} {l1 l2 pre' post':List Fnd} {L':List Sp} {g':Int} (hs:Qqj n n') (hp1:l1.Perm S) (hp2:l2.Perm (S++[R])) (hw1:l1.Pairwise rt.newer) (hw2:l2.Pairwise rt.newer)
  (hop:(∃(pre post:List Fnd) (f:Fnd) (L:List Sp),l1=pre++f::post∧(∀z∈pre,Zo n cap z=none)∧Zo n cap f=some (g,L))∨(∀z∈l1,Zo n cap z=none))
  (hR:rt.Ga R=g+1) (hRl:Zo n' cap R≠none) (e2:l2=pre'++f'::post') (hpre:∀z∈pre',Zo n' cap z=none) (hf':Zo n' cap f'=some (g',L')):f'=R:=by
 apply Classical.byContradiction
 intro hne
 have hm2:∀z,z∈l2↔z∈S∨z=R:=fun z=>by rw [hp2.mem_iff];simp
 have hfS:f'∈S:=((hm2 f').1 (by rw [e2];simp)).resolve_right hne
 have hRin:R∈l2:=(hm2 R).2 (.inr rfl)
 have hRpost:R∈post':=by
  rw [e2] at hRin
  rcases List.mem_append.1 hRin with h|h
  ·exact absurd (hpre R h) hRl
  ·rcases List.mem_cons.1 h with h|h
   ·exact absurd h.symm hne
   ·exact h
 have hge:g+1≤rt.Ga f':=by
  rw [e2] at hw2
  have:=(List.pairwise_cons.1 (List.pairwise_append.1 hw2).2.1).1 R hRpost
  unfold rt.newer at this
  omega
 have hl:Zo n cap f'=some (g',L'):=by rw [←Qq3 hs];exact hf'
 have hf1:f'∈l1:=hp1.mem_iff.2 hfS
 rcases hop with ⟨pre,post,f,L,e1,h1,h2⟩|h1
 ·have hgf:=(El h2).choose_spec.2.1
  rw [e1] at hf1 hw1
  rcases List.mem_append.1 hf1 with h|h
  ·rw [h1 f' h] at hl;cases hl
  ·rcases List.mem_cons.1 h with h|h
   ·subst h
    omega
   ·have:=(List.pairwise_cons.1 (List.pairwise_append.1 hw1).2.1).1 f' h
    unfold rt.newer at this
    omega
 ·rw [h1 f' hf1] at hl;cases hl
end vo
namespace vo
open Go.RowKit Go.Maps er st tr nd pg ge
set_option maxRecDepth 100000
set_option maxHeartbeats 16000000
theorem Qu9 (w:World) (q p:Nat) (sv vv:Value) (N:Nat→Prop) (s:Sto) (h:StoIn w q p sv vv N s) (hl:LaidT w) (hd:s.n.down=false) (ht:∀a,(s.n.read a).2.size≤70368744177664):
  Calls Tryz.prog 60 #[.pointer (some ⟨q,0,none⟩)] w fun e w'=>∃A c,e= .returned (.tuple #[.slice A (Qu s.n (s.n.blocks * s.n.per)).length c,.nilIface])∧w'.ownsRow w.heap.size 109 6 (.slice A (Qu s.n (s.n.blocks * s.n.per)).length c) (Qu s.n (s.n.blocks * s.n.per)).length (Qe (Qu s.n (s.n.blocks * s.n.per)))∧Below w.heap.size w w':=by
 have H:=Ql4 h
 have HL:=Ql4 hl
 have HT:=Ql4 ht
 have c0:=h.cells.c0
 have hq:=Qx7 q
 clear h hl ht
 go_enter Tryz.func60,Tryz.ntmps60
 go_wp2_with fail
 refine (Qqi _ _ _ _ H.out.arr).mono ?_
 rw [hd]
 rintro e w1 ⟨rfl,rfl⟩
 go_wp2_with fail
 refine (Tx _ _ _ _ _ _ _ H.out HL.out HT.out).mono ?_
 rintro e w1 ⟨A,c,rfl,ho,hb⟩
 have HO:=Ql4 ho
 have HB:=Ql4 hb
 obtain ⟨n,hn⟩:∃n,(Qu s.n (s.n.blocks * s.n.per)).length=n:=⟨_,rfl⟩
 have HNN:=Ql4 hn
 rw [hn]
 clear ho hb hn
 go_wp2_with fail
 obtain rfl:=HNN.out
 obtain ⟨n,hn⟩:∃n,(Qu s.n (s.n.blocks * s.n.per)).length=n:=⟨_,rfl⟩
 have HO':=HO.out
 rw [hn] at HO' ⊢
 refine bodyPost_ret (v:= .tuple #[.slice A n c,.nilIface]) (by simp [results,Tryz.results60,go_sem]) rfl ⟨A,c,rfl,HO',HB.out⟩
def Br (s:Sto):Vo:={s:=s,cap:=Jo s.n.blocks s.n.per,l:=[],gen:=0,root:= -1,last:=[],sure:=true}
def Qkt (s:Sto) (l:List Fnd) (X:XL) (V:Vo):Prop:=
 (∃(pre post:List Fnd) (f:Fnd) (g:Int) (L:List Sp) (P:List Int),l=pre++f::post∧(∀z∈pre,Zo s.n (Jo s.n.blocks s.n.per) z=none)∧Zo s.n (Jo s.n.blocks s.n.per) f=some (g,L)∧X.map (·.1)=L∧P.Perm (J9 X)∧V=Vo.kept {Br s with l:=L,gen:=g,root:=f.at_,last:=P} X)∨
 ((∀z∈l,Zo s.n (Jo s.n.blocks s.n.per) z=none)∧X=[]∧V=Br s)
def Qal (w:World) (p:Nat) (N:Nat→Prop) (n:Nand) (e:Ending) (w':World):Prop:=
 ∃v c X V l,e= .returned (.tuple #[.pointer (some ⟨v,0,none⟩),.nilIface])∧c.p=p∧VoIn w' v c X V∧l.Perm (rt.Xy (Qu n (n.blocks * n.per)))∧l.Pairwise rt.newer∧Qkt (Ka n) l X V∧Mv N w (vF v c X) w'
structure OpW (w:World) (N:Nat→Prop) (q p:Nat) (sv vv:Value) (s:Sto) (rv:Value) (l:List Fnd) (wr:World):Prop where
 sto:StoIn wr q p sv vv N s
 laid:LaidT wr
 row:wr.ownsRow w.heap.size 109 6 rv l.length (Qe l)
 far:∀g,rv.ownBlock=some g→¬foot q sv vv N g
 new:∀k,foot q sv vv (fun _=>False) k→w.heap.size≤k
 zero:¬foot q sv vv N 0
 keep:Keep N w wr
section
variable {w:World} {N:Nat→Prop} {q p:Nat} {sv vv:Value} {s:Sto} {rv:Value} {l:List Fnd} {wr:World}
theorem OpW.sub (h:OpW w N q p sv vv s rv l wr):∀k,foot q sv vv N k→N k∨w.heap.size≤k:=by
 rintro k (hk|hk|hk|hk)
 ·exact .inr (h.new k (.inl hk))
 ·exact .inr (h.new k (.inr (.inl hk)))
 ·exact .inr (h.new k (.inr (.inr (.inl hk))))
 ·exact .inl hk
theorem OpW.below {w':World} (h:OpW w N q p sv vv s rv l wr) (hb:Below wr.heap.size wr w'):OpW w N q p sv vv s rv l w':=
 ⟨h.sto.below hb,(Keep.below (F:=fun _=>False) hb).cell h.laid (fun h=>h),own_below h.row hb,h.far,h.new,h.zero,h.keep.transBelow hb⟩
theorem OpW.tried {w1 w':World} {v:Nat} {c:Pt} {V:Vo} (h:OpW w N q p sv vv s rv l wr) (hb:Below wr.heap.size wr w1) (e1:c.q=q) (e2:c.p=p) (e3:c.sv=sv) (e4:c.vv=vv) (e5:c.N=N) (e6:V.s=s) (hD:∀k∈Dl v c [],wr.heap.size≤k) (hn:Qbx w1 v c V w'):OpW w N q p sv vv s rv l w':=by
 subst e1 e2 e3 e4 e5 e6
 obtain ⟨n1,n2,n3⟩:=hn
 have h1:=h.below hb
 have hsz:=h.keep.size
 refine ⟨n1,n2,Qj h1.row n3 (fun g hg hv=>?_),h.far,h.new,h.zero,h1.keep.trans n3 (fun k hk=>?_)⟩
 ·rcases hv with hv|hv
  ·exact h.far g hg hv
  ·have:=hD g hv
   have:=(h.row.lt g hg).2
   omega
 ·rcases hk with hk|hk
  ·exact h.sub k hk
  ·exact .inr (by have:=hD k hk;omega)
end
theorem Qot {w wr w1:World} {N:Nat→Prop} {q p:Nat} {sv vv:Value} {s:Sto} {rv:Value} {l:List Fnd} {v:Nat} {c:Pt} (h:OpW w N q p sv vv s rv l wr) (hb:Below wr.heap.size wr w1) (e1:c.q=q) (e3:c.sv=sv) (e4:c.vv=vv) (e5:c.N=N) (hD:∀k∈Dl v c [],wr.heap.size≤k):Mv N w (vF v c []) w1:=by
 subst e1 e3 e4 e5
 have hsz:=h.keep.size
 refine ⟨h.keep.transBelow hb,fun k hk=>?_⟩
 rcases hk with hk|hk
 ·exact h.sub k hk
 ·exact .inr (by have:=hD k hk;omega)
theorem Fb (X:XL):J9 X=(X.map (·.1)).flatMap fun s=>Yl s.tr:=by unfold J9;rw [List.flatMap_map]
theorem D7 (w:World) (N:Nat→Prop) (p:Nat) (n:Nand) (h:NandAt w N p n) (hd:n.down=false) (hl:LaidT w) (h0:¬N 0) (h1:16≤n.blocks∧n.blocks≤64) (h2:8≤n.per∧n.per≤32) (ht:∀a,(n.read a).2.size≤70368744177664) (hs:∀a,(Qx n a).1.body.size≤1000000) (hlen:(Qu n (n.blocks * n.per)).length≤2048) (hsz:∀f∈Qu n (n.blocks * n.per),f.p.body.size≤1000000) (hsort:rt.Cg (rt.Xy (Qu n (n.blocks * n.per))))
  (hsm:∀f∈rt.Xy (Qu n (n.blocks * n.per)),∀g L,Zo n (Jo n.blocks n.per) f=some (g,L)→(∀s∈L,Small s.tr)∧(L.flatMap fun s=>Yl s.tr).length≤100000):
  Calls Tryz.prog 14 #[.pointer (some ⟨p,0,none⟩)] w (Qal w p N n):=by
 have HOP:=Ql4 (Qd4 w N p n h hd hl ht)
 have hNl:=Nh h
 have hw0:=hl.lt
 have HH:Hid (∀q sv vv w1,StoIn w1 q p sv vv N (Ka n)→Below w.heap.size w w1→(∀k,foot q sv vv (fun _=>False) k→w.heap.size≤k)→Calls Tryz.prog 60 #[.pointer (some ⟨q,0,none⟩)] w1 fun e w2=>∃A c,e= .returned (.tuple #[.slice A (Qu n (n.blocks * n.per)).length c,.nilIface])∧Calls Tryz.prog 61 #[.slice A (Qu n (n.blocks * n.per)).length c] w2 fun e w3=>∃A' k d l',e= .returned (.slice A' k d)∧k=l'.length∧k≤2048∧l'.Perm (rt.Xy (Qu n (n.blocks * n.per)))∧l'.Pairwise rt.newer∧OpW w N q p sv vv (Ka n) (.slice A' k d) l' w3):=by
  intro q sv vv w1 hst hb1 hnew
  have hl1:LaidT w1:=(Keep.below (F:=fun _=>False) hb1).cell hl (fun h=>h)
  refine (Qu9 w1 q p sv vv N (Ka n) hst hl1 hd ht).mono ?_
  rintro e w2 ⟨A,c,rfl,ho2,hb2⟩
  refine ⟨A,c,rfl,(rt.Qyx (Qu n (n.blocks * n.per)) _ w2 _ ho2 hlen hsz hsort).mono ?_⟩
  rintro e w3 ⟨v',l',rfl,k1,k2,k3,k4⟩
  obtain ⟨A',d,rfl⟩:=Qk k3
  have hb12:=hb2.trans (k4.mono hb2.size)
  have hbw:=hb1.trans (hb12.mono hb1.size)
  have hs12:=hb2.size
  have hs01:=hb1.size
  refine ⟨A',_,d,l',rfl,rfl,?_,k1,k2,hst.below hb12,(Keep.below (F:=fun _=>False) hbw).cell hl (fun h=>h),Qs k3 (by omega),fun g hg hf=>?_,hnew,fun hf=>?_,Keep.below hbw⟩
  ·rw [k1.length_eq]
   exact Nat.le_trans (List.length_filter_le _ _) hlen
  ·have:=hst.lt g hf
   have:=(k3.lt g hg).1
   omega
  ·rcases hf with hf|hf|hf|hf
   ·have:=hnew 0 (.inl hf);omega
   ·have:=hnew 0 (.inr (.inl hf));omega
   ·have:=hnew 0 (.inr (.inr (.inl hf)));omega
   ·exact h0 hf
 have HSM:=Ql4 hsm
 have HT:=Ql4 ht
 have HS:=Ql4 hs
 have HSZ:=Ql4 hsz
 have HG1:=Ql4 h1
 have HG2:=Ql4 h2
 have HW0:=Ql4 hw0
 clear h hd hl h0 h1 h2 ht hs hlen hsz hsort hsm hNl hw0
 obtain ⟨sl,hsl⟩:∃sl,(Qu n (n.blocks * n.per)).length=sl:=⟨_,rfl⟩
 rw [hsl] at HH
 clear hsl
 go_enter Tryz.func14,Tryz.ntmps14
 go_wp2_with fail
 refine HOP.out.mono ?_
 rintro e w1 ⟨q,sv,vv,rfl,hst,hb1,hnew⟩
 have HH1:=Ql4 (HH.out q sv vv w1 hst hb1 hnew)
 clear hst hb1 hnew HH HOP
 go_wp2_with fail
 refine HH1.out.mono ?_
 rintro e w2 ⟨A,c2,rfl,hrt⟩
 have HRT:=Ql4 hrt
 clear hrt HH1
 go_wp2_with fail
 refine HRT.out.mono ?_
 rintro e w3 ⟨A',k,d,l',rfl,hkl,hk2,hpm,hpw,hop⟩
 have HKL:=Ql4 hkl
 have HPM:=Ql4 hpm
 have HPW:=Ql4 hpw
 have HW3:=Ql4 hop
 have hki:(k:Int)≤2048:=by omega
 clear hkl hpm hpw hop HRT
 go_wp2_with fail
 go_loopw [8,9,31] (fun _ _ iv wr=>∃(i:Nat),i≤k∧iv= .int .i64 i∧Hid (∀z∈l'.take i,Zo n (Jo n.blocks n.per) z=none)∧Hid (OpW w N q p sv vv (Ka n) (.slice A' k d) l' wr)) (fun _ _ iv _=>k - (intOf iv).toNat)
 case atStart=>exact ⟨0,Nat.zero_le _,rfl,fun z hz=>by simp at hz,HW3.out⟩
 case round=>
  obtain ⟨i,hik,rfl,HNO,HW⟩:=hrel
  by_cases hlt:i < k
  ·have hii:(i:Int) < (k:Int):=by omega
   have hi0:(0:Int)≤(i:Int):=Int.natCast_nonneg _
   obtain ⟨f,hf⟩:∃f,l'[i]? =some f:=⟨_,List.getElem?_eq_getElem (by have:=HKL.out;omega)⟩
   have hff:f∈rt.Xy (Qu n (n.blocks * n.per)):=HPM.out.mem_iff.1 (List.mem_of_getElem? hf)
   have hbs:f.p.body.size≤1000000:=HSZ.out f (List.mem_filter.1 hff).1
   have HFM:=Ql4 (HSM.out f hff)
   have hrow:wr.ownsRow w.heap.size 109 6 (.slice A' k d) k (Qe l'):=by
    have:=HW.out.row
    rwa [←HKL.out] at this
   obtain ⟨gi,rfl,_,_,_,hcell,_⟩:=Qo hrow (by omega)
   obtain ⟨s0,s1,s2,s3,s4,s5⟩:=Xm l' i f hf
   have q0:wr.cell? ⟨gi,i * 6,none⟩=some (.int .i64 f.at_):=by have:=hcell _ _ s0;simpa using this
   have q1:wr.cell? ⟨gi,i * 6+1,none⟩=some (.int .i64 f.p.kind):=by have:=hcell _ _ s1;simpa using this
   have q2:wr.cell? ⟨gi,i * 6+2,none⟩=some (.int .i64 f.p.space):=by have:=hcell _ _ s2;simpa using this
   have q3:wr.cell? ⟨gi,i * 6+3,none⟩=some (.int .i64 f.p.key):=by have:=hcell _ _ s3;simpa using this
   have q4:wr.cell? ⟨gi,i * 6+4,none⟩=some (.int .i64 f.p.seq):=by have:=hcell _ _ s4;simpa using this
   have q5:wr.cell? ⟨gi,i * 6+5,none⟩=some (.string f.p.body):=by have:=hcell _ _ s5;simpa using this
   clear hrow hcell s0 s1 s2 s3 s4 s5
   obtain ⟨W1,hW1⟩:∃W1,wr.alloc (.cells #[.int .i64 f.at_,.int .i64 f.p.kind,.int .i64 f.p.space,.int .i64 f.p.key,.int .i64 f.p.seq,.string f.p.body] 109)=W1:=⟨_,rfl⟩
   obtain ⟨b8,hb8⟩:∃b8,wr.heap.size=b8:=⟨_,rfl⟩
   have hb1:Below wr.heap.size wr W1:=by rw [←hW1];exact (Below.refl _ _).alloc (Nat.le_refl _) _
   have hx1:Whole W1 b8 109 #[.int .i64 f.at_,.int .i64 f.p.kind,.int .i64 f.p.space,.int .i64 f.p.key,.int .i64 f.p.seq,.string f.p.body]:=by rw [←hW1];exact Whole.new' _ _ _ _ hb8
   have HX1:=Ql4 hx1
   have HW1:=Ql4 (HW.out.below hb1)
   have HBR:=Ql4 (W9 W1 q p sv vv N (Ka n) HW1.out.sto HG1.out HG2.out HW1.out.laid HW1.out.zero)
   clear hx1 hb1
   go_wp2_with fail
   refine HBR.out.mono ?_
   rintro e w4 ⟨v,c,rfl,e1,e2,e3,e4,e5,hv4,hD4,hb4⟩
   have hx4:=HX1.out.below hb4 HX1.out.lt
   have c0:w4.cell? ⟨b8,0,none⟩=some (.int .i64 f.at_):=hx4.cell 0
   have c1:w4.cell? ⟨b8,1,none⟩=some (.int .i64 f.p.kind):=hx4.cell 1
   have c2':w4.cell? ⟨b8,2,none⟩=some (.int .i64 f.p.space):=hx4.cell 2
   have c3:w4.cell? ⟨b8,3,none⟩=some (.int .i64 f.p.key):=hx4.cell 3
   have c4:w4.cell? ⟨b8,4,none⟩=some (.int .i64 f.p.seq):=hx4.cell 4
   have c5:w4.cell? ⟨b8,5,none⟩=some (.string f.p.body):=hx4.cell 5
   have HLD:Hid (Calls Tryz.prog 63 #[.pointer (some ⟨v,0,none⟩),.agg #[.int .i64 f.at_,.int .i64 f.p.kind,.int .i64 f.p.space,.int .i64 f.p.key,.int .i64 f.p.seq,.string f.p.body]] w4 (Qxk w4 v c (Br (Ka n)) f (Zo n (Jo n.blocks n.per) f))):=Qij w4 v c (Br (Ka n)) f hv4 HT.out HS.out hbs (fun g L hgl=>(HFM.out g L hgl).1)
   have HMV:=Ql4 (Qot HW1.out hb4 e1 e3 e4 e5 hD4)
   have HD4:=Ql4 hD4
   have HB4:=Ql4 hb4
   have HE:=Ql4 (show c.q=q∧c.p=p∧c.sv=sv∧c.vv=vv∧c.N=N from ⟨e1,e2,e3,e4,e5⟩)
   clear q0 q1 q2 q3 q4 q5 hx4 hv4 hD4 hb4 e1 e2 e3 e4 e5
   cases hld:Zo n (Jo n.blocks n.per) f with
   |none=>
    rw [hld] at HLD
    unfold Qxk at HLD
    simp only at HLD
    go_wp2_with fail
    refine HLD.out.mono ?_
    rintro e w5 ⟨rfl,hno⟩
    have HW5:Hid (OpW w N q p sv vv (Ka n) (.slice (some ⟨gi,0,none⟩) k d) l' w5):=by
     obtain ⟨e1,e2,e3,e4,e5⟩:=HE.out
     exact HW1.out.tried HB4.out e1 e2 e3 e4 e5 rfl HD4.out hno
    clear hno
    go_wp2_with fail
    have hmeas:k - (intOf (.int .i64 ((i:Int)+1))).toNat < k - (intOf (.int .i64 (i:Int))).toNat:=by simp [intOf];omega
    refine ⟨⟨i+1,by omega,by go_num,fun z hz=>?_,HW5⟩,hmeas⟩
    rw [List.take_add_one,hf] at hz
    rcases List.mem_append.1 hz with hz|hz
    ·exact HNO.out z hz
    ·simp at hz
     rw [hz]
     exact hld
   |some gl=>
    obtain ⟨g,L⟩:=gl
    rw [hld] at HLD
    unfold Qxk at HLD
    simp only at HLD
    have HGL:=Ql4 (HFM.out g L hld)
    have HLDD:=Ql4 hld
    clear hld
    go_wp2_with fail
    refine HLD.out.mono ?_
    rintro e w5 ⟨X,lv,P,rfl,hXL,hP,hv5,hm5⟩
    have hx8:X.length≤8:=by have:=hv5.led.ok.len;simpa [Q5,Zu] using this
    have hsx:Aq X ({(Br (Ka n)) with l:=L,gen:=g,root:=f.at_,last:=P}:Vo):=by
     refine ⟨⟨hx8,fun x hx=>HGL.out.1 x.1 (by rw [←hXL];exact List.mem_map.2 ⟨x,hx,rfl⟩)⟩,?_⟩
     show P.length≤100000
     rw [hP.length_eq,Fb,hXL]
     exact HGL.out.2
    have HKP:=Ql4 (Ov w5 v {c with lv:=lv} X _ hv5 hsx)
    have HXL:=Ql4 hXL
    have HPP:=Ql4 hP
    have HM5:=Ql4 hm5
    clear hXL hP hv5 hm5 hx8 hsx c0 c1 c2' c3 c4 c5
    go_wp2_with fail
    refine HKP.out.mono ?_
    rintro e w6 ⟨rfl,hv6,hk6⟩
    have HV6:=Ql4 hv6
    have HK6:=Ql4 hk6
    clear hv6 hk6
    go_wp2_with fail
    refine bodyPost_ret (v:= .tuple #[.pointer (some ⟨v,0,none⟩),.nilIface]) (by simp [results,Tryz.results14,go_sem]) rfl ?_
    refine ⟨v,{c with lv:=lv},X,_,l',rfl,HE.out.2.1,HV6.out,HPM.out,HPW.out,.inl ⟨l'.take i,l'.drop (i+1),f,g,L,P,?_,HNO.out,HLDD.out,HXL.out,HPP.out,rfl⟩,HMV.out.trans (HM5.out.trans ⟨HK6.out.mono (fun k _ hk=>.inl hk),fun k hk=>.inl hk⟩)⟩
    conv=>lhs;rw [←List.take_append_drop i l']
    congr 1
    rw [List.drop_eq_getElem_cons (List.getElem?_eq_some_iff.1 hf).1]
    congr 1
    exact (List.getElem?_eq_some_iff.1 hf).2
  ·obtain rfl:i=k:=by omega
   have HBR:=Ql4 (W9 wr q p sv vv N (Ka n) HW.out.sto HG1.out HG2.out HW.out.laid HW.out.zero)
   have htk:l'.take i=l':=List.take_of_length_le (by have:=HKL.out;omega)
   rw [htk] at HNO
   go_wp2_with fail
   refine HBR.out.mono ?_
   rintro e w4 ⟨v,c,rfl,e1,e2,e3,e4,e5,hv4,hD4,hb4⟩
   have HMV:=Ql4 (Qot HW.out hb4 e1 e3 e4 e5 hD4)
   have HV4:=Ql4 hv4
   have HE2:=Ql4 e2
   clear hD4 hb4 hv4 e1 e2 e3 e4 e5
   go_wp2_with fail
   refine bodyPost_ret (v:= .tuple #[.pointer (some ⟨v,0,none⟩),.nilIface]) (by simp [results,Tryz.results14,go_sem]) rfl ?_
   exact ⟨v,c,[],_,l',rfl,HE2.out,HV4.out,HPM.out,HPW.out,.inr ⟨HNO.out,rfl,rfl⟩,HMV.out⟩
end vo
end Go.Proofs.YtfialjmemcobjaaGreatDoor
