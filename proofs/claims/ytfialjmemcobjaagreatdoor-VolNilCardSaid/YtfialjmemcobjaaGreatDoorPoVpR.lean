/- A part of the proof. -/
import Derived.Test.YtfialjmemcobjaaGreatDoorPoRtE
import Derived.Test.YtfialjmemcobjaaGreatDoorPoVpM
import Derived.Test.YtfialjmemcobjaaGreatDoorPoVpP
namespace Go.Proofs.YtfialjmemcobjaaGreatDoor.vo
open Go.RowKit Go.Maps Go.Proofs.YtfialjmemcobjaaGreatDoor.er Go.Proofs.YtfialjmemcobjaaGreatDoor.st Go.Proofs.YtfialjmemcobjaaGreatDoor.tr Go.Proofs.YtfialjmemcobjaaGreatDoor.nd Go.Proofs.YtfialjmemcobjaaGreatDoor.pg
set_option linter.unusedVariables false
set_option linter.unusedSimpArgs false
set_option maxRecDepth 100000
set_option maxHeartbeats 16000000
structure LdW (w:World) (v:Nat) (c:Pt) (b3:Nat) (fc:Array Value) (rv:Value) (l:List rt.Space) (V:Vo) (j:Nat) (X:XL) (wr:World):Prop where
 vo:VoIn wr v c X {V with l:=X.map (·.1)}
 row:wr.ownsRow (w.heap.size+1) 206 4 rv l.length (rt.spCells l)
 box:Whole wr b3 109 fc
 far:∀k,(k=b3∨rv.ownBlock=some k)→¬vF v c X k
 ord:∀x∈X,∀y∈l.drop j,x.1.id < y.id
 mv:Mv (vF v c []) w (vF v c X) wr
section
variable {w:World} {v:Nat} {c:Pt} {b3:Nat} {fc:Array Value} {rv:Value} {l:List rt.Space} {V:Vo} {j:Nat} {X:XL} {wr:World}
theorem LdW.lt (h:LdW w v c b3 fc rv l V j X wr):∀k,(k=b3∨rv.ownBlock=some k)→k < wr.heap.size:=by
 rintro k (rfl|hk)
 ·exact h.box.lt
 ·exact (h.row.lt k hk).2
theorem LdW.move {w':World} {Y:XL} {i:Nat} (h:LdW w v c b3 fc rv l V j X wr) (hv:VoIn w' v c Y {V with l:=Y.map (·.1)}) (hm:Mv (vF v c X) wr (vF v c Y) w') (ho:∀x∈Y,∀y∈l.drop i,x.1.id < y.id):LdW w v c b3 fc rv l V i Y w':=by
 have hl:=h.lt
 have hf:=h.far
 refine ⟨hv,own_keep h.row hm.keep (fun g hg=>hf g (.inr hg)),h.box.keep hm.keep (hf _ (.inl rfl)),fun k hk hv'=>?_,ho,h.mv.trans hm⟩
 rcases hm.sub k hv' with e|e
 ·exact hf k hk e
 ·have:=hl k hk;omega
theorem LdW.below {w':World} (h:LdW w v c b3 fc rv l V j X wr) (hb:Below wr.heap.size wr w'):LdW w v c b3 fc rv l V j X w':=h.move (h.vo.below hb) (Mv.below hb) h.ord
end
def LdNo (w:World) (v:Nat) (c:Pt) (V:Vo) (w':World):Prop:=StoIn w' c.q c.p c.sv c.vv c.N V.s∧LaidT w'∧Keep (vF v c []) w w'
noncomputable def loadD (n:Nand) (cap:Int) (f:Fnd):Option (Int×List Sp):=
 match rt.decR f.p.body with
 |some (g,l)=>(loadL n cap [] l).map fun L=>(g,L)
 |none=>none
def LdRet (w:World) (v:Nat) (c:Pt) (V:Vo) (f:Fnd) (r:Option (Int×List Sp)) (e:Ending) (w':World):Prop:=
 match r with
 |some (g,L)=>∃X lv P,e= .returned (.bool true)∧X.map (·.1)=L∧P.Perm (pgsX X)∧VoIn w' v {c with lv:=lv} X {V with l:=L,gen:=g,root:=f.at_,last:=P}∧Mv (vF v c []) w (vF v {c with lv:=lv} X) w'
 |none=>e= .returned (.bool false)∧LdNo w v c V w'
theorem LdW.no {w:World} {v:Nat} {c:Pt} {b3:Nat} {fc:Array Value} {rv:Value} {l:List rt.Space} {V:Vo} {j:Nat} {X:XL} {wr:World} (h:LdW w v c b3 fc rv l V j X wr):LdNo w v c V wr:=⟨h.vo.sto,h.vo.laid,h.mv.keep⟩
theorem LdW.no' {w:World} {v:Nat} {c:Pt} {b3:Nat} {fc:Array Value} {rv:Value} {l:List rt.Space} {V:Vo} {j:Nat} {X:XL} {wr w':World} (h:LdW w v c b3 fc rv l V j X wr) (hk:Keep (fun k=>k=c.mb) wr w'):LdNo w v c V w':=by
 have hm:c.mb∈Dl v c X:=by simp [Dl]
 refine ⟨h.vo.sto.keep hk (fun k hs e=>(h.vo.far _ hm).1 (e▸hs)),hk.cell h.vo.laid (fun e=>(h.vo.far _ hm).2 e.symm),h.mv.keep.trans hk (fun k e=>h.mv.sub k (by subst e;exact .inr hm))⟩
theorem LdW.add {w:World} {v:Nat} {c:Pt} {b3:Nat} {fc:Array Value} {rv:Value} {l:List rt.Space} {V:Vo} {j:Nat} {X:XL} {wr w':World} {x:rt.Space} {u:Int} {T:Tree} {ab p:Nat} {F:List Nat} (h:LdW w v c b3 fc rv l V j X wr) (hup:rt.upB l=true) (hx:l[j]? =some x) (hn:∀z∈X,z.1.id < x.id) (hk:Keep (fun k=>k=c.mb∨k=c.tb) wr w') (hl:LedIn w' c.lb c.mb V.cap (LLput (accL X) (⟨x.id,x.size,u⟩,ab))) (ht:MapAt w' c.tb (mput (treeL X) x.id p)) (hp:TrAt w' F p T) (hok:T.Ok) (hc:Chk T.flat) (hab:wr.heap.size≤ab) (hF:∀k∈F,wr.heap.size≤k) (hne:ab∉F):LdW w v c b3 fc rv l V (j+1) (X++[((⟨x.id,x.size,u,T⟩:Sp),(⟨ab,p,F⟩:Bl))]) w':=by
 have hv:=h.vo.loaded (T:=T) (u:=u) (fun z hz=>by have:=hn z hz;omega) hk hl ht hp hok hc hab hF hne
 have e1:xput X ((⟨x.id,x.size,u,T⟩:Sp),(⟨ab,p,F⟩:Bl))=X++[((⟨x.id,x.size,u,T⟩:Sp),(⟨ab,p,F⟩:Bl))]:=xput_last hn
 have hperm:=dl_putF (v:=v) (c:=c) (X:=X) (s:=(⟨x.id,x.size,u,T⟩:Sp)) (ab:=ab) (p:=p) (F:=F) (fun z hz=>by have:=hn z hz;show z.1.id≠x.id;omega)
 rw [e1] at hv hperm
 refine h.move hv ⟨hk.mono (fun k _ e=>?_),fun k hk=>?_⟩ (fun z hz y hy=>?_)
 ·rcases e with rfl|rfl <;> exact .inr (by simp [Dl])
 ·rcases hk with hk|hk
  ·exact .inl (.inl hk)
  ·rcases List.mem_append.1 (hperm.mem_iff.1 hk) with hk|hk
   ·rcases List.mem_cons.1 hk with rfl|hk
    ·exact .inr hab
    ·exact .inr (hF k hk)
   ·exact .inl (.inr hk)
 ·rcases List.mem_append.1 hz with hz|hz
  ·refine h.ord z hz y ?_
   rw [List.drop_eq_getElem_cons (List.getElem?_eq_some_iff.1 hx).1]
   exact List.mem_cons_of_mem _ hy
  ·simp only [List.mem_singleton] at hz
   subst hz
   exact up_from hup hx y hy
theorem load_any (w:World) (v:Nat) (c:Pt) (V:Vo) (f:Fnd) (h:VoIn w v c [] V) (ht:∀a,(V.s.n.read a).2.size≤70368744177664) (hs:∀a,(readS V.s.n a).1.body.size≤1000000) (hb:f.p.body.size≤1000000) (hsm:∀g L,loadD V.s.n V.cap f=some (g,L)→∀s∈L,Small s.tr):
  Calls Tryz.prog 63 #[.pointer (some ⟨v,0,none⟩),.agg #[.int .i64 f.at_,.int .i64 f.p.kind,.int .i64 f.p.space,.int .i64 f.p.key,.int .i64 f.p.seq,.string f.p.body]] w (LdRet w v c V f (loadD V.s.n V.cap f)):=by
 obtain ⟨at_,⟨pk,ps,py,pq,pb⟩⟩:=f
 simp only at hb ⊢
 have hlt:=h.lt
 have h00:=h.laid.lt
 have HRR:Hid (∀W,Calls Tryz.prog 125 #[.string pb] W (rt.RdRet pb W)):=fun W=>rt.read_any pb W (by omega)
 cases hd:rt.decR pb with
 |none=>
  have hD:loadD V.s.n V.cap ⟨at_,⟨pk,ps,py,pq,pb⟩⟩=none:=by unfold loadD;rw [hd]
  rw [hD]
  unfold rt.RdRet at HRR
  rw [hd] at HRR
  simp only at HRR
  have H:=Lib.hid h
  clear h hs ht hsm hd hD
  go_enter Tryz.func63,Tryz.ntmps63
  go_wp2_with fail
  refine (HRR.out _).mono ?_
  rintro e w1 ⟨rfl,hb1⟩
  have HB1:=Lib.hid hb1
  clear hb1
  go_wp2_with fail
  go_ret
  have hbw:=((Below.refl w.heap.size w).alloc (Nat.le_refl _) (.cells #[.int .i64 at_,.int .i64 pk,.int .i64 ps,.int .i64 py,.int .i64 pq,.string pb] 109)).trans (HB1.out.mono (by simp))
  exact ⟨rfl,(H.out.below hbw).sto,(H.out.below hbw).laid,Keep.below hbw⟩
 |some gl=>
  obtain ⟨g,l⟩:=gl
  unfold rt.RdRet at HRR
  rw [hd] at HRR
  simp only at HRR
  obtain ⟨g0,g1,hl8,hsp,hup⟩:=rt.mayR_yes (decR_may hd)
  have HSP:=Lib.hid hsp
  have HUP:=Lib.hid hup
  have hD:loadD V.s.n V.cap ⟨at_,⟨pk,ps,py,pq,pb⟩⟩=(loadL V.s.n V.cap [] l).map fun L=>(g,L):=by unfold loadD;rw [hd]
  rw [hD] at hsm ⊢
  obtain ⟨r,hr⟩:∃r,loadL V.s.n V.cap [] l=r:=⟨_,rfl⟩
  rw [hr] at hsm ⊢
  have HR:=Lib.hid hr
  have HSM:=Lib.hid hsm
  have H:=Lib.hid h
  have HT:=Lib.hid ht
  have HS:=Lib.hid hs
  obtain ⟨m,hm⟩:∃m,l.length=m:=⟨_,rfl⟩
  rw [hm] at HRR hl8
  have HM:=Lib.hid hm
  have HLT:=Lib.hid hlt
  have H0:=Lib.hid h00
  have HST:Hid (∀W A d,W.ownsRow (w.alloc (.cells #[.int .i64 at_,.int .i64 pk,.int .i64 ps,.int .i64 py,.int .i64 pq,.string pb] 109)).heap.size 206 4 (.slice A m d) m (rt.spCells l)→Below (w.alloc (.cells #[.int .i64 at_,.int .i64 pk,.int .i64 ps,.int .i64 py,.int .i64 pq,.string pb] 109)).heap.size (w.alloc (.cells #[.int .i64 at_,.int .i64 pk,.int .i64 ps,.int .i64 py,.int .i64 pq,.string pb] 109)) W→LdW w v c w.heap.size #[.int .i64 at_,.int .i64 pk,.int .i64 ps,.int .i64 py,.int .i64 pq,.string pb] (.slice A m d) l V 0 [] W):=by
   intro W A d ho hb1
   have hbw:=((Below.refl w.heap.size w).alloc (Nat.le_refl _) (.cells #[.int .i64 at_,.int .i64 pk,.int .i64 ps,.int .i64 py,.int .i64 pq,.string pb] 109)).trans (hb1.mono (by simp))
   have hv:=h.below hbw
   have hspl:({V with l:=([]:XL).map (·.1)}:Vo)=V:=by
    have:=h.spl
    obtain ⟨_,_,l',_,_,_,_⟩:=V
    simp only at this
    rw [←this]
   refine ⟨by rw [hspl];exact hv,?_,(Whole.new w _ _).below hb1 (by simp),fun k hk hv'=>?_,fun x hx=>by simp at hx,⟨Keep.below hbw,fun k hk=>.inl hk⟩⟩
   ·rw [hm]
    simpa using ho
   ·have:=hlt k hv'
    rcases hk with rfl|hk
    ·omega
    ·have:=(ho.lt k hk).1
     simp at this
     omega
  clear h hs ht hsm hd hD hr hsp hup hm hlt h00
  go_enter Tryz.func63,Tryz.ntmps63
  go_wp2_with fail
  refine (HRR.out _).mono ?_
  rintro e w1 ⟨v1,rfl,ho1,hb1⟩
  obtain ⟨A1,d1,rfl⟩:=own_slice ho1
  have HL1:=Lib.hid (HST.out w1 A1 d1 ho1 hb1)
  clear ho1 hb1 HST
  go_wp2_with fail
  go_loopw [9,10,11,24] (fun _ _ _ iv wr=>∃(j:Nat) (X:XL),j≤m∧iv= .int .i64 j∧Hid (X.length=j)∧Hid (loadL V.s.n V.cap (X.map (·.1)) (l.drop j)=r)∧Hid (LdW w v c w.heap.size #[.int .i64 at_,.int .i64 pk,.int .i64 ps,.int .i64 py,.int .i64 pq,.string pb] (.slice A1 m d1) l V j X wr)) (fun _ _ _ iv _=>m - (intOf iv).toNat)
  case atStart=>exact ⟨0,[],Nat.zero_le _,rfl,rfl,HR.out,HL1.out⟩
  case round=>
   obtain ⟨j,X,hj,rfl,HX,HLL,HL⟩:=hrel
   by_cases hlt:j < m
   ·have hji:(j:Int) < (m:Int):=by omega
    have hj0:(0:Int)≤(j:Int):=Int.natCast_nonneg _
    obtain ⟨x,hx⟩:∃x,l[j]? =some x:=⟨_,List.getElem?_eq_getElem (by have:=HM.out;omega)⟩
    have hdr:l.drop j=x::l.drop (j+1):=by
     rw [List.drop_eq_getElem_cons (by have:=HM.out;omega)]
     congr 1
     exact (List.getElem?_eq_some_iff.1 hx).2
    rw [hdr] at HLL
    have hxs:rt.spB x=true:=HSP.out x (List.mem_of_getElem? hx)
    have hnx:∀z∈X,z.1.id < x.id:=fun z hz=>HL.out.ord z hz x (by rw [hdr];simp)
    have hrow:wr.ownsRow (w.heap.size+1) 206 4 (.slice A1 m d1) m (rt.spCells l):=by
     have:=HL.out.row
     rwa [HM.out] at this
    obtain ⟨gi,rfl,_,_,_,hcell,_⟩:=own_cell hrow (by omega)
    obtain ⟨s0,s1,s2,s3⟩:=rt.spCells_at l j x hx
    have q0:wr.cell? ⟨gi,j * 4,none⟩=some (.int .i64 x.id):=by have:=hcell _ _ s0;simpa using this
    have q1:wr.cell? ⟨gi,j * 4+1,none⟩=some (.int .i64 x.size):=by have:=hcell _ _ s1;simpa using this
    have q2:wr.cell? ⟨gi,j * 4+2,none⟩=some (.int .i64 x.top):=by have:=hcell _ _ s2;simpa using this
    have q3:wr.cell? ⟨gi,j * 4+3,none⟩=some (.int .i64 x.high):=by have:=hcell _ _ s3;simpa using this
    obtain ⟨b9,hb9⟩:∃q,wr.heap.size=q:=⟨_,rfl⟩
    obtain ⟨W2,hW2⟩:∃W2,wr.alloc (.cells #[.int .i64 x.id,.int .i64 x.size,.int .i64 x.top,.int .i64 x.high] 206)=W2:=⟨_,rfl⟩
    have hb2:Below wr.heap.size wr W2:=by rw [←hW2];exact (Below.refl _ _).alloc (Nat.le_refl _) _
    have HL2:=Lib.hid (HL.out.below hb2)
    have hx9:Whole W2 b9 206 #[.int .i64 x.id,.int .i64 x.size,.int .i64 x.top,.int .i64 x.high]:=by rw [←hW2];exact Whole.new' _ _ _ _ hb9
    have HX9:=Lib.hid hx9
    have HB2:=Lib.hid hb2
    have c90:=hx9.cell 0
    have c91:=hx9.cell 1
    have c92:=hx9.cell 2
    have c93:=hx9.cell 3
    simp at c90 c91 c92 c93
    have HK:Hid (∀W,Below W2.heap.size W2 W→W.cell? ⟨b9,0,none⟩=some (.int .i64 x.id)∧W.cell? ⟨b9,2,none⟩=some (.int .i64 x.top)∧W.cell? ⟨b9,3,none⟩=some (.int .i64 x.high)):=fun W hb=>⟨below_c hb c90,below_c hb c92,below_c hb c93⟩
    have HGT:Hid (∀W,Below W2.heap.size W2 W→Calls Tryz.prog 133 #[.pointer (some ⟨v,0,none⟩),.int .i64 x.id] W fun e w'=>∃b1 b2,e= .returned (.func (.func 198) #[] #[.pointer (some ⟨b1,0,none⟩),.pointer (some ⟨b2,0,none⟩)])∧Below W2.heap.size W2 w'∧Calls Tryz.prog 132 #[.int .i64 x.top,.int .i64 x.high,.func (.func 198) #[] #[.pointer (some ⟨b1,0,none⟩),.pointer (some ⟨b2,0,none⟩)]] w' fun e w3=>(∃T p F,readT V.s.n x=some T∧e= .returned (.tuple #[.pointer (some ⟨p,0,none⟩),.nilIface])∧TrAt w3 F p T∧(∀k∈F,W2.heap.size≤k)∧Below W2.heap.size W2 w3)∨(readT V.s.n x=none∧∃y,e= .returned (.tuple #[.pointer none,.iface 183 y])∧Below W2.heap.size W2 w3)):=by
     intro W hbW
     refine (getter_any W v x.id).mono ?_
     rintro e w' ⟨rfl,o1,o2,hb'⟩
     have hbb:=hbW.trans (hb'.mono hbW.size)
     have hv':=(HL2.out.below hbb).vo
     refine ⟨_,_,rfl,hbb,(readT_any w' v c X _ x _ _ hv' o1 o2 hxs HT.out HS.out).mono ?_⟩
     rintro e w3 (⟨T,p,F,k1,rfl,k2,k3,k4⟩|⟨k1,y,rfl,k4⟩)
     ·exact .inl ⟨T,p,F,k1,rfl,k2,fun k hk=>Nat.le_trans hbb.size (k3 k hk),hbb.trans (k4.mono hbb.size)⟩
     ·exact .inr ⟨k1,y,rfl,hbb.trans (k4.mono hbb.size)⟩
    clear c91 hx9 q0 q1 q2 q3
    cases hrt:readT V.s.n x with
    |none=>
     have hrn:r=none:=by
      rw [←HLL.out]
      unfold loadL ldSp
      rw [hrt]
     have HG2:Hid (∀W,Below W2.heap.size W2 W→Calls Tryz.prog 133 #[.pointer (some ⟨v,0,none⟩),.int .i64 x.id] W fun e w'=>∃b1 b2,e= .returned (.func (.func 198) #[] #[.pointer (some ⟨b1,0,none⟩),.pointer (some ⟨b2,0,none⟩)])∧Below W2.heap.size W2 w'∧Calls Tryz.prog 132 #[.int .i64 x.top,.int .i64 x.high,.func (.func 198) #[] #[.pointer (some ⟨b1,0,none⟩),.pointer (some ⟨b2,0,none⟩)]] w' fun e w3=>∃y,e= .returned (.tuple #[.pointer none,.iface 183 y])∧Below W2.heap.size W2 w3):=fun W hbW=>(HGT.out W hbW).mono (fun e w' ⟨b1,b2,h1,h2,h3⟩=>⟨b1,b2,h1,h2,h3.mono (fun e w3 hq=>by
      rcases hq with ⟨T,p,F,k1,_⟩|⟨_,y,h,hb⟩
      ·rw [hrt] at k1
       cases k1
      ·exact ⟨y,h,hb⟩)⟩)
     have HRN:=Lib.hid hrn
     clear HGT hrt hrn
     go_wp2_with fail
     go_region_held3 (fun w'=>w'.cell? ⟨b9,0,none⟩=some (.int .i64 x.id)∧w'.cell? ⟨b9,2,none⟩=some (.int .i64 x.top)∧w'.cell? ⟨b9,3,none⟩=some (.int .i64 x.high)) (first|with_reducible exact HK.out _ HB3.out|with_reducible exact HK.out _ HB4.out|with_reducible exact HK.out _ (Below.refl _ _)|with_reducible exact HK.out _ (Below.refl _ _).drew) (first|(go_at_call 133;refine (HG2.out _ (Below.refl _ _).drew).mono ?_;rintro e w4 ⟨b1,b2,rfl,hb4,hw4⟩;have HB4:=Lib.hid hb4;have HW4:=Lib.hid hw4;clear hb4 hw4)|(go_at_call 132;refine HW4.out.mono ?_;rintro e w3 ⟨y,rfl,hb3⟩;have HB3:=Lib.hid hb3;clear hb3))
     go_wp2_with fail
     go_ret
     rw [HRN.out]
     exact ⟨rfl,(HL2.out.below HB3.out).no⟩
    |some T=>
     obtain ⟨hok,hc⟩:=readT_ok hrt
     have HG2:Hid (∀W,Below W2.heap.size W2 W→Calls Tryz.prog 133 #[.pointer (some ⟨v,0,none⟩),.int .i64 x.id] W fun e w'=>∃b1 b2,e= .returned (.func (.func 198) #[] #[.pointer (some ⟨b1,0,none⟩),.pointer (some ⟨b2,0,none⟩)])∧Below W2.heap.size W2 w'∧Calls Tryz.prog 132 #[.int .i64 x.top,.int .i64 x.high,.func (.func 198) #[] #[.pointer (some ⟨b1,0,none⟩),.pointer (some ⟨b2,0,none⟩)]] w' fun e w3=>∃p F,e= .returned (.tuple #[.pointer (some ⟨p,0,none⟩),.nilIface])∧TrAt w3 F p T∧(∀k∈F,W2.heap.size≤k)∧Below W2.heap.size W2 w3):=fun W hbW=>(HGT.out W hbW).mono (fun e w' ⟨b1,b2,h1,h2,h3⟩=>⟨b1,b2,h1,h2,h3.mono (fun e w3 hq=>by
      rcases hq with ⟨T',p,F,k1,k2⟩|⟨k1,_⟩
      ·rw [hrt] at k1
       injection k1 with k1
       subst k1
       exact ⟨p,F,k2⟩
      ·rw [hrt] at k1
       cases k1)⟩)
     clear HGT
     go_wp2_with fail
     go_region_held3 (fun w'=>w'.cell? ⟨b9,0,none⟩=some (.int .i64 x.id)∧w'.cell? ⟨b9,2,none⟩=some (.int .i64 x.top)∧w'.cell? ⟨b9,3,none⟩=some (.int .i64 x.high)) (first|with_reducible exact HK.out _ HB3.out|with_reducible exact HK.out _ HB4.out|with_reducible exact HK.out _ (Below.refl _ _)|with_reducible exact HK.out _ (Below.refl _ _).drew) (first|(go_at_call 133;refine (HG2.out _ (Below.refl _ _).drew).mono ?_;rintro e w4 ⟨b1,b2,rfl,hb4,hw4⟩;have HB4:=Lib.hid hb4;have HW4:=Lib.hid hw4;clear hb4 hw4)|(go_at_call 132;refine HW4.out.mono ?_;rintro e w3 ⟨p,F,rfl,ht3,hf3,hb3⟩;have HB3:=Lib.hid hb3;have HT3:=Lib.hid ht3;have HF3:=Lib.hid hf3;clear hb3 ht3 hf3))
     have HL3:=Lib.hid (HL2.out.below HB3.out)
     have hx3:=HX9.out.below HB3.out HX9.out.lt
     have e0:w3.cell? ⟨b9,0,none⟩=some (.int .i64 x.id):=hx3.cell 0
     have e1:w3.cell? ⟨b9,1,none⟩=some (.int .i64 x.size):=hx3.cell 1
     have e2:w3.cell? ⟨b9,2,none⟩=some (.int .i64 x.top):=hx3.cell 2
     have e3:w3.cell? ⟨b9,3,none⟩=some (.int .i64 x.high):=hx3.cell 3
     obtain ⟨y1,y2,y3,y4,y5,y6,_,_⟩:=rt.spB_yes hxs
     have HHO:Hid (Calls Tryz.prog 134 #[.pointer (some ⟨v,0,none⟩),.agg #[.int .i64 x.id,.int .i64 x.size,.int .i64 x.top,.int .i64 x.high],.pointer (some ⟨p,0,none⟩)] w3 fun e w'=>e= .returned (.bool (holdsB V.s.n x.id x.size T.flat))∧Below w3.heap.size w3 w'):=by
      have q:=holds_any w3 v c X _ x.id x.size x.top x.high F p T HL3.out.vo HT3.out hok hc (by unfold vo.I64;omega) HT.out
      exact q
     clear hx3
     obtain ⟨S,hS⟩:∃S,sumN T.flat=S:=⟨_,rfl⟩
     cases hhb:holdsB V.s.n x.id x.size T.flat with
     |false=>
      have hrn:r=none:=by
       rw [←HLL.out]
       unfold loadL ldSp
       rw [hrt]
       simp only
       rw [if_neg (by rw [hhb];simp)]
      rw [hhb] at HHO
      have HRN:=Lib.hid hrn
      clear hrt hrn hhb
      go_wp2_with fail
      with_reducible refine HHO.out.mono ?_
      rintro e w4 ⟨rfl,hb4⟩
      have HB4':=Lib.hid hb4
      clear hb4
      go_wp2_with fail
      go_ret
      rw [HRN.out]
      exact ⟨rfl,(HL3.out.below HB4'.out).no⟩
     |true=>
      rw [hhb] at HHO
      have hld:ldSp V.s.n x=some ⟨x.id,x.size,S,T⟩:=by
       unfold ldSp
       rw [hrt]
       simp only
       rw [if_pos hhb,hS]
      by_cases hch:S≤V.cap - usedL (X.map (·.1))
      ·have HLN:Hid (loadL V.s.n V.cap (X.map (·.1)++[⟨x.id,x.size,S,T⟩]) (l.drop (j+1))=r):=by
        show _=_
        rw [←HLL.out,loadL,hld]
        simp only
        rw [if_pos hch]
       clear hrt hhb hld
       go_wp2_with fail
       with_reducible refine HHO.out.mono ?_
       rintro e w4 ⟨rfl,hb4⟩
       have HL4b:=Lib.hid hb4
       have HL4:=Lib.hid (HL3.out.below hb4)
       have ht4:=HT3.out.keep (Keep.below (F:=fun _=>False) hb4) (fun _ _ h=>h)
       have hx4:=(HX9.out.below HB3.out HX9.out.lt).below hb4 (by have:=HB3.out.size;have:=HX9.out.lt;omega)
       have k90:w4.cell? ⟨b9,0,none⟩=some (.int .i64 x.id):=hx4.cell 0
       have k91:w4.cell? ⟨b9,1,none⟩=some (.int .i64 x.size):=hx4.cell 1
       have kv1:w4.cell? ⟨v,1,none⟩=some (.pointer (some ⟨c.lb,0,none⟩)):=HL4.out.vo.obj.cell 1
       have hmbl:c.mb < wr.heap.size:=HL.out.vo.led.map.lt
       have htbl:c.tb < wr.heap.size:=HL.out.vo.trs.lt
       have hmv:c.mb≠v:=HL.out.vo.vne _ (by simp)
       have htv:c.tb≠v:=HL.out.vo.vne _ (by simp)
       have hmt:c.mb≠c.tb:=by
        have:=HL.out.vo.nd
        unfold Dl at this
        simp only [List.nodup_cons,List.mem_cons,List.mem_append,not_or] at this
        exact this.2.2.1.1
       have hz2:=HB2.out.size
       have hz3:=HB3.out.size
       have hz4:=hb4.size
       have HK4:Hid (∀W,Below w4.heap.size w4 W→W.cell? ⟨v,1,none⟩=some (.pointer (some ⟨c.lb,0,none⟩))∧W.cell? ⟨b9,0,none⟩=some (.int .i64 x.id)∧W.cell? ⟨b9,1,none⟩=some (.int .i64 x.size)):=fun W hb=>⟨below_c hb kv1,below_c hb k90,below_c hb k91⟩
       have h8:X.length < 8:=by have:=HX.out;omega
       have hsn:=sum_chk hc
       have HOP:Hid (∀W,Below w4.heap.size w4 W→Calls Tryz.prog 70 #[.pointer (some ⟨c.lb,0,none⟩),.int .i64 x.id,.int .i64 x.size] W fun e w5=>∃ab:Nat,e= .returned (.int .i64 0)∧(w5.cell? ⟨v,1,none⟩=some (.pointer (some ⟨c.lb,0,none⟩))∧w5.cell? ⟨b9,0,none⟩=some (.int .i64 x.id)∧w5.cell? ⟨b9,1,none⟩=some (.int .i64 x.size))∧(∀W',Below w5.heap.size w5 W'→Calls Tryz.prog 107 #[.pointer (some ⟨p,0,none⟩)] W' fun e w6=>e= .returned (.int .i64 S)∧(w6.cell? ⟨v,1,none⟩=some (.pointer (some ⟨c.lb,0,none⟩))∧w6.cell? ⟨b9,0,none⟩=some (.int .i64 x.id)∧w6.cell? ⟨b9,1,none⟩=some (.int .i64 x.size))∧Below w5.heap.size w5 w6)∧(∀W',Below w5.heap.size w5 W'→Calls Tryz.prog 106 #[.pointer (some ⟨c.lb,0,none⟩),.int .i64 x.id,.int .i64 S] W' fun e w7=>e= .returned (.int .i64 0)∧(w7.cell? ⟨v,1,none⟩=some (.pointer (some ⟨c.lb,0,none⟩))∧w7.cell? ⟨b9,0,none⟩=some (.int .i64 x.id)∧w7.cell? ⟨b9,1,none⟩=some (.int .i64 x.size))∧w4.heap.size≤ab∧LedIn w7 c.lb c.mb V.cap (LLput (accL X) (⟨x.id,x.size,S⟩,ab))∧Keep (fun k=>k=c.mb) w4 w7∧TrAt w7 F p T)):=by
        intro W hbW
        refine (ld_open W v c X _ x (HL4.out.below hbW).vo hxs hnx h8).mono ?_
        rintro e w5 ⟨ab,rfl,hab,hl5,hk5⟩
        have hk45:Keep (fun k=>k=c.mb) w4 w5:=(Keep.below (F:=fun k=>k=c.mb) hbW).trans hk5 (fun k e=>.inl e)
        have hcs:w5.cell? ⟨v,1,none⟩=some (.pointer (some ⟨c.lb,0,none⟩))∧w5.cell? ⟨b9,0,none⟩=some (.int .i64 x.id)∧w5.cell? ⟨b9,1,none⟩=some (.int .i64 x.size):=⟨hk45.cell kv1 (fun e=>hmv e.symm),hk45.cell k90 (by show b9≠c.mb;omega),hk45.cell k91 (by show b9≠c.mb;omega)⟩
        have hzW:=hbW.size
        refine ⟨ab,rfl,hcs,fun W' hb'=>?_,fun W' hb'=>?_⟩
        ·have ht5:=ht4.keep hk45 (fun k hk e=>by have:=HF3.out k hk;omega)
         refine (tcount_any W' F p T (ht5.keep (Keep.below (F:=fun _=>False) hb') (fun _ _ h=>h)) hok hc).mono ?_
         rintro e w6 ⟨rfl,hb6⟩
         have hb56:=hb'.trans (hb6.mono hb'.size)
         rw [←hS]
         exact ⟨rfl,⟨below_c hb56 hcs.1,below_c hb56 hcs.2.1,below_c hb56 hcs.2.2⟩,hb56⟩
        ·refine (ld_charge W' c X V.cap x ab S (hl5.below hb') hnx (by omega) hch).mono ?_
         rintro e w7 ⟨rfl,hl7,hk7⟩
         have hkk:Keep (fun k=>k=c.mb) w4 w7:=(hk45.transBelow hb').trans hk7 (fun k e=>.inr (by omega))
         exact ⟨rfl,⟨hkk.cell kv1 (fun e=>hmv e.symm),hkk.cell k90 (by show b9≠c.mb;omega),hkk.cell k91 (by show b9≠c.mb;omega)⟩,by omega,hl7,hkk,ht4.keep hkk (fun k hk e=>by have:=HF3.out k hk;omega)⟩

       clear hx4 ht4 hb4 e0 e1 e2 e3 c90 c92 c93
       go_wp2_with fail
       go_region_held3 (fun w'=>w'.cell? ⟨v,1,none⟩=some (.pointer (some ⟨c.lb,0,none⟩))∧w'.cell? ⟨b9,0,none⟩=some (.int .i64 x.id)∧w'.cell? ⟨b9,1,none⟩=some (.int .i64 x.size)) (first|with_reducible exact HC7.out|with_reducible exact HC6.out|with_reducible exact HC5.out|with_reducible exact HK4.out _ (Below.refl _ _)|with_reducible exact HK4.out _ (Below.refl _ _).drew) (first|(go_at_call 70;refine (HOP.out _ (Below.refl _ _).drew).mono ?_;rintro e w5 ⟨ab,rfl,hc5,hn5,hg5⟩;have HC5:=Lib.hid hc5;have HN5:=Lib.hid hn5;have HG5:=Lib.hid hg5;clear hc5 hn5 hg5)|(go_at_call 107;refine (HN5.out _ (Below.refl _ _)).mono ?_;rintro e w6 ⟨rfl,hc6,hb6⟩;have HC6:=Lib.hid hc6;have HB6:=Lib.hid hb6;clear hc6 hb6)|(go_at_call 106;refine (HG5.out _ HB6.out).mono ?_;rintro e w7 ⟨rfl,hc7,hab7,hl7,hk7,ht7⟩;have HC7:=Lib.hid hc7;have HAB7:=Lib.hid hab7;have HL7:=Lib.hid hl7;have HK7:=Lib.hid hk7;have HT7:=Lib.hid ht7;clear hc7 hab7 hl7 hk7 ht7))

       have kv2:w7.cell? ⟨v,2,none⟩=some (.map (some c.tb)):=HK7.out.cell (HL4.out.vo.obj.cell 2) (fun e=>hmv e.symm)
       have kx0:w7.cell? ⟨b9,0,none⟩=some (.int .i64 x.id):=HC7.out.2.1
       have ht7:MapAt w7 c.tb (treeL X):=HL4.out.vo.trs.keep HK7.out (fun e=>hmt e.symm)
       have htl:(treeL X).length≤1000000:=by simp [treeL];omega
       have hi64:I64 x.id:=by unfold vo.I64;omega
       obtain ⟨w8,hmu,hm8,hk8,hs8⟩:=(ht7.below ((Below.refl w7.heap.size w7).drew)).store Tryz.underlying113 htl hi64 p
       have HK7':Hid (∀W,Below w7.heap.size w7 W→W.cell? ⟨v,2,none⟩=some (.map (some c.tb))∧W.cell? ⟨b9,0,none⟩=some (.int .i64 x.id)):=fun W hb=>⟨below_c hb kv2,below_c hb kx0⟩
       have HC8:Hid (w8.cell? ⟨v,2,none⟩=some (.map (some c.tb))∧w8.cell? ⟨b9,0,none⟩=some (.int .i64 x.id)):=⟨hk8.cell (show w7.drew.cell? ⟨v,2,none⟩=_ from (HK7'.out _ (Below.refl _ _).drew).1) (fun e=>htv e.symm),hk8.cell (HK7'.out _ (Below.refl _ _).drew).2 (by show b9≠c.tb;omega)⟩
       have HL8:Hid (LdW w v c w.heap.size #[.int .i64 at_,.int .i64 pk,.int .i64 ps,.int .i64 py,.int .i64 pq,.string pb] (.slice (some ⟨gi,0,none⟩) m d1) l V (j+1) (X++[((⟨x.id,x.size,S,T⟩:Sp),(⟨ab,p,F⟩:Bl))]) w8):=by
        have hk38:Keep (fun k=>k=c.mb∨k=c.tb) wr w8:=((((Keep.below (F:=fun k=>k=c.mb∨k=c.tb) (HB2.out.trans ((HB3.out.trans (HL4b.out.mono HB3.out.size)).mono HB2.out.size))).trans (HK7.out.mono (G:=fun k=>k=c.mb∨k=c.tb) (fun k _ e=>.inl e)) (fun k e=>.inl e))).transBelow ((Below.refl w7.heap.size w7).drew)).trans hk8 (fun k e=>.inl (.inr e))
        refine HL.out.add HUP.out hx hnx hk38 ?_ hm8 (TrAt.keep (TrAt.keep HT7.out (Keep.below (F:=fun _=>False) ((Below.refl w7.heap.size w7).drew)) (fun _ _ h=>h)) hk8 (fun k hk e=>by have:=HF3.out k hk;omega)) hok hc (by have:=HAB7.out;omega) (fun k hk=>by have:=HF3.out k hk;omega) (fun hk=>by have:=HT3.out.lt ab hk;have:=HAB7.out;omega)
        refine (HL7.out.below ((Below.refl w7.heap.size w7).drew)).keep hk8 (fun k hk e=>?_)
        subst e
        rcases hk with e|e|⟨y,hy,e⟩
        ·have hnd:=HL.out.vo.nd
         unfold Dl at hnd
         simp only [List.nodup_cons,List.mem_cons,List.mem_append,not_or] at hnd
         exact hnd.2.1.2.1 e.symm
        ·exact hmt e.symm
        ·rcases llput_mem hy with rfl|hy
         ·have e':ab=c.tb:=e
          have:=HAB7.out
          omega
         ·obtain ⟨z,hz,rfl⟩:=List.mem_map.1 hy
          have hnd:=HL.out.vo.nd
          unfold Dl at hnd
          simp only [List.nodup_cons,List.mem_cons,List.mem_append,not_or] at hnd
          refine hnd.2.2.2.1.2 (List.mem_flatMap.2 ⟨z,hz,?_⟩)
          have e':z.2.a=c.tb:=e
          simp [e']
       clear ht7 hm8 hk8 hs8 htl
       go_wp2_with fail
       go_region_held3 (fun w'=>w'.cell? ⟨v,2,none⟩=some (.map (some c.tb))∧w'.cell? ⟨b9,0,none⟩=some (.int .i64 x.id)) (first|with_reducible exact HC8.out|with_reducible exact HK7'.out _ (Below.refl _ _)|with_reducible exact HK7'.out _ (Below.refl _ _).drew) (fail)
       go_wp2_with fail
       have hmeas:m - (intOf (.int .i64 ((j:Int)+1))).toNat < m - (intOf (.int .i64 (j:Int))).toNat:=by simp [intOf];omega
       refine ⟨⟨j+1,X++[((⟨x.id,x.size,S,T⟩:Sp),(⟨ab,p,F⟩:Bl))],by omega,by go_num,?_,?_,?_⟩,hmeas⟩
       ·show _=_
        rw [List.length_append,HX.out]
        rfl
       ·rw [List.map_append]
        exact HLN.out
       ·with_reducible exact HL8
      ·have hrn:r=none:=by
        rw [←HLL.out,loadL,hld]
        simp only
        rw [if_neg hch]
       have HRN:=Lib.hid hrn
       clear hrt hhb hld hrn
       go_wp2_with fail
       with_reducible refine HHO.out.mono ?_
       rintro e w4 ⟨rfl,hb4⟩
       have HL4b:=Lib.hid hb4
       have HL4:=Lib.hid (HL3.out.below hb4)
       have ht4:=HT3.out.keep (Keep.below (F:=fun _=>False) hb4) (fun _ _ h=>h)
       have hx4:=(HX9.out.below HB3.out HX9.out.lt).below hb4 (by have:=HB3.out.size;have:=HX9.out.lt;omega)
       have k90:w4.cell? ⟨b9,0,none⟩=some (.int .i64 x.id):=hx4.cell 0
       have k91:w4.cell? ⟨b9,1,none⟩=some (.int .i64 x.size):=hx4.cell 1
       have kv1:w4.cell? ⟨v,1,none⟩=some (.pointer (some ⟨c.lb,0,none⟩)):=HL4.out.vo.obj.cell 1
       have hmbl:c.mb < wr.heap.size:=HL.out.vo.led.map.lt
       have htbl:c.tb < wr.heap.size:=HL.out.vo.trs.lt
       have hmv:c.mb≠v:=HL.out.vo.vne _ (by simp)
       have htv:c.tb≠v:=HL.out.vo.vne _ (by simp)
       have hmt:c.mb≠c.tb:=by
        have:=HL.out.vo.nd
        unfold Dl at this
        simp only [List.nodup_cons,List.mem_cons,List.mem_append,not_or] at this
        exact this.2.2.1.1
       have hz2:=HB2.out.size
       have hz3:=HB3.out.size
       have hz4:=hb4.size
       have HK4:Hid (∀W,Below w4.heap.size w4 W→W.cell? ⟨v,1,none⟩=some (.pointer (some ⟨c.lb,0,none⟩))∧W.cell? ⟨b9,0,none⟩=some (.int .i64 x.id)∧W.cell? ⟨b9,1,none⟩=some (.int .i64 x.size)):=fun W hb=>⟨below_c hb kv1,below_c hb k90,below_c hb k91⟩
       have h8:X.length < 8:=by have:=HX.out;omega
       have hsn:=sum_chk hc
       have HOP:Hid (∀W,Below w4.heap.size w4 W→Calls Tryz.prog 70 #[.pointer (some ⟨c.lb,0,none⟩),.int .i64 x.id,.int .i64 x.size] W fun e w5=>∃ab:Nat,e= .returned (.int .i64 0)∧(w5.cell? ⟨v,1,none⟩=some (.pointer (some ⟨c.lb,0,none⟩))∧w5.cell? ⟨b9,0,none⟩=some (.int .i64 x.id)∧w5.cell? ⟨b9,1,none⟩=some (.int .i64 x.size))∧(∀W',Below w5.heap.size w5 W'→Calls Tryz.prog 107 #[.pointer (some ⟨p,0,none⟩)] W' fun e w6=>e= .returned (.int .i64 S)∧(w6.cell? ⟨v,1,none⟩=some (.pointer (some ⟨c.lb,0,none⟩))∧w6.cell? ⟨b9,0,none⟩=some (.int .i64 x.id)∧w6.cell? ⟨b9,1,none⟩=some (.int .i64 x.size))∧Below w5.heap.size w5 w6)∧(∀W',Below w5.heap.size w5 W'→Calls Tryz.prog 106 #[.pointer (some ⟨c.lb,0,none⟩),.int .i64 x.id,.int .i64 S] W' fun e w7=>e= .returned (.int .i64 71)∧(w7.cell? ⟨v,1,none⟩=some (.pointer (some ⟨c.lb,0,none⟩))∧w7.cell? ⟨b9,0,none⟩=some (.int .i64 x.id)∧w7.cell? ⟨b9,1,none⟩=some (.int .i64 x.size))∧Keep (fun k=>k=c.mb) w4 w7)):=by
        intro W hbW
        refine (ld_open W v c X _ x (HL4.out.below hbW).vo hxs hnx h8).mono ?_
        rintro e w5 ⟨ab,rfl,hab,hl5,hk5⟩
        have hk45:Keep (fun k=>k=c.mb) w4 w5:=(Keep.below (F:=fun k=>k=c.mb) hbW).trans hk5 (fun k e=>.inl e)
        have hcs:w5.cell? ⟨v,1,none⟩=some (.pointer (some ⟨c.lb,0,none⟩))∧w5.cell? ⟨b9,0,none⟩=some (.int .i64 x.id)∧w5.cell? ⟨b9,1,none⟩=some (.int .i64 x.size):=⟨hk45.cell kv1 (fun e=>hmv e.symm),hk45.cell k90 (by show b9≠c.mb;omega),hk45.cell k91 (by show b9≠c.mb;omega)⟩
        have hzW:=hbW.size
        refine ⟨ab,rfl,hcs,fun W' hb'=>?_,fun W' hb'=>?_⟩
        ·have ht5:=ht4.keep hk45 (fun k hk e=>by have:=HF3.out k hk;omega)
         refine (tcount_any W' F p T (ht5.keep (Keep.below (F:=fun _=>False) hb') (fun _ _ h=>h)) hok hc).mono ?_
         rintro e w6 ⟨rfl,hb6⟩
         have hb56:=hb'.trans (hb6.mono hb'.size)
         rw [←hS]
         exact ⟨rfl,⟨below_c hb56 hcs.1,below_c hb56 hcs.2.1,below_c hb56 hcs.2.2⟩,hb56⟩
        ·refine (ld_full W' c X V.cap x ab S (hl5.below hb') hnx (by omega)).mono ?_
         rintro e w7 ⟨rfl,hb7⟩
         have hkk:Keep (fun k=>k=c.mb) w4 w7:=(hk45.transBelow hb').transBelow hb7
         exact ⟨rfl,⟨hkk.cell kv1 (fun e=>hmv e.symm),hkk.cell k90 (by show b9≠c.mb;omega),hkk.cell k91 (by show b9≠c.mb;omega)⟩,hkk⟩

       clear hx4 ht4 hb4 e0 e1 e2 e3 c90 c92 c93
       go_wp2_with fail
       go_region_held3 (fun w'=>w'.cell? ⟨v,1,none⟩=some (.pointer (some ⟨c.lb,0,none⟩))∧w'.cell? ⟨b9,0,none⟩=some (.int .i64 x.id)∧w'.cell? ⟨b9,1,none⟩=some (.int .i64 x.size)) (first|with_reducible exact HC7.out|with_reducible exact HC6.out|with_reducible exact HC5.out|with_reducible exact HK4.out _ (Below.refl _ _)|with_reducible exact HK4.out _ (Below.refl _ _).drew) (first|(go_at_call 70;refine (HOP.out _ (Below.refl _ _).drew).mono ?_;rintro e w5 ⟨ab,rfl,hc5,hn5,hg5⟩;have HC5:=Lib.hid hc5;have HN5:=Lib.hid hn5;have HG5:=Lib.hid hg5;clear hc5 hn5 hg5)|(go_at_call 107;refine (HN5.out _ (Below.refl _ _)).mono ?_;rintro e w6 ⟨rfl,hc6,hb6⟩;have HC6:=Lib.hid hc6;have HB6:=Lib.hid hb6;clear hc6 hb6)|(go_at_call 106;refine (HG5.out _ HB6.out).mono ?_;rintro e w7 ⟨rfl,hc7,hk7⟩;have HC7:=Lib.hid hc7;have HK7:=Lib.hid hk7;clear hc7 hk7))

       go_wp2_with fail
       go_ret
       rw [HRN.out]
       exact ⟨rfl,HL4.out.no' HK7.out⟩
   ·obtain rfl:j=m:=by omega
    have b0:wr.cell? ⟨w.heap.size,0,none⟩=some (.int .i64 at_):=HL.out.box.cell 0
    have v3:=HL.out.vo.obj.cell 3
    have v4:=HL.out.vo.obj.cell 4
    have f3:=HL.out.vo.obj.fz 3
    have f4:=HL.out.vo.obj.fz 4
    simp [volCells] at v3 v4
    go_wp2_with fail
    have hdn:l.drop j=[]:=List.drop_eq_nil_of_le (by have:=HM.out;omega)
    rw [hdn] at HLL
    have hrr:some (X.map (·.1))=r:=HLL.out
    have HSX:Hid (SmallX X):=⟨by rw [HX.out];exact hl8,fun x hx=>HSM.out g (X.map (·.1)) (by rw [←hrr];rfl) x.1 (List.mem_map.2 ⟨x,hx,rfl⟩)⟩
    have hkv:Keep (fun k=>k=v) wr ((wr.setCell ⟨v,3,none⟩ (.int .i64 g)).setCell ⟨v,4,none⟩ (.int .i64 at_)).drew:=((Keep.set1 wr v 3 _).setCell (.inl rfl) _).drew
    have HKV:=Lib.hid hkv
    have HV4:Hid (VoIn ((wr.setCell ⟨v,3,none⟩ (.int .i64 g)).setCell ⟨v,4,none⟩ (.int .i64 at_)).drew v c X ({V with l:=X.map (fun y:Sp×Bl=>y.1),gen:=g,root:=at_}:Vo)):=HL.out.vo.setV hkv (show Whole ((wr.setCell ⟨v,3,none⟩ (.int .i64 g)).setCell ⟨v,4,none⟩ (.int .i64 at_)) v _ _ by simpa [volCells] using (HL.out.vo.obj.set 3 (.int .i64 g)).set 4 (.int .i64 at_)) rfl rfl rfl rfl
    have HVP:=Lib.hid (vpages_any _ v c X _ HV4.out HSX.out)
    clear hkv
    go_region
    go_wp2_with fail
    refine HVP.out.mono ?_
    rintro e w5 ⟨v',L,rfl,hp5,ho5,hb5⟩
    have HP5:=Lib.hid hp5
    have HO5:=Lib.hid ho5
    have HB5:=Lib.hid hb5
    have HV5:=Lib.hid (HV4.out.below hb5)
    have f5:=HV5.out.obj.fz 5
    have c5:=HV5.out.obj.cell 5
    simp [volCells] at c5
    obtain ⟨A5,d5,rfl⟩:=own_slice ho5
    clear hp5 ho5 hb5 v3 v4 f3 f4 b0
    go_wp2_with fail
    go_ret
    subst hrr
    have hk6:Keep (fun k=>k=v) w5 (w5.setCell ⟨v,5,none⟩ (.slice A5 L.length d5)):=Keep.set1 w5 v 5 _
    have hsz:((wr.setCell ⟨v,3,none⟩ (.int .i64 g)).setCell ⟨v,4,none⟩ (.int .i64 at_)).drew.heap.size=wr.heap.size:=by show ((wr.setCell ⟨v,3,none⟩ (.int .i64 g)).setCell ⟨v,4,none⟩ (.int .i64 at_)).heap.size=_;simp only [World.size_setCell]
    have hgo:∀q,(Value.slice A5 L.length d5).ownBlock=some q→wr.heap.size≤q∧¬vF v c X q:=fun q hq=>by
     have h1:=(HO5.out.lt q hq).1
     have h2:=HV4.out.lt
     rw [hsz] at h1
     exact ⟨h1,fun hv=>by have:=h2 q hv;rw [hsz] at this;omega⟩
    have hvl:v < wr.heap.size:=HL.out.vo.obj.lt
    have hws:w.heap.size≤wr.heap.size:=HL.out.mv.keep.size
    have h00:=H0.out
    have hvm:vF v c X v:= .inr (by simp [Dl])
    refine ⟨X,.slice A5 L.length d5,L,rfl,rfl,HP5.out,HV5.out.relast hk6 (by simpa [volCells] using HV5.out.obj.set 5 (.slice A5 L.length d5)) rfl rfl rfl (own_keep (own_base HO5.out (Nat.zero_le _)) hk6 (fun q hq e=>by have:=(hgo q hq).1;omega)) (fun q hq=>⟨(hgo q hq).2,by have:=(hgo q hq).1;omega⟩),?_⟩
    have hm5:Mv (vF v c []) w (vF v c X) w5:=⟨(HL.out.mv.keep.trans HKV.out (fun k hk=>HL.out.mv.sub k (by subst hk;exact hvm))).transBelow HB5.out,HL.out.mv.sub⟩
    refine ⟨hm5.keep.trans hk6 (fun k hk=>hm5.sub k (by subst hk;exact hvm)),fun k hk=>?_⟩
    rcases hk with hk|hk
    ·exact hm5.sub k (.inl hk)
    ·rcases dl_relv_mem hk with hk|hk
     ·exact hm5.sub k (.inr hk)
     ·exact .inr (by have:=(hgo k hk).1;omega)
end Go.Proofs.YtfialjmemcobjaaGreatDoor.vo
namespace Go.Proofs.YtfialjmemcobjaaGreatDoor.vo
open Go.RowKit Go.Maps Go.Proofs.YtfialjmemcobjaaGreatDoor.er Go.Proofs.YtfialjmemcobjaaGreatDoor.st Go.Proofs.YtfialjmemcobjaaGreatDoor.tr Go.Proofs.YtfialjmemcobjaaGreatDoor.nd Go.Proofs.YtfialjmemcobjaaGreatDoor.pg Go.Proofs.YtfialjmemcobjaaGreatDoor.ge
set_option linter.unusedVariables false
set_option linter.unusedSimpArgs false
set_option maxRecDepth 100000
set_option maxHeartbeats 16000000
theorem Scan_anyV (w:World) (q p:Nat) (sv vv:Value) (N:Nat→Prop) (s:Sto) (h:StoIn w q p sv vv N s) (hl:LaidT w) (hd:s.n.down=false) (ht:∀a,(s.n.read a).2.size≤70368744177664):
  Calls Tryz.prog 60 #[.pointer (some ⟨q,0,none⟩)] w fun e w'=>∃A c,e= .returned (.tuple #[.slice A (scanTo s.n (s.n.blocks * s.n.per)).length c,.nilIface])∧w'.ownsRow w.heap.size 109 6 (.slice A (scanTo s.n (s.n.blocks * s.n.per)).length c) (scanTo s.n (s.n.blocks * s.n.per)).length (fndCells (scanTo s.n (s.n.blocks * s.n.per)))∧Below w.heap.size w w':=by
 have H:=Lib.hid h
 have HL:=Lib.hid hl
 have HT:=Lib.hid ht
 have c0:=h.cells.c0
 have hq:=seql q
 clear h hl ht
 go_enter Tryz.func60,Tryz.ntmps60
 go_wp2_with fail
 refine (Down_any _ _ _ _ H.out.arr).mono ?_
 rw [hd]
 rintro e w1 ⟨rfl,rfl⟩
 go_wp2_with fail
 refine (scan_any _ _ _ _ _ _ _ H.out HL.out HT.out).mono ?_
 rintro e w1 ⟨A,c,rfl,ho,hb⟩
 have HO:=Lib.hid ho
 have HB:=Lib.hid hb
 obtain ⟨n,hn⟩:∃n,(scanTo s.n (s.n.blocks * s.n.per)).length=n:=⟨_,rfl⟩
 have HNN:=Lib.hid hn
 rw [hn]
 clear ho hb hn
 go_wp2_with fail
 obtain rfl:=HNN.out
 obtain ⟨n,hn⟩:∃n,(scanTo s.n (s.n.blocks * s.n.per)).length=n:=⟨_,rfl⟩
 have HO':=HO.out
 rw [hn] at HO' ⊢
 refine bodyPost_ret (v:= .tuple #[.slice A n c,.nilIface]) (by simp [results,Tryz.results60,go_sem]) rfl ⟨A,c,rfl,HO',HB.out⟩
def bareV (s:Sto):Vo:={s:=s,cap:=capZ s.n.blocks s.n.per,l:=[],gen:=0,root:= -1,last:=[],sure:=true}
def OpnD (s:Sto) (l:List Fnd) (X:XL) (V:Vo):Prop:=
 (∃(pre post:List Fnd) (f:Fnd) (g:Int) (L:List Sp) (P:List Int),l=pre++f::post∧(∀z∈pre,loadD s.n (capZ s.n.blocks s.n.per) z=none)∧loadD s.n (capZ s.n.blocks s.n.per) f=some (g,L)∧X.map (·.1)=L∧P.Perm (pgsX X)∧V=Vo.kept {bareV s with l:=L,gen:=g,root:=f.at_,last:=P} X)∨
 ((∀z∈l,loadD s.n (capZ s.n.blocks s.n.per) z=none)∧X=[]∧V=bareV s)
def OpnRet (w:World) (p:Nat) (N:Nat→Prop) (n:Nand) (e:Ending) (w':World):Prop:=
 ∃v c X V l,e= .returned (.tuple #[.pointer (some ⟨v,0,none⟩),.nilIface])∧c.p=p∧VoIn w' v c X V∧l.Perm (rt.filt (scanTo n (n.blocks * n.per)))∧l.Pairwise rt.newer∧OpnD (openS n) l X V∧Mv N w (vF v c X) w'
structure OpW (w:World) (N:Nat→Prop) (q p:Nat) (sv vv:Value) (s:Sto) (rv:Value) (l:List Fnd) (wr:World):Prop where
 sto:StoIn wr q p sv vv N s
 laid:LaidT wr
 row:wr.ownsRow w.heap.size 109 6 rv l.length (fndCells l)
 far:∀g,rv.ownBlock=some g→¬foot q sv vv N g
 new:∀k,foot q sv vv (fun _=>False) k→w.heap.size≤k
 zero:¬foot q sv vv N 0
 keep:Keep N w wr
section
variable {w:World} {N:Nat→Prop} {q p:Nat} {sv vv:Value} {s:Sto} {rv:Value} {l:List Fnd} {wr:World}
theorem OpW.sub (h:OpW w N q p sv vv s rv l wr):∀k,foot q sv vv N k→N k∨w.heap.size≤k:=by
 rintro k (hk|hk|hk|hk)
 ·exact .inr (h.new k (.inl hk))
 ·exact .inr (h.new k (.inr (.inl hk)))
 ·exact .inr (h.new k (.inr (.inr (.inl hk))))
 ·exact .inl hk
theorem OpW.below {w':World} (h:OpW w N q p sv vv s rv l wr) (hb:Below wr.heap.size wr w'):OpW w N q p sv vv s rv l w':=
 ⟨h.sto.below hb,(Keep.below (F:=fun _=>False) hb).cell h.laid (fun h=>h),own_below h.row hb,h.far,h.new,h.zero,h.keep.transBelow hb⟩
theorem OpW.tried {w1 w':World} {v:Nat} {c:Pt} {V:Vo} (h:OpW w N q p sv vv s rv l wr) (hb:Below wr.heap.size wr w1) (e1:c.q=q) (e2:c.p=p) (e3:c.sv=sv) (e4:c.vv=vv) (e5:c.N=N) (e6:V.s=s) (hD:∀k∈Dl v c [],wr.heap.size≤k) (hn:LdNo w1 v c V w'):OpW w N q p sv vv s rv l w':=by
 subst e1 e2 e3 e4 e5 e6
 obtain ⟨n1,n2,n3⟩:=hn
 have h1:=h.below hb
 have hsz:=h.keep.size
 refine ⟨n1,n2,own_keep h1.row n3 (fun g hg hv=>?_),h.far,h.new,h.zero,h1.keep.trans n3 (fun k hk=>?_)⟩
 ·rcases hv with hv|hv
  ·exact h.far g hg hv
  ·have:=hD g hv
   have:=(h.row.lt g hg).2
   omega
 ·rcases hk with hk|hk
  ·exact h.sub k hk
  ·exact .inr (by have:=hD k hk;omega)
end
theorem opw_mv {w wr w1:World} {N:Nat→Prop} {q p:Nat} {sv vv:Value} {s:Sto} {rv:Value} {l:List Fnd} {v:Nat} {c:Pt} (h:OpW w N q p sv vv s rv l wr) (hb:Below wr.heap.size wr w1) (e1:c.q=q) (e3:c.sv=sv) (e4:c.vv=vv) (e5:c.N=N) (hD:∀k∈Dl v c [],wr.heap.size≤k):Mv N w (vF v c []) w1:=by
 subst e1 e3 e4 e5
 have hsz:=h.keep.size
 refine ⟨h.keep.transBelow hb,fun k hk=>?_⟩
 rcases hk with hk|hk
 ·exact h.sub k hk
 ·exact .inr (by have:=hD k hk;omega)
theorem pgsX_map (X:XL):pgsX X=(X.map (·.1)).flatMap fun s=>pgsT s.tr:=by unfold pgsX;rw [List.flatMap_map]
theorem vopen_any (w:World) (N:Nat→Prop) (p:Nat) (n:Nand) (h:NandAt w N p n) (hd:n.down=false) (hl:LaidT w) (h0:¬N 0) (h1:16≤n.blocks∧n.blocks≤64) (h2:8≤n.per∧n.per≤32) (ht:∀a,(n.read a).2.size≤70368744177664) (hs:∀a,(readS n a).1.body.size≤1000000) (hlen:(scanTo n (n.blocks * n.per)).length≤2048) (hsz:∀f∈scanTo n (n.blocks * n.per),f.p.body.size≤1000000) (hsort:rt.SortCtr (rt.filt (scanTo n (n.blocks * n.per))))
  (hsm:∀f∈rt.filt (scanTo n (n.blocks * n.per)),∀g L,loadD n (capZ n.blocks n.per) f=some (g,L)→(∀s∈L,Small s.tr)∧(L.flatMap fun s=>pgsT s.tr).length≤100000):
  Calls Tryz.prog 14 #[.pointer (some ⟨p,0,none⟩)] w (OpnRet w p N n):=by
 have HOP:=Lib.hid (open_ok w N p n h hd hl ht)
 have hNl:=nandAt_lt h
 have hw0:=hl.lt
 have HH:Hid (∀q sv vv w1,StoIn w1 q p sv vv N (openS n)→Below w.heap.size w w1→(∀k,foot q sv vv (fun _=>False) k→w.heap.size≤k)→Calls Tryz.prog 60 #[.pointer (some ⟨q,0,none⟩)] w1 fun e w2=>∃A c,e= .returned (.tuple #[.slice A (scanTo n (n.blocks * n.per)).length c,.nilIface])∧Calls Tryz.prog 61 #[.slice A (scanTo n (n.blocks * n.per)).length c] w2 fun e w3=>∃A' k d l',e= .returned (.slice A' k d)∧k=l'.length∧k≤2048∧l'.Perm (rt.filt (scanTo n (n.blocks * n.per)))∧l'.Pairwise rt.newer∧OpW w N q p sv vv (openS n) (.slice A' k d) l' w3):=by
  intro q sv vv w1 hst hb1 hnew
  have hl1:LaidT w1:=(Keep.below (F:=fun _=>False) hb1).cell hl (fun h=>h)
  refine (Scan_anyV w1 q p sv vv N (openS n) hst hl1 hd ht).mono ?_
  rintro e w2 ⟨A,c,rfl,ho2,hb2⟩
  refine ⟨A,c,rfl,(rt.roots_any (scanTo n (n.blocks * n.per)) _ w2 _ ho2 hlen hsz hsort).mono ?_⟩
  rintro e w3 ⟨v',l',rfl,k1,k2,k3,k4⟩
  obtain ⟨A',d,rfl⟩:=own_slice k3
  have hb12:=hb2.trans (k4.mono hb2.size)
  have hbw:=hb1.trans (hb12.mono hb1.size)
  have hs12:=hb2.size
  have hs01:=hb1.size
  refine ⟨A',_,d,l',rfl,rfl,?_,k1,k2,hst.below hb12,(Keep.below (F:=fun _=>False) hbw).cell hl (fun h=>h),own_base k3 (by omega),fun g hg hf=>?_,hnew,fun hf=>?_,Keep.below hbw⟩
  ·rw [k1.length_eq]
   exact Nat.le_trans (List.length_filter_le _ _) hlen
  ·have:=hst.lt g hf
   have:=(k3.lt g hg).1
   omega
  ·rcases hf with hf|hf|hf|hf
   ·have:=hnew 0 (.inl hf);omega
   ·have:=hnew 0 (.inr (.inl hf));omega
   ·have:=hnew 0 (.inr (.inr (.inl hf)));omega
   ·exact h0 hf
 have HSM:=Lib.hid hsm
 have HT:=Lib.hid ht
 have HS:=Lib.hid hs
 have HSZ:=Lib.hid hsz
 have HG1:=Lib.hid h1
 have HG2:=Lib.hid h2
 have HW0:=Lib.hid hw0
 clear h hd hl h0 h1 h2 ht hs hlen hsz hsort hsm hNl hw0
 obtain ⟨sl,hsl⟩:∃sl,(scanTo n (n.blocks * n.per)).length=sl:=⟨_,rfl⟩
 rw [hsl] at HH
 clear hsl
 go_enter Tryz.func14,Tryz.ntmps14
 go_wp2_with fail
 refine HOP.out.mono ?_
 rintro e w1 ⟨q,sv,vv,rfl,hst,hb1,hnew⟩
 have HH1:=Lib.hid (HH.out q sv vv w1 hst hb1 hnew)
 clear hst hb1 hnew HH HOP
 go_wp2_with fail
 refine HH1.out.mono ?_
 rintro e w2 ⟨A,c2,rfl,hrt⟩
 have HRT:=Lib.hid hrt
 clear hrt HH1
 go_wp2_with fail
 refine HRT.out.mono ?_
 rintro e w3 ⟨A',k,d,l',rfl,hkl,hk2,hpm,hpw,hop⟩
 have HKL:=Lib.hid hkl
 have HPM:=Lib.hid hpm
 have HPW:=Lib.hid hpw
 have HW3:=Lib.hid hop
 have hki:(k:Int)≤2048:=by omega
 clear hkl hpm hpw hop HRT
 go_wp2_with fail
 go_loopw [8,9,31] (fun _ _ iv wr=>∃(i:Nat),i≤k∧iv= .int .i64 i∧Hid (∀z∈l'.take i,loadD n (capZ n.blocks n.per) z=none)∧Hid (OpW w N q p sv vv (openS n) (.slice A' k d) l' wr)) (fun _ _ iv _=>k - (intOf iv).toNat)
 case atStart=>exact ⟨0,Nat.zero_le _,rfl,fun z hz=>by simp at hz,HW3.out⟩
 case round=>
  obtain ⟨i,hik,rfl,HNO,HW⟩:=hrel
  by_cases hlt:i < k
  ·have hii:(i:Int) < (k:Int):=by omega
   have hi0:(0:Int)≤(i:Int):=Int.natCast_nonneg _
   obtain ⟨f,hf⟩:∃f,l'[i]? =some f:=⟨_,List.getElem?_eq_getElem (by have:=HKL.out;omega)⟩
   have hff:f∈rt.filt (scanTo n (n.blocks * n.per)):=HPM.out.mem_iff.1 (List.mem_of_getElem? hf)
   have hbs:f.p.body.size≤1000000:=HSZ.out f (List.mem_filter.1 hff).1
   have HFM:=Lib.hid (HSM.out f hff)
   have hrow:wr.ownsRow w.heap.size 109 6 (.slice A' k d) k (fndCells l'):=by
    have:=HW.out.row
    rwa [←HKL.out] at this
   obtain ⟨gi,rfl,_,_,_,hcell,_⟩:=own_cell hrow (by omega)
   obtain ⟨s0,s1,s2,s3,s4,s5⟩:=fndCells_at l' i f hf
   have q0:wr.cell? ⟨gi,i * 6,none⟩=some (.int .i64 f.at_):=by have:=hcell _ _ s0;simpa using this
   have q1:wr.cell? ⟨gi,i * 6+1,none⟩=some (.int .i64 f.p.kind):=by have:=hcell _ _ s1;simpa using this
   have q2:wr.cell? ⟨gi,i * 6+2,none⟩=some (.int .i64 f.p.space):=by have:=hcell _ _ s2;simpa using this
   have q3:wr.cell? ⟨gi,i * 6+3,none⟩=some (.int .i64 f.p.key):=by have:=hcell _ _ s3;simpa using this
   have q4:wr.cell? ⟨gi,i * 6+4,none⟩=some (.int .i64 f.p.seq):=by have:=hcell _ _ s4;simpa using this
   have q5:wr.cell? ⟨gi,i * 6+5,none⟩=some (.string f.p.body):=by have:=hcell _ _ s5;simpa using this
   clear hrow hcell s0 s1 s2 s3 s4 s5
   obtain ⟨W1,hW1⟩:∃W1,wr.alloc (.cells #[.int .i64 f.at_,.int .i64 f.p.kind,.int .i64 f.p.space,.int .i64 f.p.key,.int .i64 f.p.seq,.string f.p.body] 109)=W1:=⟨_,rfl⟩
   obtain ⟨b8,hb8⟩:∃b8,wr.heap.size=b8:=⟨_,rfl⟩
   have hb1:Below wr.heap.size wr W1:=by rw [←hW1];exact (Below.refl _ _).alloc (Nat.le_refl _) _
   have hx1:Whole W1 b8 109 #[.int .i64 f.at_,.int .i64 f.p.kind,.int .i64 f.p.space,.int .i64 f.p.key,.int .i64 f.p.seq,.string f.p.body]:=by rw [←hW1];exact Whole.new' _ _ _ _ hb8
   have HX1:=Lib.hid hx1
   have HW1:=Lib.hid (HW.out.below hb1)
   have HBR:=Lib.hid (bare_any W1 q p sv vv N (openS n) HW1.out.sto HG1.out HG2.out HW1.out.laid HW1.out.zero)
   clear hx1 hb1
   go_wp2_with fail
   refine HBR.out.mono ?_
   rintro e w4 ⟨v,c,rfl,e1,e2,e3,e4,e5,hv4,hD4,hb4⟩
   have hx4:=HX1.out.below hb4 HX1.out.lt
   have c0:w4.cell? ⟨b8,0,none⟩=some (.int .i64 f.at_):=hx4.cell 0
   have c1:w4.cell? ⟨b8,1,none⟩=some (.int .i64 f.p.kind):=hx4.cell 1
   have c2':w4.cell? ⟨b8,2,none⟩=some (.int .i64 f.p.space):=hx4.cell 2
   have c3:w4.cell? ⟨b8,3,none⟩=some (.int .i64 f.p.key):=hx4.cell 3
   have c4:w4.cell? ⟨b8,4,none⟩=some (.int .i64 f.p.seq):=hx4.cell 4
   have c5:w4.cell? ⟨b8,5,none⟩=some (.string f.p.body):=hx4.cell 5
   have HLD:Hid (Calls Tryz.prog 63 #[.pointer (some ⟨v,0,none⟩),.agg #[.int .i64 f.at_,.int .i64 f.p.kind,.int .i64 f.p.space,.int .i64 f.p.key,.int .i64 f.p.seq,.string f.p.body]] w4 (LdRet w4 v c (bareV (openS n)) f (loadD n (capZ n.blocks n.per) f))):=load_any w4 v c (bareV (openS n)) f hv4 HT.out HS.out hbs (fun g L hgl=>(HFM.out g L hgl).1)
   have HMV:=Lib.hid (opw_mv HW1.out hb4 e1 e3 e4 e5 hD4)
   have HD4:=Lib.hid hD4
   have HB4:=Lib.hid hb4
   have HE:=Lib.hid (show c.q=q∧c.p=p∧c.sv=sv∧c.vv=vv∧c.N=N from ⟨e1,e2,e3,e4,e5⟩)
   clear q0 q1 q2 q3 q4 q5 hx4 hv4 hD4 hb4 e1 e2 e3 e4 e5
   cases hld:loadD n (capZ n.blocks n.per) f with
   |none=>
    rw [hld] at HLD
    unfold LdRet at HLD
    simp only at HLD
    go_wp2_with fail
    refine HLD.out.mono ?_
    rintro e w5 ⟨rfl,hno⟩
    have HW5:Hid (OpW w N q p sv vv (openS n) (.slice (some ⟨gi,0,none⟩) k d) l' w5):=by
     obtain ⟨e1,e2,e3,e4,e5⟩:=HE.out
     exact HW1.out.tried HB4.out e1 e2 e3 e4 e5 rfl HD4.out hno
    clear hno
    go_wp2_with fail
    have hmeas:k - (intOf (.int .i64 ((i:Int)+1))).toNat < k - (intOf (.int .i64 (i:Int))).toNat:=by simp [intOf];omega
    refine ⟨⟨i+1,by omega,by go_num,fun z hz=>?_,HW5⟩,hmeas⟩
    rw [List.take_add_one,hf] at hz
    rcases List.mem_append.1 hz with hz|hz
    ·exact HNO.out z hz
    ·simp at hz
     rw [hz]
     exact hld
   |some gl=>
    obtain ⟨g,L⟩:=gl
    rw [hld] at HLD
    unfold LdRet at HLD
    simp only at HLD
    have HGL:=Lib.hid (HFM.out g L hld)
    have HLDD:=Lib.hid hld
    clear hld
    go_wp2_with fail
    refine HLD.out.mono ?_
    rintro e w5 ⟨X,lv,P,rfl,hXL,hP,hv5,hm5⟩
    have hx8:X.length≤8:=by have:=hv5.led.ok.len;simpa [accL,accs] using this
    have hsx:SmallV X ({(bareV (openS n)) with l:=L,gen:=g,root:=f.at_,last:=P}:Vo):=by
     refine ⟨⟨hx8,fun x hx=>HGL.out.1 x.1 (by rw [←hXL];exact List.mem_map.2 ⟨x,hx,rfl⟩)⟩,?_⟩
     show P.length≤100000
     rw [hP.length_eq,pgsX_map,hXL]
     exact HGL.out.2
    have HKP:=Lib.hid (vkeep_any w5 v {c with lv:=lv} X _ hv5 hsx)
    have HXL:=Lib.hid hXL
    have HPP:=Lib.hid hP
    have HM5:=Lib.hid hm5
    clear hXL hP hv5 hm5 hx8 hsx c0 c1 c2' c3 c4 c5
    go_wp2_with fail
    refine HKP.out.mono ?_
    rintro e w6 ⟨rfl,hv6,hk6⟩
    have HV6:=Lib.hid hv6
    have HK6:=Lib.hid hk6
    clear hv6 hk6
    go_wp2_with fail
    refine bodyPost_ret (v:= .tuple #[.pointer (some ⟨v,0,none⟩),.nilIface]) (by simp [results,Tryz.results14,go_sem]) rfl ?_
    refine ⟨v,{c with lv:=lv},X,_,l',rfl,HE.out.2.1,HV6.out,HPM.out,HPW.out,.inl ⟨l'.take i,l'.drop (i+1),f,g,L,P,?_,HNO.out,HLDD.out,HXL.out,HPP.out,rfl⟩,HMV.out.trans (HM5.out.trans ⟨HK6.out.mono (fun k _ hk=>.inl hk),fun k hk=>.inl hk⟩)⟩
    conv=>lhs;rw [←List.take_append_drop i l']
    congr 1
    rw [List.drop_eq_getElem_cons (List.getElem?_eq_some_iff.1 hf).1]
    congr 1
    exact (List.getElem?_eq_some_iff.1 hf).2
  ·obtain rfl:i=k:=by omega
   have HBR:=Lib.hid (bare_any wr q p sv vv N (openS n) HW.out.sto HG1.out HG2.out HW.out.laid HW.out.zero)
   have htk:l'.take i=l':=List.take_of_length_le (by have:=HKL.out;omega)
   rw [htk] at HNO
   go_wp2_with fail
   refine HBR.out.mono ?_
   rintro e w4 ⟨v,c,rfl,e1,e2,e3,e4,e5,hv4,hD4,hb4⟩
   have HMV:=Lib.hid (opw_mv HW.out hb4 e1 e3 e4 e5 hD4)
   have HV4:=Lib.hid hv4
   have HE2:=Lib.hid e2
   clear hD4 hb4 hv4 e1 e2 e3 e4 e5
   go_wp2_with fail
   refine bodyPost_ret (v:= .tuple #[.pointer (some ⟨v,0,none⟩),.nilIface]) (by simp [results,Tryz.results14,go_sem]) rfl ?_
   exact ⟨v,c,[],_,l',rfl,HE2.out,HV4.out,HPM.out,HPW.out,.inr ⟨HNO.out,rfl,rfl⟩,HMV.out⟩
end Go.Proofs.YtfialjmemcobjaaGreatDoor.vo
