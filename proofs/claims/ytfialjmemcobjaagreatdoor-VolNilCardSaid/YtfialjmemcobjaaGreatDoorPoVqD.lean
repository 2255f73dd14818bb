/- A part of the proof. -/
import Derived.Test.YtfialjmemcobjaaGreatDoorPoVqB
import Derived.Test.YtfialjmemcobjaaGreatDoorPoVqC
namespace Go.Proofs.YtfialjmemcobjaaGreatDoor.vo
open Go.RowKit Go.Maps Go.Proofs.YtfialjmemcobjaaGreatDoor.er Go.Proofs.YtfialjmemcobjaaGreatDoor.st Go.Proofs.YtfialjmemcobjaaGreatDoor.tr Go.Proofs.YtfialjmemcobjaaGreatDoor.nd Go.Proofs.YtfialjmemcobjaaGreatDoor.pg Go.Proofs.YtfialjmemcobjaaGreatDoor.ge
set_option linter.unusedVariables false
set_option linter.unusedSimpArgs false
set_option maxRecDepth 100000
set_option maxHeartbeats 16000000
theorem plainG_any (w:World):Calls Tryz.prog 38 #[] w fun e w'=>e= .returned (.agg #[.int .i64 16,.int .i64 16])∧Below w.heap.size w w':=by
 go_enter Tryz.func38,Tryz.ntmps38
 go_wp2_with fail
 refine bodyPost_ret (v:= .agg #[.int .i64 16,.int .i64 16]) (by simp [results,Tryz.results38,go_sem]) rfl ⟨rfl,(Below.refl _ _).alloc (Nat.le_refl _) _⟩
abbrev z16:List Int:=List.replicate 16 0
theorem scan0:scanTo (nV []) ((nV []).blocks * (nV []).per)=[]:=by kernel_rfl
theorem rd_none (a:Int):((nV []).read a).2.size≤70368744177664:=by
 unfold Nand.read
 rw [if_neg (show ¬(nV []).down=true from fun e=>by cases e)]
 split
 ·exact Nat.zero_le _
 ·split
  ·exact Nat.zero_le _
  ·rename_i h t ht
   have hm:=List.mem_of_getElem? ht
   have:∀i,((nV []).blk i).pages=[]:=by
    intro i
    unfold Nand.blk
    by_cases hi:i < 16
    ·have:=of_mapsV (f:=fun i=>((nV []).b.getD i ⟨[],0,false⟩).pages) (g:=fun _=>([]:List ByteArray)) (n:=16) (by kernel_rfl) i hi
     exact this
    ·rw [List.getD,List.getElem?_eq_none (by show 16≤i;omega)]
     rfl
   rw [this] at hm
   cases hm
theorem bd_none (a:Int):(readS (nV []) a).1.body.size≤1000000:=by
 unfold readS
 split
 ·rename_i h
  exfalso
  unfold Nand.read at h
  rw [if_neg (show ¬(nV []).down=true from fun e=>by cases e)] at h
  split at h
  ·cases h
  ·split at h
   ·cases h
   ·rename_i t ht
    have hm:=List.mem_of_getElem? ht
    have:∀i,((nV []).blk i).pages=[]:=by
     intro i
     unfold Nand.blk
     by_cases hi:i < 16
     ·have:=of_mapsV (f:=fun i=>((nV []).b.getD i ⟨[],0,false⟩).pages) (g:=fun _=>([]:List ByteArray)) (n:=16) (by kernel_rfl) i hi
      exact this
     ·rw [List.getD,List.getElem?_eq_none (by show 16≤i;omega)]
      rfl
    rw [this] at hm
    cases hm
 ·exact Nat.zero_le _
def FrRet (w:World) (e:Ending) (w':World):Prop:=∃v c,e= .returned (.tuple #[.pointer (some ⟨c.p,0,none⟩),.pointer (some ⟨v,0,none⟩)])∧VoIn w' v c [] (bareV (sE z16))∧Below w.heap.size w w'∧∀k,vF v c [] k→w.heap.size≤k
theorem fresh_any (w:World) (hl:LaidT w):Calls Tryz.prog 10 #[] w (FrRet w):=by
 have HNW:Hid (∀W,Below w.heap.size w W→Calls Tryz.prog 51 #[.agg #[.int .i64 16,.int .i64 16]] W fun e w1=>∃p,e= .returned (.tuple #[.pointer (some ⟨p,0,none⟩),.nilIface])∧Calls Tryz.prog 14 #[.pointer (some ⟨p,0,none⟩)] w1 fun e w2=>∃(v:Nat) (c:Pt),c.p=p∧e= .returned (.tuple #[.pointer (some ⟨v,0,none⟩),.nilIface])∧FrRet w (.returned (.tuple #[.pointer (some ⟨c.p,0,none⟩),.pointer (some ⟨v,0,none⟩)])) w2):=by
  intro W hbW
  refine (New_ok 16 16 (by omega) (by omega) (by omega) (by omega) W).mono ?_
  rintro e w1 ⟨F,p,rfl,hn,hb',hF'⟩
  have hb:=hbW.trans (hb'.mono hbW.size)
  have hF:∀k,F k→w.heap.size≤k:=fun k hk=>Nat.le_trans hbW.size (hF' k hk)
  rw [fresh_nV] at hn
  have hl1:LaidT w1:=(Keep.below (F:=fun _=>False) hb).cell hl (fun h=>h)
  have hw0:=hl.lt
  refine ⟨p,rfl,(vopen_any w1 F p (nV []) hn rfl hl1 (fun h=>by have:=hF 0 h;omega) ⟨by decide,by decide⟩ ⟨by decide,by decide⟩ rd_none bd_none (by rw [scan0];exact Nat.zero_le _) (by rw [scan0];intro f hf;cases hf) (by rw [scan0];exact rt.sort_one (Nat.zero_le _)) (by rw [scan0];intro f hf;cases hf)).mono ?_⟩
  rintro e w2 ⟨v,c,X,V,l,rfl,hp,hv,hl2,_,hop,hm⟩
  rw [scan0] at hl2
  have hl0:l=[]:=hl2.eq_nil
  subst hl0
  have hXV:X=[]∧V=bareV (sE z16):=by
   rcases hop with ⟨pre,post,f,g,L,P,h,_⟩|⟨_,h1,h2⟩
   ·exact absurd h (by simp)
   ·rw [open_nV] at h2
    exact ⟨h1,h2⟩
  obtain ⟨rfl,rfl⟩:=hXV
  obtain ⟨t1,t2⟩:=hm.toBelow hb.size hF
  exact ⟨v,c,hp,rfl,v,c,rfl,hv,hb.trans t1,t2⟩
 clear hl
 have HPL:=Lib.hid (plainG_any w)
 go_enter Tryz.func10,Tryz.ntmps10
 go_wp2_with fail
 with_reducible refine HPL.out.mono ?_
 rintro e w0 ⟨rfl,hb0⟩
 have HN0:=Lib.hid (HNW.out w0 hb0)
 clear hb0
 go_wp2_with fail
 refine HN0.out.mono ?_
 rintro e w1 ⟨p,rfl,ho⟩
 have HO:=Lib.hid ho
 clear ho
 go_wp2_with fail
 refine HO.out.mono ?_
 rintro e w2 ⟨v,c,rfl,rfl,hf⟩
 have HF:=Lib.hid hf
 clear hf
 go_wp2_with fail
 refine bodyPost_ret (v:= .tuple #[.pointer (some ⟨c.p,0,none⟩),.pointer (some ⟨v,0,none⟩)]) (by simp [results,Tryz.results10,go_sem]) rfl HF.out
end Go.Proofs.YtfialjmemcobjaaGreatDoor.vo
namespace Go.Proofs.YtfialjmemcobjaaGreatDoor.vo
open Go.RowKit Go.Maps Go.Proofs.YtfialjmemcobjaaGreatDoor.er Go.Proofs.YtfialjmemcobjaaGreatDoor.st Go.Proofs.YtfialjmemcobjaaGreatDoor.tr Go.Proofs.YtfialjmemcobjaaGreatDoor.nd Go.Proofs.YtfialjmemcobjaaGreatDoor.pg Go.Proofs.YtfialjmemcobjaaGreatDoor.ge
set_option linter.unusedVariables false
set_option linter.unusedSimpArgs false
set_option maxRecDepth 100000
set_option maxHeartbeats 16000000
def Own (B:Nat) (w:World) (F:Nat→Prop) (w':World):Prop:=Below B w w'∧∀k,F k→B≤k
theorem own_mv {B:Nat} {w a b:World} {F G:Nat→Prop} (h:Own B w F a) (hB:B≤w.heap.size) (hm:Mv F a G b):Own B w G b:=by
 obtain ⟨h1,h2⟩:=h
 have hs:=h1.size
 obtain ⟨t1,t2⟩:=hm.toBelow (B:=B) (by omega) h2
 exact ⟨h1.trans t1,t2⟩
def After1 (B:Nat) (w:World) (v:Nat) (c:Pt) (w':World):Prop:=∃(b:Bl) (vv:List Int),VoIn w' v c [((⟨1,10,0,.no⟩:Sp),b)] {s:=sE vv,cap:=10,l:=[⟨1,10,0,.no⟩],gen:=0,root:= -1,last:=[],sure:=false}∧Own B w (vF v c [((⟨1,10,0,.no⟩:Sp),b)]) w'
theorem step1 (w W:World) (v:Nat) (c:Pt) (h:VoIn W v c [] (bareV (sE z16))) (ho:Own w.heap.size w (vF v c []) W):Calls Tryz.prog 22 #[.pointer (some ⟨v,0,none⟩),.int .i64 1,.int .i64 10] W fun e w'=>e= .returned .nilIface∧After1 w.heap.size w v c w':=by
 refine (vcreate_ok W v c [] _ 1 10 h ⟨⟨by simp,fun x hx=>by cases hx⟩,Nat.zero_le _⟩ ⟨by decide,by decide⟩ (fun x hx=>by cases hx) rfl ⟨by decide,by decide⟩ (by simp)).mono ?_
 rintro e w' ⟨rfl,ab,p,hv,hk,ha,hp⟩
 obtain ⟨h1,h2⟩:=ho
 have hs:=h1.size
 obtain t1:=hk.toBelow hs h2
 refine ⟨rfl,⟨ab,p,[p]⟩,_,hv,h1.trans t1,fun k hk=>?_⟩
 have hk':vF v c (xput [] ((⟨1,10,0,.no⟩:Sp),(⟨ab,p,[p]⟩:Bl))) k:=hk
 rcases hk' with hk'|hk'
 ·exact h2 k (.inl hk')
 ·have:=(dl_put (v:=v) (c:=c) (X:=[]) (s:=(⟨1,10,0,.no⟩:Sp)) (ab:=ab) (p:=p) (fun z hz=>by cases hz)).mem_iff.1 hk'
  simp only [List.mem_cons] at this
  rcases this with rfl|rfl|hk'
  ·omega
  ·omega
  ·exact h2 k (.inr hk')
def T1:Tree:= .top 0 (nd1 (-1))
def After2 (B:Nat) (w:World) (v:Nat) (c:Pt) (w':World):Prop:=∃(N:Nat→Prop) (b:Bl) (vv:List Int),VoIn w' v {c with N:=N} [((⟨1,10,1,T1⟩:Sp),b)] {s:=sV [t0] vv,cap:=10,l:=[⟨1,10,1,T1⟩],gen:=0,root:= -1,last:=[],sure:=false}∧Own B w (vF v {c with N:=N} [((⟨1,10,1,T1⟩:Sp),b)]) w'
theorem xwr1 (b:Bl) (F:List Nat) (d:Int) (hd:d=1):xwrite [((⟨1,10,0,.no⟩:Sp),b)] ((⟨1,10,0,.no⟩:Sp),b) 3 d (fun _=>0) 1 F=[((⟨1,10,1,T1⟩:Sp),({b with F:=F}:Bl))]:=by
 subst hd
 show [((⟨1,10,0+1,Tree.no.over ex1⟩:Sp),({b with F:=F}:Bl))]=_
 rw [over1]
 rfl
theorem step2 (w W:World) (v:Nat) (c:Pt) (h:After1 w.heap.size w v c W):Calls Tryz.prog 28 #[.pointer (some ⟨v,0,none⟩),.int .i64 1,.int .i64 3,.string xt] W fun e w'=>e= .returned .nilIface∧After2 w.heap.size w v c w':=by
 obtain ⟨b,vv,hv,ho⟩:=h
 have hd:holesN (Tree.no) 3 ((1:Nat):Int)=1:=holes1
 refine (vwrite_any W v c _ _ ((⟨1,10,0,.no⟩:Sp),b) 3 1 xt 3 (fun j=>if j=0 then sE vv else sV [t0] vv) (fun _=>0) (fun _=>0) 1 hv (by simp) (by decide) (Nat.le_refl 1) (by decide) (by kernel_rfl) (by show (3:Int)+((1:Nat):Int)≤10;decide) (Nat.le_refl 1) rfl (fun j _ hj=>?_) (fun j _=>rfl) (fun h=>by omega) (fun j _=>⟨by decide,by decide⟩) (fun j hj=>?_) (fun m Wm F _ hm hT _ _=>?_) (fun F=>?_) (Nat.zero_le _)).mono ?_
 ·obtain rfl:j=0:=by omega
  refine ⟨?_,by show (0:Int)+3≤_;decide,by show (0:Int)≤_;decide⟩
  show appF 3 (sE vv) (pgW 1 3 xt 0)=some (sV [t0] vv,0,0)
  rw [pg0]
  exact app0 p0 vv may0
 ·rcases (show j=0∨j=1 by omega) with rfl|rfl
  ·exact ⟨trivial,chk_nil⟩
  ·show (Tree.no.over ex1).Ok∧Chk (Tree.no.over ex1).flat
   rw [over1]
   exact ⟨ok1 _,chk1⟩
 ·obtain rfl:m=0:=by omega
  refine (tover_no Wm F b.p ex1 hT (by kernel_rfl) (by kernel_rfl)).mono ?_
  rintro e w' ⟨rfl,F',h1,h2⟩
  refine ⟨rfl,F',?_,h2⟩
  show TrAt w' F' b.p (Tree.no.over ex1)
  rw [over1]
  exact h1
 ·rw [xwr1 b F _ hd]
  exact smX _ _ (-1) rfl
 ·rintro e w' (⟨hf,_⟩|⟨_,rfl,N',F,q1,q2⟩|⟨hf,_⟩)
  ·exfalso
   have hf':(10:Int) - tot (accs (accL [((⟨1,10,0,.no⟩:Sp),b)])) < holesN (Tree.no) 3 ((1:Nat):Int):=hf
   rw [hd] at hf'
   have:tot (accs (accL [((⟨1,10,0,.no⟩:Sp),b)]))=0:=rfl
   omega
  ·rw [xwr1 b F _ hd] at q1 q2
   have hs:=ho.1.size
   exact ⟨rfl,N',{b with F:=F},_,q1,own_mv ho (Nat.le_refl _) q2⟩
  ·omega
def After3 (B:Nat) (w:World) (p:Nat) (w':World):Prop:=∃(N:Nat→Prop),NandAt w' N p nE∧LaidT w'∧¬N 0∧Own B w N w'
theorem step3 (w W:World) (v:Nat) (c:Pt) (hw:0 < w.heap.size) (h:After2 w.heap.size w v c W):Calls Tryz.prog 23 #[.pointer (some ⟨v,0,none⟩)] W fun e w'=>e= .returned .nilIface∧After3 w.heap.size w c.p w':=by
 obtain ⟨N,b,vv,hv,ho⟩:=h
 have hX:∀(j:Nat) (x:Sp×Bl),[((⟨1,10,1,T1⟩:Sp),b)][j]? =some x→j=0∧x=((⟨1,10,1,T1⟩:Sp),b):=by
  intro j x hx
  cases j with
  |zero=>injection hx with hx;exact ⟨rfl,hx.symm⟩
  |succ j=>cases hx
 have hY:∀(Y:XL) (s:Sto),WrtX 3 [((⟨1,10,1,T1⟩:Sp),b)] (sV [t0] vv) Y s→Y=[((⟨1,10,1,.top 0 (nd1 1)⟩:Sp),b)]∧s=sV [t0,t1] vv:=by
  rintro Y s ⟨T,s1,Y',rfl,hw1,rfl,rfl⟩
  obtain ⟨rfl,rfl⟩:=wrt1 hw1
  exact ⟨rfl,rfl⟩
 refine (vcommit_any W v {c with N:=N} _ _ 3 hv (show (0:Int)≤0 by decide) (show (0:Int) < 1099511627775 by decide) (fun _=>⟨fun j x A s hx hA=>?_,fun Y s hYs=>?_⟩) (Nat.zero_le _) (fun j x A s1 s T hx hA hno=>?_)).mono ?_
 ·obtain ⟨rfl,rfl⟩:=hX j x hx
  obtain ⟨_,rfl⟩:=hA
  exact can1 vv
 ·obtain ⟨rfl,rfl⟩:=hY Y s hYs
  refine ⟨mayR1,⟨smX _ _ 1 rfl,?_⟩,by show (2:Int)+3≤_;decide,by show (2:Int)≤_;decide,_,app2 t0 t1 p2 vv may2⟩
  show (pgsT (.top 0 (nd1 1))++[]).length≤100000
  rw [List.append_nil]
  exact (smE 1).2.2
 ·exfalso
  obtain ⟨rfl,rfl⟩:=hX j x hx
  obtain ⟨_,rfl⟩:=hA
  exact cannot1 hno
 ·rintro e w' (⟨⟨h,_⟩,_⟩|⟨Y,s,r,N',lv,L,rfl,q1,q2,q3,q4,q5,q6⟩|⟨_,_,_,Y,s,N',_,_,_,_,q⟩)
  ·cases h
  ·obtain ⟨rfl,rfl⟩:=hY Y s q1
   have hr:appF 3 (sV [t0,t1] vv) p2=some r:=q2
   rw [app2 t0 t1 p2 vv may2] at hr
   injection hr with hr
   subst hr
   have hz:¬stF {({c with N:=N}:Pt) with N:=N',lv:=lv} 0:=q5.zero
   obtain ⟨o1,o2⟩:=ho
   have hs:=o1.size
   obtain ⟨u1,u2⟩:=q6.toBelow (B:=w.heap.size) hs o2
   exact ⟨rfl,N',q5.sto.arr,q5.laid,fun h=>hz (.inr (.inr (.inr h))),o1.trans u1,fun k hk=>u2 k (.inl (.inr (.inr (.inr hk))))⟩
  ·exfalso
   rcases q with ⟨j,x,A,s1,T,z1,z2,z3,_⟩|⟨s1,a,er,z1,z2,z3⟩
   ·obtain ⟨rfl,rfl⟩:=hX j x z1
    obtain ⟨_,rfl⟩:=z2
    exact cannot1 z3
   ·obtain ⟨rfl,rfl⟩:=hY Y s1 z1
    have hr:appF 3 (sV [t0,t1] vv) p2=some (s,a,er):=z2
    rw [app2 t0 t1 p2 vv may2] at hr
    injection hr with hr
    injection hr with _ hr
    injection hr with _ hr
    exact z3 hr.symm
def After4 (B:Nat) (w:World) (v:Nat) (c:Pt) (w':World):Prop:=∃(b:Bl) (V:Vo),VoIn w' v c [(spE,b)] V∧V.s.n=nE∧V.gen=1∧Below B w w'
theorem step4 (w W:World) (p:Nat) (hw:0 < w.heap.size) (h:After3 w.heap.size w p W):Calls Tryz.prog 14 #[.pointer (some ⟨p,0,none⟩)] W fun e w'=>∃v c,e= .returned (.tuple #[.pointer (some ⟨v,0,none⟩),.nilIface])∧After4 w.heap.size w v c w':=by
 obtain ⟨N,ha,hl,h0,ho⟩:=h
 have hcap:capZ ((16:Nat):Int) ((16:Nat):Int)=10:=by decide
 have hld:loadD nE (capZ nE.blocks nE.per) fE=some (1,[spE]):=by
  rw [show capZ nE.blocks nE.per=10 from hcap]
  exact loadE
 refine (vopen_any W N p nE ha rfl hl h0 ⟨by decide,by decide⟩ ⟨by decide,by decide⟩ (rd_size t0 t1 t2 sz0 sz1 sz2) bdE (by rw [scanE];decide) (fun f hf=>?_) (by rw [filtE];exact rt.sort_one (Nat.le_refl 1)) (fun f hf g L hgl=>?_)).mono ?_
 ·rw [scanE] at hf
  simp only [List.mem_cons,List.not_mem_nil,or_false] at hf
  rcases hf with rfl|rfl|rfl
  ·exact of_decide_eq_true (by kernel_rfl)
  ·exact of_decide_eq_true (by kernel_rfl)
  ·exact of_decide_eq_true (by kernel_rfl)
 ·rw [filtE] at hf
  simp only [List.mem_singleton] at hf
  subst hf
  rw [hld] at hgl
  injection hgl with hgl
  injection hgl with _ hgl
  subst hgl
  refine ⟨fun s hs=>?_,?_⟩
  ·simp only [List.mem_singleton] at hs
   subst hs
   exact smE 1
  ·show (pgsT (.top 0 (nd1 1))++[]).length≤100000
   rw [List.append_nil]
   exact (smE 1).2.2
 ·rintro e w' ⟨v,c,X,V,l,rfl,_,hv,hl',_,hop,hm⟩
  rw [filtE] at hl'
  have hl1:l=[fE]:=List.perm_singleton.1 hl'
  subst hl1
  have hs:=ho.1.size
  have hb:=(own_mv ho (Nat.le_refl _) hm).1
  rcases hop with ⟨pre,post,f,g,L,P,e1,_,e2,e3,_,rfl⟩|⟨e1,_⟩
  ·cases pre with
   |cons a pre=>simp at e1
   |nil=>
    simp only [List.nil_append,List.cons.injEq] at e1
    obtain ⟨rfl,_⟩:=e1
    have e2':loadD nE (capZ nE.blocks nE.per) fE=some (g,L):=e2
    rw [hld] at e2'
    injection e2' with e2'
    injection e2' with e4 e5
    subst e4 e5
    cases X with
    |nil=>cases e3
    |cons x X=>
     simp only [List.map_cons,List.cons.injEq,List.map_eq_nil_iff] at e3
     obtain ⟨e3,rfl⟩:=e3
     obtain ⟨x1,b⟩:=x
     simp only at e3
     subst e3
     exact ⟨v,c,rfl,b,_,hv,rfl,rfl,hb⟩
  ·have:=e1 fE (by simp)
   have e2':loadD nE (capZ nE.blocks nE.per) fE=none:=this
   rw [hld] at e2'
   cases e2'
theorem step5 (W:World) (v:Nat) (c:Pt) (b:Bl) (V:Vo) (hv:VoIn W v c [(spE,b)] V) (hn:V.s.n=nE):Calls Tryz.prog 24 #[.pointer (some ⟨v,0,none⟩),.int .i64 1,.int .i64 2,.int .i64 2] W fun e w'=>e= .returned (.tuple #[.string (strOfNums (List.replicate 32 0)++xt),.nilIface])∧Below W.heap.size W w':=by
 have hk:∀k:Nat,k < 2→k=0∨k=1:=fun k hk=>by omega
 refine (vread_ok W v c [(spE,b)] V (spE,b) 2 2 hv (by simp) (by decide) (by decide) (by decide) (show (2:Int)+((2:Nat):Int)≤10 by decide) (fun k hk' hf=>?_) (fun a=>by rw [hn];exact rd_size t0 t1 t2 sz0 sz1 sz2 a) (fun k hk'=>?_)).mono ?_
 ·rcases hk k hk' with rfl|rfl
  ·have:(findL [ex1] 2).1=2:=hf
   rw [show (findL [ex1] 2).1=0 by kernel_rfl] at this
   cases this
  ·show (readS V.s.n (findL [ex1] 3).2).2=0
   rw [show (findL [ex1] 3).2=0 by kernel_rfl,hn,rs0]
 ·rcases hk k hk' with rfl|rfl
  ·show (secB V.s (.top 0 (nd1 1)) 2).size=32
   rw [sec2]
   kernel_rfl
  ·show (secB V.s (.top 0 (nd1 1)) 3).size=32
   rw [sec3 V.s hn]
   kernel_rfl
 ·rintro e w' ⟨rfl,hb⟩
  refine ⟨?_,hb⟩
  have:=readBE V.s hn
  have e1:(⟨(readB V.s (spE,b).1.tr 2 2).toArray⟩:ByteArray)=strOfNums (List.replicate 32 0)++xt:=this
  rw [e1]
end Go.Proofs.YtfialjmemcobjaaGreatDoor.vo
