/- A part of the proof. -/
import Derived.Test.YtfialjmemcobjaaGreatDoorPoVpK
import Derived.Test.YtfialjmemcobjaaGreatDoorPoVpR
namespace Go.Proofs.YtfialjmemcobjaaGreatDoor.vo
open Go.RowKit Go.Maps Go.Proofs.YtfialjmemcobjaaGreatDoor.er Go.Proofs.YtfialjmemcobjaaGreatDoor.st Go.Proofs.YtfialjmemcobjaaGreatDoor.tr Go.Proofs.YtfialjmemcobjaaGreatDoor.nd Go.Proofs.YtfialjmemcobjaaGreatDoor.pg Go.Proofs.YtfialjmemcobjaaGreatDoor.ge
set_option linter.unusedVariables false
set_option linter.unusedSimpArgs false
set_option maxRecDepth 100000
def ex1:Ext:=⟨3,1,2,0⟩
def nd1 (a:Int):Nd 0:=mkL a [ex1]
theorem over1:Tree.no.over ex1= .top 0 (nd1 (-1)):=by kernel_rfl
theorem ok1 (a:Int):(Tree.top 0 (nd1 a)).Ok:=⟨Nat.le_refl 1,show (1:Nat)≤8 by decide⟩
theorem chk1:Chk [ex1]:=chkB_chk _ (by kernel_rfl)
theorem holes1:holesN .no 3 1=1:=by kernel_rfl
def xt:ByteArray:=strOfNums (List.replicate 32 120)
def p0:Page:=⟨1,1,3,0,xt⟩
theorem pg0:pgW 1 3 xt 0=p0:=by kernel_rfl
theorem may0:mayB {p0 with seq:=0}=true:=by kernel_rfl
def p1:Page:=nodeP 1 (.leaf [ex1])
theorem may1:mayB {p1 with seq:=0}=true:=by kernel_rfl
def sp1:rt.Space:=⟨1,10,1,1⟩
def p2:Page:=rootP 1 [sp1]
theorem may2:mayB {p2 with seq:=0}=true:=by kernel_rfl
theorem mayR1:rt.mayR 1 [sp1]=true:=by kernel_rfl
def t0:ByteArray:=writeF {p0 with seq:=0}
def t1:ByteArray:=writeF {p1 with seq:=1}
def t2:ByteArray:=writeF {p2 with seq:=2}
theorem rf0:readF t0=({p0 with seq:=0},0):=read_write _ may0
theorem rf1:readF t1=({p1 with seq:=1},0):=read_write _ (mayB_seq (p:=p1) may1 (by decide) (by decide))
theorem rf2:readF t2=({p2 with seq:=2},0):=read_write _ (mayB_seq (p:=p2) may2 (by decide) (by decide))
theorem sz_of {p:Page} (h:mayB p=true):(writeF p).size≤128:=by
 have:=(mayB_yes h).2.2.2.2.2.2.2.2
 rw [writeF_size]
 omega
theorem sz0:t0.size≤128:=sz_of may0
theorem sz1:t1.size≤128:=sz_of (mayB_seq (p:=p1) may1 (by decide) (by decide))
theorem sz2:t2.size≤128:=sz_of (mayB_seq (p:=p2) may2 (by decide) (by decide))
abbrev nE:Nand:=nV [t0,t1,t2]
theorem rs0:readS nE 0=({p0 with seq:=0},0):=by unfold readS;rw [rd0];exact rf0
theorem rs1:readS nE 1=({p1 with seq:=1},0):=by unfold readS;rw [rd1];exact rf1
theorem scanE:scanTo nE (nE.blocks * nE.per)=[⟨0,{p0 with seq:=0}⟩,⟨1,{p1 with seq:=1}⟩,⟨2,{p2 with seq:=2}⟩]:=scan_nV t0 t1 t2 _ _ _ rf0 rf1 rf2
def fE:Fnd:=⟨2,{p2 with seq:=2}⟩
theorem decE:rt.decR fE.p.body=some (1,[sp1]):=rt.dec_root mayR1
theorem filtE:rt.filt (scanTo nE (nE.blocks * nE.per))=[fE]:=by
 rw [scanE]
 have a0:rt.isRoot ⟨0,{p0 with seq:=0}⟩=false:=by unfold rt.isRoot;rw [show decide (({p0 with seq:=0}:Page).kind=4)=false from rfl];rfl
 have a1:rt.isRoot ⟨1,{p1 with seq:=1}⟩=false:=by unfold rt.isRoot;rw [show decide (({p1 with seq:=1}:Page).kind=4)=false from rfl];rfl
 have a2:rt.isRoot fE=true:=by
  unfold rt.isRoot
  rw [decE]
  rfl
 show List.filter rt.isRoot [⟨0,{p0 with seq:=0}⟩,⟨1,{p1 with seq:=1}⟩,fE]=[fE]
 rw [List.filter_cons_of_neg (by rw [a0];simp),List.filter_cons_of_neg (by rw [a1];simp),List.filter_cons_of_pos a2]
 rfl
theorem getE:getB nE 1 1=some (2,⟨(leafL [ex1]).toArray⟩):=by
 unfold getB
 rw [rs1]
 rfl
theorem readE:readT nE sp1=some (.top 0 (nd1 1)):=by
 obtain ⟨d1,d2,_⟩:=leaf_dec (l:=[ex1]) (by simp) (by simp) (fun e he=>by simp only [List.mem_singleton] at he;subst he;kernel_rfl)
 have hr:readN (getB nE 1) 1 0 1=some (nd1 1):=by
  unfold readN
  rw [getE]
  dsimp only
  rw [d2,if_pos ⟨rfl,⟨d1,by show extB [ex1]=true;kernel_rfl⟩,by kernel_rfl⟩]
  rfl
 have hh:readH nE 1 1 0=some (.top 0 (nd1 1)):=by
  unfold readH
  rw [hr]
  dsimp only
  rw [if_pos (show chkB (flat (nd1 1))=true by kernel_rfl)]
 unfold readT
 rw [if_neg (by decide)]
 exact hh
theorem holdE:holdsB nE 1 10 [ex1]=true:=by
 unfold holdsB
 show (extOk nE 1 10 ex1 && true)=true
 unfold extOk runOk
 show (true && (false || (standsB nE 1 3 0 && true)) && true)=true
 have:standsB nE 1 3 0=true:=by
  unfold standsB
  rw [rs0]
  kernel_rfl
 rw [this]
 rfl
def spE:Sp:=⟨1,10,1,.top 0 (nd1 1)⟩
theorem loadE:loadD nE 10 fE=some (1,[spE]):=by
 have hs:ldSp nE sp1=some spE:=by
  unfold ldSp
  rw [readE]
  show (if holdsB nE 1 10 [ex1]=true then _ else _)=_
  rw [if_pos holdE]
  rfl
 unfold loadD
 rw [decE]
 show (loadL nE 10 [] [sp1]).map _=_
 unfold loadL
 rw [hs]
 show (if (1:Int)≤10 - 0 then loadL nE 10 ([]++[spE]) [] else none).map _=_
 rw [if_pos (by decide)]
 unfold loadL
 rfl
theorem sec2 (s:Sto):secB s (.top 0 (nd1 1)) 2=zero32:=by
 unfold secB
 rw [if_neg (by rw [show (findL (Tree.flat (.top 0 (nd1 1))) 2).1=0 by kernel_rfl];decide)]
theorem sec3 (s:Sto) (h:s.n=nE):secB s (.top 0 (nd1 1)) 3=xt:=by
 unfold secB
 rw [show findL (Tree.flat (.top 0 (nd1 1))) 3=(2,0) by kernel_rfl,if_pos rfl,h,rs0]
 rfl
theorem wrt1 {vv:List Int} {T:Tree} {s:Sto} (h:Wrt 3 1 (.top 0 (nd1 (-1))) (sV [t0] vv) T s):T= .top 0 (nd1 1)∧s=sV [t0,t1] vv:=by
 obtain ⟨n',rfl,hw⟩:=h
 have hl:n'.l=[ex1]:=by
  have:=congrArg Nd.l hw.strip
  exact this
 have hn:n'=mkL n'.at_ [ex1]:=by
  obtain ⟨a,l⟩:=n'
  have:l=[ex1]:=hl
  subst this
  rfl
 obtain ⟨a,ha⟩:∃a,n'.at_=a:=⟨_,rfl⟩
 rw [ha] at hn
 subst hn
 obtain ⟨u,hu,hrun⟩:=hw.run
 have hsu:s=u:=hrun
 have hst:appF 3 (sV [t0] vv) p1=some (u,a,0):=hu
 rw [app1 t0 p1 vv may1] at hst
 injection hst with hst
 injection hst with h1 h2
 injection h2 with h2 h3
 subst h1 h2
 exact ⟨rfl,hsu⟩
theorem can1 (vv:List Int):CanWr 3 1 (.top 0 (nd1 (-1))) (sV [t0] vv):=by
 have hp:CanPut 3 1 (nfs (nd1 (-1))) (frN (nd1 (-1))) (sV [t0] vv):=by
  intro l s h m hm hr hl
  have h0:l=[]:=List.eq_nil_of_length_eq_zero (by have:l.length < 1:=hl;omega)
  subst h0
  have hs:s=sV [t0] vv:=hr
  subst hs
  exact ⟨_,app1 t0 _ vv (may_node hm (by decide) (by decide)),by show (1:Int)+3≤_;decide,by show (1:Int)≤_;decide,fun _=>⟨⟨by show (0:Int)≤1;decide,by show (1:Int) < 2048;decide⟩,(show ¬(1:Int)∈([]:List Int) from List.not_mem_nil),(show ¬(1:Int)∈([]:List Int) from List.not_mem_nil)⟩⟩
 exact (show CanPut 3 1 (nfs (nd1 (-1))) (frN (nd1 (-1))) (sV [t0] vv)∧(nfs (nd1 (-1))).Nodup∧(∀a∈nfs (nd1 (-1)),0≤a∧a < 2048)∧cntN (nd1 (-1))≤16777216 from ⟨hp,List.Pairwise.nil,fun a ha=>(by cases ha),(show (1:Nat)≤16777216 by decide)⟩)
theorem cannot1 {vv:List Int} {T:Tree} {s:Sto} (h:WrtNo 3 1 (.top 0 (nd1 (-1))) (sV [t0] vv) T s):False:=by
 obtain ⟨n',j,s1,h2,m,a,er,rfl,hw,hp,he,hf⟩:=h
 have hmay:=may_node (id:=1) hp (by decide) (by decide)
 have hrun:=hw.run
 have hone:newl ((ats (nd1 (-1))).take j) ((pgs n').take j) ((ats n').take j)=[]∨newl ((ats (nd1 (-1))).take j) ((pgs n').take j) ((ats n').take j)=[(pgN n',n'.at_)]:=by
  cases j with
  |zero=>exact .inl rfl
  |succ j=>exact .inr (by simp [ats,pgs,newl,nd1,Nd.at_,mkL])
 rcases hone with h|h
 ·rw [h] at hrun
  have hs:s1=sV [t0] vv:=hrun
  subst hs
  rw [app1 t0 _ vv hmay] at hf
  injection hf with hf
  injection hf with _ hf
  injection hf with _ hf
  exact he hf.symm
 ·rw [h] at hrun
  obtain ⟨u,hu,hs⟩:=hrun
  have hs:s1=u:=hs
  subst hs
  have hu':appF 3 (sV [t0] vv) (nodeP 1 (pgN n'))=some (s1,n'.at_,0):=hu
  cases hm:mayB {nodeP 1 (pgN n') with seq:=0} with
  |false=>
   rw [app_no _ _ hm] at hu'
   injection hu' with hu'
   injection hu' with _ hu'
   injection hu' with _ hu'
   cases hu'
  |true=>
   rw [app1 t0 _ vv hm] at hu'
   injection hu' with hu'
   injection hu' with hu' _
   subst hu'
   rw [app2 t0 _ _ vv hmay] at hf
   injection hf with hf
   injection hf with _ hf
   injection hf with _ hf
   exact he hf.symm
theorem rs2:readS nE 2=({p2 with seq:=2},0):=by unfold readS;rw [rd2];exact rf2
theorem bdE (a:Int):(readS nE a).1.body.size≤1000000:=by
 by_cases h:0≤a∧a < 256
 ·obtain ⟨m,rfl⟩:∃m:Nat,a=(m:Int):=⟨a.toNat,by omega⟩
  by_cases h3:m < 3
  ·rcases (show m=0∨m=1∨m=2 by omega) with rfl|rfl|rfl
   ·exact Nat.le_trans (Nat.le_of_eq (congrArg (fun q=>q.1.body.size) rs0)) (of_decide_eq_true (by kernel_rfl))
   ·exact Nat.le_trans (Nat.le_of_eq (congrArg (fun q=>q.1.body.size) rs1)) (of_decide_eq_true (by kernel_rfl))
   ·exact Nat.le_trans (Nat.le_of_eq (congrArg (fun q=>q.1.body.size) rs2)) (of_decide_eq_true (by kernel_rfl))
  ·obtain ⟨q,rfl⟩:∃q,m=q+3:=⟨m - 3,by omega⟩
   unfold readS
   rw [rd_beyond t0 t1 t2 q (by omega),if_neg (by decide)]
   exact Nat.zero_le _
 ·unfold readS
  rw [rd_out t0 t1 t2 a h,if_neg (by decide)]
  exact Nat.zero_le _
theorem smE (a:Int):Small (.top 0 (nd1 a)):=by
 have h1:(sorted (Tree.nfs (.top 0 (nd1 a)))).length≤1:=by
  rw [sorted_len]
  show (nfs (nd1 a)).length≤1
  unfold nfs
  exact Nat.le_trans (List.length_filter_le _ _) (Nat.le_refl 1)
 refine ⟨show (1:Nat)≤100000 by decide,show (1:Nat)≤4096 by decide,?_⟩
 unfold pgsT
 rw [List.length_append]
 have h2:(ePages (Tree.flat (.top 0 (nd1 a)))).length=1:=by show (ePages [ex1]).length=1;kernel_rfl
 omega
theorem smX (sp:Sp) (b:Bl) (a:Int) (h:sp.tr= .top 0 (nd1 a)):SmallX [(sp,b)]:=⟨by show 1≤8;decide,fun x hx=>by
 simp only [List.mem_singleton] at hx
 subst hx
 show Small sp.tr
 rw [h]
 exact smE a⟩
theorem readBE (s:Sto) (h:s.n=nE):(⟨(readB s (.top 0 (nd1 1)) 2 2).toArray⟩:ByteArray)=strOfNums (List.replicate 32 0)++xt:=by
 have e:readB s (.top 0 (nd1 1)) 2 2=zero32.data.toList++xt.data.toList:=by
  rw [show (2:Nat)=1+1 from rfl,readB_succ,show (1:Nat)=0+1 from rfl,readB_succ]
  rw [show ((2:Int)+((0:Nat):Int))=2 from rfl,show ((2:Int)+((0+1:Nat):Int))=3 from rfl,sec2,sec3 s h]
  rfl
 rw [e]
 have k:(⟨(zero32.data.toList++xt.data.toList).toArray⟩:ByteArray)=strOfNums (List.replicate 32 0)++xt:=by kernel_rfl
 exact k
end Go.Proofs.YtfialjmemcobjaaGreatDoor.vo
