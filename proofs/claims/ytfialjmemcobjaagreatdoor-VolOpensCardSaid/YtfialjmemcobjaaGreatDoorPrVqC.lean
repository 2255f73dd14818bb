/- A part of the proof. -/
import Derived.Test.YtfialjmemcobjaaGreatDoorPrVpK
import Derived.Test.YtfialjmemcobjaaGreatDoorPrVpR
import Derived.Test.YtfialjmemcobjaaGreatDoorPrVqB
set_option linter.unusedVariables false
set_option linter.unusedSimpArgs false
namespace Go.Proofs.YtfialjmemcobjaaGreatDoor
namespace vo
open Go.RowKit Go.Maps er st tr nd pg ge
set_option maxRecDepth 100000
def ex1:Ext:=⟨3,1,2,0⟩
def nd1 (a:Int):Nd 0:=mkL a [ex1]
theorem Qos:Tree.no.over ex1= .top 0 (nd1 (-1)):=by kernel_rfl
theorem ok1 (a:Int):(Tree.top 0 (nd1 a)).Ok:=⟨Nat.le_refl 1,show (1:Nat)≤8 by decide⟩
theorem Qls:Chk [ex1]:=Xj _ (by kernel_rfl)
theorem Qch:Kt .no 3 1=1:=by kernel_rfl
def xt:ByteArray:=strOfNums (List.replicate 32 120)
def p0:Page:=⟨1,1,3,0,xt⟩
theorem pg0:pgW 1 3 xt 0=p0:=by kernel_rfl
theorem Qcg:Zj {p0 with seq:=0}=true:=by kernel_rfl
def p1:Page:=Ap 1 (.leaf [ex1])
theorem Qcu:Zj {p1 with seq:=0}=true:=by kernel_rfl
def sp1:rt.Space:=⟨1,10,1,1⟩
def p2:Page:=Yk 1 [sp1]
theorem Qiz:Zj {p2 with seq:=0}=true:=by kernel_rfl
theorem Qbb:rt.Ox 1 [sp1]=true:=by kernel_rfl
def t0:ByteArray:=Qp {p0 with seq:=0}
def t1:ByteArray:=Qp {p1 with seq:=1}
def t2:ByteArray:=Qp {p2 with seq:=2}
theorem rf0:K7 t0=({p0 with seq:=0},0):=Uh _ Qcg
theorem rf1:K7 t1=({p1 with seq:=1},0):=Uh _ (Uj (p:=p1) Qcu (by decide) (by decide))
theorem rf2:K7 t2=({p2 with seq:=2},0):=Uh _ (Uj (p:=p2) Qiz (by decide) (by decide))
theorem Mj {p:Page} (h:Zj p=true):(Qp p).size≤128:=by
 have:=(Jy h).2.2.2.2.2.2.2.2
 rw [Gc]
 omega
theorem sz0:t0.size≤128:=Mj Qcg
theorem sz1:t1.size≤128:=Mj (Uj (p:=p1) Qcu (by decide) (by decide))
theorem sz2:t2.size≤128:=Mj (Uj (p:=p2) Qiz (by decide) (by decide))
abbrev nE:Nand:=nV [t0,t1,t2]
theorem rs0:Qx nE 0=({p0 with seq:=0},0):=by unfold Qx;rw [rd0];exact rf0
theorem rs1:Qx nE 1=({p1 with seq:=1},0):=by unfold Qx;rw [rd1];exact rf1
theorem Qox:Qu nE (nE.blocks * nE.per)=[⟨0,{p0 with seq:=0}⟩,⟨1,{p1 with seq:=1}⟩,⟨2,{p2 with seq:=2}⟩]:=Qdo t0 t1 t2 _ _ _ rf0 rf1 rf2
def fE:Fnd:=⟨2,{p2 with seq:=2}⟩
theorem Qhb:rt.Xa fE.p.body=some (1,[sp1]):=rt.Wl Qbb
theorem Qiw:rt.Xy (Qu nE (nE.blocks * nE.per))=[fE]:=by
 rw [Qox]
 have a0:rt.Z4 ⟨0,{p0 with seq:=0}⟩=false:=by unfold rt.Z4;rw [show decide (({p0 with seq:=0}:Page).kind=4)=false from rfl];rfl
 have a1:rt.Z4 ⟨1,{p1 with seq:=1}⟩=false:=by unfold rt.Z4;rw [show decide (({p1 with seq:=1}:Page).kind=4)=false from rfl];rfl
 have a2:rt.Z4 fE=true:=by
  unfold rt.Z4
  rw [Qhb]
  rfl
 show List.filter rt.Z4 [⟨0,{p0 with seq:=0}⟩,⟨1,{p1 with seq:=1}⟩,fE]=[fE]
 rw [List.filter_cons_of_neg (by rw [a0];simp),List.filter_cons_of_neg (by rw [a1];simp),List.filter_cons_of_pos a2]
 rfl
theorem Qll:Xv nE 1 1=some (2,⟨(Ky [ex1]).toArray⟩):=by
 unfold Xv
 rw [rs1]
 rfl
theorem Qfm:K6 nE sp1=some (.top 0 (nd1 1)):=by
 obtain ⟨d1,d2,_⟩:=Qiy (l:=[ex1]) (by simp) (by simp) (fun e he=>by simp only [List.mem_singleton] at he;subst he;kernel_rfl)
 have hr:Qd (Xv nE 1) 1 0 1=some (nd1 1):=by
  unfold Qd
  rw [Qll]
  dsimp only
  rw [d2,if_pos ⟨rfl,⟨d1,by show Lr [ex1]=true;kernel_rfl⟩,by kernel_rfl⟩]
  rfl
 have hh:Ac nE 1 1 0=some (.top 0 (nd1 1)):=by
  unfold Ac
  rw [hr]
  dsimp only
  rw [if_pos (show Ko (flat (nd1 1))=true by kernel_rfl)]
 unfold K6
 rw [if_neg (by decide)]
 exact hh
theorem Qhk:Z5 nE 1 10 [ex1]=true:=by
 unfold Z5
 show (Ug nE 1 10 ex1 && true)=true
 unfold Ug Xh
 show (true && (false || (Zk nE 1 3 0 && true)) && true)=true
 have:Zk nE 1 3 0=true:=by
  unfold Zk
  rw [rs0]
  kernel_rfl
 rw [this]
 rfl
def spE:Sp:=⟨1,10,1,.top 0 (nd1 1)⟩
theorem Qf2:Zo nE 10 fE=some (1,[spE]):=by
 have hs:Yg nE sp1=some spE:=by
  unfold Yg
  rw [Qfm]
  show (if Z5 nE 1 10 [ex1]=true then _ else _)=_
  rw [if_pos Qhk]
  rfl
 unfold Zo
 rw [Qhb]
 show (Ke nE 10 [] [sp1]).map _=_
 unfold Ke
 rw [hs]
 show (if (1:Int)≤10 - 0 then Ke nE 10 ([]++[spE]) [] else none).map _=_
 rw [if_pos (by decide)]
 unfold Ke
 rfl
theorem Qfh (s:Sto):Gu s (.top 0 (nd1 1)) 2=Dt:=by
 unfold Gu
 rw [if_neg (by rw [show (Zp (Tree.flat (.top 0 (nd1 1))) 2).1=0 by kernel_rfl];decide)]
theorem Qff (s:Sto) (h:s.n=nE):Gu s (.top 0 (nd1 1)) 3=xt:=by
 unfold Gu
 rw [show Zp (Tree.flat (.top 0 (nd1 1))) 3=(2,0) by kernel_rfl,if_pos rfl,h,rs0]
 rfl
theorem Qlo {vv:List Int} {T:Tree} {s:Sto} (h:Wrt 3 1 (.top 0 (nd1 (-1))) (sV [t0] vv) T s):T= .top 0 (nd1 1)∧s=sV [t0,t1] vv:=by
 obtain ⟨n',rfl,hw⟩:=h
 have hl:n'.l=[ex1]:=by
  have:=congrArg Nd.l hw.strip
  exact this
 have hn:n'=mkL n'.at_ [ex1]:=by
  obtain ⟨a,l⟩:=n'
  have:l=[ex1]:=hl
  subst this
  rfl
 obtain ⟨a,ha⟩:∃a,n'.at_=a:=⟨_,rfl⟩
 rw [ha] at hn
 subst hn
 obtain ⟨u,hu,hrun⟩:=hw.run
 have hsu:s=u:=hrun
 have hst:Ja 3 (sV [t0] vv) p1=some (u,a,0):=hu
 rw [app1 t0 p1 vv Qcu] at hst
 injection hst with hst
 injection hst with h1 h2
 injection h2 with h2 h3
 subst h1 h2
 exact ⟨rfl,hsu⟩
theorem Qlt (vv:List Int):Qxx 3 1 (.top 0 (nd1 (-1))) (sV [t0] vv):=by
 have hp:Le 3 1 (nfs (nd1 (-1))) (frN (nd1 (-1))) (sV [t0] vv):=by
  intro l s h m hm hr hl
  have h0:l=[]:=List.eq_nil_of_length_eq_zero (by have:l.length < 1:=hl;omega)
  subst h0
  have hs:s=sV [t0] vv:=hr
  subst hs
  exact ⟨_,app1 t0 _ vv (F4 hm (by decide) (by decide)),by show (1:Int)+3≤_;decide,by show (1:Int)≤_;decide,fun _=>⟨⟨by show (0:Int)≤1;decide,by show (1:Int) < 2048;decide⟩,(show ¬(1:Int)∈([]:List Int) from List.not_mem_nil),(show ¬(1:Int)∈([]:List Int) from List.not_mem_nil)⟩⟩
 exact (show Le 3 1 (nfs (nd1 (-1))) (frN (nd1 (-1))) (sV [t0] vv)∧(nfs (nd1 (-1))).Nodup∧(∀a∈nfs (nd1 (-1)),0≤a∧a < 2048)∧Zc (nd1 (-1))≤16777216 from ⟨hp,List.Pairwise.nil,fun a ha=>(by cases ha),(show (1:Nat)≤16777216 by decide)⟩)
theorem Qj7 {vv:List Int} {T:Tree} {s:Sto} (h:Bt 3 1 (.top 0 (nd1 (-1))) (sV [t0] vv) T s):False:=by
 obtain ⟨n',j,s1,h2,m,a,er,rfl,hw,hp,he,hf⟩:=h
 have hmay:=F4 (id:=1) hp (by decide) (by decide)
 have hrun:=hw.run
 have hone:Xo ((ats (nd1 (-1))).take j) ((pgs n').take j) ((ats n').take j)=[]∨Xo ((ats (nd1 (-1))).take j) ((pgs n').take j) ((ats n').take j)=[(pgN n',n'.at_)]:=by
  cases j with
  |zero=>exact .inl rfl
  |succ j=>exact .inr (by simp [ats,pgs,Xo,nd1,Nd.at_,mkL])
 rcases hone with h|h
 ·rw [h] at hrun
  have hs:s1=sV [t0] vv:=hrun
  subst hs
  rw [app1 t0 _ vv hmay] at hf
  injection hf with hf
  injection hf with _ hf
  injection hf with _ hf
  exact he hf.symm
 ·rw [h] at hrun
  obtain ⟨u,hu,hs⟩:=hrun
  have hs:s1=u:=hs
  subst hs
  have hu':Ja 3 (sV [t0] vv) (Ap 1 (pgN n'))=some (s1,n'.at_,0):=hu
  cases hm:Zj {Ap 1 (pgN n') with seq:=0} with
  |false=>
   rw [Qc3 _ _ hm] at hu'
   injection hu' with hu'
   injection hu' with _ hu'
   injection hu' with _ hu'
   cases hu'
  |true=>
   rw [app1 t0 _ vv hm] at hu'
   injection hu' with hu'
   injection hu' with hu' _
   subst hu'
   rw [Qbz t0 _ _ vv hmay] at hf
   injection hf with hf
   injection hf with _ hf
   injection hf with _ hf
   exact he hf.symm
theorem rs2:Qx nE 2=({p2 with seq:=2},0):=by unfold Qx;rw [rd2];exact rf2
theorem bdE (a:Int):(Qx nE a).1.body.size≤1000000:=by
 by_cases h:0≤a∧a < 256
 ·obtain ⟨m,rfl⟩:∃m:Nat,a=(m:Int):=⟨a.toNat,by omega⟩
  by_cases h3:m < 3
  ·rcases (show m=0∨m=1∨m=2 by omega) with rfl|rfl|rfl
   ·exact Nat.le_trans (Nat.le_of_eq (congrArg (fun q=>q.1.body.size) rs0)) (of_decide_eq_true (by kernel_rfl))
   ·exact Nat.le_trans (Nat.le_of_eq (congrArg (fun q=>q.1.body.size) rs1)) (of_decide_eq_true (by kernel_rfl))
   ·exact Nat.le_trans (Nat.le_of_eq (congrArg (fun q=>q.1.body.size) rs2)) (of_decide_eq_true (by kernel_rfl))
  ·obtain ⟨q,rfl⟩:∃q,m=q+3:=⟨m - 3,by omega⟩
   unfold Qx
   rw [Ms t0 t1 t2 q (by omega),if_neg (by decide)]
   exact Nat.zero_le _
 ·unfold Qx
  rw [Qod t0 t1 t2 a h,if_neg (by decide)]
  exact Nat.zero_le _
theorem smE (a:Int):Small (.top 0 (nd1 a)):=by
 have h1:(sorted (Tree.nfs (.top 0 (nd1 a)))).length≤1:=by
  rw [Js]
  show (nfs (nd1 a)).length≤1
  unfold nfs
  exact Nat.le_trans (List.length_filter_le _ _) (Nat.le_refl 1)
 refine ⟨show (1:Nat)≤100000 by decide,show (1:Nat)≤4096 by decide,?_⟩
 unfold Yl
 rw [List.length_append]
 have h2:(Q3 (Tree.flat (.top 0 (nd1 a)))).length=1:=by show (Q3 [ex1]).length=1;kernel_rfl
 omega
theorem smX (sp:Sp) (b:Bl) (a:Int) (h:sp.tr= .top 0 (nd1 a)):Yr [(sp,b)]:=⟨by show 1≤8;decide,fun x hx=>by
 simp only [List.mem_singleton] at hx
 subst hx
 show Small sp.tr
 rw [h]
 exact smE a⟩
theorem Qb7 (s:Sto) (h:s.n=nE):(⟨(Y7 s (.top 0 (nd1 1)) 2 2).toArray⟩:ByteArray)=strOfNums (List.replicate 32 0)++xt:=by
 have e:Y7 s (.top 0 (nd1 1)) 2 2=Dt.data.toList++xt.data.toList:=by
  rw [show (2:Nat)=1+1 from rfl,Um,show (1:Nat)=0+1 from rfl,Um]
  rw [show ((2:Int)+((0:Nat):Int))=2 from rfl,show ((2:Int)+((0+1:Nat):Int))=3 from rfl,Qfh,Qff s h]
  rfl
 rw [e]
 have k:(⟨(Dt.data.toList++xt.data.toList).toArray⟩:ByteArray)=strOfNums (List.replicate 32 0)++xt:=by kernel_rfl
 exact k
end vo
namespace vo
open Go.RowKit er st tr nd pg ge
set_option maxRecDepth 100000
def Qh (xs:Nat→ByteArray) (i:Nat):Nand:=⟨16,16,(List.range 16).map (fun b=>⟨(List.range (min 16 (i - 16 * b))).map (fun j=>xs (16 * b+j)),0,false⟩),i,[],false⟩
def Gx (xs:Nat→ByteArray) (k:Nat) (vv:List Int) (q:Int):Sto:=⟨Qh xs k,(List.range 16).map (fun b=>if 16 * b < k then 2 else 0),vv,-1,q⟩
def Ze (k:Nat):Nat:=(k+15) / 16
def Z6 (xs:Nat→ByteArray) (k:Nat) (t:ByteArray):Nand:={Qh xs k with b:=(Qh xs k).b.set (Ze k) ⟨[t],0,false⟩,ops:=(k:Int)+1}
def Te (xs:Nat→ByteArray) (k:Nat) (vv:List Int) (q:Int) (t:ByteArray):Sto:=⟨Z6 xs k t,((List.range 16).map (fun b=>if 16 * b < k then (2:Int) else 0)).set (Ze k) 1,vv,((Ze k:Nat):Int),q⟩
theorem Quh (xs:Nat→ByteArray):Qh xs 0=nV []:=by kernel_rfl
theorem Qky (xs:Nat→ByteArray):(List.range 60).map (fun i=>Bu (Qh xs i) (i:Int) (xs i))=(List.range 60).map (fun i=>((0:Int),Qh xs (i+1))):=by kernel_rfl
theorem Qum (xs:Nat→ByteArray) (i:Nat) (hi:i < 60) (h:(xs i).size≤128):(Qh xs i).program (i:Int) (xs i)=(0,Qh xs (i+1)):=by
 rw [Qof _ _ _ h]
 exact Yx (f:=fun i=>Bu (Qh xs i) (i:Int) (xs i)) (g:=fun i=>((0:Int),Qh xs (i+1))) (Qky xs) i hi
theorem Qku (xs:Nat→ByteArray):(List.range 61).map (fun k=>Ig (Qh xs k))=(List.range 61).map (fun k=>Gx xs k (List.replicate 16 0) 0):=by kernel_rfl
theorem Qun (xs:Nat→ByteArray) (k:Nat) (hk:k≤60):∃q,Ka (Qh xs k)=Gx xs k (List.replicate 16 0) q:=by
 have h:=Yx (f:=fun k=>Ig (Qh xs k)) (g:=fun k=>Gx xs k (List.replicate 16 0) 0) (Qku xs) k (by omega)
 unfold Ka
 rw [h]
 exact ⟨_,rfl⟩
theorem Qul (xs:Nat→ByteArray) (vv:List Int) (q:Int) (t:ByteArray):(List.range 61).map (fun k=>Lh 3 (Gx xs k vv q) t)=(List.range 61).map (fun k=>some (Te xs k vv q t,((16 * Ze k:Nat):Int),(0:Int),true)):=by kernel_rfl
theorem He (xs:Nat→ByteArray) (k:Nat) (vv:List Int) (q:Int) (p:Page) (hk:k≤60) (hm:Zj {p with seq:=0}=true):Ja 3 (Gx xs k vv q) p=some (Te xs k vv (q+1) (Qp {p with seq:=q}),((16 * Ze k:Nat):Int),0):=by
 have h:Lh 3 (Gx xs k vv q) (Qp {p with seq:=(Gx xs k vv q).seq})=some (Te xs k vv q (Qp {p with seq:=q}),((16 * Ze k:Nat):Int),0,true):=
  Yx (f:=fun k=>Lh 3 (Gx xs k vv q) (Qp {p with seq:=q})) (g:=fun k=>some (Te xs k vv q (Qp {p with seq:=q}),((16 * Ze k:Nat):Int),(0:Int),true)) (Qul xs vv q (Qp {p with seq:=q})) k (by omega)
 rw [Rv 3 (Gx xs k vv q) p _ hm h]
 have h1:(Gx xs k vv q).n.ops < (Te xs k vv q (Qp {p with seq:=q})).n.ops:=by show (k:Int) < (k:Int)+1;omega
 simp only [if_pos h1,if_true]
 rfl
theorem Wu (xs:Nat→ByteArray) (i b:Nat) (hb:b < 16):(Qh xs i).blk b=⟨(List.range (min 16 (i - 16 * b))).map (fun j=>xs (16 * b+j)),0,false⟩:=by
 show List.getD _ _ _=_
 simp [Qh,List.getD,List.getElem?_map,List.getElem?_range hb]
theorem Er (xs:Nat→ByteArray) (i a:Nat) (ha:a < 256):(Qh xs i).read a=if a < i then (0,xs a) else (42,⟨#[]⟩):=by
 unfold Nand.read
 rw [if_neg (by simp [Qh]),if_neg (by show ¬¬(0≤(a:Int)∧(a:Int) < (16:Nat) * (16:Nat));omega)]
 have h1:((a:Int).toNat / (Qh xs i).per)=a / 16:=by simp [Qh]
 have h2:((a:Int).toNat % (Qh xs i).per)=a % 16:=by simp [Qh]
 rw [h1,h2,Wu xs i (a / 16) (by omega)]
 simp only [List.getElem?_map]
 by_cases h:a < i
 ·rw [if_pos h,List.getElem?_range (by omega)]
  simp only [Option.map_some]
  rw [show 16 * (a / 16)+a % 16=a from by omega]
 ·rw [if_neg h,List.getElem?_eq_none (by simp;omega)]
  rfl
theorem Qoi (xs:Nat→ByteArray) (k:Nat) (t:ByteArray) (b:Nat) (hk:k≤240) (hb:b < 16):(Z6 xs k t).blk b=if b=Ze k then ⟨[t],0,false⟩ else (Qh xs k).blk b:=by
 have hl:(Qh xs k).b.length=16:=by simp [Qh]
 show ((Qh xs k).b.set (Ze k) ⟨[t],0,false⟩).getD b ⟨[],0,false⟩=if b=Ze k then ⟨[t],0,false⟩ else (Qh xs k).b.getD b ⟨[],0,false⟩
 simp only [List.getD,List.getElem?_set]
 by_cases e:b=Ze k
 ·subst e
  rw [if_pos rfl,if_pos rfl,if_pos (by rw [hl];unfold Ze;omega)]
  rfl
 ·rw [if_neg (fun h=>e h.symm),if_neg e]
theorem Ey (xs:Nat→ByteArray) (k:Nat) (t:ByteArray) (a:Nat) (hk:k≤240) (ha:a < 256):(Z6 xs k t).read a=if a=16 * Ze k then (0,t) else (Qh xs k).read a:=by
 have hj:k≤16 * Ze k:=by unfold Ze;omega
 rw [Er xs k a ha]
 unfold Nand.read
 rw [if_neg (by simp [Z6,Qh]),if_neg (by show ¬¬(0≤(a:Int)∧(a:Int) < (16:Nat) * (16:Nat));omega)]
 have h1:((a:Int).toNat / (Z6 xs k t).per)=a / 16:=by simp [Z6,Qh]
 have h2:((a:Int).toNat % (Z6 xs k t).per)=a % 16:=by simp [Z6,Qh]
 rw [h1,h2,Qoi xs k t (a / 16) hk (by omega)]
 by_cases e:a / 16=Ze k
 ·rw [if_pos e]
  by_cases e2:a=16 * Ze k
  ·rw [if_pos e2,show a % 16=0 by omega]
   rfl
  ·rw [if_neg e2,if_neg (show ¬a < k by omega),List.getElem?_eq_none (by show [t].length≤a % 16;simp;omega)]
 ·rw [if_neg e,if_neg (show ¬a=16 * Ze k by omega),Wu xs k (a / 16) (by omega)]
  simp only [List.getElem?_map]
  by_cases h:a < k
  ·rw [if_pos h,List.getElem?_range (by omega)]
   simp only [Option.map_some]
   rw [show 16 * (a / 16)+a % 16=a from by omega]
  ·rw [if_neg h,List.getElem?_eq_none (by simp;omega)]
   rfl
theorem G9 {n:Nand} (hd:n.down=false) (hb:n.blocks=16) (hp:n.per=16) (a:Int) (ha:¬(0≤a∧a < 256)):n.read a=(1,⟨#[]⟩):=by
 unfold Nand.read
 rw [if_neg (by rw [hd];simp),if_pos (by rw [hb,hp];exact ha)]
theorem N8 {xs:Nat→ByteArray} (hx:∀i,(xs i).size≤128) (k:Nat) (a:Int):((Qh xs k).read a).2.size≤128:=by
 by_cases h:0≤a∧a < 256
 ·obtain ⟨m,rfl⟩:∃m:Nat,a=(m:Int):=⟨a.toNat,by omega⟩
  rw [Er xs k m (by omega)]
  split
  ·exact hx m
  ·exact Nat.zero_le _
 ·rw [G9 rfl rfl rfl a h]
  exact Nat.zero_le _
theorem Qq7 {xs:Nat→ByteArray} (hx:∀i,(xs i).size≤128) {k:Nat} (hk:k≤240) {t:ByteArray} (ht:t.size≤128) (a:Int):((Z6 xs k t).read a).2.size≤128:=by
 by_cases h:0≤a∧a < 256
 ·obtain ⟨m,rfl⟩:∃m:Nat,a=(m:Int):=⟨a.toNat,by omega⟩
  rw [Ey xs k t m hk (by omega)]
  split
  ·exact ht
  ·exact N8 hx k _
 ·rw [G9 rfl rfl rfl a h]
  exact Nat.zero_le _
theorem Qjy (xs:Nat→ByteArray) {k:Nat} (hk:k≤240) {t:ByteArray} {P:Page} (ht:K7 t=(P,0)):(∀a:Int,a≠((16 * Ze k:Nat):Int)→Qx (Z6 xs k t) a=Qx (Qh xs k) a)∧Qx (Z6 xs k t) ((16 * Ze k:Nat):Int)=(P,0)∧(∀a:Nat,k≤a→(Qx (Qh xs k) (a:Int)).2≠0):=by
 have hj:16 * Ze k < 256:=by unfold Ze;omega
 refine ⟨fun a ha=>?_,?_,fun a ha=>?_⟩
 ·have e:(Z6 xs k t).read a=(Qh xs k).read a:=by
   by_cases h:0≤a∧a < 256
   ·obtain ⟨m,rfl⟩:∃m:Nat,a=(m:Int):=⟨a.toNat,by omega⟩
    rw [Ey xs k t m hk (by omega),if_neg (by omega)]
   ·rw [G9 rfl rfl rfl a h,G9 rfl rfl rfl a h]
  unfold Qx
  rw [e]
 ·unfold Qx
  rw [Ey xs k t _ hk hj,if_pos rfl]
  exact ht
 ·unfold Qx
  by_cases h:a < 256
  ·rw [Er xs k a h,if_neg (show ¬a < k by omega)]
   exact (by decide:(42:Int)≠0)
  ·rw [G9 rfl rfl rfl (a:Int) (by omega)]
   exact (by decide:(1:Int)≠0)
theorem Ty {n n':Nand} {m0:Nat} {P:Page} (h1:∀a:Int,a≠(m0:Int)→Qx n' a=Qx n a) (h2:Qx n' (m0:Int)=(P,0)) (h3:∀a:Nat,m0≤a→(Qx n (a:Int)).2≠0):∀K,Qu n' K=Qu n K++if m0 < K then [⟨(m0:Int),P⟩] else []
 |0=>by simp [Qu]
 |K+1=>by
  have ih:=Ty h1 h2 h3 K
  unfold Qu
  rcases Nat.lt_trichotomy K m0 with h|h|h
  ·rw [h1 (K:Int) (by omega),ih,if_neg (show ¬m0 < K by omega),if_neg (show ¬m0 < K+1 by omega)]
   simp
  ·subst h
   rw [h2,if_pos rfl,if_neg (h3 K (Nat.le_refl _)),ih,if_neg (Nat.lt_irrefl _),if_pos (Nat.lt_succ_self _)]
   simp
  ·rw [h1 (K:Int) (by omega),ih,if_pos h,if_pos (show m0 < K+1 by omega),if_neg (h3 K (by omega)),if_neg (h3 K (by omega))]
theorem Qyy (xs:Nat→ByteArray) {k:Nat} (hk:k≤60) {t:ByteArray} {P:Page} (ht:K7 t=(P,0)):Qu (Z6 xs k t) 256=Qu (Qh xs k) 256++[⟨((16 * Ze k:Nat):Int),P⟩]:=by
 obtain ⟨h1,h2,h3⟩:=Qjy xs (k:=k) (by omega) ht
 have hj:k≤16 * Ze k:=by unfold Ze;omega
 rw [Ty h1 h2 (fun a ha=>h3 a (by omega)) 256,if_pos (by unfold Ze;omega)]
theorem Qhf (n:Nand) (a:Int):(Qx n a).1.body.size≤1000000:=by
 by_cases h:(Qx n a).2=0
 ·have:=(Jy (Mh h)).2.2.2.2.2.2.2.2
  omega
 ·have e:(Qx n a).1=Zg:=by
   unfold Qx at h ⊢
   split
   ·rename_i h2
    rw [if_pos h2] at h
    exact Tp rfl h
   ·rfl
  rw [e]
  exact Nat.zero_le _
end vo
namespace vo
open Go.RowKit Go.Maps er st tr nd pg ge
set_option maxRecDepth 100000
theorem Rk:∀{L:List Sp},(∀s∈L,(Yl s.tr).length≤1024)→(L.flatMap fun s=>Yl s.tr).length≤1024 * L.length
 |[],_=>by simp
 |s::r,h=>by
  have h1:=h s (by simp)
  have h2:=Rk (L:=r) (fun x hx=>h x (by simp [hx]))
  rw [List.flatMap_cons,List.length_append,List.length_cons]
  omega
theorem Ba {n:Nand} (hn:n.blocks * n.per≤512) {cap g:Int} {f:Fnd} {L:List Sp} (h:Zo n cap f=some (g,L)):(∀s∈L,Small s.tr)∧(L.flatMap fun s=>Yl s.tr).length≤100000:=by
 obtain ⟨_,_,_,_,h8,hs⟩:=El h
 have hx:=fun s hs'=>Hq hn (hs s hs').2
 refine ⟨fun s hs'=>(hx s hs').1,?_⟩
 have:=Rk (L:=L) (fun s hs'=>(hx s hs').2)
 omega
theorem Qa1 (w:World) (N:Nat→Prop) (p:Nat) (n:Nand) (h:NandAt w N p n) (hd:n.down=false) (hl:LaidT w) (h0:¬N 0) (hb:n.blocks=16) (hp:n.per=16) (ht:∀a,(n.read a).2.size≤128):Calls Tryz.prog 14 #[.pointer (some ⟨p,0,none⟩)] w (Qal w p N n):=by
 have hlen:=O1 n (n.blocks * n.per)
 have hm:n.blocks * n.per=256:=by rw [hb,hp]
 have hbody:∀f∈Qu n (n.blocks * n.per),f.p.body.size≤1000000:=fun f hf=>by have:=(Jy (Uf n _ f hf)).2.2.2.2.2.2.2.2;omega
 refine D7 w N p n h hd hl h0 (by rw [hb];decide) (by rw [hp];decide) (fun a=>by have:=ht a;omega) (Qhf n) (by omega) hbody (rt.Qg8 ?_ ?_) ?_
 ·exact Nat.le_trans (List.length_filter_le _ _) (by omega)
 ·intro f hf
  obtain ⟨h1,h2⟩:=List.mem_filter.1 hf
  unfold rt.Z4 at h2
  exact ⟨(Bool.and_eq_true_iff.1 h2).2,hbody f h1⟩
 ·intro f hf g L hgl
  exact Ba (by omega) hgl
structure Opd (n:Nand) (X:XL) (V:Vo):Prop where
 cap:V.cap=10
 sure:V.sure=true
 gen:0≤V.gen
 last:V.last.length≤100000
 sx:Yr X
 sp:∀x∈X,rt.spB (spS x.1)=true∧Yg n (spS x.1)=some x.1
 st:∃vv,V.s={Ka n with valid:=vv}
 hop:∃l1,l1.Perm (rt.Xy (Qu n 256))∧l1.Pairwise rt.newer∧((∃(pre post:List Fnd) (f:Fnd) (L:List Sp),l1=pre++f::post∧(∀z∈pre,Zo n 10 z=none)∧Zo n 10 f=some (V.gen,L))∨(∀z∈l1,Zo n 10 z=none))
theorem Qcj {n:Nand} (hb:n.blocks=16) (hp:n.per=16) {l:List Fnd} {X:XL} {V:Vo} (h1:l.Perm (rt.Xy (Qu n (n.blocks * n.per)))) (h2:l.Pairwise rt.newer) (ho:Qkt (Ka n) l X V):Opd n X V:=by
 have hm:n.blocks * n.per=256:=by rw [hb,hp]
 have hc:Jo (Ka n).n.blocks (Ka n).n.per=10:=by
  show Jo n.blocks n.per=10
  rw [hb,hp]
  exact Qaz
 rw [hm] at h1
 unfold Qkt at ho
 have hc':Jo n.blocks n.per=10:=hc
 have hn:(Ka n).n=n:=rfl
 rw [hn,hc'] at ho
 rcases ho with ⟨pre,post,f,g,L,P,e1,e2,e3,e4,e5,e6⟩|⟨e1,e2,e3⟩
 ·obtain ⟨_,_,_,g0,g8,gs⟩:=El e3
  obtain ⟨s1,s2⟩:=Ba (by omega) e3
  have hin:∀x∈X,x.1∈L:=fun x hx=>by rw [←e4];exact List.mem_map.2 ⟨x,hx,rfl⟩
  have hxl:X.length=L.length:=by rw [←e4,List.length_map]
  subst e6
  refine ⟨hc,rfl,g0,?_,⟨by omega,fun x hx=>s1 _ (hin x hx)⟩,fun x hx=>gs _ (hin x hx),⟨_,rfl⟩,l,h1,h2,.inl ⟨pre,post,f,L,e1,e2,e3⟩⟩
  show P.length≤100000
  rw [e5.length_eq,Fb,e4]
  exact s2
 ·subst e2 e3
  exact ⟨hc,rfl,Int.le_refl 0,Nat.zero_le _,⟨Nat.zero_le _,fun x hx=>by cases hx⟩,fun x hx=>(by cases hx),⟨_,rfl⟩,l,h1,h2,.inr e1⟩
theorem Nu {n:Nand} {X:XL} {V:Vo} (h:Opd n X V):∀x∈X,0≤x.1.used∧x.1.used≤x.1.size:=fun x hx=>Qy8 (h.sp x hx).1 (h.sp x hx).2
theorem Qca (n:Nand) (id:Int):Yg n ⟨id,9,-1,0⟩=some ⟨id,9,0,.no⟩:=by
 have h:K6 n ⟨id,9,-1,0⟩=some .no:=by unfold K6;exact if_pos rfl
 unfold Yg
 rw [h]
 rfl
theorem Qdu {id:Int} (h:1≤id∧id≤65535):rt.spB ⟨id,9,-1,0⟩=true:=by
 unfold rt.spB
 simp
 exact h
def Qw (X:XL) (id:Int) (b:Bl):XL:=Xx X (⟨id,9,0,.no⟩,b)
theorem Fw {n:Nand} {X:XL} {V:Vo} {id:Int} {b:Bl} (h:Opd n X V) (hi:1≤id∧id≤65535):∀x∈Qw X id b,(rt.spB (spS x.1)=true∧Yg n (spS x.1)=some x.1)∧0≤x.1.used:=fun x hx=>by
 rcases Az hx with rfl|hx
 ·exact ⟨⟨Qdu hi,Qca n id⟩,Int.le_refl 0⟩
 ·exact ⟨h.sp x hx,(Nu h x hx).1⟩
theorem Pp {n:Nand} (hn:n.blocks * n.per≤512) {X:XL} {V:Vo} {id:Int} {b:Bl} (h:Opd n X V) (hi:1≤id∧id≤65535):∀x∈Qw X id b,Old x.1.tr:=fun x hx=>by
 obtain ⟨T,hT,_,he⟩:=F9 (Fw h hi x hx).1.2
 rw [he]
 exact Qyg hn hT
theorem Eb {n:Nand} (hn:n.blocks * n.per≤512) {X:XL} {V:Vo} {id:Int} {b:Bl} (h:Opd n X V) (hi:1≤id∧id≤65535) (hd:∀x∈X,x.1.id≠id) (h8:X.length < 8):(Qw X id b).length=X.length+1∧Yr (Qw X id b)∧(J9 (Qw X id b)).length≤100000:=by
 have hl:(Qw X id b).length=X.length+1:=(Yw (y:=((⟨id,9,0,.no⟩:Sp),b)) hd).length_eq
 have hs:=fun x hx=>Hq hn (Fw (b:=b) h hi x hx).1.2
 refine ⟨hl,⟨by omega,fun x hx=>(hs x hx).1⟩,?_⟩
 rw [Fb]
 have:=Rk (L:=(Qw X id b).map (·.1)) (fun s hs'=>by
  obtain ⟨x,hx,rfl⟩:=List.mem_map.1 hs'
  exact (hs x hx).2)
 rw [List.length_map] at this
 omega
theorem Qbo:∀{l:List rt.Space},(l.Pairwise fun a b=>a.id < b.id)→rt.upB l=true
 |[],_=>rfl
 |[_],_=>rfl
 |a::b::r,h=>by
  obtain ⟨h1,h2⟩:=List.pairwise_cons.1 h
  show (decide (a.id < b.id) && rt.upB (b::r))=true
  rw [Qbo h2,decide_eq_true (h1 b (by simp))]
  rfl
theorem Va {n:Nand} {X:XL} {V:Vo} {id:Int} {b:Bl} (h:Opd n X V) (hi:1≤id∧id≤65535) (h8:(Qw X id b).length≤8) (hg:V.gen < 1099511627775) (hup:(Qw X id b).Pairwise fun a b=>a.1.id < b.1.id):rt.Ox (V.gen+1) ((Qw X id b).map Q6)=true:=by
 have hg0:=h.gen
 have h1:rt.upB ((Qw X id b).map Q6)=true:=Qbo (List.pairwise_map.2 (hup.imp fun h=>h))
 have h2:((Qw X id b).map Q6).all rt.spB=true:=List.all_eq_true.2 fun s hs=>by
  obtain ⟨x,hx,rfl⟩:=List.mem_map.1 hs
  exact (Fw h hi x hx).1.1
 have h3:((Qw X id b).map Q6).length≤8:=by rw [List.length_map];exact h8
 have e0:decide (0≤V.gen+1)=true:=decide_eq_true (by omega)
 have e1:decide (V.gen+1≤1099511627775)=true:=decide_eq_true (by omega)
 have e2:decide (((Qw X id b).map Q6).length≤8)=true:=decide_eq_true h3
 show (decide (0≤V.gen+1) && decide (V.gen+1≤1099511627775) && decide (((Qw X id b).map Q6).length≤8) && ((Qw X id b).map Q6).all rt.spB && rt.upB ((Qw X id b).map Q6))=true
 rw [e0,e1,e2,h2,h1]
 rfl
theorem Fz (g:Int) (l:List rt.Space) (h:l.length≤8):Zj {Yk g l with seq:=0}=true:=by
 have:=rt.Mc g l
 show Zj ⟨4,0,0,0,rt.Jd g l⟩=true
 simp only [Zj,inB,Bool.and_eq_true,decide_eq_true_eq]
 omega
theorem Qav {f:Nat} {id:Int} {T T':Tree} {s s':Sto} (ho:Old T) (h:Wrt f id T s T' s'):T'=T∧s'=s:=by
 cases T with
 |no=>exact h
 |top hh m=>
  obtain ⟨n',rfl,hw⟩:=h
  obtain ⟨rfl,e⟩:=Qk0 (Qow ho) hw
  exact ⟨rfl,e⟩
theorem Ak {f:Nat}:∀{X:XL} {s s':Sto} {Y:XL},(∀x∈X,Old x.1.tr)→U6 f X s Y s'→Y=X∧s'=s
 |[],_,_,_,_,h=>h
 |x::X,s,s',Y,ho,⟨T,s1,Y',h1,h2,h3⟩=>by
  obtain ⟨rfl,rfl⟩:=Qav (ho x (by simp)) h2
  obtain ⟨rfl,rfl⟩:=Ak (fun y hy=>ho y (by simp [hy])) h3
  exact ⟨h1,rfl⟩
theorem Qxi {f:Nat} {id:Int} {T T':Tree} {s s':Sto} (ho:Old T) (hi:1≤id∧id≤65535) (ha:∀p:Page,Zj {p with seq:=0}=true→∃u a,Ja f s p=some (u,a,0)):¬Bt f id T s T' s':=by
 intro h
 cases T with
 |no=>exact h
 |top hh m=>
  obtain ⟨n',j,s1,h2,m2,a,er,_,hw,hp,he,hf⟩:=h
  obtain ⟨_,rfl⟩:=Qk0 (Qow ho) hw
  obtain ⟨u,b,hu⟩:=ha _ (F4 (id:=id) hp (by omega) hi.2)
  rw [hu] at hf
  injection hf with hf
  injection hf with _ hf
  injection hf with _ hf
  exact he hf.symm
theorem Qu2 {f:Nat} {id:Int} {T:Tree} {s:Sto} (ho:Old T):Qxx f id T s:=by
 cases T with
 |no=>exact trivial
 |top hh m=>
  obtain ⟨h1,h2,h3,h4,h5⟩:=ho
  refine (show Le f id (nfs m) (frN m) s∧(nfs m).Nodup∧(∀a∈nfs m,0≤a∧a < 2048)∧Zc m≤16777216 from ⟨?_,h3,h4,h5⟩)
  intro l s' h m' _ _ hl
  rw [h2] at hl
  omega
theorem Qd6 {xs:Nat→ByteArray} {k:Nat} (hk:k≤60) {X:XL} {V:Vo} (h:Opd (Qh xs k) X V):∃vv,V.s=Gx xs k vv V.s.seq:=by
 obtain ⟨vv,hv⟩:=h.st
 obtain ⟨q,hq⟩:=Qun xs k hk
 rw [hq] at hv
 rw [hv]
 exact ⟨vv,rfl⟩
def U9 (V:Vo) (X:XL):ByteArray:=Qp {Yk (V.gen+1) (X.map Q6) with seq:=V.s.seq}
def Dj (V:Vo) (X:XL):Vo:=(V.made X).kept X
theorem F5 {xs:Nat→ByteArray} {k:Nat} (hk:k≤60) {X X':XL} {V:Vo} (h:Opd (Qh xs k) X V):∃vv,(Dj V X').s=Gx xs k vv V.s.seq:=by
 obtain ⟨vv,hv⟩:=Qd6 hk h
 have e:(Dj V X').s=V.s.need (Yu X' (V.made X')):=rfl
 rw [e]
 unfold Sto.need
 rw [hv]
 exact ⟨_,rfl⟩
theorem Qik {xs:Nat→ByteArray} {k:Nat} (hk:k≤60) {X:XL} {V:Vo} {id:Int} {b:Bl} (h:Opd (Qh xs k) X V) (hi:1≤id∧id≤65535) (hd:∀x∈X,x.1.id≠id) (h8:X.length < 8) (hg:V.gen < 1099511627775) (hq:V.s.seq≤281474976710556) (hup:(Qw X id b).Pairwise fun a b=>a.1.id < b.1.id):Qar 3 (Qw X id b) (Dj V (Qw X id b)):=by
 have hn:(Qh xs k).blocks * (Qh xs k).per≤512:=by show 16 * 16≤512;decide
 have hold:=Pp (b:=b) hn h hi
 obtain ⟨l1,l2,l3⟩:=Eb (b:=b) hn h hi hd h8
 obtain ⟨vv,hv⟩:=F5 (X':=Qw X id b) hk h
 refine ⟨fun j x A s hx _=>Qu2 (hold x (List.mem_of_getElem? hx)),fun Y s hw=>?_⟩
 obtain ⟨rfl,rfl⟩:=Ak hold hw
 refine ⟨show rt.Ox (V.gen+1) ((Qw X id b).map Q6)=true from Va h hi (by omega) hg hup,⟨l2,l3⟩,?_,?_,?_⟩
 ·rw [hv]
  show ((k:Nat):Int)+3≤1000000000000000000
  omega
 ·rw [hv]
  show V.s.seq≤_
  omega
 ·rw [hv]
  exact ⟨_,He xs k vv V.s.seq _ hk (Fz _ _ (by rw [List.length_map];omega))⟩
theorem Nn {xs:Nat→ByteArray} {k:Nat} (hk:k≤60) {X:XL} {V:Vo} {id:Int} {b:Bl} (h:Opd (Qh xs k) X V) (hi:1≤id∧id≤65535) (hd:∀x∈X,x.1.id≠id) (h8:X.length < 8) {Y:XL} {s:Sto} {r:Sto×Int×Int} (hw:U6 3 (Qw X id b) (Dj V (Qw X id b)).s Y s) (hr:Ja 3 s (Yk (V.gen+1) (Y.map Q6))=some r):Y=Qw X id b∧r.1.n=Z6 xs k (U9 V (Qw X id b))∧r.2.2=0:=by
 have hn:(Qh xs k).blocks * (Qh xs k).per≤512:=by show 16 * 16≤512;decide
 obtain ⟨l1,_,_⟩:=Eb (b:=b) hn h hi hd h8
 obtain ⟨vv,hv⟩:=F5 (X':=Qw X id b) hk h
 obtain ⟨rfl,rfl⟩:=Ak (Pp (b:=b) hn h hi) hw
 rw [hv,He xs k vv V.s.seq _ hk (Fz _ _ (by rw [List.length_map];omega))] at hr
 injection hr with hr
 subst hr
 exact ⟨rfl,rfl,rfl⟩
theorem Qjb {xs:Nat→ByteArray} {k:Nat} (hk:k≤60) {X:XL} {V:Vo} {id:Int} {b:Bl} (h:Opd (Qh xs k) X V) (hi:1≤id∧id≤65535) {j:Nat} {x:Sp×Bl} {A:XL} {s1 s:Sto} {T:Tree} (hx:(Qw X id b)[j]? =some x) (hw:U6 3 ((Qw X id b).take j) (Dj V (Qw X id b)).s A s1):¬Bt 3 x.1.id x.1.tr s1 T s:=by
 have hn:(Qh xs k).blocks * (Qh xs k).per≤512:=by show 16 * 16≤512;decide
 have hold:=Pp (b:=b) hn h hi
 have hxm:=List.mem_of_getElem? hx
 obtain ⟨vv,hv⟩:=F5 (X':=Qw X id b) hk h
 obtain ⟨_,rfl⟩:=Ak (fun y hy=>hold y (List.mem_of_mem_take hy)) hw
 have hs:=rt.Jp (Fw h hi x hxm).1.1
 refine Qxi (hold x hxm) ⟨hs.1,hs.2.1⟩ (fun p hp=>?_)
 rw [hv]
 exact ⟨_,_,He xs k vv V.s.seq p hk hp⟩
theorem Td {V:Vo} {X:XL} (h8:X.length≤8) (h0:0≤V.s.seq) (hq:V.s.seq≤281474976710556):K7 (U9 V X)=({Yk (V.gen+1) (X.map Q6) with seq:=V.s.seq},0)∧(U9 V X).size≤128:=by
 have hm:Zj {Yk (V.gen+1) (X.map Q6) with seq:=V.s.seq}=true:=Uj (p:=Yk (V.gen+1) (X.map Q6)) (Fz _ _ (by rw [List.length_map];exact h8)) h0 (by omega)
 exact ⟨Uh _ hm,Mj hm⟩
theorem again {xs:Nat→ByteArray} {k:Nat} (hk:k≤60) {X:XL} {V:Vo} {id:Int} {b:Bl} (h:Opd (Qh xs k) X V) (hi:1≤id∧id≤65535) (hd:∀x∈X,x.1.id≠id) (h8:X.length < 8) (hg:V.gen < 1099511627775) (h0:0≤V.s.seq) (hq:V.s.seq≤281474976710556) (hup:(Qw X id b).Pairwise fun a b=>a.1.id < b.1.id) (hu:Zw ((Qw X id b).map (·.1))≤10)
  {l2:List Fnd} {X2:XL} {V2:Vo} (hp2:l2.Perm (rt.Xy (Qu (Z6 xs k (U9 V (Qw X id b))) 256))) (hw2:l2.Pairwise rt.newer) (ho:Qkt (Ka (Z6 xs k (U9 V (Qw X id b)))) l2 X2 V2):X2.map (·.1)=(Qw X id b).map (·.1)∧V2.gen=V.gen+1∧V2.cap=10:=by
 have hn:(Qh xs k).blocks * (Qh xs k).per≤512:=by show 16 * 16≤512;decide
 obtain ⟨l1,_,_⟩:=Eb (b:=b) hn h hi hd h8
 obtain ⟨hrd,_⟩:=Td (V:=V) (X:=Qw X id b) (by omega) h0 hq
 have hmr:=Va (b:=b) h hi (by omega) hg hup
 obtain ⟨t,ht⟩:∃t,U9 V (Qw X id b)=t:=⟨_,rfl⟩
 rw [ht] at hp2 ho hrd
 rw [Qyy xs hk hrd] at hp2
 obtain ⟨r1,r2,r3⟩:=Qjy xs (k:=k) (by omega) hrd
 obtain ⟨R,hR⟩:∃R:Fnd,(⟨((16 * Ze k:Nat):Int),{Yk (V.gen+1) ((Qw X id b).map Q6) with seq:=V.s.seq}⟩:Fnd)=R:=⟨_,rfl⟩
 rw [hR] at hp2
 have hbody:R.p.body=rt.Jd (V.gen+1) ((Qw X id b).map Q6):=by rw [←hR];rfl
 have hdec:rt.Xa R.p.body=some (V.gen+1,(Qw X id b).map Q6):=by rw [hbody];exact rt.Wl hmr
 have hisr:rt.Z4 R=true:=by
  unfold rt.Z4
  rw [hdec,←hR]
  rfl
 have hp2':l2.Perm (rt.Xy (Qu (Qh xs k) 256)++[R]):=by
  unfold rt.Xy at hp2 ⊢
  rw [List.filter_append,List.filter_cons_of_pos hisr,List.filter_nil] at hp2
  exact hp2
 have hsame:Qqj (Qh xs k) (Z6 xs k t):=by
  refine ⟨fun i a h1=>?_,fun i s a h1=>?_⟩
  ·by_cases e:a=((16 * Ze k:Nat):Int)
   ·have h3:=r3 (16 * Ze k) (by unfold Ze;omega)
    subst e
    unfold Xv
    rw [r2,if_neg (fun hh=>by have:(0:Int)=i:=hh.2;omega),if_neg (fun hh=>h3 hh.1)]
   ·unfold Xv
    rw [r1 a e]
  ·by_cases e:a=((16 * Ze k:Nat):Int)
   ·have h3:=r3 (16 * Ze k) (by unfold Ze;omega)
    subst e
    have e1:Zk (Qh xs k) i s ((16 * Ze k:Nat):Int)=false:=by
     unfold Zk
     rw [decide_eq_false h3]
     rfl
    have e2:Zk (Z6 xs k t) i s ((16 * Ze k:Nat):Int)=false:=by
     unfold Zk
     rw [r2]
     rfl
    rw [e1,e2]
   ·unfold Zk
    rw [r1 a e]
 have hld:Zo (Z6 xs k t) 10 R=some (V.gen+1,(Qw X id b).map (·.1)):=by
  unfold Zo
  rw [hdec]
  show (Ke (Z6 xs k t) 10 [] ((Qw X id b).map Q6)).map _=_
  rw [Qdy,Nr (fun s hs=>?_) (by rw [List.nil_append];exact hu)]
  ·rfl
  ·obtain ⟨x,hx,rfl⟩:=List.mem_map.1 hs
   obtain ⟨⟨m1,m2⟩,m3⟩:=Fw h hi x hx
   refine ⟨?_,m3⟩
   rw [Qjk hsame (rt.Jp m1).1]
   exact m2
 have hgR:rt.Ga R=V.gen+1:=by unfold rt.Ga;rw [hdec]
 have hc:Jo (Z6 xs k t).blocks (Z6 xs k t).per=10:=Qaz
 unfold Qkt at ho
 have hnn:(Ka (Z6 xs k t)).n=Z6 xs k t:=rfl
 rw [hnn,hc] at ho
 obtain ⟨l0,p1,p2,p3⟩:=h.hop
 rcases ho with ⟨pre,post,f,g,L,P,e1,e2,e3,e4,e5,e6⟩|⟨e1,e2,e3⟩
 ·have hf:=Qyr hsame p1 hp2' p2 hw2 p3 hgR (by rw [hld];simp) e1 e2 e3
  subst hf
  rw [hld] at e3
  injection e3 with e3
  injection e3 with e7 e8
  subst e6
  refine ⟨by rw [e4,←e8],e7.symm,hc⟩
 ·have:=e1 R (hp2'.mem_iff.2 (by simp))
  rw [hld] at this
  cases this
end vo
namespace vo
open Go.RowKit Go.Maps er st tr nd pg ge
set_option maxRecDepth 100000
set_option maxHeartbeats 16000000
theorem Qzu (w:World):Calls Tryz.prog 38 #[] w fun e w'=>e= .returned (.agg #[.int .i64 16,.int .i64 16])∧Below w.heap.size w w':=by
 go_enter Tryz.func38,Tryz.ntmps38
 go_wp2_with fail
 refine bodyPost_ret (v:= .agg #[.int .i64 16,.int .i64 16]) (by simp [results,Tryz.results38,go_sem]) rfl ⟨rfl,(Below.refl _ _).alloc (Nat.le_refl _) _⟩
abbrev z16:List Int:=List.replicate 16 0
theorem Tu:Qu (nV []) ((nV []).blocks * (nV []).per)=[]:=by kernel_rfl
theorem Pb (a:Int):((nV []).read a).2.size≤70368744177664:=by
 unfold Nand.read
 rw [if_neg (show ¬(nV []).down=true from fun e=>by cases e)]
 split
 ·exact Nat.zero_le _
 ·split
  ·exact Nat.zero_le _
  ·rename_i h t ht
   have hm:=List.mem_of_getElem? ht
   have:∀i,((nV []).blk i).pages=[]:=by
    intro i
    unfold Nand.blk
    by_cases hi:i < 16
    ·have:=Yx (f:=fun i=>((nV []).b.getD i ⟨[],0,false⟩).pages) (g:=fun _=>([]:List ByteArray)) (n:=16) (by kernel_rfl) i hi
     exact this
    ·rw [List.getD,List.getElem?_eq_none (by show 16≤i;omega)]
     rfl
   rw [this] at hm
   cases hm
theorem Qe9 (a:Int):(Qx (nV []) a).1.body.size≤1000000:=by
 unfold Qx
 split
 ·rename_i h
  exfalso
  unfold Nand.read at h
  rw [if_neg (show ¬(nV []).down=true from fun e=>by cases e)] at h
  split at h
  ·cases h
  ·split at h
   ·cases h
   ·rename_i t ht
    have hm:=List.mem_of_getElem? ht
    have:∀i,((nV []).blk i).pages=[]:=by
     intro i
     unfold Nand.blk
     by_cases hi:i < 16
     ·have:=Yx (f:=fun i=>((nV []).b.getD i ⟨[],0,false⟩).pages) (g:=fun _=>([]:List ByteArray)) (n:=16) (by kernel_rfl) i hi
      exact this
     ·rw [List.getD,List.getElem?_eq_none (by show 16≤i;omega)]
      rfl
    rw [this] at hm
    cases hm
 ·exact Nat.zero_le _
def Qbn (w:World) (e:Ending) (w':World):Prop:=∃v c,e= .returned (.tuple #[.pointer (some ⟨c.p,0,none⟩),.pointer (some ⟨v,0,none⟩)])∧VoIn w' v c [] (Br (sE z16))∧Below w.heap.size w w'∧∀k,vF v c [] k→w.heap.size≤k
theorem Nw (w:World) (hl:LaidT w):Calls Tryz.prog 10 #[] w (Qbn w):=by
 have HNW:Hid (∀W,Below w.heap.size w W→Calls Tryz.prog 51 #[.agg #[.int .i64 16,.int .i64 16]] W fun e w1=>∃p,e= .returned (.tuple #[.pointer (some ⟨p,0,none⟩),.nilIface])∧Calls Tryz.prog 14 #[.pointer (some ⟨p,0,none⟩)] w1 fun e w2=>∃(v:Nat) (c:Pt),c.p=p∧e= .returned (.tuple #[.pointer (some ⟨v,0,none⟩),.nilIface])∧Qbn w (.returned (.tuple #[.pointer (some ⟨c.p,0,none⟩),.pointer (some ⟨v,0,none⟩)])) w2):=by
  intro W hbW
  refine (Qc7 16 16 (by omega) (by omega) (by omega) (by omega) W).mono ?_
  rintro e w1 ⟨F,p,rfl,hn,hb',hF'⟩
  have hb:=hbW.trans (hb'.mono hbW.size)
  have hF:∀k,F k→w.heap.size≤k:=fun k hk=>Nat.le_trans hbW.size (hF' k hk)
  rw [Qis] at hn
  have hl1:LaidT w1:=(Keep.below (F:=fun _=>False) hb).cell hl (fun h=>h)
  have hw0:=hl.lt
  refine ⟨p,rfl,(D7 w1 F p (nV []) hn rfl hl1 (fun h=>by have:=hF 0 h;omega) ⟨by decide,by decide⟩ ⟨by decide,by decide⟩ Pb Qe9 (by rw [Tu];exact Nat.zero_le _) (by rw [Tu];intro f hf;cases hf) (by rw [Tu];exact rt.Tz (Nat.zero_le _)) (by rw [Tu];intro f hf;cases hf)).mono ?_⟩
  rintro e w2 ⟨v,c,X,V,l,rfl,hp,hv,hl2,_,hop,hm⟩
  rw [Tu] at hl2
  have hl0:l=[]:=hl2.eq_nil
  subst hl0
  have hXV:X=[]∧V=Br (sE z16):=by
   rcases hop with ⟨pre,post,f,g,L,P,h,_⟩|⟨_,h1,h2⟩
   ·exact absurd h (by simp)
   ·rw [Qd5] at h2
    exact ⟨h1,h2⟩
  obtain ⟨rfl,rfl⟩:=hXV
  obtain ⟨t1,t2⟩:=hm.toBelow hb.size hF
  exact ⟨v,c,hp,rfl,v,c,rfl,hv,hb.trans t1,t2⟩
 clear hl
 have HPL:=Ql4 (Qzu w)
 go_enter Tryz.func10,Tryz.ntmps10
 go_wp2_with fail
 with_reducible refine HPL.out.mono ?_
 rintro e w0 ⟨rfl,hb0⟩
 have HN0:=Ql4 (HNW.out w0 hb0)
 clear hb0
 go_wp2_with fail
 refine HN0.out.mono ?_
 rintro e w1 ⟨p,rfl,ho⟩
 have HO:=Ql4 ho
 clear ho
 go_wp2_with fail
 refine HO.out.mono ?_
 rintro e w2 ⟨v,c,rfl,rfl,hf⟩
 have HF:=Ql4 hf
 clear hf
 go_wp2_with fail
 refine bodyPost_ret (v:= .tuple #[.pointer (some ⟨c.p,0,none⟩),.pointer (some ⟨v,0,none⟩)]) (by simp [results,Tryz.results10,go_sem]) rfl HF.out
end vo
namespace vo
open Go.RowKit Go.Maps er st tr nd pg ge
set_option maxRecDepth 100000
set_option maxHeartbeats 16000000
def Own (B:Nat) (w:World) (F:Nat→Prop) (w':World):Prop:=Below B w w'∧∀k,F k→B≤k
theorem G8 {B:Nat} {w a b:World} {F G:Nat→Prop} (h:Own B w F a) (hB:B≤w.heap.size) (hm:Mv F a G b):Own B w G b:=by
 obtain ⟨h1,h2⟩:=h
 have hs:=h1.size
 obtain ⟨t1,t2⟩:=hm.toBelow (B:=B) (by omega) h2
 exact ⟨h1.trans t1,t2⟩
def After1 (B:Nat) (w:World) (v:Nat) (c:Pt) (w':World):Prop:=∃(b:Bl) (vv:List Int),VoIn w' v c [((⟨1,10,0,.no⟩:Sp),b)] {s:=sE vv,cap:=10,l:=[⟨1,10,0,.no⟩],gen:=0,root:= -1,last:=[],sure:=false}∧Own B w (vF v c [((⟨1,10,0,.no⟩:Sp),b)]) w'
theorem step1 (w W:World) (v:Nat) (c:Pt) (h:VoIn W v c [] (Br (sE z16))) (ho:Own w.heap.size w (vF v c []) W):Calls Tryz.prog 22 #[.pointer (some ⟨v,0,none⟩),.int .i64 1,.int .i64 10] W fun e w'=>e= .returned .nilIface∧After1 w.heap.size w v c w':=by
 refine (Ch W v c [] _ 1 10 h ⟨⟨by simp,fun x hx=>by cases hx⟩,Nat.zero_le _⟩ ⟨by decide,by decide⟩ (fun x hx=>by cases hx) rfl ⟨by decide,by decide⟩ (by simp)).mono ?_
 rintro e w' ⟨rfl,ab,p,hv,hk,ha,hp⟩
 obtain ⟨h1,h2⟩:=ho
 have hs:=h1.size
 obtain t1:=hk.toBelow hs h2
 refine ⟨rfl,⟨ab,p,[p]⟩,_,hv,h1.trans t1,fun k hk=>?_⟩
 have hk':vF v c (Xx [] ((⟨1,10,0,.no⟩:Sp),(⟨ab,p,[p]⟩:Bl))) k:=hk
 rcases hk' with hk'|hk'
 ·exact h2 k (.inl hk')
 ·have:=(Ri (v:=v) (c:=c) (X:=[]) (s:=(⟨1,10,0,.no⟩:Sp)) (ab:=ab) (p:=p) (fun z hz=>by cases hz)).mem_iff.1 hk'
  simp only [List.mem_cons] at this
  rcases this with rfl|rfl|hk'
  ·omega
  ·omega
  ·exact h2 k (.inr hk')
def T1:Tree:= .top 0 (nd1 (-1))
def Qkw (B:Nat) (w:World) (v:Nat) (c:Pt) (w':World):Prop:=∃(N:Nat→Prop) (b:Bl) (vv:List Int),VoIn w' v {c with N:=N} [((⟨1,10,1,T1⟩:Sp),b)] {s:=sV [t0] vv,cap:=10,l:=[⟨1,10,1,T1⟩],gen:=0,root:= -1,last:=[],sure:=false}∧Own B w (vF v {c with N:=N} [((⟨1,10,1,T1⟩:Sp),b)]) w'
theorem Qfu (b:Bl) (F:List Nat) (d:Int) (hd:d=1):Dv [((⟨1,10,0,.no⟩:Sp),b)] ((⟨1,10,0,.no⟩:Sp),b) 3 d (fun _=>0) 1 F=[((⟨1,10,1,T1⟩:Sp),({b with F:=F}:Bl))]:=by
 subst hd
 show [((⟨1,10,0+1,Tree.no.over ex1⟩:Sp),({b with F:=F}:Bl))]=_
 rw [Qos]
 rfl
theorem step2 (w W:World) (v:Nat) (c:Pt) (h:After1 w.heap.size w v c W):Calls Tryz.prog 28 #[.pointer (some ⟨v,0,none⟩),.int .i64 1,.int .i64 3,.string xt] W fun e w'=>e= .returned .nilIface∧Qkw w.heap.size w v c w':=by
 obtain ⟨b,vv,hv,ho⟩:=h
 have hd:Kt (Tree.no) 3 ((1:Nat):Int)=1:=Qch
 refine (Qqc W v c _ _ ((⟨1,10,0,.no⟩:Sp),b) 3 1 xt 3 (fun j=>if j=0 then sE vv else sV [t0] vv) (fun _=>0) (fun _=>0) 1 hv (by simp) (by decide) (Nat.le_refl 1) (by decide) (by kernel_rfl) (by show (3:Int)+((1:Nat):Int)≤10;decide) (Nat.le_refl 1) rfl (fun j _ hj=>?_) (fun j _=>rfl) (fun h=>by omega) (fun j _=>⟨by decide,by decide⟩) (fun j hj=>?_) (fun m Wm F _ hm hT _ _=>?_) (fun F=>?_) (Nat.zero_le _)).mono ?_
 ·obtain rfl:j=0:=by omega
  refine ⟨?_,by show (0:Int)+3≤_;decide,by show (0:Int)≤_;decide⟩
  show Ja 3 (sE vv) (pgW 1 3 xt 0)=some (sV [t0] vv,0,0)
  rw [pg0]
  exact app0 p0 vv Qcg
 ·rcases (show j=0∨j=1 by omega) with rfl|rfl
  ·exact ⟨trivial,Df⟩
  ·show (Tree.no.over ex1).Ok∧Chk (Tree.no.over ex1).flat
   rw [Qos]
   exact ⟨ok1 _,Qls⟩
 ·obtain rfl:m=0:=by omega
  refine (Qgf Wm F b.p ex1 hT (by kernel_rfl) (by kernel_rfl)).mono ?_
  rintro e w' ⟨rfl,F',h1,h2⟩
  refine ⟨rfl,F',?_,h2⟩
  show TrAt w' F' b.p (Tree.no.over ex1)
  rw [Qos]
  exact h1
 ·rw [Qfu b F _ hd]
  exact smX _ _ (-1) rfl
 ·rintro e w' (⟨hf,_⟩|⟨_,rfl,N',F,q1,q2⟩|⟨hf,_⟩)
  ·exfalso
   have hf':(10:Int) - tot (Zu (Q5 [((⟨1,10,0,.no⟩:Sp),b)])) < Kt (Tree.no) 3 ((1:Nat):Int):=hf
   rw [hd] at hf'
   have:tot (Zu (Q5 [((⟨1,10,0,.no⟩:Sp),b)]))=0:=rfl
   omega
  ·rw [Qfu b F _ hd] at q1 q2
   have hs:=ho.1.size
   exact ⟨rfl,N',{b with F:=F},_,q1,G8 ho (Nat.le_refl _) q2⟩
  ·omega
def Qas (B:Nat) (w:World) (p:Nat) (w':World):Prop:=∃(N:Nat→Prop),NandAt w' N p nE∧LaidT w'∧¬N 0∧Own B w N w'
theorem Qfe (w W:World) (v:Nat) (c:Pt) (hw:0 < w.heap.size) (h:Qkw w.heap.size w v c W):Calls Tryz.prog 23 #[.pointer (some ⟨v,0,none⟩)] W fun e w'=>e= .returned .nilIface∧Qas w.heap.size w c.p w':=by
 obtain ⟨N,b,vv,hv,ho⟩:=h
 have hX:∀(j:Nat) (x:Sp×Bl),[((⟨1,10,1,T1⟩:Sp),b)][j]? =some x→j=0∧x=((⟨1,10,1,T1⟩:Sp),b):=by
  intro j x hx
  cases j with
  |zero=>injection hx with hx;exact ⟨rfl,hx.symm⟩
  |succ j=>cases hx
 have hY:∀(Y:XL) (s:Sto),U6 3 [((⟨1,10,1,T1⟩:Sp),b)] (sV [t0] vv) Y s→Y=[((⟨1,10,1,.top 0 (nd1 1)⟩:Sp),b)]∧s=sV [t0,t1] vv:=by
  rintro Y s ⟨T,s1,Y',rfl,hw1,rfl,rfl⟩
  obtain ⟨rfl,rfl⟩:=Qlo hw1
  exact ⟨rfl,rfl⟩
 refine (E8 W v {c with N:=N} _ _ 3 hv (show (0:Int)≤0 by decide) (show (0:Int) < 1099511627775 by decide) (fun _=>⟨fun j x A s hx hA=>?_,fun Y s hYs=>?_⟩) (Nat.zero_le _) (fun j x A s1 s T hx hA hno=>?_)).mono ?_
 ·obtain ⟨rfl,rfl⟩:=hX j x hx
  obtain ⟨_,rfl⟩:=hA
  exact Qlt vv
 ·obtain ⟨rfl,rfl⟩:=hY Y s hYs
  refine ⟨Qbb,⟨smX _ _ 1 rfl,?_⟩,by show (2:Int)+3≤_;decide,by show (2:Int)≤_;decide,_,Qbz t0 t1 p2 vv Qiz⟩
  show (Yl (.top 0 (nd1 1))++[]).length≤100000
  rw [List.append_nil]
  exact (smE 1).2.2
 ·exfalso
  obtain ⟨rfl,rfl⟩:=hX j x hx
  obtain ⟨_,rfl⟩:=hA
  exact Qj7 hno
 ·rintro e w' (⟨⟨h,_⟩,_⟩|⟨Y,s,r,N',lv,L,rfl,q1,q2,q3,q4,q5,q6⟩|⟨_,_,_,Y,s,N',_,_,_,_,q⟩)
  ·cases h
  ·obtain ⟨rfl,rfl⟩:=hY Y s q1
   have hr:Ja 3 (sV [t0,t1] vv) p2=some r:=q2
   rw [Qbz t0 t1 p2 vv Qiz] at hr
   injection hr with hr
   subst hr
   have hz:¬stF {({c with N:=N}:Pt) with N:=N',lv:=lv} 0:=q5.zero
   obtain ⟨o1,o2⟩:=ho
   have hs:=o1.size
   obtain ⟨u1,u2⟩:=q6.toBelow (B:=w.heap.size) hs o2
   exact ⟨rfl,N',q5.sto.arr,q5.laid,fun h=>hz (.inr (.inr (.inr h))),o1.trans u1,fun k hk=>u2 k (.inl (.inr (.inr (.inr hk))))⟩
  ·exfalso
   rcases q with ⟨j,x,A,s1,T,z1,z2,z3,_⟩|⟨s1,a,er,z1,z2,z3⟩
   ·obtain ⟨rfl,rfl⟩:=hX j x z1
    obtain ⟨_,rfl⟩:=z2
    exact Qj7 z3
   ·obtain ⟨rfl,rfl⟩:=hY Y s1 z1
    have hr:Ja 3 (sV [t0,t1] vv) p2=some (s,a,er):=z2
    rw [Qbz t0 t1 p2 vv Qiz] at hr
    injection hr with hr
    injection hr with _ hr
    injection hr with _ hr
    exact z3 hr.symm
def Qfz (B:Nat) (w:World) (v:Nat) (c:Pt) (w':World):Prop:=∃(b:Bl) (V:Vo),VoIn w' v c [(spE,b)] V∧V.s.n=nE∧V.gen=1∧Below B w w'
theorem Qfd (w W:World) (p:Nat) (hw:0 < w.heap.size) (h:Qas w.heap.size w p W):Calls Tryz.prog 14 #[.pointer (some ⟨p,0,none⟩)] W fun e w'=>∃v c,e= .returned (.tuple #[.pointer (some ⟨v,0,none⟩),.nilIface])∧Qfz w.heap.size w v c w':=by
 obtain ⟨N,ha,hl,h0,ho⟩:=h
 have hcap:Jo ((16:Nat):Int) ((16:Nat):Int)=10:=by decide
 have hld:Zo nE (Jo nE.blocks nE.per) fE=some (1,[spE]):=by
  rw [show Jo nE.blocks nE.per=10 from hcap]
  exact Qf2
 refine (D7 W N p nE ha rfl hl h0 ⟨by decide,by decide⟩ ⟨by decide,by decide⟩ (Qjg t0 t1 t2 sz0 sz1 sz2) bdE (by rw [Qox];decide) (fun f hf=>?_) (by rw [Qiw];exact rt.Tz (Nat.le_refl 1)) (fun f hf g L hgl=>?_)).mono ?_
 ·rw [Qox] at hf
  simp only [List.mem_cons,List.not_mem_nil,or_false] at hf
  rcases hf with rfl|rfl|rfl
  ·exact of_decide_eq_true (by kernel_rfl)
  ·exact of_decide_eq_true (by kernel_rfl)
  ·exact of_decide_eq_true (by kernel_rfl)
 ·rw [Qiw] at hf
  simp only [List.mem_singleton] at hf
  subst hf
  rw [hld] at hgl
  injection hgl with hgl
  injection hgl with _ hgl
  subst hgl
  refine ⟨fun s hs=>?_,?_⟩
  ·simp only [List.mem_singleton] at hs
   subst hs
   exact smE 1
  ·show (Yl (.top 0 (nd1 1))++[]).length≤100000
   rw [List.append_nil]
   exact (smE 1).2.2
 ·rintro e w' ⟨v,c,X,V,l,rfl,_,hv,hl',_,hop,hm⟩
  rw [Qiw] at hl'
  have hl1:l=[fE]:=List.perm_singleton.1 hl'
  subst hl1
  have hs:=ho.1.size
  have hb:=(G8 ho (Nat.le_refl _) hm).1
  rcases hop with ⟨pre,post,f,g,L,P,e1,_,e2,e3,_,rfl⟩|⟨e1,_⟩
  ·cases pre with
   |cons a pre=>simp at e1
   |nil=>
    simp only [List.nil_append,List.cons.injEq] at e1
    obtain ⟨rfl,_⟩:=e1
    have e2':Zo nE (Jo nE.blocks nE.per) fE=some (g,L):=e2
    rw [hld] at e2'
    injection e2' with e2'
    injection e2' with e4 e5
    subst e4 e5
    cases X with
    |nil=>cases e3
    |cons x X=>
     simp only [List.map_cons,List.cons.injEq,List.map_eq_nil_iff] at e3
     obtain ⟨e3,rfl⟩:=e3
     obtain ⟨x1,b⟩:=x
     simp only at e3
     subst e3
     exact ⟨v,c,rfl,b,_,hv,rfl,rfl,hb⟩
  ·have:=e1 fE (by simp)
   have e2':Zo nE (Jo nE.blocks nE.per) fE=none:=this
   rw [hld] at e2'
   cases e2'
theorem Qfa (W:World) (v:Nat) (c:Pt) (b:Bl) (V:Vo) (hv:VoIn W v c [(spE,b)] V) (hn:V.s.n=nE):Calls Tryz.prog 24 #[.pointer (some ⟨v,0,none⟩),.int .i64 1,.int .i64 2,.int .i64 2] W fun e w'=>e= .returned (.tuple #[.string (strOfNums (List.replicate 32 0)++xt),.nilIface])∧Below W.heap.size W w':=by
 have hk:∀k:Nat,k < 2→k=0∨k=1:=fun k hk=>by omega
 refine (Qgg W v c [(spE,b)] V (spE,b) 2 2 hv (by simp) (by decide) (by decide) (by decide) (show (2:Int)+((2:Nat):Int)≤10 by decide) (fun k hk' hf=>?_) (fun a=>by rw [hn];exact Qjg t0 t1 t2 sz0 sz1 sz2 a) (fun k hk'=>?_)).mono ?_
 ·rcases hk k hk' with rfl|rfl
  ·have:(Zp [ex1] 2).1=2:=hf
   rw [show (Zp [ex1] 2).1=0 by kernel_rfl] at this
   cases this
  ·show (Qx V.s.n (Zp [ex1] 3).2).2=0
   rw [show (Zp [ex1] 3).2=0 by kernel_rfl,hn,rs0]
 ·rcases hk k hk' with rfl|rfl
  ·show (Gu V.s (.top 0 (nd1 1)) 2).size=32
   rw [Qfh]
   kernel_rfl
  ·show (Gu V.s (.top 0 (nd1 1)) 3).size=32
   rw [Qff V.s hn]
   kernel_rfl
 ·rintro e w' ⟨rfl,hb⟩
  refine ⟨?_,hb⟩
  have:=Qb7 V.s hn
  have e1:(⟨(Y7 V.s (spE,b).1.tr 2 2).toArray⟩:ByteArray)=strOfNums (List.replicate 32 0)++xt:=this
  rw [e1]
end vo
end Go.Proofs.YtfialjmemcobjaaGreatDoor
