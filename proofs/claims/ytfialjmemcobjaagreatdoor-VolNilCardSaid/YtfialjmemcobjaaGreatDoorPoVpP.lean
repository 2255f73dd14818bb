/- A part of the proof. -/
import Derived.Test.YtfialjmemcobjaaGreatDoorPoRtD
import Derived.Test.YtfialjmemcobjaaGreatDoorPoVoU
import Derived.Test.YtfialjmemcobjaaGreatDoorPoVpH
namespace Go.Proofs.YtfialjmemcobjaaGreatDoor.vo
open Go.RowKit Go.Maps Go.Proofs.YtfialjmemcobjaaGreatDoor.er Go.Proofs.YtfialjmemcobjaaGreatDoor.st Go.Proofs.YtfialjmemcobjaaGreatDoor.tr Go.Proofs.YtfialjmemcobjaaGreatDoor.nd Go.Proofs.YtfialjmemcobjaaGreatDoor.pg
set_option linter.unusedVariables false
set_option linter.unusedSimpArgs false
set_option maxRecDepth 100000
theorem dl_putF {v:Nat} {c:Pt} {X:XL} {s:Sp} {ab p:Nat} {F:List Nat} (hn:∀z∈X,z.1.id≠s.id):(Dl v c (xput X (s,⟨ab,p,F⟩))).Perm ((ab::F)++Dl v c X):=by
 have h1:(blkF (xput X (s,⟨ab,p,F⟩))).Perm ((ab::F)++blkF X):=blkF_perm (xput_perm hn)
 refine (h1.append_left ([v,c.lb,c.mb,c.tb]++ownL c.lv)).trans ?_
 show (([v,c.lb,c.mb,c.tb]++ownL c.lv)++((ab::F)++blkF X)).Perm ((ab::F)++(([v,c.lb,c.mb,c.tb]++ownL c.lv)++blkF X))
 rw [←List.append_assoc,←List.append_assoc (ab::F)]
 exact List.perm_append_comm.append_right _
theorem VoIn.loaded {w w3:World} {v:Nat} {c:Pt} {X:XL} {V:Vo} {id size u:Int} {T:Tree} {ab p:Nat} {F:List Nat} (h:VoIn w v c X V) (hn:∀x∈X,x.1.id≠id) (hk:Keep (fun k=>k=c.mb∨k=c.tb) w w3) (hl:LedIn w3 c.lb c.mb V.cap (LLput (accL X) (⟨id,size,u⟩,ab))) (ht:MapAt w3 c.tb (mput (treeL X) id p)) (hp:TrAt w3 F p T) (hok:T.Ok) (hc:Chk T.flat) (hab:w.heap.size≤ab) (hF:∀k∈F,w.heap.size≤k) (hne:ab∉F):
  VoIn w3 v c (xput X (⟨id,size,u,T⟩,⟨ab,p,F⟩)) {V with l:=(xput X (⟨id,size,u,T⟩,⟨ab,p,F⟩)).map (·.1)}:=by
 have hnd:=h.nd
 have hS:∀k,stF c k→¬(k=c.mb∨k=c.tb):=fun k hs e=>by
  rcases e with rfl|rfl
  ·exact (h.far c.mb (by simp [Dl])).1 hs
  ·exact (h.far c.tb (by simp [Dl])).1 hs
 have hsub:∀k∈v::(ownL c.lv++blkF X),¬(k=c.mb∨k=c.tb):=fun k hk e=>by
  unfold Dl at hnd
  simp only [List.nodup_cons,List.mem_cons,List.mem_append,not_or] at hnd
  obtain ⟨⟨n1,n2,n3,n4,n5⟩,⟨n6,n7,n8,n9⟩,⟨n10,n11,n12⟩,⟨n13,n14⟩,n15⟩:=hnd
  simp only [List.mem_cons,List.mem_append] at hk
  rcases e with rfl|rfl
  ·rcases hk with e|hk|hk
   ·exact n2 e.symm
   ·exact n11 hk
   ·exact n12 hk
  ·rcases hk with e|hk|hk
   ·exact n3 e.symm
   ·exact n13 hk
   ·exact n14 hk
 have hperm:=dl_putF (v:=v) (c:=c) (s:=(⟨id,size,u,T⟩:Sp)) (ab:=ab) (p:=p) (F:=F) hn
 have hlt:=h.lt
 have h0:=h.laid.lt
 have hnew:∀k∈ab::F,w.heap.size≤k:=fun k hk=>by
  rcases List.mem_cons.1 hk with rfl|hk
  ·exact hab
  ·exact hF k hk
 refine ⟨h.obj.keep hk (hsub _ (by simp)),h.sto.keep hk hS,by rw [accL_put];exact hl,by rw [treeL_put];exact ht,fun x hx=>?_,own_keep h.lst hk (fun g hg=>hsub g ?_),rfl,?_,fun k hk=>?_,h.zero,hk.cell h.laid (fun e=>?_)⟩
 ·rcases xput_mem hx with rfl|hx
  ·exact ⟨hp,hok,hc⟩
  ·refine ⟨TrAt.keep (h.tre x hx).1 hk (fun k hf=>hsub k ?_),(h.tre x hx).2⟩
   simp only [List.mem_cons,List.mem_append]
   exact .inr (.inr (List.mem_flatMap.2 ⟨x,hx,by simp [hf]⟩))
 ·simp only [List.mem_cons,List.mem_append]
  exact .inr (.inl (ownL_mem.2 hg))
 ·rw [hperm.nodup_iff,List.nodup_append]
  refine ⟨List.nodup_cons.2 ⟨hne,tr_nodup hp⟩,h.nd,fun k hk m hm e=>?_⟩
  subst e
  have:=hlt k (.inr hm)
  have:=hnew k hk
  omega
 ·have:=hperm.mem_iff.1 hk
  rcases List.mem_append.1 this with hk|hk
  ·have:=hnew k hk
   exact ⟨fun hs=>by have:=hlt k (.inl hs);omega,by omega⟩
  ·exact h.far k hk
 ·rcases e with e|e
  ·exact (h.far c.mb (by simp [Dl])).2 e.symm
  ·exact (h.far c.tb (by simp [Dl])).2 e.symm
noncomputable def readH (n:Nand) (id top:Int) (h:Nat):Option Tree:=
 match readN (getB n id) top h top with
 |some m=>if chkB (flat m)=true then some (.top h m) else none
 |none=>none
noncomputable def readT (n:Nand) (x:rt.Space):Option Tree:=if x.high=0 then some .no else readH n x.id x.top (x.high - 1).toNat
noncomputable def ldSp (n:Nand) (x:rt.Space):Option Sp:=
 match readT n x with
 |some T=>if holdsB n x.id x.size T.flat=true then some ⟨x.id,x.size,sumN T.flat,T⟩ else none
 |none=>none
def usedL (l:List Sp):Int:=(l.map (·.used)).sum
noncomputable def loadL (n:Nand) (cap:Int):List Sp→List rt.Space→Option (List Sp)
 |a,[]=>some a
 |a,x::l=>match ldSp n x with
  |some p=>if p.used≤cap - usedL a then loadL n cap (a++[p]) l else none
  |none=>none
theorem readT_ok {n:Nand} {x:rt.Space} {T:Tree} (h:readT n x=some T):T.Ok∧Chk T.flat:=by
 unfold readT at h
 split at h
 ·injection h with h
  subst h
  exact ⟨trivial,chk_nil⟩
 ·unfold readH at h
  split at h
  ·rename_i m hm
   split at h
   ·rename_i hc
    injection h with h
    subst h
    rw [read_same] at hm
    exact ⟨readD_ok hm,chkB_chk _ hc⟩
   ·cases h
  ·cases h
theorem readT_any (w:World) (v:Nat) (c:Pt) (X:XL) (V:Vo) (x:rt.Space) (b1 b2:Nat) (h:VoIn w v c X V) (h1:Whole w b1 24 #[.pointer (some ⟨v,0,none⟩)]) (h2:Whole w b2 3 #[.int .i64 x.id]) (hx:rt.spB x=true) (ht:∀a,(V.s.n.read a).2.size≤70368744177664) (hs:∀a,(readS V.s.n a).1.body.size≤1000000):
  Calls Tryz.prog 132 #[.int .i64 x.top,.int .i64 x.high,.func (.func 198) #[] #[.pointer (some ⟨b1,0,none⟩),.pointer (some ⟨b2,0,none⟩)]] w fun e w'=>(∃T p F,readT V.s.n x=some T∧e= .returned (.tuple #[.pointer (some ⟨p,0,none⟩),.nilIface])∧TrAt w' F p T∧(∀k∈F,w.heap.size≤k)∧Below w.heap.size w w')∨(readT V.s.n x=none∧∃y,e= .returned (.tuple #[.pointer none,.iface 183 y])∧Below w.heap.size w w'):=by
 obtain ⟨q1,q2,q3,q4,q5,q6,q7,q8⟩:=rt.spB_yes hx
 unfold readT
 by_cases hh:x.high=0
 ·rw [if_pos hh,q7 hh,hh]
  refine (tread_no w _).mono ?_
  rintro e w' ⟨p,F,rfl,g1,g2,g3⟩
  exact .inl ⟨.no,p,F,rfl,rfl,g1,g2,g3⟩
 ·rw [if_neg hh]
  obtain ⟨t0,t1⟩:=q8 hh
  obtain ⟨m,hm⟩:∃m:Nat,x.high=(m:Int)+1:=⟨(x.high - 1).toNat,by omega⟩
  have hm2:(x.high - 1).toNat=m:=by omega
  rw [hm2,hm]
  refine (tread_gen (volG v c X V x.id b1 b2 ht hs) w m x.top ⟨h,h1,h2⟩ (by unfold tr.I64;omega) (by omega) (by omega)).mono ?_
  intro e w' hp
  unfold readH
  have hp':TrdPost (readN (getB V.s.n x.id) x.top m x.top) w e w':=hp
  unfold TrdPost at hp'
  cases hr:readN (getB V.s.n x.id) x.top m x.top with
  |none=>
   rw [hr] at hp'
   obtain ⟨y,rfl,_,g⟩:=hp'
   exact .inr ⟨rfl,y,rfl,g⟩
  |some nd=>
   rw [hr] at hp'
   simp only at hp' ⊢
   by_cases hc:chkB (flat nd)=true
   ·rw [if_pos hc] at hp' ⊢
    obtain ⟨p,F,rfl,g1,g2,g3⟩:=hp'
    exact .inl ⟨_,p,F,rfl,rfl,g1,g2,g3⟩
   ·rw [if_neg hc] at hp' ⊢
    obtain ⟨y,rfl,_,g⟩:=hp'
    exact .inr ⟨rfl,y,rfl,g⟩
theorem xput_last {X:XL} {y:Sp×Bl} (h:∀z∈X,z.1.id < y.1.id):xput X y=X++[y]:=by
 unfold xput
 rw [List.filter_eq_self.2 (fun z hz=>by simpa using h z hz),List.filter_eq_nil_iff.2 (fun z hz=>by have:=h z hz;simp;omega)]
end Go.Proofs.YtfialjmemcobjaaGreatDoor.vo
namespace Go.Proofs.YtfialjmemcobjaaGreatDoor.vo
open Go.RowKit Go.Maps Go.Proofs.YtfialjmemcobjaaGreatDoor.er Go.Proofs.YtfialjmemcobjaaGreatDoor.st Go.Proofs.YtfialjmemcobjaaGreatDoor.tr Go.Proofs.YtfialjmemcobjaaGreatDoor.nd Go.Proofs.YtfialjmemcobjaaGreatDoor.pg
set_option linter.unusedVariables false
set_option linter.unusedSimpArgs false
set_option maxRecDepth 100000
theorem decR_may {b:ByteArray} {g:Int} {l:List rt.Space} (h:rt.decR b=some (g,l)):rt.mayR g l=true:=by
 unfold rt.decR at h
 split at h
 ·cases h
 ·split at h
  ·cases h
  ·split at h
   ·cases h
   ·split at h
    ·rename_i hc
     rw [Bool.and_eq_true] at hc
     injection h with h
     injection h with h1 h2
     rw [←h1,←h2]
     exact hc.1
    ·cases h
theorem up_from {l:List rt.Space} (hu:rt.upB l=true) {j:Nat} {x:rt.Space} (hx:l[j]? =some x):∀y∈l.drop (j+1),x.id < y.id:=by
 intro y hy
 have h:=(rt.upB_iff l).1 hu
 have key:∀(k:Nat) (z:rt.Space),l[j+1+k]? =some z→x.id < z.id:=by
  intro k
  induction k with
  |zero=>intro z hz;exact h j x z hx hz
  |succ k ih=>
   intro z hz
   obtain ⟨u,hu'⟩:∃u,l[j+1+k]? =some u:=⟨_,List.getElem?_eq_getElem (by have:=(List.getElem?_eq_some_iff.1 hz).1;omega)⟩
   have h1:=ih u hu'
   have h2:=h (j+1+k) u z hu' hz
   omega
 obtain ⟨k,hk⟩:=List.mem_iff_getElem?.1 hy
 rw [List.getElem?_drop] at hk
 exact key k y hk
theorem map_fixG {α:Type} {g:α→α}:∀{A:List α},(∀y∈A,g y=y)→A.map g=A
 |[],_=>rfl
 |a::A,h=>by rw [List.map_cons,h a (by simp),map_fixG (fun y hy=>h y (by simp [hy]))]
theorem llput_last {L:LL} {y:Acc×Nat} (h:∀z∈L,z.1.id < y.1.id):LLput L y=L++[y]:=by
 unfold LLput
 rw [List.filter_eq_self.2 (fun z hz=>by simpa using h z hz),List.filter_eq_nil_iff.2 (fun z hz=>by have:=h z hz;simp;omega)]
theorem llset_put {L:LL} {id size n:Int} {ab:Nat} (hn:∀y∈L,y.1.id < id):LLset (LLput L (⟨id,size,0⟩,ab)) id (fun a=>{a with used:=a.used+n})=LLput L (⟨id,size,n⟩,ab):=by
 rw [llput_last (y:=(⟨id,size,0⟩,ab)) hn,llput_last (y:=(⟨id,size,n⟩,ab)) hn]
 unfold LLset
 rw [List.map_append,map_fixG (A:=L) (fun y hy=>if_neg (by have:=hn y hy;omega))]
 simp
theorem tot_put {L:LL} {id size:Int} {ab:Nat} (hn:∀y∈L,y.1.id < id):tot (accs (LLput L (⟨id,size,0⟩,ab)))=tot (accs L):=by
 rw [llput_last (y:=(⟨id,size,0⟩,ab)) hn]
 simp [tot,accs]
theorem tot_used (X:XL):tot (accs (accL X))=usedL (X.map (·.1)):=by
 unfold tot accs accL usedL
 rw [List.map_map,List.map_map,List.map_map]
 rfl
theorem find_no {L:LL} {id:Int} (h:∀y∈L,y.1.id≠id):mfind (key L) id=none:=by
 cases hf:mfind (key L) id with
 |none=>rfl
 |some p=>
  obtain ⟨y,hy,e,_⟩:=key_find hf
  exact absurd e (h y hy)
theorem accL_id {X:XL} {P:Int→Prop} (h:∀x∈X,P x.1.id):∀y∈accL X,P y.1.id:=fun y hy=>by
 obtain ⟨x,hx,rfl⟩:=List.mem_map.1 hy
 exact h x hx
theorem ld_open (W:World) (v:Nat) (c:Pt) (X:XL) (V:Vo) (x:rt.Space) (h:VoIn W v c X V) (hx:rt.spB x=true) (hn:∀z∈X,z.1.id < x.id) (h8:X.length < 8):
  Calls Tryz.prog 70 #[.pointer (some ⟨c.lb,0,none⟩),.int .i64 x.id,.int .i64 x.size] W fun e w'=>∃ab,e= .returned (.int .i64 0)∧W.heap.size≤ab∧LedIn w' c.lb c.mb V.cap (LLput (accL X) (⟨x.id,x.size,0⟩,ab))∧Keep (fun k=>k=c.mb) W w':=by
 obtain ⟨q1,q2,q3,q4,_⟩:=rt.spB_yes hx
 have hne:∀y∈accL X,y.1.id≠x.id:=accL_id (P:=fun i=>i≠x.id) (fun z hz=>by have:=hn z hz;omega)
 exact lopen_ok W _ _ _ _ x.id x.size h.led ⟨q1,q2⟩ hne (find_no hne) ⟨q3,q4⟩ (by simpa [accL] using h8)
theorem llput_in {L:LL} {y:Acc×Nat}:y∈LLput L y:=by unfold LLput;simp
theorem ld_charge (W:World) (c:Pt) (X:XL) (cap:Int) (x:rt.Space) (ab:Nat) (n:Int) (h:LedIn W c.lb c.mb cap (LLput (accL X) (⟨x.id,x.size,0⟩,ab))) (hn:∀z∈X,z.1.id < x.id) (h0:0≤n) (hle:n≤cap - usedL (X.map (·.1))):
  Calls Tryz.prog 106 #[.pointer (some ⟨c.lb,0,none⟩),.int .i64 x.id,.int .i64 n] W fun e w'=>e= .returned (.int .i64 0)∧LedIn w' c.lb c.mb cap (LLput (accL X) (⟨x.id,x.size,n⟩,ab))∧Keep (fun k=>k=ab) W w':=by
 have hn':∀y∈accL X,y.1.id < x.id:=accL_id (P:=fun i=>i < x.id) hn
 have q:=lcharge_ok W c.lb c.mb cap _ (⟨x.id,x.size,0⟩,ab) n h llput_in h0 (by rw [tot_put hn',tot_used];exact hle)
 refine q.mono ?_
 rintro e w' ⟨rfl,q1,q2⟩
 refine ⟨rfl,?_,q2⟩
 have e1:LLset (LLput (accL X) (⟨x.id,x.size,0⟩,ab)) x.id (fun a=>{a with used:=a.used+n})=LLput (accL X) (⟨x.id,x.size,n⟩,ab):=llset_put hn'
 rw [←e1]
 exact q1
theorem ld_full (W:World) (c:Pt) (X:XL) (cap:Int) (x:rt.Space) (ab:Nat) (n:Int) (h:LedIn W c.lb c.mb cap (LLput (accL X) (⟨x.id,x.size,0⟩,ab))) (hn:∀z∈X,z.1.id < x.id) (hlt:cap - usedL (X.map (·.1)) < n):
  Calls Tryz.prog 106 #[.pointer (some ⟨c.lb,0,none⟩),.int .i64 x.id,.int .i64 n] W fun e w'=>e= .returned (.int .i64 71)∧Below W.heap.size W w':=by
 have hn':∀y∈accL X,y.1.id < x.id:=accL_id (P:=fun i=>i < x.id) hn
 exact lcharge_full W c.lb c.mb cap _ (⟨x.id,x.size,0⟩,ab) n h llput_in (by rw [tot_put hn',tot_used];exact hlt)
end Go.Proofs.YtfialjmemcobjaaGreatDoor.vo
