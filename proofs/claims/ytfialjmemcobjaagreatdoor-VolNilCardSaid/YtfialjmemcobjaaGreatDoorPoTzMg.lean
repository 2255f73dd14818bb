/- A part of the proof. -/
import Derived.Test.YtfialjmemcobjaaGreatDoorPoTzH
import Derived.Test.YtfialjmemcobjaaGreatDoorPoTzMc
namespace Go.Proofs.YtfialjmemcobjaaGreatDoor.tr
open Go.RowKit Go.Proofs.YtfialjmemcobjaaGreatDoor.er
set_option linter.unusedVariables false
set_option linter.unusedSimpArgs false
def Rung (w:World) (h b:Nat):Prop:=∃(F:List Nat) (n:Nd h),NdAt w F (ptrV h b) n∧Kw n∧1≤n.size∧n.size≤100
theorem rung_step {w:World} {h b:Nat} (hr:Rung w (h+1) b):∃q c m b2,w.cell? ⟨b,1,none⟩=some (.slice (some ⟨q,0,none⟩) m c)∧0 < m∧m≤100∧w.cell? ⟨q,0,none⟩=some (ptrV h b2)∧Rung w h b2:=by
 obtain ⟨F,n,hn,hk,h1,h2⟩:=hr
 obtain ⟨b',q,c,ds,rfl,hv,hin,ek⟩:=inner_open hn
 obtain rfl:b=b':=by unfold ptrV at hv;simpa using hv
 have hlen:n.ks.length=ds.length:=by rw [ek,List.length_map]
 have hsz:n.size=n.ks.length:=rfl
 have h0:0 < ds.length:=by omega
 have hd:=List.getElem?_eq_getElem h0
 have hmem:=List.getElem_mem h0
 obtain ⟨kb,kF,f1,f2⟩:=(hin.2.2 _ hmem).form
 have hkw:Wf (ds[0]'h0).2.2:=hk.mem (by rw [ek];exact List.mem_map.2 ⟨_,hmem,rfl⟩)
 refine ⟨q,c,ds.length,kb,by have:=hin.1.cell 1;simpa using this,h0,by omega,?_,(ds[0]'h0).1,(ds[0]'h0).2.2,?_,hkw.2,by have:=hkw.1;omega,by have:=hkw.1;omega⟩
 ·have:=hin.2.1.cell (j:=0) (v:=(ds[0]'h0).2.1) (by rw [List.getElem?_map,hd];rfl)
  rw [f2] at this
  exact this
 ·have:=hin.2.2 _ hmem
  rw [f2] at this
  exact this
theorem high_le {T:Tree} (hok:T.Ok) (hc:Chk T.flat):T.high≤20:=by
 have h1:=tree_high hok
 have h2:=chk_len hc
 by_cases he:T.flat=[]
 ·have:=(h1.1 he).1;omega
 ·obtain ⟨_,_,h3,_⟩:=h1.2 he
  rcases h3 with h3|h3
  ·omega
  ·refine Decidable.byContradiction fun hn=>?_
   have:4 ^ 19≤4 ^ (T.high - 1):=Nat.pow_le_pow_right (by omega) (by omega)
   omega
set_option maxHeartbeats 4000000 in
set_option maxRecDepth 100000 in
theorem height_any (w:World) (F:List Nat) (p:Nat) (T:Tree) (ht:TrAt w F p T) (hok:T.Ok) (hc:Chk T.flat):
  Calls Tryz.prog 143 #[.pointer (some ⟨p,0,none⟩)] w fun x w'=>x= .returned (.int .i64 T.high)∧w'=w:=by
 have hH:=high_le hok hc
 cases T with
 |no=>
  have c0:=ht.2.cell 0
  simp at c0
  clear ht hok hc hH
  go_enter Tryz.func143,Tryz.ntmps143
  go_wp2_with fail
  go_ret
  exact ⟨rfl,rfl⟩
 |top h n=>
  obtain ⟨F',v,rfl,hp,hn,hpn⟩:=ht
  obtain ⟨q1,q2,q3,q4⟩:=hok.parts
  obtain ⟨kb,kF,f1,f2⟩:=hn.at_.form
  have c0:=hp.cell 0
  rw [f2] at c0
  simp at c0
  have hn2:=hn.at_
  rw [f2] at hn2
  have HR:=Lib.hid (show Rung w h kb from ⟨_,n,hn2,q1,q3,by omega⟩)
  have hH':h+1≤20:=hH
  have HT:Hid (Tree.high (.top h n)=h+1):=rfl
  rw [HT.out]
  have HST:Hid (∀h b,Rung w (h+1) b→∃q c m b2,w.cell? ⟨b,1,none⟩=some (.slice (some ⟨q,0,none⟩) m c)∧0 < m∧m≤100∧w.cell? ⟨q,0,none⟩=some (ptrV h b2)∧Rung w h b2):=fun _ _ h=>rung_step h
  have ta1:=ta_li
  have ta2:=ta_ii
  clear hn2 f1 f2 q1 q2 q3 q4 hn hp hpn hok hc hH HT
  obtain ⟨isI,hisI⟩:∃isI:Nat→Bool,isI=fun x=>decide (0 < x):=⟨_,rfl⟩
  obtain ⟨pI,hpI⟩:∃pI:Nat→Nat→Value,pI=fun x b=>if 0 < x then .pointer (some ⟨b,0,none⟩) else .pointer none:=⟨_,rfl⟩
  have TA:Hid (∀x b wq,(Instr.typeAssert (.iface (ndT x) (.pointer (some ⟨b,0,none⟩))) 226 297 true).run Tryz.prog wq= .ok (.tuple #[pI x b,.bool (isI x)]) wq):=by
   intro x b wq
   cases x with
   |zero=>subst hisI hpI;exact ta1 _ _
   |succ x=>subst hisI hpI;exact ta2 _ _
  have ta:=TA.out
  clear ta1 ta2
  have HISI:=Lib.hid hisI
  have HPI:=Lib.hid hpI
  clear hisI hpI
  go_enter Tryz.func143,Tryz.ntmps143
  go_wp2_with fail
  go_loopw [3,4,5] (fun s3 s4 s5 wr=>wr=w∧∃(x b:Nat),x≤h∧s3= .int .i64 ((h - x:Nat)+1:Int)∧s4=pI x b∧s5= .bool (isI x)∧Hid (Rung w x b)) (fun s3 _ _ _=>h+1 - (intOf s3).toNat)
  case atStart=>exact ⟨rfl,h,kb,Nat.le_refl _,by simp,rfl,rfl,HR⟩
  case round=>
   obtain ⟨rfl,x,b,hx,rfl,rfl,rfl,HRx⟩:=hrel
   cases x with
   |zero=>
    have e1:isI 0=false:=by rw [HISI.out];rfl
    rw [e1]
    go_wp2_with fail
    go_ret
    exact ⟨by simp,rfl⟩
   |succ x=>
    have e1:isI (x+1)=true:=by rw [HISI.out];simp
    have e2:pI (x+1) b= .pointer (some ⟨b,0,none⟩):=by rw [HPI.out];simp
    rw [e1,e2]
    obtain ⟨q,c,m,b2,z1,z2,z3,z4,z5⟩:=HST.out _ _ HRx.out
    have HR2:=Lib.hid z5
    have hm0:(0:Int) < (m:Int):=by omega
    have z4':wr.cell? ⟨q,0,none⟩=some (.iface (ndT x) (.pointer (some ⟨b2,0,none⟩))):=z4
    clear z4 z5
    go_wp2_with fail
    go_roundw
    case rel=>exact ⟨trivial,x,b2,by omega,by congr 1;omega,rfl,rfl,HR2⟩
    case measure=>simp [intOf];omega
end Go.Proofs.YtfialjmemcobjaaGreatDoor.tr
namespace Go.Proofs.YtfialjmemcobjaaGreatDoor.tr
open Go.RowKit Go.Proofs.YtfialjmemcobjaaGreatDoor.er
set_option linter.unusedVariables false
set_option linter.unusedSimpArgs false
end Go.Proofs.YtfialjmemcobjaaGreatDoor.tr
namespace Go.Proofs.YtfialjmemcobjaaGreatDoor.tr
open Go.RowKit Go.Proofs.YtfialjmemcobjaaGreatDoor.er
set_option linter.unusedVariables false
set_option linter.unusedSimpArgs false
end Go.Proofs.YtfialjmemcobjaaGreatDoor.tr
namespace Go.Proofs.YtfialjmemcobjaaGreatDoor.tr
open Go.RowKit Go.Proofs.YtfialjmemcobjaaGreatDoor.er
set_option linter.unusedVariables false
set_option linter.unusedSimpArgs false
set_option maxHeartbeats 4000000 in
set_option maxRecDepth 100000 in
theorem new_any (w:World):Calls Tryz.prog 71 #[] w fun x w'=>x= .returned (.pointer (some ⟨w.heap.size,0,none⟩))∧w'=w.alloc (.cells #[.nilIface] 228):=by
 go_enter Tryz.func71,Tryz.ntmps71
 go_wp2_with fail
 go_ret
 exact ⟨rfl,rfl⟩
end Go.Proofs.YtfialjmemcobjaaGreatDoor.tr
namespace Go.Proofs.YtfialjmemcobjaaGreatDoor.tr
open Go.RowKit Go.Proofs.YtfialjmemcobjaaGreatDoor.er
set_option linter.unusedVariables false
set_option linter.unusedSimpArgs false
set_option maxHeartbeats 4000000 in
set_option maxRecDepth 100000 in
theorem len64_0 (w:World):Calls Tryz.prog 238 #[.int .u64 0] w fun x w'=>x= .returned (.int .i64 0)∧w'=w:=by
 go_enter Tryz.func238,Tryz.ntmps238
 go_wp2_with fail
 go_ret
 exact ⟨by first|kernel_rfl|decide,rfl⟩
set_option maxHeartbeats 4000000 in
set_option maxRecDepth 100000 in
theorem len_0 (w:World):Calls Tryz.prog 167 #[.int .u64 0] w fun x w'=>x= .returned (.int .i64 0)∧w'=w:=by
 have H:=Lib.hid (len64_0 w)
 go_enter Tryz.func167,Tryz.ntmps167
 go_wp2_with fail
 with_reducible refine H.out.mono ?_
 rintro e w5 ⟨rfl,rfl⟩
 go_wp2_with fail
 go_ret
 exact ⟨rfl,rfl⟩
set_option maxHeartbeats 4000000 in
set_option maxRecDepth 100000 in
theorem ins_0 (w:World):Calls Tryz.prog 228 #[.slice none 0 0,.int .i64 0,.int .i64 0] w fun x w'=>x= .returned (.tuple #[])∧w'=w:=by
 go_enter Tryz.func228,Tryz.ntmps228
 go_wp2_with fail
 go_loopw [6,7] (fun s6 s7 wr=>wr=w∧s6= .int .i64 1) (fun _ _ _=>0)
 case atStart=>exact ⟨rfl,rfl⟩
 case round=>
  obtain ⟨rfl,rfl⟩:=hrel
  go_wp2_with fail
  go_end0
  exact ⟨rfl,rfl⟩
set_option maxHeartbeats 4000000 in
set_option maxRecDepth 100000 in
theorem pdq_0 (w:World):Calls Tryz.prog 166 #[.slice none 0 0,.int .i64 0,.int .i64 0,.int .i64 0] w fun x w'=>x= .returned (.tuple #[])∧w'=w:=by
 have H:=Lib.hid (ins_0 w)
 go_enter Tryz.func166,Tryz.ntmps166
 go_wp2_with fail
 go_loopw [1,2,3,8,9,10] (fun s1 s2 s3 s8 s9 s10 wr=>wr=w∧s1= .int .i64 0∧s2= .int .i64 0∧s3= .int .i64 0) (fun _ _ _ _ _ _ _=>0)
 case atStart=>exact ⟨rfl,rfl,rfl,rfl⟩
 case round=>
  obtain ⟨rfl,rfl,rfl,rfl⟩:=hrel
  go_wp2_with fail
  with_reducible refine H.out.mono ?_
  rintro e w5 ⟨rfl,rfl⟩
  go_wp2_with fail
  refine bodyPost_ret (v:= .tuple #[]) (by simp [results,Tryz.results166,go_sem]) rfl ⟨rfl,rfl⟩
set_option maxHeartbeats 4000000 in
set_option maxRecDepth 100000 in
theorem sort_0 (w:World):Calls Tryz.prog 87 #[.slice none 0 0] w fun x w'=>x= .returned (.tuple #[])∧w'=w:=by
 have H1:=Lib.hid (len_0 w)
 have H2:=Lib.hid (pdq_0 w)
 go_enter Tryz.func87,Tryz.ntmps87
 go_wp2_with fail
 with_reducible refine H1.out.mono ?_
 rintro e w5 ⟨rfl,rfl⟩
 go_wp2_with fail
 with_reducible refine H2.out.mono ?_
 rintro e w5 ⟨rfl,rfl⟩
 go_wp2_with fail
 go_end0
 exact ⟨rfl,rfl⟩
end Go.Proofs.YtfialjmemcobjaaGreatDoor.tr
namespace Go.Proofs.YtfialjmemcobjaaGreatDoor.tr
open Go.RowKit Go.Proofs.YtfialjmemcobjaaGreatDoor.er
set_option linter.unusedVariables false
set_option linter.unusedSimpArgs false
end Go.Proofs.YtfialjmemcobjaaGreatDoor.tr
namespace Go.Proofs.YtfialjmemcobjaaGreatDoor.tr
open Go.RowKit Go.Proofs.YtfialjmemcobjaaGreatDoor.er
set_option linter.unusedVariables false
set_option linter.unusedSimpArgs false
end Go.Proofs.YtfialjmemcobjaaGreatDoor.tr
namespace Go.Proofs.YtfialjmemcobjaaGreatDoor.tr
open Go.RowKit Go.Proofs.YtfialjmemcobjaaGreatDoor.er
set_option linter.unusedVariables false
set_option linter.unusedSimpArgs false
end Go.Proofs.YtfialjmemcobjaaGreatDoor.tr
namespace Go.Proofs.YtfialjmemcobjaaGreatDoor.tr
open Go.RowKit Go.Proofs.YtfialjmemcobjaaGreatDoor.er
set_option linter.unusedVariables false
set_option linter.unusedSimpArgs false
structure Kid where
 key:Int
 at_:Int
 deriving DecidableEq
inductive Pg where
 |leaf (l:List Ext)
 |inner (l:List Kid)
def kidsN {h:Nat} (n:Nd (h+1)):List Kid:=n.ks.map fun k=>⟨firstN k,k.at_⟩
def pgN:{h:Nat}→Nd h→Pg
 |0,n=>.leaf n.l
 |_+1,n=>.inner (kidsN n)
def pgs:{h:Nat}→Nd h→List Pg
 |0,n=>[pgN n]
 |_+1,n=>n.ks.flatMap pgs++[pgN n]
def fsts:{h:Nat}→Nd h→List Int
 |0,n=>[firstN n]
 |_+1,n=>n.ks.flatMap fsts++[firstN n]
def strip:{h:Nat}→Nd h→Nd h
 |0,n=>mkL 0 n.l
 |_+1,n=>mkI 0 (n.ks.map strip)
theorem strip_flat:∀{h:Nat} (n:Nd h),flat (strip n)=flat n
 |0,n=>rfl
 |h+1,n=>by
  show (n.ks.map strip).flatMap flat=n.ks.flatMap flat
  rw [List.flatMap_map]
  exact congrArg (fun f=>n.ks.flatMap f) (funext fun k=>strip_flat k)
theorem strip_size:∀{h:Nat} (n:Nd h),(strip n).size=n.size
 |0,n=>rfl
 |h+1,n=>by show (n.ks.map strip).length=n.ks.length;rw [List.length_map]
theorem strip_kw:∀{h:Nat} (n:Nd h),Kw (strip n)↔Kw n
 |0,n=>Iff.rfl
 |h+1,n=>by
  show (∀k∈n.ks.map strip,(4≤k.size∧k.size≤8)∧Kw k)↔∀k∈n.ks,(4≤k.size∧k.size≤8)∧Kw k
  simp only [List.forall_mem_map,strip_size,strip_kw]
theorem strip_cnt:∀{h:Nat} (n:Nd h),cntN (strip n)=cntN n
 |0,n=>rfl
 |h+1,n=>by
  show 1+((n.ks.map strip).map cntN).sum=1+(n.ks.map cntN).sum
  rw [List.map_map]
  have:cntN ∘ (strip:Nd h→Nd h)=cntN:=funext fun k=>strip_cnt k
  rw [this]
theorem pgs_len:∀{h:Nat} (n:Nd h),(pgs n).length=cntN n
 |0,n=>rfl
 |h+1,n=>by
  have:(n.ks.flatMap pgs).length=(n.ks.map cntN).sum:=by
   rw [List.length_flatMap]
   congr 1
   exact List.map_congr_left (fun k _=>pgs_len k)
  show (n.ks.flatMap pgs++[pgN n]).length=1+(n.ks.map cntN).sum
  rw [List.length_append,this]
  simp;omega
theorem flat_at {α β:Type} (f:α→List β):∀(l:List α) (i:Nat) (x:β),(l.flatMap f)[i]? =some x→∃P e Q i',l=P++e::Q∧i=(P.flatMap f).length+i'∧(f e)[i']? =some x
 |[],i,x,h=>by simp at h
 |e::l,i,x,h=>by
  rw [List.flatMap_cons] at h
  by_cases hi:i < (f e).length
  ·rw [List.getElem?_append_left hi] at h
   exact ⟨[],e,l,i,rfl,by simp,h⟩
  ·rw [List.getElem?_append_right (by omega)] at h
   obtain ⟨P,e',Q,i',rfl,h2,h3⟩:=flat_at f l _ x h
   exact ⟨e::P,e',Q,i',rfl,by rw [List.flatMap_cons,List.length_append];omega,h3⟩
def Ord (w:World):{h:Nat}→List Nat→Value→Nd h→List (Nat×Nat)→Prop
 |0,F,v,n,L=>∃b g c,F=[b,g]∧v=ptrV 0 b∧LfAt w b g c (Nd.at_ n) (Nd.l n)∧L=[(0,b)]
 |h+1,F,v,n,L=>∃b g c,∃es:List (Kd h×List (Nat×Nat)),F=b::g::dsF (es.map fun e=>e.1)∧v=ptrV (h+1) b∧Whole w b 300 #[.int .i64 (Nd.at_ n),.slice (some ⟨g,0,none⟩) es.length c]∧Row w g c 1 226 (es.map fun e=>e.1.2.1)∧Nd.ks n=es.map (fun e=>e.1.2.2)∧(∀e∈es,Ord w e.1.1 e.1.2.1 e.1.2.2 e.2)∧L=es.flatMap (fun e=>e.2)++[(h+1,b)]
theorem Ord.at_ {w:World}:∀{h:Nat} {F:List Nat} {v:Value} {n:Nd h} {L:List (Nat×Nat)},Ord w F v n L→NdAt w F v n
 |0,F,v,n,L,⟨b,g,c,h1,h2,h3,_⟩=>⟨b,g,c,h1,h2,h3.1,h3.2⟩
 |h+1,F,v,n,L,⟨b,g,c,es,h1,h2,h3,h4,h5,h6,_⟩=>by
  refine ⟨b,g,c,es.map (fun e:Kd h×List (Nat×Nat)=>e.1),h1,h2,?_,?_,?_,?_⟩
  ·rw [h5,List.length_map];exact h3
  ·rw [h5,List.map_map];rfl
  ·rw [List.map_map];exact h4
  ·intro d hd
   obtain ⟨e,he,rfl⟩:=List.mem_map.1 hd
   exact (h6 e he).at_
theorem Ord.len {w:World}:∀{h:Nat} {F:List Nat} {v:Value} {n:Nd h} {L:List (Nat×Nat)},Ord w F v n L→L.length=cntN n
 |0,F,v,n,L,⟨b,g,c,h1,h2,h3,h4⟩=>by rw [h4];rfl
 |h+1,F,v,n,L,⟨b,g,c,es,h1,h2,h3,h4,h5,h6,h7⟩=>by
  show L.length=1+(n.ks.map cntN).sum
  rw [h7,h5,List.map_map,List.length_append,List.length_flatMap]
  have:es.map (fun e=>e.2.length)=es.map (cntN ∘ fun e=>e.1.2.2):=List.map_congr_left fun e he=>(h6 e he).len
  rw [this]
  simp;omega
theorem Ord.keep {G:Nat→Prop} {w w':World} (hk:Keep G w w'):∀{h:Nat} {F:List Nat} {v:Value} {n:Nd h} {L:List (Nat×Nat)},Ord w F v n L→(∀k∈F,¬G k)→Ord w' F v n L
 |0,F,v,n,L,⟨b,g,c,h1,h2,h3,h4⟩,hF=>by
  subst h1
  exact ⟨b,g,c,rfl,h2,h3.keep hk (hF b (by simp)) (hF g (by simp)),h4⟩
 |h+1,F,v,n,L,⟨b,g,c,es,h1,h2,h3,h4,h5,h6,h7⟩,hF=>by
  subst h1
  refine ⟨b,g,c,es,rfl,h2,h3.keep hk (hF b (by simp)),h4.keep hk (hF g (by simp)),h5,fun e he=>Ord.keep hk (h6 e he) (fun k hm=>hF k ?_),h7⟩
  exact List.mem_cons_of_mem _ (List.mem_cons_of_mem _ (mem_dsF (List.mem_map.2 ⟨e,he,rfl⟩) hm))
theorem flat_len {α β γ:Type} {f:α→List β} {g:α→List γ} {l:List α} (h:∀e∈l,(f e).length=(g e).length):(l.flatMap f).length=(l.flatMap g).length:=by
 rw [List.length_flatMap,List.length_flatMap]
 congr 1
 exact List.map_congr_left h
theorem set_app {α:Type} (A B C:List α) (i:Nat) (a:α) (h:i < B.length):(A++B++C).set (A.length+i) a=A++B.set i a++C:=by
 rw [List.append_assoc,List.set_append_right _ _ (by omega),show A.length+i - A.length=i by omega,List.set_append_left _ _ h,List.append_assoc]
theorem pre_eq {α:Type} (A B B' C C':List α) (i' j:Nat) (hl:B'.length=B.length) (hi:i' < B.length) (h:∀t,t≤i'→B'[t]? =B[t]?) (hj:j≤A.length+i'):(A++(B'++C'))[j]? =(A++(B++C))[j]? :=by
 by_cases hjP:j < A.length
 ·rw [List.getElem?_append_left hjP,List.getElem?_append_left hjP]
 ·have hA:A.length≤j:=by omega
  rw [List.getElem?_append_right hA,List.getElem?_append_right hA,List.getElem?_append_left (show j - A.length < B'.length by omega),List.getElem?_append_left (show j - A.length < B.length by omega)]
  exact h _ (by omega)
theorem Ord.set:∀{h:Nat} {w:World} {F:List Nat} {v:Value} {n:Nd h} {L:List (Nat×Nat)},Ord w F v n L→F.Nodup→∀(i:Nat) (x:Nat×Nat),L[i]? =some x→∀a:Int,
  x.2∈F∧∃n':Nd h,Ord (w.setCell ⟨x.2,0,none⟩ (.int .i64 a)) F v n' L∧strip n'=strip n∧ats n'=(ats n).set i a∧∀j,j≤i→(pgs n')[j]? =(pgs n)[j]?
 |0,w,F,v,n,L,⟨b,g,c,h1,h2,h3,h4⟩,hnd,i,x,hx,a=>by
  subst h1 h4
  match i,hx with
  |0,hx=>
   simp at hx
   subst hx
   refine ⟨by simp,mkL a n.l,⟨b,g,c,rfl,h2,⟨?_,?_⟩,rfl⟩,rfl,rfl,fun j _=>rfl⟩
   ·have:=h3.1.set 0 (.int .i64 a)
    exact (by simpa using this:Whole (w.setCell ⟨b,0,none⟩ (.int .i64 a)) b 350 #[.int .i64 a,.slice (some ⟨g,0,none⟩) n.l.length c])
   ·exact h3.2.keep (Keep.set1 w b 0 _) (by simp at hnd;exact fun e=>hnd e.symm)
  |i+1,hx=>simp at hx
 |h+1,w,F,v,n,L,⟨b,g,c,es,h1,h2,h3,h4,h5,h6,h7⟩,hnd,i,x,hx,a=>by
  subst h1 h7
  have hnb:b≠g∧b∉dsF (es.map fun e=>e.1)∧g∉dsF (es.map fun e=>e.1)∧(dsF (es.map fun e=>e.1)).Nodup:=by
   simp only [List.nodup_cons,List.mem_cons,not_or] at hnd
   exact ⟨hnd.1.1,hnd.1.2,hnd.2.1,hnd.2.2⟩
  obtain ⟨n1,n2,n3,n4⟩:=hnb
  have eats:ats n=es.flatMap (fun e=>ats e.1.2.2)++[n.at_]:=by
   show n.ks.flatMap ats++[n.at_]=_
   rw [h5,List.flatMap_map]
  have epgs:pgs n=es.flatMap (fun e=>pgs e.1.2.2)++[pgN n]:=by
   show n.ks.flatMap pgs++[pgN n]=_
   rw [h5,List.flatMap_map]
  have la:∀{l:List (Kd h×List (Nat×Nat))},(∀e∈l,e∈es)→(l.flatMap fun e=>e.2).length=(l.flatMap fun e=>ats e.1.2.2).length:=fun hl=>flat_len fun e he=>by rw [(h6 e (hl e he)).len,ats_len]
  have lp:∀{l:List (Kd h×List (Nat×Nat))},(∀e∈l,e∈es)→(l.flatMap fun e=>e.2).length=(l.flatMap fun e=>pgs e.1.2.2).length:=fun hl=>flat_len fun e he=>by rw [(h6 e (hl e he)).len,pgs_len]
  by_cases hi:i < (es.flatMap fun e=>e.2).length
  ·rw [List.getElem?_append_left hi] at hx
   obtain ⟨P,e,Q,i',rfl,rfl,h8⟩:=flat_at _ _ _ _ hx
   have hmem:e∈P++e::Q:=by simp
   have hP:∀q∈P,q∈P++e::Q:=fun q hq=>by simp [hq]
   have hQ:∀q∈Q,q∈P++e::Q:=fun q hq=>by simp [hq]
   rw [List.map_append,List.map_cons,dsF_append,dsF_cons] at n2 n3 n4
   have m4:=List.nodup_append.1 n4
   have m5:=List.nodup_append.1 m4.2.1
   obtain ⟨x1,k',x2,x3,x4,x5⟩:=Ord.set (h6 e hmem) m5.1 i' x h8 a
   have hk1:Keep (fun k=>k=x.2) w (w.setCell ⟨x.2,0,none⟩ (.int .i64 a)):=Keep.set1 w x.2 0 _
   have xb:x.2≠b:=fun e'=>n2 (by rw [←e'];simp [x1])
   have xg:x.2≠g:=fun e'=>n3 (by rw [←e'];simp [x1])
   refine ⟨by
    rw [List.map_append,List.map_cons,dsF_append,dsF_cons]
    simp [x1],mkI n.at_ ((P++((e.1.1,e.1.2.1,k'),e.2)::Q).map fun e=>e.1.2.2),⟨b,g,c,P++((e.1.1,e.1.2.1,k'),e.2)::Q,?_,h2,?_,?_,rfl,?_,?_⟩,?_,?_,?_⟩
   ·simp [dsF]
   ·have:=h3.keep hk1 (fun e'=>xb e'.symm)
    have e1:(P++((e.1.1,e.1.2.1,k'),e.2)::Q).length=(P++e::Q).length:=by simp
    rw [e1]
    exact this
   ·have:=h4.keep hk1 (fun e'=>xg e'.symm)
    simpa using this
   ·intro q hq
    rcases List.mem_append.1 hq with hq|hq
    ·refine (h6 q (hP q hq)).keep hk1 (fun k hk e'=>?_)
     have e2:k=x.2:=e'
     exact m4.2.2 k (mem_dsF (List.mem_map.2 ⟨q,hq,rfl⟩) hk) k (by rw [e2];simp [x1]) rfl
    ·rcases List.mem_cons.1 hq with rfl|hq
     ·exact x2
     ·refine (h6 q (hQ q hq)).keep hk1 (fun k hk e'=>?_)
      have e2:k=x.2:=e'
      exact m5.2.2 k (by rw [e2];exact x1) k (mem_dsF (List.mem_map.2 ⟨q,hq,rfl⟩) hk) rfl
   ·simp
   ·show mkI 0 (((P++((e.1.1,e.1.2.1,k'),e.2)::Q).map fun e=>e.1.2.2).map strip)=mkI 0 (n.ks.map strip)
    rw [h5]
    simp [x3]
   ·rw [eats]
    show ((P++((e.1.1,e.1.2.1,k'),e.2)::Q).map fun e=>e.1.2.2).flatMap ats++[n.at_]=_
    rw [List.flatMap_map]
    simp only [List.flatMap_append,List.flatMap_cons]
    rw [x4,la hP]
    have hl:i' < (ats e.1.2.2).length:=by
     rw [ats_len,←(h6 e hmem).len]
     exact (List.getElem?_eq_some_iff.1 h8).1
    have:=set_app (P.flatMap fun e=>ats e.1.2.2) (ats e.1.2.2) (Q.flatMap (fun e=>ats e.1.2.2)++[n.at_]) i' a hl
    simp only [List.append_assoc] at this ⊢
    exact this.symm
   ·intro j hj
    rw [epgs]
    show (((P++((e.1.1,e.1.2.1,k'),e.2)::Q).map fun e=>e.1.2.2).flatMap pgs++[pgN (mkI n.at_ ((P++((e.1.1,e.1.2.1,k'),e.2)::Q).map fun e=>e.1.2.2))])[j]? =_
    rw [List.flatMap_map]
    simp only [List.flatMap_append,List.flatMap_cons,List.append_assoc]
    have hl:i' < (pgs e.1.2.2).length:=by
     rw [pgs_len,←(h6 e hmem).len]
     exact (List.getElem?_eq_some_iff.1 h8).1
    have hl':(pgs k').length=(pgs e.1.2.2).length:=by rw [pgs_len,pgs_len,←strip_cnt k',x3,strip_cnt]
    rw [lp hP] at hj
    exact pre_eq _ _ _ _ _ i' j hl' hl x5 hj
  ·rw [List.getElem?_append_right (by omega)] at hx
   have hi0:i - (es.flatMap fun e=>e.2).length=0:=by
    cases hq:i - (es.flatMap fun e=>e.2).length with
    |zero=>rfl
    |succ q=>rw [hq] at hx;simp at hx
   rw [hi0] at hx
   simp at hx
   subst hx
   have hie:i=(es.flatMap fun e=>e.2).length:=by omega
   have hk1:Keep (fun k=>k=b) w (w.setCell ⟨b,0,none⟩ (.int .i64 a)):=Keep.set1 w b 0 _
   refine ⟨by simp,mkI a n.ks,⟨b,g,c,es,rfl,h2,?_,h4.keep hk1 (fun e=>n1 e.symm),h5,?_,rfl⟩,rfl,?_,?_⟩
   ·have:=h3.set 0 (.int .i64 a)
    exact (by simpa using this:Whole (w.setCell ⟨b,0,none⟩ (.int .i64 a)) b 300 #[.int .i64 a,.slice (some ⟨g,0,none⟩) es.length c])
   ·intro e he
    refine (h6 e he).keep hk1 (fun k hk e'=>?_)
    have e2:k=b:=e'
    rw [e2] at hk
    exact n2 (mem_dsF (List.mem_map.2 ⟨e,he,rfl⟩) hk)
   ·rw [eats,hie,la (fun e he=>he)]
    show n.ks.flatMap ats++[a]=_
    rw [h5,List.flatMap_map,List.set_append_right _ _ (by omega)]
    simp
   ·intro j hj
    rfl
theorem Ord.get:∀{h:Nat} {w:World} {F:List Nat} {v:Value} {n:Nd h} {L:List (Nat×Nat)},Ord w F v n L→∀(i:Nat) (x:Nat×Nat),L[i]? =some x→
  ∃(F':List Nat) (m:Nd x.1),NdAt w F' (ptrV x.1 x.2) m∧(∀k∈F',k∈F)∧(pgs n)[i]? =some (pgN m)∧(fsts n)[i]? =some (firstN m)∧(ats n)[i]? =some m.at_∧(Kw n→Kw m∧(1≤n.size→n.size≤8→1≤m.size∧m.size≤8)∧(Big n→Big m))∧(Chk (flat n)→Chk (flat m))∧∃A B,ats n=A++ats m++B∧A.length+(ats m).length=i+1
 |0,w,F,v,n,L,hh@⟨b,g,c,h1,h2,h3,h4⟩,i,x,hx=>by
  subst h1 h4
  match i,hx with
  |0,hx=>
   simp at hx
   subst hx
   exact ⟨[b,g],n,leaf_at h3,fun k hk=>hk,rfl,rfl,rfl,fun hk=>⟨hk,fun q1 q2=>⟨q1,q2⟩,fun q=>q⟩,fun q=>q,[],[],by simp,rfl⟩
  |i+1,hx=>simp at hx
 |h+1,w,F,v,n,L,hh@⟨b,g,c,es,h1,h2,h3,h4,h5,h6,h7⟩,i,x,hx=>by
  have hnd:=Ord.at_ hh
  subst h1 h7 h2
  have eats:ats n=es.flatMap (fun e=>ats e.1.2.2)++[n.at_]:=by
   show n.ks.flatMap ats++[n.at_]=_
   rw [h5,List.flatMap_map]
  have epgs:pgs n=es.flatMap (fun e=>pgs e.1.2.2)++[pgN n]:=by
   show n.ks.flatMap pgs++[pgN n]=_
   rw [h5,List.flatMap_map]
  have efst:fsts n=es.flatMap (fun e=>fsts e.1.2.2)++[firstN n]:=by
   show n.ks.flatMap fsts++[firstN n]=_
   rw [h5,List.flatMap_map]
  have eflat:flat n=es.flatMap (fun e=>flat e.1.2.2):=by
   show n.ks.flatMap flat=_
   rw [h5,List.flatMap_map]
  have fst_len:∀{h:Nat} (n:Nd h),(fsts n).length=cntN n:=by
   intro h
   induction h with
   |zero=>intro n;rfl
   |succ h ih=>
    intro n
    have:(n.ks.flatMap fsts).length=(n.ks.map cntN).sum:=by
     rw [List.length_flatMap]
     congr 1
     exact List.map_congr_left (fun k _=>ih k)
    show (n.ks.flatMap fsts++[firstN n]).length=1+(n.ks.map cntN).sum
    rw [List.length_append,this]
    simp;omega
  have la:∀{l:List (Kd h×List (Nat×Nat))},(∀e∈l,e∈es)→(l.flatMap fun e=>e.2).length=(l.flatMap fun e=>ats e.1.2.2).length:=fun hl=>flat_len fun e he=>by rw [(h6 e (hl e he)).len,ats_len]
  have lp:∀{l:List (Kd h×List (Nat×Nat))},(∀e∈l,e∈es)→(l.flatMap fun e=>e.2).length=(l.flatMap fun e=>pgs e.1.2.2).length:=fun hl=>flat_len fun e he=>by rw [(h6 e (hl e he)).len,pgs_len]
  have lf:∀{l:List (Kd h×List (Nat×Nat))},(∀e∈l,e∈es)→(l.flatMap fun e=>e.2).length=(l.flatMap fun e=>fsts e.1.2.2).length:=fun hl=>flat_len fun e he=>by rw [(h6 e (hl e he)).len,fst_len]
  by_cases hi:i < (es.flatMap fun e=>e.2).length
  ·rw [List.getElem?_append_left hi] at hx
   obtain ⟨P,e,Q,i',rfl,rfl,h8⟩:=flat_at _ _ _ _ hx
   have hmem:e∈P++e::Q:=by simp
   have hP:∀q∈P,q∈P++e::Q:=fun q hq=>by simp [hq]
   obtain ⟨F',m,x1,x2,x3,x4,x5,x6,x7,A,B,x8,x9⟩:=Ord.get (h6 e hmem) i' x h8
   have pick:∀{γ:Type} (f:Kd h×List (Nat×Nat)→List γ) (z:γ) (r:List γ),(P.flatMap fun e=>e.2).length=(P.flatMap f).length→(f e)[i']? =some z→((P++e::Q).flatMap f++r)[(P.flatMap fun e=>e.2).length+i']? =some z:=by
    intro γ f z r hl hz
    rw [hl,List.flatMap_append,List.flatMap_cons,List.append_assoc,List.append_assoc,List.getElem?_append_right (by omega),show (P.flatMap f).length+i' - (P.flatMap f).length=i' by omega,List.getElem?_append_left (List.getElem?_eq_some_iff.1 hz).1]
    exact hz
   refine ⟨F',m,x1,fun k hk=>?_,?_,?_,?_,fun hk=>?_,fun hc=>?_,P.flatMap (fun e=>ats e.1.2.2)++A,B++Q.flatMap (fun e=>ats e.1.2.2)++[n.at_],?_,?_⟩
   ·exact List.mem_cons_of_mem _ (List.mem_cons_of_mem _ (mem_dsF (List.mem_map.2 ⟨e,hmem,rfl⟩) (x2 k hk)))
   ·rw [epgs];exact pick _ _ _ (lp hP) x3
   ·rw [efst];exact pick _ _ _ (lf hP) x4
   ·rw [eats];exact pick _ _ _ (la hP) x5
   ·have hw:Wf e.1.2.2:=hk.mem (by rw [h5];exact List.mem_map.2 ⟨e,hmem,rfl⟩)
    refine ⟨(x6 hw.2).1,fun _ _=>(x6 hw.2).2.1 (by have:=hw.1;omega) hw.1.2,fun _=>(x6 hw.2).2.2 ?_⟩
    have h4:=hw.1.1
    generalize e.1.2.2=z at h4
    cases h with
    |zero=>trivial
    |succ h=>exact (show 2≤z.size by omega)
   ·rw [eflat,List.flatMap_append,List.flatMap_cons] at hc
    exact x7 hc.right.left
   ·rw [eats,List.flatMap_append,List.flatMap_cons,x8]
    simp [List.append_assoc]
   ·rw [List.length_append,la hP];omega
  ·rw [List.getElem?_append_right (by omega)] at hx
   have hi0:i - (es.flatMap fun e=>e.2).length=0:=by
    cases hq:i - (es.flatMap fun e=>e.2).length with
    |zero=>rfl
    |succ q=>rw [hq] at hx;simp at hx
   rw [hi0] at hx
   simp at hx
   subst hx
   have hie:i=(es.flatMap fun e=>e.2).length:=by omega
   refine ⟨_,n,hnd,fun k hk=>hk,?_,?_,?_,fun hk=>⟨hk,fun q1 q2=>⟨q1,q2⟩,fun q=>q⟩,fun q=>q,[],[],by simp,by rw [eats,hie,la (fun e he=>he)];simp⟩
   ·rw [epgs,hie,lp (fun e he=>he)];simp
   ·rw [efst,hie,lf (fun e he=>he)];simp
   ·rw [eats,hie,la (fun e he=>he)];simp
end Go.Proofs.YtfialjmemcobjaaGreatDoor.tr
namespace Go.Proofs.YtfialjmemcobjaaGreatDoor.tr
open Go.RowKit Go.Proofs.YtfialjmemcobjaaGreatDoor.er
set_option linter.unusedVariables false
set_option linter.unusedSimpArgs false
def OrdL (w:World) {h:Nat} (ds:List (Kd h)) (L:List (Nat×Nat)):Prop:=∃es:List (Kd h×List (Nat×Nat)),es.map (fun e=>e.1)=ds∧(∀e∈es,Ord w e.1.1 e.1.2.1 e.1.2.2 e.2)∧L=es.flatMap (fun e=>e.2)
theorem OrdL.nil (w:World) {h:Nat}:OrdL w ([]:List (Kd h)) []:=⟨[],rfl,by simp,rfl⟩
theorem OrdL.snoc {w:World} {h:Nat} {ds:List (Kd h)} {L L':List (Nat×Nat)} {d:Kd h} (hl:OrdL w ds L) (hd:Ord w d.1 d.2.1 d.2.2 L'):OrdL w (ds++[d]) (L++L'):=by
 obtain ⟨es,rfl,h2,rfl⟩:=hl
 refine ⟨es++[(d,L')],by simp,fun e he=>?_,by simp⟩
 rcases List.mem_append.1 he with he|he
 ·exact h2 e he
 ·rw [List.mem_singleton.1 he];exact hd
theorem OrdL.len {w:World} {h:Nat} {ds:List (Kd h)} {L:List (Nat×Nat)} (hl:OrdL w ds L):L.length=(ds.flatMap fun d=>ats d.2.2).length:=by
 obtain ⟨es,rfl,h2,rfl⟩:=hl
 rw [List.flatMap_map]
 exact flat_len fun e he=>by rw [(h2 e he).len,ats_len]
theorem OrdL.inner {w:World} {h b q c:Nat} {ds:List (Kd h)} {n:Nd (h+1)} {L:List (Nat×Nat)} (hin:InAt w b q c n.at_ ds) (ek:n.ks=ds.map fun d=>d.2.2) (hl:OrdL w ds L):Ord w (b::q::dsF ds) (ptrV (h+1) b) n (L++[(h+1,b)]):=by
 obtain ⟨es,rfl,h2,rfl⟩:=hl
 refine ⟨b,q,c,es,rfl,rfl,?_,?_,?_,h2,rfl⟩
 ·have:=hin.1;rw [List.length_map] at this;exact this
 ·have:=hin.2.1;rw [List.map_map] at this;exact this
 ·rw [ek,List.map_map];rfl
def EachOrd (h g:Nat) (lb:Array Value) (S:List (Nat×Nat)→World→Prop) (G:Nat→Prop) (w0:World):Prop:=
 ∀(F:List Nat) (v:Value) (n:Nd h) (done:List (Nat×Nat)) (w:World),NdAt w0 F v n→(∀k∈F,¬G k)→Kw n→n.size≤100→done.length+cntN n≤16777216→S done w→
  Calls Tryz.prog 251 #[v,.func (.func g) #[] lb] w fun x w'=>x= .returned (.tuple #[])∧∃L,S (done++L) w'∧Ord w0 F v n L
set_option maxHeartbeats 4000000 in
set_option maxRecDepth 100000 in
theorem eachO_leaf (g:Nat) (lb:Array Value) (S:List (Nat×Nat)→World→Prop) (G:Nat→Prop) (w0:World) (H:HandN g lb S G w0):EachOrd 0 g lb S G w0:=by
 intro F v n done w hn hG hk hs hN hS
 obtain ⟨b,q,c,rfl,rfl,hl⟩:=leaf_open hn
 have eg:=H.eg
 have HCL:=Lib.hid (H.call done (0,b) w (by have:cntN n=1:=rfl;omega) hS)
 have HAT:Hid (Ord w0 [b,q] (ptrV 0 b) n [(0,b)]):=⟨b,q,c,rfl,rfl,hl,rfl⟩
 have htb:=ta_li
 clear hl hn hG hk hs hN hS H
 show Calls Tryz.prog 251 #[.iface 348 (.pointer (some ⟨b,0,none⟩)),.func (.func g) #[] lb] w _
 have HCL2:Hid (Calls Tryz.prog g (#[.iface 348 (.pointer (some ⟨b,0,none⟩))]++lb) w fun e w'=>e= .returned (.tuple #[])∧S (done++[(0,b)]) w'):=HCL.out
 go_enter Tryz.func251,Tryz.ntmps251
 go_wp2_with fail
 refine HCL2.out.mono ?_
 rintro e w5 ⟨rfl,hs5⟩
 have HS5:=Lib.hid hs5
 clear hs5
 go_wp2_with fail
 go_end0
 exact ⟨rfl,_,HS5.out,HAT.out⟩
set_option maxHeartbeats 4000000 in
set_option maxRecDepth 100000 in
theorem eachO_inner (h g:Nat) (lb:Array Value) (S:List (Nat×Nat)→World→Prop) (G:Nat→Prop) (w0:World) (H:HandN g lb S G w0) (IH:EachOrd h g lb S G w0):EachOrd (h+1) g lb S G w0:=by
 intro F v n done w hn hG hk hs hN hS
 obtain ⟨b,q,c,ds,rfl,rfl,hin,ek⟩:=inner_open hn
 have eg:=H.eg
 have HH:=Lib.hid H
 have HL:Hid (∀done wq,S done wq→InAt wq b q c n.at_ ds):=fun done wq h=>⟨hin.1.keep (H.keep done wq h) (hG b (by simp)),hin.2.1.keep (H.keep done wq h) (hG q (by simp)),kids_keep (H.keep done wq h) hin.2.2 (fun k hk=>hG k (by simp [hk]))⟩
 have hlen:n.ks.length=ds.length:=by rw [ek,List.length_map]
 have hs':ds.length≤100:=by have:n.ks.length≤100:=hs;omega
 have hats:ats n=n.ks.flatMap ats++[n.at_]:=rfl
 obtain ⟨m,hm⟩:∃m,ds.length=m:=⟨_,rfl⟩
 have hsum:∀j d,ds[j]? =some d→done.length+(((ds.take j).flatMap fun d=>ats d.2.2).length)+cntN d.2.2+1≤16777216:=by
  intro j d hd
  obtain ⟨e,hl⟩:=list_at hd
  have h1:=ats_len n
  rw [hats,ek,e] at h1
  simp only [List.map_append,List.map_cons,List.map_nil,List.flatMap_append,List.flatMap_cons,List.flatMap_nil,List.length_append,List.append_nil,List.length_cons,List.length_nil] at h1
  have h2:=ats_len d.2.2
  have h3:((ds.take j).flatMap fun d=>ats d.2.2).length=(((ds.take j).map fun d=>d.2.2).flatMap ats).length:=by rw [List.flatMap_map]
  omega
 have HKD:Hid (∀j,j < m→∃(d:Kd h) (kb:Nat),ds[j]? =some d∧(∀done wq,S done wq→wq.cell? ⟨q,j,none⟩=some (.iface (ndT h) (.pointer (some ⟨kb,0,none⟩))))∧∀(L:List (Nat×Nat)) wq,L.length=((ds.take j).flatMap fun d=>ats d.2.2).length→S (done++L) wq→Calls Tryz.prog 251 #[.iface (ndT h) (.pointer (some ⟨kb,0,none⟩)),.func (.func g) #[] lb] wq fun x w'=>x= .returned (.tuple #[])∧∃L',S (done++L++L') w'∧Ord w0 d.1 d.2.1 d.2.2 L'):=by
  intro j hj
  have hjl:j < ds.length:=by omega
  have hd:=List.getElem?_eq_getElem hjl
  have hmem:=List.getElem_mem hjl
  obtain ⟨kb,kF,f1,f2⟩:=(hin.2.2 _ hmem).form
  have hkw:Wf (ds[j]'hjl).2.2:=hk.mem (by rw [ek];exact List.mem_map.2 ⟨_,hmem,rfl⟩)
  refine ⟨ds[j]'hjl,kb,hd,fun done wq h=>?_,fun L wq hLL h=>?_⟩
  ·rw [←f2]
   exact (HL.out _ _ h).2.1.cell (by rw [List.getElem?_map,hd];rfl)
  ·rw [←f2]
   have:=hsum j _ hd
   refine (IH _ _ _ (done++L) wq (hin.2.2 _ hmem) (fun k hk=>hG k (List.mem_cons_of_mem _ (List.mem_cons_of_mem _ (mem_dsF hmem hk)))) hkw.2 (by have:=hkw.1;omega) (by rw [List.length_append];omega) h).mono ?_
   rintro x w' ⟨rfl,L',l1,l2⟩
   exact ⟨rfl,L',l1,l2⟩
 have HFL:Hid (∀j d,ds[j]? =some d→ds.take (j+1)=ds.take j++[d]):=fun j d hd=>by rw [List.take_add_one,hd];rfl
 have HFIN:Hid (∀L wq,S (done++L) wq→OrdL w0 ds L→Calls Tryz.prog g (#[.iface 297 (.pointer (some ⟨b,0,none⟩))]++lb) wq fun e w'=>e= .returned (.tuple #[])∧∃L,S (done++L) w'∧Ord w0 (b::q::dsF ds) (ptrV (h+1) b) n L):=by
  intro L wq hS2 hA
  have hlt:(done++L).length < 16777216:=by
   have h1:=ats_len n
   rw [hats,ek,List.flatMap_map] at h1
   simp only [List.length_append,List.length_cons,List.length_nil] at h1
   rw [List.length_append,hA.len]
   omega
  refine (H.call (done++L) (h+1,b) wq hlt hS2).mono ?_
  rintro e w' ⟨rfl,hs5⟩
  exact ⟨rfl,L++[(h+1,b)],by rw [←List.append_assoc];exact hs5,hA.inner hin ek⟩
 have c1:w.cell? ⟨b,1,none⟩=some (.slice (some ⟨q,0,none⟩) m c):=by have:=(HL.out done w hS).1.cell 1;rw [hm] at this;exact this
 have HS0:=Lib.hid hS
 have HMM:=Lib.hid hm
 have hta:=ta_ii
 have hmi:(m:Int)≤100:=by omega
 clear hsum hats hs' hlen ek hin hn hG hk hs hN hS H IH hm
 show Calls Tryz.prog 251 #[.iface 297 (.pointer (some ⟨b,0,none⟩)),.func (.func g) #[] lb] w _
 go_enter Tryz.func251,Tryz.ntmps251
 go_wp2_with fail
 go_loopw [7,19] (fun s7 i wr=>∃(j:Nat) (L:List (Nat×Nat)),j≤m∧i= .int .i64 j∧Hid (S (done++L) wr)∧Hid (OrdL w0 (ds.take j) L)) (fun _ i _=>m - (intOf i).toNat)
 case atStart=>exact ⟨0,[],Nat.zero_le _,rfl,by show S _ _;simpa using HS0.out,by show OrdL _ _ _;rw [List.take_zero];exact OrdL.nil _⟩
 case round=>
  obtain ⟨j,L,hj,rfl,HS,HA⟩:=hrel
  by_cases hlt:j < m
  ·have hji:(j:Int) < (m:Int):=by omega
   obtain ⟨d,kb,d1,d2,d3⟩:=HKD.out j hlt
   have c2:=d2 _ _ HS.out
   have HCL:=Lib.hid (d3 L wr HA.out.len HS.out)
   have HT:=Lib.hid (HFL.out j d d1)
   clear d1 d2 d3
   go_wp2_with fail
   with_reducible refine (HCL.out).mono ?_
   rintro e w5 ⟨rfl,L',l1,l2⟩
   have HS5:Hid (S (done++(L++L')) w5):=by show S _ _;rw [←List.append_assoc];exact l1
   have HA5:Hid (OrdL w0 (ds.take (j+1)) (L++L')):=by show OrdL _ _ _;rw [HT.out];exact HA.out.snoc l2
   clear l1 l2
   go_wp2_with fail
   go_roundw
   case rel=>exact ⟨j+1,L++L',by omega,by go_num,HS5,HA5⟩
   case measure=>simp [intOf];omega
  ·obtain rfl:j=m:=by omega
   have hfull:ds.take j=ds:=by rw [←HMM.out];exact List.take_length
   rw [hfull] at HA
   have HCF:=Lib.hid (HFIN.out L wr HS.out HA.out)
   go_wp2_with fail
   refine HCF.out.mono ?_
   rintro e w5 ⟨rfl,L',l1,l2⟩
   have HS5:=Lib.hid l1
   have HA5:=Lib.hid l2
   clear l1 l2
   go_wp2_with fail
   go_end0
   exact ⟨rfl,_,HS5.out,HA5.out⟩
theorem eachO_any (g:Nat) (lb:Array Value) (S:List (Nat×Nat)→World→Prop) (G:Nat→Prop) (w0:World) (H:HandN g lb S G w0):∀h,EachOrd h g lb S G w0
 |0=>eachO_leaf g lb S G w0 H
 |h+1=>eachO_inner h g lb S G w0 H (eachO_any g lb S G w0 H h)
def Tree.Ord (w:World) (F:List Nat) (p:Nat):Tree→List (Nat×Nat)→Prop
 |.no,L=>F=[p]∧Whole w p 228 #[.nilIface]∧L=[]
 |.top h n,L=>∃F' v,F=p::F'∧Whole w p 228 #[v]∧tr.Ord w F' v n L∧F'.Nodup∧p∉F'
def NodesOrd (w:World) (F:List Nat) (p:Nat) (T:Tree) (x:Ending) (w':World):Prop:=∃v' L,x= .returned v'∧w'.ownsRow w.heap.size 226 1 v' L.length (L.map pv)∧T.Ord w F p L∧Below w.heap.size w w'
set_option maxHeartbeats 4000000 in
set_option maxRecDepth 100000 in
theorem nodesO_any (w:World) (F:List Nat) (p:Nat) (T:Tree) (ht:TrAt w F p T) (hok:T.Ok) (hN:T.cnt≤16777216):
  Calls Tryz.prog 203 #[.pointer (some ⟨p,0,none⟩)] w (NodesOrd w F p T):=by
 obtain ⟨w3,hw3⟩:∃w3,w.alloc (.cells #[.slice none 0 0] 291)=w3:=⟨_,rfl⟩
 have k3:Keep (fun _=>False) w w3:=by rw [←hw3];exact (Keep.refl _ _).alloc _
 have hs3:w3.heap.size=w.heap.size+1:=by rw [←hw3];simp
 have b3:Whole w3 w.heap.size 291 #[.slice none 0 0]:=by rw [←hw3];exact Whole.new _ _ _
 have hNS:NodS w (w.heap.size+1) w.heap.size [] w3:=⟨k3,by omega,by omega,by omega,_,b3,⟨rfl,.inl ⟨rfl,rfl⟩⟩⟩
 cases T with
 |no=>
  have c0:=(ht.2.keep k3 (fun h=>h)).cell 0
  simp at c0
  have c1:=b3.cell 0
  simp at c1
  have HB:Hid (Below w.heap.size w w3):=⟨k3.os,k3.tape,k3.output,k3.size,fun j hj=>k3.block j hj (fun h=>h)⟩
  have HT0:Hid (Tree.no.Ord w F p []):=⟨ht.1,ht.2,rfl⟩
  clear hNS b3 hs3 k3 ht hok hN
  go_enter Tryz.func203,Tryz.ntmps203
  go_wp2_with fail
  go_ret
  exact ⟨_,[],rfl,⟨rfl,.inl ⟨rfl,rfl⟩⟩,HT0.out,HB.out⟩
 |top h n=>
  obtain ⟨F',v,rfl,hp,hn,hpn⟩:=ht
  obtain ⟨q1,q2,q3,q4⟩:=hok.parts
  obtain ⟨kb,kF,f1,f2⟩:=hn.at_.form
  have c0:=(hp.keep k3 (fun h=>h)).cell 0
  rw [f2] at c0
  simp at c0
  have hE:=eachO_any _ _ _ _ w (nod_hand w (w.heap.size+1) w.heap.size) h F' v n [] w3 hn.at_ (fun _ _ h=>h) q1 (by omega) (by have h0:cntN n≤16777216:=hN;simpa using h0) hNS
  rw [f2] at hE
  have HE:Hid (Calls Tryz.prog 251 #[.iface (ndT h) (.pointer (some ⟨kb,0,none⟩)),.func (.func 252) #[] #[.pointer (some ⟨w.heap.size,0,none⟩)]] w3 fun x w'=>x= .returned (.tuple #[])∧∃A c m,w'.cell? ⟨w.heap.size,0,none⟩=some (.slice A m c)∧NodesOrd w (p::F') p (.top h n) (.returned (.slice A m c)) w'):=by
   refine hE.mono ?_
   rintro x w' ⟨rfl,L,⟨r1,r2,r3,r4,v,r9,r10⟩,hA⟩
   simp only [List.nil_append] at r10
   obtain ⟨A,c,rfl⟩:=own_slice r10
   exact ⟨rfl,A,c,_,r9.cell 0,_,L,rfl,own_base r10 (by omega),⟨F',v,rfl,hp,by rw [f2];exact hA,hn.nd,hpn⟩,⟨r1.os,r1.tape,r1.output,r1.size,fun j hj=>r1.block j hj (fun h=>h)⟩⟩
  obtain ⟨AA,hAA⟩:∃AA,Tree.top h n=AA:=⟨_,rfl⟩
  rw [hAA] at HE ⊢
  clear hAA hE f1 f2 q1 q2 q3 q4 hn hp hpn hNS b3 hs3 k3 hok hN
  go_enter Tryz.func203,Tryz.ntmps203
  go_wp2_with fail
  with_reducible refine HE.out.mono ?_
  rintro e w5 ⟨rfl,A,c,m,z1,z2⟩
  have HZ2:=Lib.hid z2
  clear z2
  go_wp2_with fail
  go_ret
  exact HZ2.out
end Go.Proofs.YtfialjmemcobjaaGreatDoor.tr
namespace Go.Proofs.YtfialjmemcobjaaGreatDoor.tr
open Go.RowKit Go.Proofs.YtfialjmemcobjaaGreatDoor.er
set_option linter.unusedVariables false
set_option linter.unusedSimpArgs false
def nfs {h:Nat} (n:Nd h):List Int:=(ats n).filter fun a=>decide (a≠-1)
def frN {h:Nat} (n:Nd h):Nat:=((ats n).filter fun a=>decide (a= -1)).length
theorem ats_in {h:Nat} (n:Nd (h+1)):ats n=n.ks.flatMap ats++[n.at_]:=rfl
def Tree.All (P:{h:Nat}→Nd h→Prop):Tree→Prop
 |.no=>True
 |.top _ n=>P n
def Tree.nfs:Tree→List Int
 |.no=>[]
 |.top _ n=>tr.nfs n
end Go.Proofs.YtfialjmemcobjaaGreatDoor.tr
namespace Go.Proofs.YtfialjmemcobjaaGreatDoor.tr
open Go.RowKit Go.Proofs.YtfialjmemcobjaaGreatDoor.er
set_option linter.unusedVariables false
set_option linter.unusedSimpArgs false
end Go.Proofs.YtfialjmemcobjaaGreatDoor.tr
namespace Go.Proofs.YtfialjmemcobjaaGreatDoor.tr
open Go.RowKit Go.Proofs.YtfialjmemcobjaaGreatDoor.er
set_option linter.unusedVariables false
set_option linter.unusedSimpArgs false
end Go.Proofs.YtfialjmemcobjaaGreatDoor.tr
