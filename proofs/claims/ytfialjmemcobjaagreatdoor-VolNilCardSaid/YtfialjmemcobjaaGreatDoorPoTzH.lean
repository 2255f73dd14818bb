/- A part of the proof. -/
import Derived.Test.YtfialjmemcobjaaGreatDoorPoTyMb
import Derived.Test.YtfialjmemcobjaaGreatDoorPoTzMb
namespace Go.Proofs.YtfialjmemcobjaaGreatDoor.tr
open Go.RowKit Go.Proofs.YtfialjmemcobjaaGreatDoor.er
set_option linter.unusedVariables false
set_option linter.unusedSimpArgs false
theorem listBy_new {w':World} {F:List Nat} {v:Value} {l:List Ext} {B:Nat} (h:w'.ownsRow B 255 4 v l.length (extCells l)) (hF:∀k∈F,k < B):ListBy w' F v l:=
 ⟨⟨B,h⟩,fun g hg=>⟨fun hm=>by have:=(h.lt g hg).1;have:=hF g hm;omega,(h.lt g hg).2⟩⟩
theorem listBy_below {w w':World} {F:List Nat} {v:Value} {l:List Ext} (h:ListBy w F v l) (hb:Below w.heap.size w w'):ListBy w' F v l:=by
 obtain ⟨B,h1⟩:=h.own
 exact ⟨⟨B,own_below h1 hb⟩,fun g hg=>⟨(h.out g hg).1,Nat.lt_of_lt_of_le (h.out g hg).2 hb.size⟩⟩
end Go.Proofs.YtfialjmemcobjaaGreatDoor.tr
namespace Go.Proofs.YtfialjmemcobjaaGreatDoor.tr
open Go.RowKit Go.Proofs.YtfialjmemcobjaaGreatDoor.er
set_option linter.unusedVariables false
set_option linter.unusedSimpArgs false
def AllS (w:World) (B po:Nat) (done:List Ext) (wq:World):Prop:=
 Keep (fun _=>False) w wq∧B≤wq.heap.size∧po < B∧w.heap.size≤po∧∃v,Whole wq po 261 #[v]∧wq.ownsRow B 255 4 v done.length (extCells done)
theorem AllS.below {w:World} {B po:Nat} {done:List Ext} {wq w':World} (h:AllS w B po done wq) (hb:Below wq.heap.size wq w'):AllS w B po done w':=by
 obtain ⟨h1,h2,h3,h4,v,h6,h7⟩:=h
 exact ⟨h1.transBelow hb,Nat.le_trans h2 hb.size,h3,h4,v,h6.below hb h6.lt,own_below h7 hb⟩
set_option maxHeartbeats 4000000 in
set_option maxRecDepth 100000 in
theorem all1_any (w:World) (B po:Nat) (done:List Ext) (e:Ext) (wq:World) (hd:done.length < 16777216) (he:oneB e=true) (h:AllS w B po done wq):
  Calls Tryz.prog 227 (#[e.val]++#[.pointer (some ⟨po,0,none⟩)]) wq fun x w'=>x= .returned (.bool true)∧AllS w B po (done++[e]) w':=by
 obtain ⟨f,en,k,t⟩:=e
 have hbl:Below wq.heap.size wq (wq.alloc (.cells #[.int .i64 f,.int .i64 en,.int .i64 k,.int .i64 t] 255)):=(Below.refl _ _).alloc (Nat.le_refl _) _
 have hN1:=h.below hbl
 obtain ⟨a1,a2,a3,a4,v,a6,a7⟩:=hN1
 obtain ⟨A,c,rfl⟩:=own_slice a7
 have co:=a6.cell 0
 simp at co
 obtain ⟨i0,hi0,hz0,hz1,hz2⟩:=info_parts infoE
 have HI0:=Lib.hid hi0
 have HZ0:=Lib.hid hz0
 have HZ1:=Lib.hid hz1
 have HZ2:=Lib.hid hz2
 obtain ⟨n,hn⟩:∃n,done.length=n:=⟨_,rfl⟩
 rw [hn] at a7 hd co a6
 obtain ⟨w1,hw1⟩:∃w1,wq.alloc (.cells #[.int .i64 f,.int .i64 en,.int .i64 k,.int .i64 t] 255)=w1:=⟨_,rfl⟩
 rw [hw1] at a1 a2 a6 a7 co
 have hbox:Whole w1 wq.heap.size 255 #[.int .i64 f,.int .i64 en,.int .i64 k,.int .i64 t]:=by rw [←hw1];exact Whole.new _ _ _
 obtain ⟨⟨y0,y1,y2,y3⟩,_⟩:=tmp4 hbox
 have HOA:=Lib.hid (a7.alloc (.cells #[.int .i64 f,.int .i64 en,.int .i64 k,.int .i64 t] 255))
 have HNW:Hid (∀(j':Nat) (u:Value),([.int .i64 f,.int .i64 en,.int .i64 k,.int .i64 t]:List Value)[j']? =some u→((w1).alloc (.cells #[.int .i64 f,.int .i64 en,.int .i64 k,.int .i64 t] 255)).cell? ((⟨(w1).heap.size,0,none⟩:Addr).add j')=some u):=World.news_of_block (by simpa using heap_alloc_new (w1) (.cells #[.int .i64 f,.int .i64 en,.int .i64 k,.int .i64 t] 255))
 have hone:∀u∈([.int .i64 f,.int .i64 en,.int .i64 k,.int .i64 t]:List Value),u.oneCell'=true:=by simp [Value.oneCell']
 have HONE:=Lib.hid hone
 have HSZ2:Hid (B≤((w1).alloc (.cells #[.int .i64 f,.int .i64 en,.int .i64 k,.int .i64 t] 255)).heap.size):=by show _≤_;simp only [World.size_alloc];omega
 have HEND:Hid (∀v' w6,w6.ownsRow B 255 4 v' (n+1) (extCells done++[.int .i64 f,.int .i64 en,.int .i64 k,.int .i64 t])→(w1.alloc (.cells #[.int .i64 f,.int .i64 en,.int .i64 k,.int .i64 t] 255)).grownBy w6 (Value.slice A n c).ownBlock→(w6.cell? ⟨po,0,none⟩=some (.slice A n c)∧w6.frozen? ⟨po,0,none⟩=false)∧AllS w B po (done++[⟨f,en,k,t⟩]) (w6.setCell ⟨po,0,none⟩ v')):=by
  intro v' w6 q1 q2
  have hrow:∀j,(Value.slice A n c).ownBlock=some j→B≤j:=fun j hj=>(a7.lt j hj).1
  have b6:=(a6.alloc (.cells #[.int .i64 f,.int .i64 en,.int .i64 k,.int .i64 t] 255)).grown q2 (fun e=>by have:=hrow po e.symm;omega)
  have hK6:Keep (fun _=>False) w w6:=by
   have h0:Keep (fun _=>False) w (w1.alloc (.cells #[.int .i64 f,.int .i64 en,.int .i64 k,.int .i64 t] 255)):=a1.alloc _
   exact h0.grown q2 (fun j hj=>.inr (by have:=hrow j hj;omega))
  refine ⟨⟨b6.cell 0,b6.fz 0⟩,?_⟩
  have hkS:Keep (fun j=>j=po) w6 (w6.setCell ⟨po,0,none⟩ v'):=Keep.set1 w6 po 0 v'
  have hs6:=q2.size
  simp only [World.size_alloc] at hs6
  have hv6:∀j,v'.ownBlock=some j→¬(j=po):=fun j hj e=>by have:=(q1.lt j hj).1;omega
  refine ⟨hK6.setCell (p:=⟨po,0,none⟩) (.inr a4) _,by rw [size_set];omega,a3,a4,v',?_,?_⟩
  ·have:=b6.set 0 v'
   simpa using this
  ·rw [extCells_append,List.length_append,hn]
   exact own_keep q1 hkS hv6
 clear hone hn hbox hi0 hz0 hz1 hz2 a1 a2 a3 a4 a6 a7 hbl h he
 show Calls Tryz.prog 227 #[.agg #[.int .i64 f,.int .i64 en,.int .i64 k,.int .i64 t],.pointer (some ⟨po,0,none⟩)] wq _
 go_enter Tryz.func227,Tryz.ntmps227
 go_wp2_with (at_builtin;go_must (refine wpList_append_own _ rfl (.tmp 4) (.tmp 6) 261 rfl B 255 i0 _ 4 32 Tryz.underlying261 HI0.out HZ0.out HZ1.out HZ2.out rfl (by omega) (.slice A n c) n (extCells done) rfl HOA.out ⟨(w1).heap.size,0,none⟩ 1 1 [.int .i64 f,.int .i64 en,.int .i64 k,.int .i64 t] rfl rfl HNW.out HONE.out (by simp only [maxLen];omega) (by omega) HSZ2.out ?_;intro v2 w6 hown6 hg6 _;obtain ⟨⟨z0,z1⟩,hfin⟩:=HEND.out v2 w6 hown6 hg6;have HFIN:=Lib.hid hfin;obtain ⟨A2,c2,e2⟩:=own_slice hown6;subst e2;clear hown6 hg6 hfin))
 go_ret
 exact ⟨rfl,HFIN.out⟩
theorem all_hand (w:World) (B po:Nat):Hand 227 #[.pointer (some ⟨po,0,none⟩)] (fun _=>true) (AllS w B po) (fun _=>False) w where
 eg:=fun _ _=>by kernel_rfl
 call:=fun done e wq hd he h=>all1_any w B po done e wq hd he h
 below:=fun done wq w' h hb=>h.below hb
 keep:=fun done wq h=>h.1
set_option maxHeartbeats 4000000 in
set_option maxRecDepth 100000 in
theorem allG_any (w:World) (F:List Nat) (p:Nat) (T:Tree) (ht:TrAt w F p T) (hok:T.Ok) (hc:T.Gd (-1)) (hlen:T.flat.length≤16777216) (hpa:pastL T.flat (-1)=T.flat):
  Calls Tryz.prog 165 #[.pointer (some ⟨p,0,none⟩)] w fun x w'=>∃v',x= .returned v'∧w'.ownsRow w.heap.size 255 4 v' T.flat.length (extCells T.flat)∧Below w.heap.size w w':=by
 obtain ⟨w3,hw3⟩:∃w3,w.alloc (.cells #[.slice none 0 0] 261)=w3:=⟨_,rfl⟩
 have k3:Keep (fun _=>False) w w3:=by rw [←hw3];exact (Keep.refl _ _).alloc _
 have hs3:w3.heap.size=w.heap.size+1:=by rw [←hw3];simp
 have b3:Whole w3 w.heap.size 261 #[.slice none 0 0]:=by rw [←hw3];exact Whole.new _ _ _
 have hN:AllS w (w.heap.size+1) w.heap.size [] w3:=⟨k3,by omega,by omega,by omega,_,b3,⟨rfl,.inl ⟨rfl,rfl⟩⟩⟩
 have hW:=walkG_any _ _ _ _ _ w (all_hand w (w.heap.size+1) w.heap.size) F p T (-1) w3 ht (fun _ _ h=>h) hok hc hlen hN
 rw [hpa,handed_all (List.all_eq_true.2 (fun _ _=>rfl))] at hW
 have HW:Hid (Calls Tryz.prog 208 #[.pointer (some ⟨p,0,none⟩),.int .i64 (-1),.func (.func 227) #[] #[.pointer (some ⟨w.heap.size,0,none⟩)]] w3 fun x w'=>x= .returned (.tuple #[])∧∃A c,w'.cell? ⟨w.heap.size,0,none⟩=some (.slice A T.flat.length c)∧w'.ownsRow w.heap.size 255 4 (.slice A T.flat.length c) T.flat.length (extCells T.flat)∧Below w.heap.size w w'):=by
  refine hW.mono ?_
  rintro x w' ⟨rfl,q1,q2,q3,q4,v,q9,q10⟩
  obtain ⟨A,c,rfl⟩:=own_slice q10
  exact ⟨rfl,A,c,q9.cell 0,own_base q10 (by omega),⟨q1.os,q1.tape,q1.output,q1.size,fun j hj=>q1.block j hj (fun h=>h)⟩⟩
 obtain ⟨NL,hNL⟩:∃NL,T.flat=NL:=⟨_,rfl⟩
 rw [hNL] at HW ⊢
 clear hNL hW hN b3 k3 hs3 ht hok hc hlen hpa
 go_enter Tryz.func165,Tryz.ntmps165
 go_wp2_with fail
 with_reducible refine HW.out.mono ?_
 rintro e w5 ⟨rfl,A,c,z1,z2,z3⟩
 have HZ2:=Lib.hid z2
 have HZ3:=Lib.hid z3
 clear z2 z3
 go_wp2_with fail
 go_ret
 exact ⟨_,rfl,HZ2.out,HZ3.out⟩
theorem all_any (w:World) (F:List Nat) (p:Nat) (T:Tree) (ht:TrAt w F p T) (hok:T.Ok) (hc:Chk T.flat):
  Calls Tryz.prog 165 #[.pointer (some ⟨p,0,none⟩)] w fun x w'=>∃v',x= .returned v'∧w'.ownsRow w.heap.size 255 4 v' T.flat.length (extCells T.flat)∧Below w.heap.size w w':=
 allG_any w F p T ht hok (by cases T with|no=>trivial|top h n=>exact gd_chk _ n hok.parts.1 hc) (chk_len hc) (past_all hc)
theorem allW_any (w:World) (F:List Nat) (p:Nat) (T:Tree) (ht:TrAt w F p T) (hok:T.Ok) (ho:∀e∈T.flat,oneB e=true) (hlen:T.flat.length≤16777216):
  Calls Tryz.prog 165 #[.pointer (some ⟨p,0,none⟩)] w fun x w'=>∃v',x= .returned v'∧w'.ownsRow w.heap.size 255 4 v' T.flat.length (extCells T.flat)∧Below w.heap.size w w':=by
 refine allG_any w F p T ht hok ?_ hlen ?_
 ·cases T with
  |no=>trivial
  |top h n=>exact (gd_one n ho hok.parts.1).1
 ·unfold pastL
  rw [List.filter_eq_self]
  intro e he
  have h1:=one_spec (ho e he)
  have h2:e.end_=e.fr+e.n:=rfl
  simp
  omega
def sumN (l:List Ext):Int:=(l.map fun e=>e.n).sum
theorem sum_low:∀(l:List Ext) (a:Int),Chk l→0≤a→a≤16777216→(∀e∈l,a≤e.fr)→0≤sumN l∧sumN l≤16777216 - a
 |[],a,_,h0,h1,_=>by simp [sumN];omega
 |e::l,a,hc,h0,h1,hl=>by
  have ho:=one_spec (hc.one e (by simp))
  have hp:=List.pairwise_cons.1 hc.ord
  have he:e.end_=e.fr+e.n:=rfl
  have:=sum_low l e.end_ hc.tail (by omega) (by omega) (fun x hx=>(hp.1 x hx).1)
  have:=hl e (by simp)
  simp only [sumN,List.map_cons,List.sum_cons] at *
  omega
theorem sum_chk {l:List Ext} (h:Chk l):0≤sumN l∧sumN l≤16777216:=by
 have:=sum_low l 0 h (by omega) (by omega) (fun e he=>(one_spec (h.one e he)).1)
 omega
theorem sum_take {l:List Ext} {j:Nat} {e:Ext} (h:l[j]? =some e):sumN (l.take (j+1))=sumN (l.take j)+e.n:=by
 obtain ⟨hj,rfl⟩:=List.getElem?_eq_some_iff.1 h
 rw [List.take_succ_eq_append_getElem hj]
 unfold sumN
 rw [List.map_append,List.sum_append]
 simp only [List.map_cons,List.map_nil,List.sum_cons,List.sum_nil,Int.add_zero]
set_option maxHeartbeats 4000000 in
set_option maxRecDepth 100000 in
theorem count_any (l:List Ext) (v:Value) (w:World) (h:ExtsAt w v l) (hc:Chk l):Calls Tryz.prog 178 #[v] w fun x w'=>x= .returned (.int .i64 (sumN l))∧Below w.heap.size w w':=by
 have HCK:Hid (Calls Tryz.prog 197 #[v] w fun x w'=>x= .returned (.bool true)∧Below w.heap.size w w'):=by have:=check_any l v w h (by have:=chk_len hc;omega);rw [chk_chkB _ hc] at this;exact this
 have hlen:=chk_len hc
 obtain ⟨A,c,rfl,hcc⟩:=h
 have HC:=Lib.hid hcc
 obtain ⟨n,hn⟩:∃n,l.length=n:=⟨_,rfl⟩
 have HN:=Lib.hid hn
 rw [hn] at HCK hlen
 rw [hn]
 have HSUM:Hid (∀j,0≤sumN (l.take j)∧sumN (l.take j)≤16777216):=fun j=>sum_chk (take_chk hc j)
 have HOE:=Lib.hid hc.one
 clear hcc hn hc
 go_enter Tryz.func178,Tryz.ntmps178
 go_wp2_with fail
 with_reducible refine HCK.out.mono ?_
 rintro e w1 ⟨rfl,hb1⟩
 have HB1:=Lib.hid hb1
 clear hb1
 go_wp2_with fail
 go_loopw [3,5,11] (fun s3 s5 i wr=>∃(j:Nat),j≤n∧i= .int .i64 j∧s3= .int .i64 (sumN (l.take j))∧Hid (Below w.heap.size w wr)) (fun _ _ i _=>n - (intOf i).toNat)
 case atStart=>exact ⟨0,Nat.zero_le _,rfl,rfl,HB1.out⟩
 case round=>
  obtain ⟨j,hj,rfl,rfl,HB⟩:=hrel
  by_cases hlt:j < n
  ·have hji:(j:Int) < (n:Int):=by omega
   have hln:=HN.out
   obtain ⟨g,o,rfl,hcc⟩:=HC.out (by omega)
   obtain ⟨x,hx'⟩:∃x,l[j]? =some x:=⟨l[j]'(by omega),List.getElem?_eq_getElem (by omega)⟩
   obtain ⟨c0,c1,c2,c3⟩:=(hcc j x hx').below HB.out
   have HST:=Lib.hid (sum_take hx')
   obtain ⟨b1,b2⟩:=HSUM.out j
   obtain ⟨b3,b4⟩:=HSUM.out (j+1)
   rw [HST.out] at b3 b4
   obtain ⟨SJ,hSJ⟩:∃SJ,sumN (l.take j)=SJ:=⟨_,rfl⟩
   rw [hSJ] at HST b1 b2 b3 b4
   rw [hSJ]
   obtain ⟨f,en,k,t⟩:=x
   simp only at c0 c1 c2 c3 HST b3 b4
   have HA0:Hid (Below wr.heap.size wr (wr.alloc (.cells #[.int .i64 f,.int .i64 en,.int .i64 k,.int .i64 t] 255))):=(Below.refl _ _).alloc (Nat.le_refl _) _
   clear hcc hx' hln hSJ
   go_wp2_with fail
   go_roundw
   case rel=>exact ⟨j+1,by omega,by go_num,by rw [HST.out],HB.out.trans (HA0.out.mono HB.out.size)⟩
   case measure=>simp [intOf];omega
  ·obtain rfl:j=n:=by omega
   have hfull:l.take j=l:=by rw [←HN.out];exact List.take_length
   rw [hfull]
   go_wp2_with fail
   go_ret
   exact ⟨rfl,HB.out⟩
set_option maxHeartbeats 4000000 in
set_option maxRecDepth 100000 in
theorem tcount_any (w:World) (F:List Nat) (p:Nat) (T:Tree) (ht:TrAt w F p T) (hok:T.Ok) (hc:Chk T.flat):
  Calls Tryz.prog 107 #[.pointer (some ⟨p,0,none⟩)] w fun x w'=>x= .returned (.int .i64 (sumN T.flat))∧Below w.heap.size w w':=by
 have HA:=Lib.hid (all_any w F p T ht hok hc)
 have HC:Hid (∀wq v,ExtsAt wq v T.flat→Calls Tryz.prog 178 #[v] wq fun x w'=>x= .returned (.int .i64 (sumN T.flat))∧Below wq.heap.size wq w'):=fun wq v h=>count_any _ v wq h hc
 obtain ⟨L,hL⟩:∃L,T.flat=L:=⟨_,rfl⟩
 rw [hL] at HA HC ⊢
 clear ht hok hc hL
 go_enter Tryz.func107,Tryz.ntmps107
 go_wp2_with fail
 with_reducible refine HA.out.mono ?_
 rintro e w5 ⟨v',rfl,z2,z3⟩
 have HX:=Lib.hid (ExtsAt.own z2).1
 have HB:=Lib.hid z3
 clear z2 z3
 go_wp2_with fail
 with_reducible refine (HC.out _ _ HX.out).mono ?_
 rintro e w6 ⟨rfl,hb6⟩
 have HB6:=Lib.hid (bel_tr HB.out hb6)
 clear hb6
 go_wp2_with fail
 go_ret
 exact ⟨rfl,HB6.out⟩
end Go.Proofs.YtfialjmemcobjaaGreatDoor.tr
namespace Go.Proofs.YtfialjmemcobjaaGreatDoor.tr
open Go.RowKit Go.Proofs.YtfialjmemcobjaaGreatDoor.er
set_option linter.unusedVariables false
set_option linter.unusedSimpArgs false
def ats:{h:Nat}→Nd h→List Int
 |0,n=>[n.at_]
 |_+1,n=>n.ks.flatMap ats++[n.at_]
theorem ats_len:∀{h:Nat} (n:Nd h),(ats n).length=cntN n
 |0,n=>rfl
 |h+1,n=>by
  have:(n.ks.flatMap ats).length=(n.ks.map cntN).sum:=by
   rw [List.length_flatMap]
   congr 1
   exact List.map_congr_left (fun k _=>ats_len k)
  show (n.ks.flatMap ats++[n.at_]).length=1+(n.ks.map cntN).sum
  rw [List.length_append,this]
  simp;omega
def pv (x:Nat×Nat):Value:=ptrV x.1 x.2
structure AtsAt (w:World) (F:List Nat) (L:List (Nat×Nat)) (A:List Int):Prop where
 len:L.length=A.length
 at_:∀(i:Nat) (x:Nat×Nat) (a:Int),L[i]? =some x→A[i]? =some a→w.cell? ⟨x.2,0,none⟩=some (.int .i64 a)∧w.frozen? ⟨x.2,0,none⟩=false∧x.2∈F
theorem AtsAt.nil (w:World) (F:List Nat):AtsAt w F [] []:=⟨rfl,fun i x a h=>by simp at h⟩
theorem AtsAt.append {w:World} {F:List Nat} {L L':List (Nat×Nat)} {A A':List Int} (h:AtsAt w F L A) (h':AtsAt w F L' A'):AtsAt w F (L++L') (A++A'):=by
 refine ⟨by simp [h.len,h'.len],fun i x a hx ha=>?_⟩
 by_cases hi:i < L.length
 ·rw [List.getElem?_append_left hi] at hx
  rw [List.getElem?_append_left (by rw [←h.len];exact hi)] at ha
  exact h.at_ i x a hx ha
 ·rw [List.getElem?_append_right (by omega)] at hx
  rw [List.getElem?_append_right (by rw [←h.len];omega),←h.len] at ha
  exact h'.at_ _ x a hx ha
theorem AtsAt.mono {w:World} {F F':List Nat} {L:List (Nat×Nat)} {A:List Int} (h:AtsAt w F L A) (hF:∀k∈F,k∈F'):AtsAt w F' L A:=⟨h.len,fun i x a hx ha=>by obtain ⟨q1,q2,q3⟩:=h.at_ i x a hx ha;exact ⟨q1,q2,hF _ q3⟩⟩
structure HandN (g:Nat) (lb:Array Value) (S:List (Nat×Nat)→World→Prop) (G:Nat→Prop) (w0:World):Prop where
 eg:∀args w,(callFunc g args).run Tryz.prog w= .ok (.enter g args) w
 call:∀done x w,done.length < 16777216→S done w→Calls Tryz.prog g (#[pv x]++lb) w fun e w'=>e= .returned (.tuple #[])∧S (done++[x]) w'
 below:∀done w w',S done w→Below w.heap.size w w'→S done w'
 keep:∀done w,S done w→Keep G w0 w
def EachCtr (h g:Nat) (lb:Array Value) (S:List (Nat×Nat)→World→Prop) (G:Nat→Prop) (w0:World):Prop:=
 ∀(F:List Nat) (v:Value) (n:Nd h) (done:List (Nat×Nat)) (w:World),NdAt w0 F v n→(∀k∈F,¬G k)→Kw n→n.size≤100→done.length+cntN n≤16777216→S done w→
  Calls Tryz.prog 251 #[v,.func (.func g) #[] lb] w fun x w'=>x= .returned (.tuple #[])∧∃L,S (done++L) w'∧AtsAt w0 F L (ats n)
set_option maxHeartbeats 4000000 in
set_option maxRecDepth 100000 in
theorem each_leaf (g:Nat) (lb:Array Value) (S:List (Nat×Nat)→World→Prop) (G:Nat→Prop) (w0:World) (H:HandN g lb S G w0):EachCtr 0 g lb S G w0:=by
 intro F v n done w hn hG hk hs hN hS
 obtain ⟨b,q,c,rfl,rfl,hl⟩:=leaf_open hn
 have eg:=H.eg
 have HCL:=Lib.hid (H.call done (0,b) w (by have:cntN n=1:=rfl;omega) hS)
 have HAT:Hid (AtsAt w0 [b,q] [(0,b)] (ats n)):=by
  refine ⟨rfl,fun i x a hx ha=>?_⟩
  match i,hx,ha with
  |0,hx,ha=>
   simp at hx
   subst hx
   have ha':n.at_=a:=by have:[n.at_][0]? =some a:=ha;simpa using this
   rw [←ha']
   exact ⟨hl.1.cell 0,hl.1.fz 0,by simp⟩
  |i+1,hx,_=>simp at hx
 have htb:=ta_li
 clear hl hn hG hk hs hN hS H
 show Calls Tryz.prog 251 #[.iface 348 (.pointer (some ⟨b,0,none⟩)),.func (.func g) #[] lb] w _
 have HCL2:Hid (Calls Tryz.prog g (#[.iface 348 (.pointer (some ⟨b,0,none⟩))]++lb) w fun e w'=>e= .returned (.tuple #[])∧S (done++[(0,b)]) w'):=HCL.out
 go_enter Tryz.func251,Tryz.ntmps251
 go_wp2_with fail
 refine HCL2.out.mono ?_
 rintro e w5 ⟨rfl,hs5⟩
 have HS5:=Lib.hid hs5
 clear hs5
 go_wp2_with fail
 go_end0
 exact ⟨rfl,_,HS5.out,HAT.out⟩
set_option maxHeartbeats 4000000 in
set_option maxRecDepth 100000 in
theorem each_inner (h g:Nat) (lb:Array Value) (S:List (Nat×Nat)→World→Prop) (G:Nat→Prop) (w0:World) (H:HandN g lb S G w0) (IH:EachCtr h g lb S G w0):EachCtr (h+1) g lb S G w0:=by
 intro F v n done w hn hG hk hs hN hS
 obtain ⟨b,q,c,ds,rfl,rfl,hin,ek⟩:=inner_open hn
 have eg:=H.eg
 have HH:=Lib.hid H
 have HL:Hid (∀done wq,S done wq→InAt wq b q c n.at_ ds):=fun done wq h=>⟨hin.1.keep (H.keep done wq h) (hG b (by simp)),hin.2.1.keep (H.keep done wq h) (hG q (by simp)),kids_keep (H.keep done wq h) hin.2.2 (fun k hk=>hG k (by simp [hk]))⟩
 have hlen:n.ks.length=ds.length:=by rw [ek,List.length_map]
 have hs':ds.length≤100:=by have:n.ks.length≤100:=hs;omega
 have hats:ats n=n.ks.flatMap ats++[n.at_]:=rfl
 obtain ⟨m,hm⟩:∃m,ds.length=m:=⟨_,rfl⟩
 have hsum:∀j d,ds[j]? =some d→done.length+(((ds.take j).flatMap fun d=>ats d.2.2).length)+cntN d.2.2+1≤16777216:=by
  intro j d hd
  obtain ⟨e,hl⟩:=list_at hd
  have h1:=ats_len n
  rw [hats,ek,e] at h1
  simp only [List.map_append,List.map_cons,List.map_nil,List.flatMap_append,List.flatMap_cons,List.flatMap_nil,List.length_append,List.append_nil,List.length_cons,List.length_nil] at h1
  have h2:=ats_len d.2.2
  have h3:((ds.take j).flatMap fun d=>ats d.2.2).length=(((ds.take j).map fun d=>d.2.2).flatMap ats).length:=by rw [List.flatMap_map]
  omega
 have HKD:Hid (∀j,j < m→∃(d:Kd h) (kb:Nat),ds[j]? =some d∧(∀done wq,S done wq→wq.cell? ⟨q,j,none⟩=some (.iface (ndT h) (.pointer (some ⟨kb,0,none⟩))))∧∀(L:List (Nat×Nat)) wq,L.length=((ds.take j).flatMap fun d=>ats d.2.2).length→S (done++L) wq→Calls Tryz.prog 251 #[.iface (ndT h) (.pointer (some ⟨kb,0,none⟩)),.func (.func g) #[] lb] wq fun x w'=>x= .returned (.tuple #[])∧∃L',S (done++L++L') w'∧AtsAt w0 (b::q::dsF ds) L' (ats d.2.2)):=by
  intro j hj
  have hjl:j < ds.length:=by omega
  have hd:=List.getElem?_eq_getElem hjl
  have hmem:=List.getElem_mem hjl
  obtain ⟨kb,kF,f1,f2⟩:=(hin.2.2 _ hmem).form
  have hkw:Wf (ds[j]'hjl).2.2:=hk.mem (by rw [ek];exact List.mem_map.2 ⟨_,hmem,rfl⟩)
  refine ⟨ds[j]'hjl,kb,hd,fun done wq h=>?_,fun L wq hLL h=>?_⟩
  ·rw [←f2]
   exact (HL.out _ _ h).2.1.cell (by rw [List.getElem?_map,hd];rfl)
  ·rw [←f2]
   have:=hsum j _ hd
   refine (IH _ _ _ (done++L) wq (hin.2.2 _ hmem) (fun k hk=>hG k (List.mem_cons_of_mem _ (List.mem_cons_of_mem _ (mem_dsF hmem hk)))) hkw.2 (by have:=hkw.1;omega) (by rw [List.length_append];omega) h).mono ?_
   rintro x w' ⟨rfl,L',l1,l2⟩
   exact ⟨rfl,L',l1,l2.mono (fun k hk=>List.mem_cons_of_mem _ (List.mem_cons_of_mem _ (mem_dsF hmem hk)))⟩
 have HFL:Hid (∀j d,ds[j]? =some d→(ds.take (j+1)).flatMap (fun d=>ats d.2.2)=(ds.take j).flatMap (fun d=>ats d.2.2)++ats d.2.2):=fun j d hd=>list_take_flat _ _ _ _ hd
 have HFIN:Hid (∀L wq,S (done++L) wq→AtsAt w0 (b::q::dsF ds) L (ds.flatMap fun d=>ats d.2.2)→Calls Tryz.prog g (#[.iface 297 (.pointer (some ⟨b,0,none⟩))]++lb) wq fun e w'=>e= .returned (.tuple #[])∧∃L,S (done++L) w'∧AtsAt w0 (b::q::dsF ds) L (ats n)):=by
  intro L wq hS2 hA
  have hlt:(done++L).length < 16777216:=by
   have h1:=ats_len n
   rw [hats,ek,List.flatMap_map] at h1
   simp only [List.length_append,List.length_cons,List.length_nil] at h1
   rw [List.length_append,hA.len]
   omega
  refine (H.call (done++L) (h+1,b) wq hlt hS2).mono ?_
  rintro e w' ⟨rfl,hs5⟩
  refine ⟨rfl,L++[(h+1,b)],by rw [←List.append_assoc];exact hs5,?_⟩
  rw [hats,ek,List.flatMap_map]
  refine hA.append ⟨rfl,fun i x a hx ha=>?_⟩
  match i,hx,ha with
  |0,hx,ha=>
   simp at hx ha
   subst hx ha
   exact ⟨hin.1.cell 0,hin.1.fz 0,by simp⟩
  |i+1,hx,_=>simp at hx
 have c1:w.cell? ⟨b,1,none⟩=some (.slice (some ⟨q,0,none⟩) m c):=by have:=(HL.out done w hS).1.cell 1;rw [hm] at this;exact this
 have HS0:=Lib.hid hS
 have HMM:=Lib.hid hm
 have hta:=ta_ii
 have hmi:(m:Int)≤100:=by omega
 clear hsum hats hs' hlen ek hin hn hG hk hs hN hS H IH hm
 show Calls Tryz.prog 251 #[.iface 297 (.pointer (some ⟨b,0,none⟩)),.func (.func g) #[] lb] w _
 go_enter Tryz.func251,Tryz.ntmps251
 go_wp2_with fail
 go_loopw [7,19] (fun s7 i wr=>∃(j:Nat) (L:List (Nat×Nat)),j≤m∧i= .int .i64 j∧Hid (S (done++L) wr)∧Hid (AtsAt w0 (b::q::dsF ds) L ((ds.take j).flatMap fun d=>ats d.2.2))) (fun _ i _=>m - (intOf i).toNat)
 case atStart=>exact ⟨0,[],Nat.zero_le _,rfl,by show S _ _;simpa using HS0.out,by show AtsAt _ _ _ _;simpa using AtsAt.nil _ _⟩
 case round=>
  obtain ⟨j,L,hj,rfl,HS,HA⟩:=hrel
  by_cases hlt:j < m
  ·have hji:(j:Int) < (m:Int):=by omega
   obtain ⟨d,kb,d1,d2,d3⟩:=HKD.out j hlt
   have c2:=d2 _ _ HS.out
   have HCL:=Lib.hid (d3 L wr HA.out.len HS.out)
   have HT:=Lib.hid (HFL.out j d d1)
   clear d1 d2 d3
   go_wp2_with fail
   with_reducible refine (HCL.out).mono ?_
   rintro e w5 ⟨rfl,L',l1,l2⟩
   have HS5:Hid (S (done++(L++L')) w5):=by show S _ _;rw [←List.append_assoc];exact l1
   have HA5:Hid (AtsAt w0 (b::q::dsF ds) (L++L') ((ds.take (j+1)).flatMap fun d=>ats d.2.2)):=by show AtsAt _ _ _ _;rw [HT.out];exact HA.out.append l2
   clear l1 l2
   go_wp2_with fail
   go_roundw
   case rel=>exact ⟨j+1,L++L',by omega,by go_num,HS5,HA5⟩
   case measure=>simp [intOf];omega
  ·obtain rfl:j=m:=by omega
   have hfull:ds.take j=ds:=by rw [←HMM.out];exact List.take_length
   rw [hfull] at HA
   have HCF:=Lib.hid (HFIN.out L wr HS.out HA.out)
   go_wp2_with fail
   refine HCF.out.mono ?_
   rintro e w5 ⟨rfl,L',l1,l2⟩
   have HS5:=Lib.hid l1
   have HA5:=Lib.hid l2
   clear l1 l2
   go_wp2_with fail
   go_end0
   exact ⟨rfl,_,HS5.out,HA5.out⟩
theorem each_any (g:Nat) (lb:Array Value) (S:List (Nat×Nat)→World→Prop) (G:Nat→Prop) (w0:World) (H:HandN g lb S G w0):∀h,EachCtr h g lb S G w0
 |0=>each_leaf g lb S G w0 H
 |h+1=>each_inner h g lb S G w0 H (each_any g lb S G w0 H h)
def NodS (w:World) (B po:Nat) (done:List (Nat×Nat)) (wq:World):Prop:=
 Keep (fun _=>False) w wq∧B≤wq.heap.size∧po < B∧w.heap.size≤po∧∃v,Whole wq po 291 #[v]∧wq.ownsRow B 226 1 v done.length (done.map pv)
theorem NodS.below {w:World} {B po:Nat} {done:List (Nat×Nat)} {wq w':World} (h:NodS w B po done wq) (hb:Below wq.heap.size wq w'):NodS w B po done w':=by
 obtain ⟨h1,h2,h3,h4,v,h6,h7⟩:=h
 exact ⟨h1.transBelow hb,Nat.le_trans h2 hb.size,h3,h4,v,h6.below hb h6.lt,own_below h7 hb⟩
set_option maxHeartbeats 4000000 in
set_option maxRecDepth 100000 in
theorem nod1_any (w:World) (B po:Nat) (done:List (Nat×Nat)) (x:Nat×Nat) (wq:World) (hd:done.length < 16777216) (h:NodS w B po done wq):
  Calls Tryz.prog 252 (#[pv x]++#[.pointer (some ⟨po,0,none⟩)]) wq fun e w'=>e= .returned (.tuple #[])∧NodS w B po (done++[x]) w':=by
 obtain ⟨hh,bb⟩:=x
 obtain ⟨a1,a2,a3,a4,v,a6,a7⟩:=h
 obtain ⟨A,c,rfl⟩:=own_slice a7
 have co:=a6.cell 0
 simp at co
 obtain ⟨i0,hi0,hz0,hz1,hz2⟩:=info_parts infoN
 have HI0:=Lib.hid hi0
 have HZ0:=Lib.hid hz0
 have HZ1:=Lib.hid hz1
 have HZ2:=Lib.hid hz2
 obtain ⟨n,hn⟩:∃n,done.length=n:=⟨_,rfl⟩
 rw [hn] at a7 hd co a6
 obtain ⟨V,hV⟩:∃V:List Value,done.map pv=V:=⟨_,rfl⟩
 rw [hV] at a7
 have HOA:=Lib.hid (a7.alloc (.cells #[.iface (ndT hh) (.pointer (some ⟨bb,0,none⟩))] 226))
 have HNW:Hid (∀(j':Nat) (u:Value),([.iface (ndT hh) (.pointer (some ⟨bb,0,none⟩))]:List Value)[j']? =some u→(wq.alloc (.cells #[.iface (ndT hh) (.pointer (some ⟨bb,0,none⟩))] 226)).cell? ((⟨wq.heap.size,0,none⟩:Addr).add j')=some u):=cell_one_new' _ _ _
 have hone:∀u∈([.iface (ndT hh) (.pointer (some ⟨bb,0,none⟩))]:List Value),u.oneCell'=true:=by simp [Value.oneCell']
 have HONE:=Lib.hid hone
 have HSZ2:Hid (B≤(wq.alloc (.cells #[.iface (ndT hh) (.pointer (some ⟨bb,0,none⟩))] 226)).heap.size):=by show _≤_;simp only [World.size_alloc];omega
 have HEND:Hid (∀v' w6,w6.ownsRow B 226 1 v' (n+1) (V++[.iface (ndT hh) (.pointer (some ⟨bb,0,none⟩))])→(wq.alloc (.cells #[.iface (ndT hh) (.pointer (some ⟨bb,0,none⟩))] 226)).grownBy w6 (Value.slice A n c).ownBlock→(w6.cell? ⟨po,0,none⟩=some (.slice A n c)∧w6.frozen? ⟨po,0,none⟩=false)∧NodS w B po (done++[(hh,bb)]) (w6.setCell ⟨po,0,none⟩ v')):=by
  intro v' w6 q1 q2
  have hrow:∀j,(Value.slice A n c).ownBlock=some j→B≤j:=fun j hj=>(a7.lt j hj).1
  have b6:=(a6.alloc (.cells #[.iface (ndT hh) (.pointer (some ⟨bb,0,none⟩))] 226)).grown q2 (fun e=>by have:=hrow po e.symm;omega)
  have hK6:Keep (fun _=>False) w w6:=by
   have h0:Keep (fun _=>False) w (wq.alloc (.cells #[.iface (ndT hh) (.pointer (some ⟨bb,0,none⟩))] 226)):=a1.alloc _
   exact h0.grown q2 (fun j hj=>.inr (by have:=hrow j hj;omega))
  refine ⟨⟨b6.cell 0,b6.fz 0⟩,?_⟩
  have hkS:Keep (fun j=>j=po) w6 (w6.setCell ⟨po,0,none⟩ v'):=Keep.set1 w6 po 0 v'
  have hs6:=q2.size
  simp only [World.size_alloc] at hs6
  have hv6:∀j,v'.ownBlock=some j→¬(j=po):=fun j hj e=>by have:=(q1.lt j hj).1;omega
  refine ⟨hK6.setCell (p:=⟨po,0,none⟩) (.inr a4) _,by rw [size_set];omega,a3,a4,v',?_,?_⟩
  ·have:=b6.set 0 v'
   simpa using this
  ·rw [List.map_append,List.length_append,hn,hV]
   exact own_keep q1 hkS hv6
 clear hone hn hi0 hz0 hz1 hz2 a1 a2 a3 a4 a6 a7 hV
 show Calls Tryz.prog 252 #[.iface (ndT hh) (.pointer (some ⟨bb,0,none⟩)),.pointer (some ⟨po,0,none⟩)] wq _
 go_enter Tryz.func252,Tryz.ntmps252
 go_wp2_with (at_builtin;go_must (refine wpList_append_own _ rfl (.tmp 3) (.tmp 5) 291 rfl B 226 i0 _ 1 16 Tryz.underlying291 HI0.out HZ0.out HZ1.out HZ2.out rfl (by omega) (.slice A n c) n V rfl HOA.out ⟨wq.heap.size,0,none⟩ 1 1 [.iface (ndT hh) (.pointer (some ⟨bb,0,none⟩))] rfl rfl HNW.out HONE.out (by simp only [maxLen];omega) (by omega) HSZ2.out ?_;intro v2 w6 hown6 hg6 _;obtain ⟨⟨z0,z1⟩,hfin⟩:=HEND.out v2 w6 hown6 hg6;have HFIN:=Lib.hid hfin;obtain ⟨A2,c2,e2⟩:=own_slice hown6;subst e2;clear hown6 hg6 hfin))
 go_end0
 exact ⟨rfl,HFIN.out⟩
theorem nod_hand (w:World) (B po:Nat):HandN 252 #[.pointer (some ⟨po,0,none⟩)] (NodS w B po) (fun _=>False) w where
 eg:=fun _ _=>by kernel_rfl
 call:=fun done x wq hd h=>nod1_any w B po done x wq hd h
 below:=fun done wq w' h hb=>h.below hb
 keep:=fun done wq h=>h.1
def Tree.ats:Tree→List Int
 |.no=>[]
 |.top _ n=>tr.ats n
def NodesRet (w:World) (F:List Nat) (A:List Int) (x:Ending) (w':World):Prop:=∃v' L,x= .returned v'∧w'.ownsRow w.heap.size 226 1 v' L.length (L.map pv)∧AtsAt w F L A∧Below w.heap.size w w'
set_option maxHeartbeats 4000000 in
set_option maxRecDepth 100000 in
theorem nodes_any (w:World) (F:List Nat) (p:Nat) (T:Tree) (ht:TrAt w F p T) (hok:T.Ok) (hN:T.cnt≤16777216):
  Calls Tryz.prog 203 #[.pointer (some ⟨p,0,none⟩)] w (NodesRet w F T.ats):=by
 obtain ⟨w3,hw3⟩:∃w3,w.alloc (.cells #[.slice none 0 0] 291)=w3:=⟨_,rfl⟩
 have k3:Keep (fun _=>False) w w3:=by rw [←hw3];exact (Keep.refl _ _).alloc _
 have hs3:w3.heap.size=w.heap.size+1:=by rw [←hw3];simp
 have b3:Whole w3 w.heap.size 291 #[.slice none 0 0]:=by rw [←hw3];exact Whole.new _ _ _
 have hNS:NodS w (w.heap.size+1) w.heap.size [] w3:=⟨k3,by omega,by omega,by omega,_,b3,⟨rfl,.inl ⟨rfl,rfl⟩⟩⟩
 cases T with
 |no=>
  have c0:=(ht.2.keep k3 (fun h=>h)).cell 0
  simp at c0
  have c1:=b3.cell 0
  simp at c1
  have HB:Hid (Below w.heap.size w w3):=⟨k3.os,k3.tape,k3.output,k3.size,fun j hj=>k3.block j hj (fun h=>h)⟩
  clear hNS b3 hs3 k3 ht hok hN
  go_enter Tryz.func203,Tryz.ntmps203
  go_wp2_with fail
  go_ret
  exact ⟨_,[],rfl,⟨rfl,.inl ⟨rfl,rfl⟩⟩,AtsAt.nil _ _,HB.out⟩
 |top h n=>
  obtain ⟨F',v,rfl,hp,hn,hpn⟩:=ht
  obtain ⟨q1,q2,q3,q4⟩:=hok.parts
  obtain ⟨kb,kF,f1,f2⟩:=hn.at_.form
  have c0:=(hp.keep k3 (fun h=>h)).cell 0
  rw [f2] at c0
  simp at c0
  have hE:=each_any _ _ _ _ w (nod_hand w (w.heap.size+1) w.heap.size) h F' v n [] w3 hn.at_ (fun _ _ h=>h) q1 (by omega) (by have h0:cntN n≤16777216:=hN;simpa using h0) hNS
  rw [f2] at hE
  have HE:Hid (Calls Tryz.prog 251 #[.iface (ndT h) (.pointer (some ⟨kb,0,none⟩)),.func (.func 252) #[] #[.pointer (some ⟨w.heap.size,0,none⟩)]] w3 fun x w'=>x= .returned (.tuple #[])∧∃A c m,w'.cell? ⟨w.heap.size,0,none⟩=some (.slice A m c)∧NodesRet w (p::F') (ats n) (.returned (.slice A m c)) w'):=by
   refine hE.mono ?_
   rintro x w' ⟨rfl,L,⟨r1,r2,r3,r4,v,r9,r10⟩,hA⟩
   simp only [List.nil_append] at r10
   obtain ⟨A,c,rfl⟩:=own_slice r10
   exact ⟨rfl,A,c,_,r9.cell 0,_,L,rfl,own_base r10 (by omega),hA.mono (fun k hk=>List.mem_cons_of_mem _ hk),⟨r1.os,r1.tape,r1.output,r1.size,fun j hj=>r1.block j hj (fun h=>h)⟩⟩
  have HR:Hid (Tree.ats (.top h n)=ats n):=rfl
  rw [HR.out]
  obtain ⟨AA,hAA⟩:∃AA,ats n=AA:=⟨_,rfl⟩
  rw [hAA] at HE ⊢
  clear hAA hE f1 f2 q1 q2 q3 q4 hn hp hpn hNS b3 hs3 k3 hok hN HR
  go_enter Tryz.func203,Tryz.ntmps203
  go_wp2_with fail
  with_reducible refine HE.out.mono ?_
  rintro e w5 ⟨rfl,A,c,m,z1,z2⟩
  have HZ2:=Lib.hid z2
  clear z2
  go_wp2_with fail
  go_ret
  exact HZ2.out
theorem tats_len (T:Tree):T.ats.length=T.cnt:=by
 cases T with
 |no=>rfl
 |top h n=>exact ats_len n
end Go.Proofs.YtfialjmemcobjaaGreatDoor.tr
