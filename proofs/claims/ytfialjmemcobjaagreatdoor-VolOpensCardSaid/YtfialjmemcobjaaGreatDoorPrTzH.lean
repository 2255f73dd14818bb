/- A part of the proof. -/
import Derived.Test.YtfialjmemcobjaaGreatDoorPrTyMb
import Derived.Test.YtfialjmemcobjaaGreatDoorPrTzMb
set_option linter.unusedVariables false
set_option linter.unusedSimpArgs false
namespace Go.Proofs.YtfialjmemcobjaaGreatDoor
namespace tr
open Go.RowKit er
theorem F7 {w':World} {F:List Nat} {v:Value} {l:List Ext} {B:Nat} (h:w'.ownsRow B 255 4 v l.length (Qz l)) (hF:∀k∈F,k < B):ListBy w' F v l:=
 ⟨⟨B,h⟩,fun g hg=>⟨fun hm=>by have:=(h.lt g hg).1;have:=hF g hm;omega,(h.lt g hg).2⟩⟩
theorem P5 {w w':World} {F:List Nat} {v:Value} {l:List Ext} (h:ListBy w F v l) (hb:Below w.heap.size w w'):ListBy w' F v l:=by
 obtain ⟨B,h1⟩:=h.own
 exact ⟨⟨B,own_below h1 hb⟩,fun g hg=>⟨(h.out g hg).1,Nat.lt_of_lt_of_le (h.out g hg).2 hb.size⟩⟩
def AllS (w:World) (B po:Nat) (done:List Ext) (wq:World):Prop:=
 Keep (fun _=>False) w wq∧B≤wq.heap.size∧po < B∧w.heap.size≤po∧∃v,Whole wq po 261 #[v]∧wq.ownsRow B 255 4 v done.length (Qz done)
theorem AllS.below {w:World} {B po:Nat} {done:List Ext} {wq w':World} (h:AllS w B po done wq) (hb:Below wq.heap.size wq w'):AllS w B po done w':=by
 obtain ⟨h1,h2,h3,h4,v,h6,h7⟩:=h
 exact ⟨h1.transBelow hb,Nat.le_trans h2 hb.size,h3,h4,v,h6.below hb h6.lt,own_below h7 hb⟩
set_option maxHeartbeats 4000000 in
set_option maxRecDepth 100000 in
theorem Qaa (w:World) (B po:Nat) (done:List Ext) (e:Ext) (wq:World) (hd:done.length < 16777216) (he:Qf e=true) (h:AllS w B po done wq):
  Calls Tryz.prog 227 (#[e.val]++#[.pointer (some ⟨po,0,none⟩)]) wq fun x w'=>x= .returned (.bool true)∧AllS w B po (done++[e]) w':=by
 obtain ⟨f,en,k,t⟩:=e
 have hbl:Below wq.heap.size wq (wq.alloc (.cells #[.int .i64 f,.int .i64 en,.int .i64 k,.int .i64 t] 255)):=(Below.refl _ _).alloc (Nat.le_refl _) _
 have hN1:=h.below hbl
 obtain ⟨a1,a2,a3,a4,v,a6,a7⟩:=hN1
 obtain ⟨A,c,rfl⟩:=Qk a7
 have co:=a6.cell 0
 simp at co
 obtain ⟨i0,hi0,hz0,hz1,hz2⟩:=info_parts Qjm
 have HI0:=Ql4 hi0
 have HZ0:=Ql4 hz0
 have HZ1:=Ql4 hz1
 have HZ2:=Ql4 hz2
 obtain ⟨n,hn⟩:∃n,done.length=n:=⟨_,rfl⟩
 rw [hn] at a7 hd co a6
 obtain ⟨w1,hw1⟩:∃w1,wq.alloc (.cells #[.int .i64 f,.int .i64 en,.int .i64 k,.int .i64 t] 255)=w1:=⟨_,rfl⟩
 rw [hw1] at a1 a2 a6 a7 co
 have hbox:Whole w1 wq.heap.size 255 #[.int .i64 f,.int .i64 en,.int .i64 k,.int .i64 t]:=by rw [←hw1];exact Whole.new _ _ _
 obtain ⟨⟨y0,y1,y2,y3⟩,_⟩:=Je hbox
 have HOA:=Ql4 (a7.alloc (.cells #[.int .i64 f,.int .i64 en,.int .i64 k,.int .i64 t] 255))
 have HNW:Hid (∀(j':Nat) (u:Value),([.int .i64 f,.int .i64 en,.int .i64 k,.int .i64 t]:List Value)[j']? =some u→((w1).alloc (.cells #[.int .i64 f,.int .i64 en,.int .i64 k,.int .i64 t] 255)).cell? ((⟨(w1).heap.size,0,none⟩:Addr).add j')=some u):=World.news_of_block (by simpa using heap_alloc_new (w1) (.cells #[.int .i64 f,.int .i64 en,.int .i64 k,.int .i64 t] 255))
 have hone:∀u∈([.int .i64 f,.int .i64 en,.int .i64 k,.int .i64 t]:List Value),u.oneCell'=true:=by simp [Value.oneCell']
 have HONE:=Ql4 hone
 have HSZ2:Hid (B≤((w1).alloc (.cells #[.int .i64 f,.int .i64 en,.int .i64 k,.int .i64 t] 255)).heap.size):=by show _≤_;simp only [World.size_alloc];omega
 have HEND:Hid (∀v' w6,w6.ownsRow B 255 4 v' (n+1) (Qz done++[.int .i64 f,.int .i64 en,.int .i64 k,.int .i64 t])→(w1.alloc (.cells #[.int .i64 f,.int .i64 en,.int .i64 k,.int .i64 t] 255)).grownBy w6 (Value.slice A n c).ownBlock→(w6.cell? ⟨po,0,none⟩=some (.slice A n c)∧w6.frozen? ⟨po,0,none⟩=false)∧AllS w B po (done++[⟨f,en,k,t⟩]) (w6.setCell ⟨po,0,none⟩ v')):=by
  intro v' w6 q1 q2
  have hrow:∀j,(Value.slice A n c).ownBlock=some j→B≤j:=fun j hj=>(a7.lt j hj).1
  have b6:=(a6.alloc (.cells #[.int .i64 f,.int .i64 en,.int .i64 k,.int .i64 t] 255)).grown q2 (fun e=>by have:=hrow po e.symm;omega)
  have hK6:Keep (fun _=>False) w w6:=by
   have h0:Keep (fun _=>False) w (w1.alloc (.cells #[.int .i64 f,.int .i64 en,.int .i64 k,.int .i64 t] 255)):=a1.alloc _
   exact h0.grown q2 (fun j hj=>.inr (by have:=hrow j hj;omega))
  refine ⟨⟨b6.cell 0,b6.fz 0⟩,?_⟩
  have hkS:Keep (fun j=>j=po) w6 (w6.setCell ⟨po,0,none⟩ v'):=Keep.set1 w6 po 0 v'
  have hs6:=q2.size
  simp only [World.size_alloc] at hs6
  have hv6:∀j,v'.ownBlock=some j→¬(j=po):=fun j hj e=>by have:=(q1.lt j hj).1;omega
  refine ⟨hK6.setCell (p:=⟨po,0,none⟩) (.inr a4) _,by rw [size_set];omega,a3,a4,v',?_,?_⟩
  ·have:=b6.set 0 v'
   simpa using this
  ·rw [Kr,List.length_append,hn]
   exact Qj q1 hkS hv6
 clear hone hn hbox hi0 hz0 hz1 hz2 a1 a2 a3 a4 a6 a7 hbl h he
 show Calls Tryz.prog 227 #[.agg #[.int .i64 f,.int .i64 en,.int .i64 k,.int .i64 t],.pointer (some ⟨po,0,none⟩)] wq _
 go_enter Tryz.func227,Tryz.ntmps227
 go_wp2_with (at_builtin;go_must (refine wpList_append_own _ rfl (.tmp 4) (.tmp 6) 261 rfl B 255 i0 _ 4 32 Tryz.underlying261 HI0.out HZ0.out HZ1.out HZ2.out rfl (by omega) (.slice A n c) n (Qz done) rfl HOA.out ⟨(w1).heap.size,0,none⟩ 1 1 [.int .i64 f,.int .i64 en,.int .i64 k,.int .i64 t] rfl rfl HNW.out HONE.out (by simp only [maxLen];omega) (by omega) HSZ2.out ?_;intro v2 w6 hown6 hg6 _;obtain ⟨⟨z0,z1⟩,hfin⟩:=HEND.out v2 w6 hown6 hg6;have HFIN:=Ql4 hfin;obtain ⟨A2,c2,e2⟩:=Qk hown6;subst e2;clear hown6 hg6 hfin))
 go_ret
 exact ⟨rfl,HFIN.out⟩
theorem Qao (w:World) (B po:Nat):Hand 227 #[.pointer (some ⟨po,0,none⟩)] (fun _=>true) (AllS w B po) (fun _=>False) w where
 eg:=fun _ _=>by kernel_rfl
 call:=fun done e wq hd he h=>Qaa w B po done e wq hd he h
 below:=fun done wq w' h hb=>h.below hb
 keep:=fun done wq h=>h.1
set_option maxHeartbeats 4000000 in
set_option maxRecDepth 100000 in
theorem Qqz (w:World) (F:List Nat) (p:Nat) (T:Tree) (ht:TrAt w F p T) (hok:T.Ok) (hc:T.Gd (-1)) (hlen:T.flat.length≤16777216) (hpa:Qg T.flat (-1)=T.flat):
  Calls Tryz.prog 165 #[.pointer (some ⟨p,0,none⟩)] w fun x w'=>∃v',x= .returned v'∧w'.ownsRow w.heap.size 255 4 v' T.flat.length (Qz T.flat)∧Below w.heap.size w w':=by
 obtain ⟨w3,hw3⟩:∃w3,w.alloc (.cells #[.slice none 0 0] 261)=w3:=⟨_,rfl⟩
 have k3:Keep (fun _=>False) w w3:=by rw [←hw3];exact (Keep.refl _ _).alloc _
 have hs3:w3.heap.size=w.heap.size+1:=by rw [←hw3];simp
 have b3:Whole w3 w.heap.size 261 #[.slice none 0 0]:=by rw [←hw3];exact Whole.new _ _ _
 have hN:AllS w (w.heap.size+1) w.heap.size [] w3:=⟨k3,by omega,by omega,by omega,_,b3,⟨rfl,.inl ⟨rfl,rfl⟩⟩⟩
 have hW:=L6 _ _ _ _ _ w (Qao w (w.heap.size+1) w.heap.size) F p T (-1) w3 ht (fun _ _ h=>h) hok hc hlen hN
 rw [hpa,Yi (List.all_eq_true.2 (fun _ _=>rfl))] at hW
 have HW:Hid (Calls Tryz.prog 208 #[.pointer (some ⟨p,0,none⟩),.int .i64 (-1),.func (.func 227) #[] #[.pointer (some ⟨w.heap.size,0,none⟩)]] w3 fun x w'=>x= .returned (.tuple #[])∧∃A c,w'.cell? ⟨w.heap.size,0,none⟩=some (.slice A T.flat.length c)∧w'.ownsRow w.heap.size 255 4 (.slice A T.flat.length c) T.flat.length (Qz T.flat)∧Below w.heap.size w w'):=by
  refine hW.mono ?_
  rintro x w' ⟨rfl,q1,q2,q3,q4,v,q9,q10⟩
  obtain ⟨A,c,rfl⟩:=Qk q10
  exact ⟨rfl,A,c,q9.cell 0,Qs q10 (by omega),⟨q1.os,q1.tape,q1.output,q1.size,fun j hj=>q1.block j hj (fun h=>h)⟩⟩
 obtain ⟨NL,hNL⟩:∃NL,T.flat=NL:=⟨_,rfl⟩
 rw [hNL] at HW ⊢
 clear hNL hW hN b3 k3 hs3 ht hok hc hlen hpa
 go_enter Tryz.func165,Tryz.ntmps165
 go_wp2_with fail
 with_reducible refine HW.out.mono ?_
 rintro e w5 ⟨rfl,A,c,z1,z2,z3⟩
 have HZ2:=Ql4 z2
 have HZ3:=Ql4 z3
 clear z2 z3
 go_wp2_with fail
 go_ret
 exact ⟨_,rfl,HZ2.out,HZ3.out⟩
theorem Rw (w:World) (F:List Nat) (p:Nat) (T:Tree) (ht:TrAt w F p T) (hok:T.Ok) (hc:Chk T.flat):
  Calls Tryz.prog 165 #[.pointer (some ⟨p,0,none⟩)] w fun x w'=>∃v',x= .returned v'∧w'.ownsRow w.heap.size 255 4 v' T.flat.length (Qz T.flat)∧Below w.heap.size w w':=
 Qqz w F p T ht hok (by cases T with|no=>trivial|top h n=>exact Qkz _ n hok.parts.1 hc) (U4 hc) (Qom hc)
theorem Qai (w:World) (F:List Nat) (p:Nat) (T:Tree) (ht:TrAt w F p T) (hok:T.Ok) (ho:∀e∈T.flat,Qf e=true) (hlen:T.flat.length≤16777216):
  Calls Tryz.prog 165 #[.pointer (some ⟨p,0,none⟩)] w fun x w'=>∃v',x= .returned v'∧w'.ownsRow w.heap.size 255 4 v' T.flat.length (Qz T.flat)∧Below w.heap.size w w':=by
 refine Qqz w F p T ht hok ?_ hlen ?_
 ·cases T with
  |no=>trivial
  |top h n=>exact (Qip n ho hok.parts.1).1
 ·unfold Qg
  rw [List.filter_eq_self]
  intro e he
  have h1:=Qy (ho e he)
  have h2:e.end_=e.fr+e.n:=rfl
  simp
  omega
def Jz (l:List Ext):Int:=(l.map fun e=>e.n).sum
theorem Qk9:∀(l:List Ext) (a:Int),Chk l→0≤a→a≤16777216→(∀e∈l,a≤e.fr)→0≤Jz l∧Jz l≤16777216 - a
 |[],a,_,h0,h1,_=>by simp [Jz];omega
 |e::l,a,hc,h0,h1,hl=>by
  have ho:=Qy (hc.one e (by simp))
  have hp:=List.pairwise_cons.1 hc.ord
  have he:e.end_=e.fr+e.n:=rfl
  have:=Qk9 l e.end_ hc.tail (by omega) (by omega) (fun x hx=>(hp.1 x hx).1)
  have:=hl e (by simp)
  simp only [Jz,List.map_cons,List.sum_cons] at *
  omega
theorem Po {l:List Ext} (h:Chk l):0≤Jz l∧Jz l≤16777216:=by
 have:=Qk9 l 0 h (by omega) (by omega) (fun e he=>(Qy (h.one e he)).1)
 omega
theorem Qg2 {l:List Ext} {j:Nat} {e:Ext} (h:l[j]? =some e):Jz (l.take (j+1))=Jz (l.take j)+e.n:=by
 obtain ⟨hj,rfl⟩:=List.getElem?_eq_some_iff.1 h
 rw [List.take_succ_eq_append_getElem hj]
 unfold Jz
 rw [List.map_append,List.sum_append]
 simp only [List.map_cons,List.map_nil,List.sum_cons,List.sum_nil,Int.add_zero]
set_option maxHeartbeats 4000000 in
set_option maxRecDepth 100000 in
theorem X5 (l:List Ext) (v:Value) (w:World) (h:ExtsAt w v l) (hc:Chk l):Calls Tryz.prog 178 #[v] w fun x w'=>x= .returned (.int .i64 (Jz l))∧Below w.heap.size w w':=by
 have HCK:Hid (Calls Tryz.prog 197 #[v] w fun x w'=>x= .returned (.bool true)∧Below w.heap.size w w'):=by have:=Xd l v w h (by have:=U4 hc;omega);rw [Oa _ hc] at this;exact this
 have hlen:=U4 hc
 obtain ⟨A,c,rfl,hcc⟩:=h
 have HC:=Ql4 hcc
 obtain ⟨n,hn⟩:∃n,l.length=n:=⟨_,rfl⟩
 have HN:=Ql4 hn
 rw [hn] at HCK hlen
 rw [hn]
 have HSUM:Hid (∀j,0≤Jz (l.take j)∧Jz (l.take j)≤16777216):=fun j=>Po (Qgv hc j)
 have HOE:=Ql4 hc.one
 clear hcc hn hc
 go_enter Tryz.func178,Tryz.ntmps178
 go_wp2_with fail
 with_reducible refine HCK.out.mono ?_
 rintro e w1 ⟨rfl,hb1⟩
 have HB1:=Ql4 hb1
 clear hb1
 go_wp2_with fail
 go_loopw [3,5,11] (fun s3 s5 i wr=>∃(j:Nat),j≤n∧i= .int .i64 j∧s3= .int .i64 (Jz (l.take j))∧Hid (Below w.heap.size w wr)) (fun _ _ i _=>n - (intOf i).toNat)
 case atStart=>exact ⟨0,Nat.zero_le _,rfl,rfl,HB1.out⟩
 case round=>
  obtain ⟨j,hj,rfl,rfl,HB⟩:=hrel
  by_cases hlt:j < n
  ·have hji:(j:Int) < (n:Int):=by omega
   have hln:=HN.out
   obtain ⟨g,o,rfl,hcc⟩:=HC.out (by omega)
   obtain ⟨x,hx'⟩:∃x,l[j]? =some x:=⟨l[j]'(by omega),List.getElem?_eq_getElem (by omega)⟩
   obtain ⟨c0,c1,c2,c3⟩:=(hcc j x hx').below HB.out
   have HST:=Ql4 (Qg2 hx')
   obtain ⟨b1,b2⟩:=HSUM.out j
   obtain ⟨b3,b4⟩:=HSUM.out (j+1)
   rw [HST.out] at b3 b4
   obtain ⟨SJ,hSJ⟩:∃SJ,Jz (l.take j)=SJ:=⟨_,rfl⟩
   rw [hSJ] at HST b1 b2 b3 b4
   rw [hSJ]
   obtain ⟨f,en,k,t⟩:=x
   simp only at c0 c1 c2 c3 HST b3 b4
   have HA0:Hid (Below wr.heap.size wr (wr.alloc (.cells #[.int .i64 f,.int .i64 en,.int .i64 k,.int .i64 t] 255))):=(Below.refl _ _).alloc (Nat.le_refl _) _
   clear hcc hx' hln hSJ
   go_wp2_with fail
   go_roundw
   case rel=>exact ⟨j+1,by omega,by go_num,by rw [HST.out],HB.out.trans (HA0.out.mono HB.out.size)⟩
   case measure=>simp [intOf];omega
  ·obtain rfl:j=n:=by omega
   have hfull:l.take j=l:=by rw [←HN.out];exact List.take_length
   rw [hfull]
   go_wp2_with fail
   go_ret
   exact ⟨rfl,HB.out⟩
set_option maxHeartbeats 4000000 in
set_option maxRecDepth 100000 in
theorem Ct (w:World) (F:List Nat) (p:Nat) (T:Tree) (ht:TrAt w F p T) (hok:T.Ok) (hc:Chk T.flat):
  Calls Tryz.prog 107 #[.pointer (some ⟨p,0,none⟩)] w fun x w'=>x= .returned (.int .i64 (Jz T.flat))∧Below w.heap.size w w':=by
 have HA:=Ql4 (Rw w F p T ht hok hc)
 have HC:Hid (∀wq v,ExtsAt wq v T.flat→Calls Tryz.prog 178 #[v] wq fun x w'=>x= .returned (.int .i64 (Jz T.flat))∧Below wq.heap.size wq w'):=fun wq v h=>X5 _ v wq h hc
 obtain ⟨L,hL⟩:∃L,T.flat=L:=⟨_,rfl⟩
 rw [hL] at HA HC ⊢
 clear ht hok hc hL
 go_enter Tryz.func107,Tryz.ntmps107
 go_wp2_with fail
 with_reducible refine HA.out.mono ?_
 rintro e w5 ⟨v',rfl,z2,z3⟩
 have HX:=Ql4 (ExtsAt.own z2).1
 have HB:=Ql4 z3
 clear z2 z3
 go_wp2_with fail
 with_reducible refine (HC.out _ _ HX.out).mono ?_
 rintro e w6 ⟨rfl,hb6⟩
 have HB6:=Ql4 (Qa HB.out hb6)
 clear hb6
 go_wp2_with fail
 go_ret
 exact ⟨rfl,HB6.out⟩
def ats:{h:Nat}→Nd h→List Int
 |0,n=>[n.at_]
 |_+1,n=>n.ks.flatMap ats++[n.at_]
theorem Zf:∀{h:Nat} (n:Nd h),(ats n).length=Zc n
 |0,n=>rfl
 |h+1,n=>by
  have:(n.ks.flatMap ats).length=(n.ks.map Zc).sum:=by
   rw [List.length_flatMap]
   congr 1
   exact List.map_congr_left (fun k _=>Zf k)
  show (n.ks.flatMap ats++[n.at_]).length=1+(n.ks.map Zc).sum
  rw [List.length_append,this]
  simp;omega
def pv (x:Nat×Nat):Value:=Zl x.1 x.2
structure AtsAt (w:World) (F:List Nat) (L:List (Nat×Nat)) (A:List Int):Prop where
 len:L.length=A.length
 at_:∀(i:Nat) (x:Nat×Nat) (a:Int),L[i]? =some x→A[i]? =some a→w.cell? ⟨x.2,0,none⟩=some (.int .i64 a)∧w.frozen? ⟨x.2,0,none⟩=false∧x.2∈F
theorem AtsAt.nil (w:World) (F:List Nat):AtsAt w F [] []:=⟨rfl,fun i x a h=>by simp at h⟩
theorem AtsAt.append {w:World} {F:List Nat} {L L':List (Nat×Nat)} {A A':List Int} (h:AtsAt w F L A) (h':AtsAt w F L' A'):AtsAt w F (L++L') (A++A'):=by
 refine ⟨by simp [h.len,h'.len],fun i x a hx ha=>?_⟩
 by_cases hi:i < L.length
 ·rw [List.getElem?_append_left hi] at hx
  rw [List.getElem?_append_left (by rw [←h.len];exact hi)] at ha
  exact h.at_ i x a hx ha
 ·rw [List.getElem?_append_right (by omega)] at hx
  rw [List.getElem?_append_right (by rw [←h.len];omega),←h.len] at ha
  exact h'.at_ _ x a hx ha
theorem AtsAt.mono {w:World} {F F':List Nat} {L:List (Nat×Nat)} {A:List Int} (h:AtsAt w F L A) (hF:∀k∈F,k∈F'):AtsAt w F' L A:=⟨h.len,fun i x a hx ha=>by obtain ⟨q1,q2,q3⟩:=h.at_ i x a hx ha;exact ⟨q1,q2,hF _ q3⟩⟩
structure La (g:Nat) (lb:Array Value) (S:List (Nat×Nat)→World→Prop) (G:Nat→Prop) (w0:World):Prop where
 eg:∀args w,(callFunc g args).run Tryz.prog w= .ok (.enter g args) w
 call:∀done x w,done.length < 16777216→S done w→Calls Tryz.prog g (#[pv x]++lb) w fun e w'=>e= .returned (.tuple #[])∧S (done++[x]) w'
 below:∀done w w',S done w→Below w.heap.size w w'→S done w'
 keep:∀done w,S done w→Keep G w0 w
def Ca (h g:Nat) (lb:Array Value) (S:List (Nat×Nat)→World→Prop) (G:Nat→Prop) (w0:World):Prop:=
 ∀(F:List Nat) (v:Value) (n:Nd h) (done:List (Nat×Nat)) (w:World),NdAt w0 F v n→(∀k∈F,¬G k)→Kw n→n.size≤100→done.length+Zc n≤16777216→S done w→
  Calls Tryz.prog 251 #[v,.func (.func g) #[] lb] w fun x w'=>x= .returned (.tuple #[])∧∃L,S (done++L) w'∧AtsAt w0 F L (ats n)
set_option maxHeartbeats 4000000 in
set_option maxRecDepth 100000 in
theorem Qut (g:Nat) (lb:Array Value) (S:List (Nat×Nat)→World→Prop) (G:Nat→Prop) (w0:World) (H:La g lb S G w0):Ca 0 g lb S G w0:=by
 intro F v n done w hn hG hk hs hN hS
 obtain ⟨b,q,c,rfl,rfl,hl⟩:=X4 hn
 have eg:=H.eg
 have HCL:=Ql4 (H.call done (0,b) w (by have:Zc n=1:=rfl;omega) hS)
 have HAT:Hid (AtsAt w0 [b,q] [(0,b)] (ats n)):=by
  refine ⟨rfl,fun i x a hx ha=>?_⟩
  match i,hx,ha with
  |0,hx,ha=>
   simp at hx
   subst hx
   have ha':n.at_=a:=by have:[n.at_][0]? =some a:=ha;simpa using this
   rw [←ha']
   exact ⟨hl.1.cell 0,hl.1.fz 0,by simp⟩
  |i+1,hx,_=>simp at hx
 have htb:=Qk7
 clear hl hn hG hk hs hN hS H
 show Calls Tryz.prog 251 #[.iface 348 (.pointer (some ⟨b,0,none⟩)),.func (.func g) #[] lb] w _
 have HCL2:Hid (Calls Tryz.prog g (#[.iface 348 (.pointer (some ⟨b,0,none⟩))]++lb) w fun e w'=>e= .returned (.tuple #[])∧S (done++[(0,b)]) w'):=HCL.out
 go_enter Tryz.func251,Tryz.ntmps251
 go_wp2_with fail
 refine HCL2.out.mono ?_
 rintro e w5 ⟨rfl,hs5⟩
 have HS5:=Ql4 hs5
 clear hs5
 go_wp2_with fail
 go_end0
 exact ⟨rfl,_,HS5.out,HAT.out⟩
set_option maxHeartbeats 4000000 in
set_option maxRecDepth 100000 in
theorem Qki (h g:Nat) (lb:Array Value) (S:List (Nat×Nat)→World→Prop) (G:Nat→Prop) (w0:World) (H:La g lb S G w0) (IH:Ca h g lb S G w0):Ca (h+1) g lb S G w0:=by
 intro F v n done w hn hG hk hs hN hS
 obtain ⟨b,q,c,ds,rfl,rfl,hin,ek⟩:=Jv hn
 have eg:=H.eg
 have HH:=Ql4 H
 have HL:Hid (∀done wq,S done wq→Qkv wq b q c n.at_ ds):=fun done wq h=>⟨hin.1.keep (H.keep done wq h) (hG b (by simp)),hin.2.1.keep (H.keep done wq h) (hG q (by simp)),O8 (H.keep done wq h) hin.2.2 (fun k hk=>hG k (by simp [hk]))⟩
 have hlen:n.ks.length=ds.length:=by rw [ek,List.length_map]
 have hs':ds.length≤100:=by have:n.ks.length≤100:=hs;omega
 have hats:ats n=n.ks.flatMap ats++[n.at_]:=rfl
 obtain ⟨m,hm⟩:∃m,ds.length=m:=⟨_,rfl⟩
 have hsum:∀j d,ds[j]? =some d→done.length+(((ds.take j).flatMap fun d=>ats d.2.2).length)+Zc d.2.2+1≤16777216:=by
  intro j d hd
  obtain ⟨e,hl⟩:=Qjc hd
  have h1:=Zf n
  rw [hats,ek,e] at h1
  simp only [List.map_append,List.map_cons,List.map_nil,List.flatMap_append,List.flatMap_cons,List.flatMap_nil,List.length_append,List.append_nil,List.length_cons,List.length_nil] at h1
  have h2:=Zf d.2.2
  have h3:((ds.take j).flatMap fun d=>ats d.2.2).length=(((ds.take j).map fun d=>d.2.2).flatMap ats).length:=by rw [List.flatMap_map]
  omega
 have HKD:Hid (∀j,j < m→∃(d:Kd h) (kb:Nat),ds[j]? =some d∧(∀done wq,S done wq→wq.cell? ⟨q,j,none⟩=some (.iface (ndT h) (.pointer (some ⟨kb,0,none⟩))))∧∀(L:List (Nat×Nat)) wq,L.length=((ds.take j).flatMap fun d=>ats d.2.2).length→S (done++L) wq→Calls Tryz.prog 251 #[.iface (ndT h) (.pointer (some ⟨kb,0,none⟩)),.func (.func g) #[] lb] wq fun x w'=>x= .returned (.tuple #[])∧∃L',S (done++L++L') w'∧AtsAt w0 (b::q::dsF ds) L' (ats d.2.2)):=by
  intro j hj
  have hjl:j < ds.length:=by omega
  have hd:=List.getElem?_eq_getElem hjl
  have hmem:=List.getElem_mem hjl
  obtain ⟨kb,kF,f1,f2⟩:=(hin.2.2 _ hmem).form
  have hkw:Wf (ds[j]'hjl).2.2:=hk.mem (by rw [ek];exact List.mem_map.2 ⟨_,hmem,rfl⟩)
  refine ⟨ds[j]'hjl,kb,hd,fun done wq h=>?_,fun L wq hLL h=>?_⟩
  ·rw [←f2]
   exact (HL.out _ _ h).2.1.cell (by rw [List.getElem?_map,hd];rfl)
  ·rw [←f2]
   have:=hsum j _ hd
   refine (IH _ _ _ (done++L) wq (hin.2.2 _ hmem) (fun k hk=>hG k (List.mem_cons_of_mem _ (List.mem_cons_of_mem _ (Xz hmem hk)))) hkw.2 (by have:=hkw.1;omega) (by rw [List.length_append];omega) h).mono ?_
   rintro x w' ⟨rfl,L',l1,l2⟩
   exact ⟨rfl,L',l1,l2.mono (fun k hk=>List.mem_cons_of_mem _ (List.mem_cons_of_mem _ (Xz hmem hk)))⟩
 have HFL:Hid (∀j d,ds[j]? =some d→(ds.take (j+1)).flatMap (fun d=>ats d.2.2)=(ds.take j).flatMap (fun d=>ats d.2.2)++ats d.2.2):=fun j d hd=>Ju _ _ _ _ hd
 have HFIN:Hid (∀L wq,S (done++L) wq→AtsAt w0 (b::q::dsF ds) L (ds.flatMap fun d=>ats d.2.2)→Calls Tryz.prog g (#[.iface 297 (.pointer (some ⟨b,0,none⟩))]++lb) wq fun e w'=>e= .returned (.tuple #[])∧∃L,S (done++L) w'∧AtsAt w0 (b::q::dsF ds) L (ats n)):=by
  intro L wq hS2 hA
  have hlt:(done++L).length < 16777216:=by
   have h1:=Zf n
   rw [hats,ek,List.flatMap_map] at h1
   simp only [List.length_append,List.length_cons,List.length_nil] at h1
   rw [List.length_append,hA.len]
   omega
  refine (H.call (done++L) (h+1,b) wq hlt hS2).mono ?_
  rintro e w' ⟨rfl,hs5⟩
  refine ⟨rfl,L++[(h+1,b)],by rw [←List.append_assoc];exact hs5,?_⟩
  rw [hats,ek,List.flatMap_map]
  refine hA.append ⟨rfl,fun i x a hx ha=>?_⟩
  match i,hx,ha with
  |0,hx,ha=>
   simp at hx ha
   subst hx ha
   exact ⟨hin.1.cell 0,hin.1.fz 0,by simp⟩
  |i+1,hx,_=>simp at hx
 have c1:w.cell? ⟨b,1,none⟩=some (.slice (some ⟨q,0,none⟩) m c):=by have:=(HL.out done w hS).1.cell 1;rw [hm] at this;exact this
 have HS0:=Ql4 hS
 have HMM:=Ql4 hm
 have hta:=Sr
 have hmi:(m:Int)≤100:=by omega
 clear hsum hats hs' hlen ek hin hn hG hk hs hN hS H IH hm
 show Calls Tryz.prog 251 #[.iface 297 (.pointer (some ⟨b,0,none⟩)),.func (.func g) #[] lb] w _
 go_enter Tryz.func251,Tryz.ntmps251
 go_wp2_with fail
 go_loopw [7,19] (fun s7 i wr=>∃(j:Nat) (L:List (Nat×Nat)),j≤m∧i= .int .i64 j∧Hid (S (done++L) wr)∧Hid (AtsAt w0 (b::q::dsF ds) L ((ds.take j).flatMap fun d=>ats d.2.2))) (fun _ i _=>m - (intOf i).toNat)
 case atStart=>exact ⟨0,[],Nat.zero_le _,rfl,by show S _ _;simpa using HS0.out,by show AtsAt _ _ _ _;simpa using AtsAt.nil _ _⟩
 case round=>
  obtain ⟨j,L,hj,rfl,HS,HA⟩:=hrel
  by_cases hlt:j < m
  ·have hji:(j:Int) < (m:Int):=by omega
   obtain ⟨d,kb,d1,d2,d3⟩:=HKD.out j hlt
   have c2:=d2 _ _ HS.out
   have HCL:=Ql4 (d3 L wr HA.out.len HS.out)
   have HT:=Ql4 (HFL.out j d d1)
   clear d1 d2 d3
   go_wp2_with fail
   with_reducible refine (HCL.out).mono ?_
   rintro e w5 ⟨rfl,L',l1,l2⟩
   have HS5:Hid (S (done++(L++L')) w5):=by show S _ _;rw [←List.append_assoc];exact l1
   have HA5:Hid (AtsAt w0 (b::q::dsF ds) (L++L') ((ds.take (j+1)).flatMap fun d=>ats d.2.2)):=by show AtsAt _ _ _ _;rw [HT.out];exact HA.out.append l2
   clear l1 l2
   go_wp2_with fail
   go_roundw
   case rel=>exact ⟨j+1,L++L',by omega,by go_num,HS5,HA5⟩
   case measure=>simp [intOf];omega
  ·obtain rfl:j=m:=by omega
   have hfull:ds.take j=ds:=by rw [←HMM.out];exact List.take_length
   rw [hfull] at HA
   have HCF:=Ql4 (HFIN.out L wr HS.out HA.out)
   go_wp2_with fail
   refine HCF.out.mono ?_
   rintro e w5 ⟨rfl,L',l1,l2⟩
   have HS5:=Ql4 l1
   have HA5:=Ql4 l2
   clear l1 l2
   go_wp2_with fail
   go_end0
   exact ⟨rfl,_,HS5.out,HA5.out⟩
theorem Yd (g:Nat) (lb:Array Value) (S:List (Nat×Nat)→World→Prop) (G:Nat→Prop) (w0:World) (H:La g lb S G w0):∀h,Ca h g lb S G w0
 |0=>Qut g lb S G w0 H
 |h+1=>Qki h g lb S G w0 H (Yd g lb S G w0 H h)
def NodS (w:World) (B po:Nat) (done:List (Nat×Nat)) (wq:World):Prop:=
 Keep (fun _=>False) w wq∧B≤wq.heap.size∧po < B∧w.heap.size≤po∧∃v,Whole wq po 291 #[v]∧wq.ownsRow B 226 1 v done.length (done.map pv)
theorem NodS.below {w:World} {B po:Nat} {done:List (Nat×Nat)} {wq w':World} (h:NodS w B po done wq) (hb:Below wq.heap.size wq w'):NodS w B po done w':=by
 obtain ⟨h1,h2,h3,h4,v,h6,h7⟩:=h
 exact ⟨h1.transBelow hb,Nat.le_trans h2 hb.size,h3,h4,v,h6.below hb h6.lt,own_below h7 hb⟩
set_option maxHeartbeats 4000000 in
set_option maxRecDepth 100000 in
theorem Qo0 (w:World) (B po:Nat) (done:List (Nat×Nat)) (x:Nat×Nat) (wq:World) (hd:done.length < 16777216) (h:NodS w B po done wq):
  Calls Tryz.prog 252 (#[pv x]++#[.pointer (some ⟨po,0,none⟩)]) wq fun e w'=>e= .returned (.tuple #[])∧NodS w B po (done++[x]) w':=by
 obtain ⟨hh,bb⟩:=x
 obtain ⟨a1,a2,a3,a4,v,a6,a7⟩:=h
 obtain ⟨A,c,rfl⟩:=Qk a7
 have co:=a6.cell 0
 simp at co
 obtain ⟨i0,hi0,hz0,hz1,hz2⟩:=info_parts Qbc
 have HI0:=Ql4 hi0
 have HZ0:=Ql4 hz0
 have HZ1:=Ql4 hz1
 have HZ2:=Ql4 hz2
 obtain ⟨n,hn⟩:∃n,done.length=n:=⟨_,rfl⟩
 rw [hn] at a7 hd co a6
 obtain ⟨V,hV⟩:∃V:List Value,done.map pv=V:=⟨_,rfl⟩
 rw [hV] at a7
 have HOA:=Ql4 (a7.alloc (.cells #[.iface (ndT hh) (.pointer (some ⟨bb,0,none⟩))] 226))
 have HNW:Hid (∀(j':Nat) (u:Value),([.iface (ndT hh) (.pointer (some ⟨bb,0,none⟩))]:List Value)[j']? =some u→(wq.alloc (.cells #[.iface (ndT hh) (.pointer (some ⟨bb,0,none⟩))] 226)).cell? ((⟨wq.heap.size,0,none⟩:Addr).add j')=some u):=Zr _ _ _
 have hone:∀u∈([.iface (ndT hh) (.pointer (some ⟨bb,0,none⟩))]:List Value),u.oneCell'=true:=by simp [Value.oneCell']
 have HONE:=Ql4 hone
 have HSZ2:Hid (B≤(wq.alloc (.cells #[.iface (ndT hh) (.pointer (some ⟨bb,0,none⟩))] 226)).heap.size):=by show _≤_;simp only [World.size_alloc];omega
 have HEND:Hid (∀v' w6,w6.ownsRow B 226 1 v' (n+1) (V++[.iface (ndT hh) (.pointer (some ⟨bb,0,none⟩))])→(wq.alloc (.cells #[.iface (ndT hh) (.pointer (some ⟨bb,0,none⟩))] 226)).grownBy w6 (Value.slice A n c).ownBlock→(w6.cell? ⟨po,0,none⟩=some (.slice A n c)∧w6.frozen? ⟨po,0,none⟩=false)∧NodS w B po (done++[(hh,bb)]) (w6.setCell ⟨po,0,none⟩ v')):=by
  intro v' w6 q1 q2
  have hrow:∀j,(Value.slice A n c).ownBlock=some j→B≤j:=fun j hj=>(a7.lt j hj).1
  have b6:=(a6.alloc (.cells #[.iface (ndT hh) (.pointer (some ⟨bb,0,none⟩))] 226)).grown q2 (fun e=>by have:=hrow po e.symm;omega)
  have hK6:Keep (fun _=>False) w w6:=by
   have h0:Keep (fun _=>False) w (wq.alloc (.cells #[.iface (ndT hh) (.pointer (some ⟨bb,0,none⟩))] 226)):=a1.alloc _
   exact h0.grown q2 (fun j hj=>.inr (by have:=hrow j hj;omega))
  refine ⟨⟨b6.cell 0,b6.fz 0⟩,?_⟩
  have hkS:Keep (fun j=>j=po) w6 (w6.setCell ⟨po,0,none⟩ v'):=Keep.set1 w6 po 0 v'
  have hs6:=q2.size
  simp only [World.size_alloc] at hs6
  have hv6:∀j,v'.ownBlock=some j→¬(j=po):=fun j hj e=>by have:=(q1.lt j hj).1;omega
  refine ⟨hK6.setCell (p:=⟨po,0,none⟩) (.inr a4) _,by rw [size_set];omega,a3,a4,v',?_,?_⟩
  ·have:=b6.set 0 v'
   simpa using this
  ·rw [List.map_append,List.length_append,hn,hV]
   exact Qj q1 hkS hv6
 clear hone hn hi0 hz0 hz1 hz2 a1 a2 a3 a4 a6 a7 hV
 show Calls Tryz.prog 252 #[.iface (ndT hh) (.pointer (some ⟨bb,0,none⟩)),.pointer (some ⟨po,0,none⟩)] wq _
 go_enter Tryz.func252,Tryz.ntmps252
 go_wp2_with (at_builtin;go_must (refine wpList_append_own _ rfl (.tmp 3) (.tmp 5) 291 rfl B 226 i0 _ 1 16 Tryz.underlying291 HI0.out HZ0.out HZ1.out HZ2.out rfl (by omega) (.slice A n c) n V rfl HOA.out ⟨wq.heap.size,0,none⟩ 1 1 [.iface (ndT hh) (.pointer (some ⟨bb,0,none⟩))] rfl rfl HNW.out HONE.out (by simp only [maxLen];omega) (by omega) HSZ2.out ?_;intro v2 w6 hown6 hg6 _;obtain ⟨⟨z0,z1⟩,hfin⟩:=HEND.out v2 w6 hown6 hg6;have HFIN:=Ql4 hfin;obtain ⟨A2,c2,e2⟩:=Qk hown6;subst e2;clear hown6 hg6 hfin))
 go_end0
 exact ⟨rfl,HFIN.out⟩
theorem Vu (w:World) (B po:Nat):La 252 #[.pointer (some ⟨po,0,none⟩)] (NodS w B po) (fun _=>False) w where
 eg:=fun _ _=>by kernel_rfl
 call:=fun done x wq hd h=>Qo0 w B po done x wq hd h
 below:=fun done wq w' h hb=>h.below hb
 keep:=fun done wq h=>h.1
def Tree.ats:Tree→List Int
 |.no=>[]
 |.top _ n=>tr.ats n
def Qqu (w:World) (F:List Nat) (A:List Int) (x:Ending) (w':World):Prop:=∃v' L,x= .returned v'∧w'.ownsRow w.heap.size 226 1 v' L.length (L.map pv)∧AtsAt w F L A∧Below w.heap.size w w'
set_option maxHeartbeats 4000000 in
set_option maxRecDepth 100000 in
theorem Qyp (w:World) (F:List Nat) (p:Nat) (T:Tree) (ht:TrAt w F p T) (hok:T.Ok) (hN:T.cnt≤16777216):
  Calls Tryz.prog 203 #[.pointer (some ⟨p,0,none⟩)] w (Qqu w F T.ats):=by
 obtain ⟨w3,hw3⟩:∃w3,w.alloc (.cells #[.slice none 0 0] 291)=w3:=⟨_,rfl⟩
 have k3:Keep (fun _=>False) w w3:=by rw [←hw3];exact (Keep.refl _ _).alloc _
 have hs3:w3.heap.size=w.heap.size+1:=by rw [←hw3];simp
 have b3:Whole w3 w.heap.size 291 #[.slice none 0 0]:=by rw [←hw3];exact Whole.new _ _ _
 have hNS:NodS w (w.heap.size+1) w.heap.size [] w3:=⟨k3,by omega,by omega,by omega,_,b3,⟨rfl,.inl ⟨rfl,rfl⟩⟩⟩
 cases T with
 |no=>
  have c0:=(ht.2.keep k3 (fun h=>h)).cell 0
  simp at c0
  have c1:=b3.cell 0
  simp at c1
  have HB:Hid (Below w.heap.size w w3):=⟨k3.os,k3.tape,k3.output,k3.size,fun j hj=>k3.block j hj (fun h=>h)⟩
  clear hNS b3 hs3 k3 ht hok hN
  go_enter Tryz.func203,Tryz.ntmps203
  go_wp2_with fail
  go_ret
  exact ⟨_,[],rfl,⟨rfl,.inl ⟨rfl,rfl⟩⟩,AtsAt.nil _ _,HB.out⟩
 |top h n=>
  obtain ⟨F',v,rfl,hp,hn,hpn⟩:=ht
  obtain ⟨q1,q2,q3,q4⟩:=hok.parts
  obtain ⟨kb,kF,f1,f2⟩:=hn.at_.form
  have c0:=(hp.keep k3 (fun h=>h)).cell 0
  rw [f2] at c0
  simp at c0
  have hE:=Yd _ _ _ _ w (Vu w (w.heap.size+1) w.heap.size) h F' v n [] w3 hn.at_ (fun _ _ h=>h) q1 (by omega) (by have h0:Zc n≤16777216:=hN;simpa using h0) hNS
  rw [f2] at hE
  have HE:Hid (Calls Tryz.prog 251 #[.iface (ndT h) (.pointer (some ⟨kb,0,none⟩)),.func (.func 252) #[] #[.pointer (some ⟨w.heap.size,0,none⟩)]] w3 fun x w'=>x= .returned (.tuple #[])∧∃A c m,w'.cell? ⟨w.heap.size,0,none⟩=some (.slice A m c)∧Qqu w (p::F') (ats n) (.returned (.slice A m c)) w'):=by
   refine hE.mono ?_
   rintro x w' ⟨rfl,L,⟨r1,r2,r3,r4,v,r9,r10⟩,hA⟩
   simp only [List.nil_append] at r10
   obtain ⟨A,c,rfl⟩:=Qk r10
   exact ⟨rfl,A,c,_,r9.cell 0,_,L,rfl,Qs r10 (by omega),hA.mono (fun k hk=>List.mem_cons_of_mem _ hk),⟨r1.os,r1.tape,r1.output,r1.size,fun j hj=>r1.block j hj (fun h=>h)⟩⟩
  have HR:Hid (Tree.ats (.top h n)=ats n):=rfl
  rw [HR.out]
  obtain ⟨AA,hAA⟩:∃AA,ats n=AA:=⟨_,rfl⟩
  rw [hAA] at HE ⊢
  clear hAA hE f1 f2 q1 q2 q3 q4 hn hp hpn hNS b3 hs3 k3 hok hN HR
  go_enter Tryz.func203,Tryz.ntmps203
  go_wp2_with fail
  with_reducible refine HE.out.mono ?_
  rintro e w5 ⟨rfl,A,c,m,z1,z2⟩
  have HZ2:=Ql4 z2
  clear z2
  go_wp2_with fail
  go_ret
  exact HZ2.out
theorem Qgr (T:Tree):T.ats.length=T.cnt:=by
 cases T with
 |no=>rfl
 |top h n=>exact Zf n
def Qgq (w:World) (h b:Nat):Prop:=∃(F:List Nat) (n:Nd h),NdAt w F (Zl h b) n∧Kw n∧1≤n.size∧n.size≤100
theorem Qyq {w:World} {h b:Nat} (hr:Qgq w (h+1) b):∃q c m b2,w.cell? ⟨b,1,none⟩=some (.slice (some ⟨q,0,none⟩) m c)∧0 < m∧m≤100∧w.cell? ⟨q,0,none⟩=some (Zl h b2)∧Qgq w h b2:=by
 obtain ⟨F,n,hn,hk,h1,h2⟩:=hr
 obtain ⟨b',q,c,ds,rfl,hv,hin,ek⟩:=Jv hn
 obtain rfl:b=b':=by unfold Zl at hv;simpa using hv
 have hlen:n.ks.length=ds.length:=by rw [ek,List.length_map]
 have hsz:n.size=n.ks.length:=rfl
 have h0:0 < ds.length:=by omega
 have hd:=List.getElem?_eq_getElem h0
 have hmem:=List.getElem_mem h0
 obtain ⟨kb,kF,f1,f2⟩:=(hin.2.2 _ hmem).form
 have hkw:Wf (ds[0]'h0).2.2:=hk.mem (by rw [ek];exact List.mem_map.2 ⟨_,hmem,rfl⟩)
 refine ⟨q,c,ds.length,kb,by have:=hin.1.cell 1;simpa using this,h0,by omega,?_,(ds[0]'h0).1,(ds[0]'h0).2.2,?_,hkw.2,by have:=hkw.1;omega,by have:=hkw.1;omega⟩
 ·have:=hin.2.1.cell (j:=0) (v:=(ds[0]'h0).2.1) (by rw [List.getElem?_map,hd];rfl)
  rw [f2] at this
  exact this
 ·have:=hin.2.2 _ hmem
  rw [f2] at this
  exact this
theorem Qeb {T:Tree} (hok:T.Ok) (hc:Chk T.flat):T.high≤20:=by
 have h1:=Qxs hok
 have h2:=U4 hc
 by_cases he:T.flat=[]
 ·have:=(h1.1 he).1;omega
 ·obtain ⟨_,_,h3,_⟩:=h1.2 he
  rcases h3 with h3|h3
  ·omega
  ·refine Decidable.byContradiction fun hn=>?_
   have:4 ^ 19≤4 ^ (T.high - 1):=Nat.pow_le_pow_right (by omega) (by omega)
   omega
set_option maxHeartbeats 4000000 in
set_option maxRecDepth 100000 in
theorem Qz7 (w:World) (F:List Nat) (p:Nat) (T:Tree) (ht:TrAt w F p T) (hok:T.Ok) (hc:Chk T.flat):
  Calls Tryz.prog 143 #[.pointer (some ⟨p,0,none⟩)] w fun x w'=>x= .returned (.int .i64 T.high)∧w'=w:=by
 have hH:=Qeb hok hc
 cases T with
 |no=>
  have c0:=ht.2.cell 0
  simp at c0
  clear ht hok hc hH
  go_enter Tryz.func143,Tryz.ntmps143
  go_wp2_with fail
  go_ret
  exact ⟨rfl,rfl⟩
 |top h n=>
  obtain ⟨F',v,rfl,hp,hn,hpn⟩:=ht
  obtain ⟨q1,q2,q3,q4⟩:=hok.parts
  obtain ⟨kb,kF,f1,f2⟩:=hn.at_.form
  have c0:=hp.cell 0
  rw [f2] at c0
  simp at c0
  have hn2:=hn.at_
  rw [f2] at hn2
  have HR:=Ql4 (show Qgq w h kb from ⟨_,n,hn2,q1,q3,by omega⟩)
  have hH':h+1≤20:=hH
  have HT:Hid (Tree.high (.top h n)=h+1):=rfl
  rw [HT.out]
  have HST:Hid (∀h b,Qgq w (h+1) b→∃q c m b2,w.cell? ⟨b,1,none⟩=some (.slice (some ⟨q,0,none⟩) m c)∧0 < m∧m≤100∧w.cell? ⟨q,0,none⟩=some (Zl h b2)∧Qgq w h b2):=fun _ _ h=>Qyq h
  have ta1:=Qk7
  have ta2:=Sr
  clear hn2 f1 f2 q1 q2 q3 q4 hn hp hpn hok hc hH HT
  obtain ⟨isI,hisI⟩:∃isI:Nat→Bool,isI=fun x=>decide (0 < x):=⟨_,rfl⟩
  obtain ⟨pI,hpI⟩:∃pI:Nat→Nat→Value,pI=fun x b=>if 0 < x then .pointer (some ⟨b,0,none⟩) else .pointer none:=⟨_,rfl⟩
  have TA:Hid (∀x b wq,(Instr.typeAssert (.iface (ndT x) (.pointer (some ⟨b,0,none⟩))) 226 297 true).run Tryz.prog wq= .ok (.tuple #[pI x b,.bool (isI x)]) wq):=by
   intro x b wq
   cases x with
   |zero=>subst hisI hpI;exact ta1 _ _
   |succ x=>subst hisI hpI;exact ta2 _ _
  have ta:=TA.out
  clear ta1 ta2
  have HISI:=Ql4 hisI
  have HPI:=Ql4 hpI
  clear hisI hpI
  go_enter Tryz.func143,Tryz.ntmps143
  go_wp2_with fail
  go_loopw [3,4,5] (fun s3 s4 s5 wr=>wr=w∧∃(x b:Nat),x≤h∧s3= .int .i64 ((h - x:Nat)+1:Int)∧s4=pI x b∧s5= .bool (isI x)∧Hid (Qgq w x b)) (fun s3 _ _ _=>h+1 - (intOf s3).toNat)
  case atStart=>exact ⟨rfl,h,kb,Nat.le_refl _,by simp,rfl,rfl,HR⟩
  case round=>
   obtain ⟨rfl,x,b,hx,rfl,rfl,rfl,HRx⟩:=hrel
   cases x with
   |zero=>
    have e1:isI 0=false:=by rw [HISI.out];rfl
    rw [e1]
    go_wp2_with fail
    go_ret
    exact ⟨by simp,rfl⟩
   |succ x=>
    have e1:isI (x+1)=true:=by rw [HISI.out];simp
    have e2:pI (x+1) b= .pointer (some ⟨b,0,none⟩):=by rw [HPI.out];simp
    rw [e1,e2]
    obtain ⟨q,c,m,b2,z1,z2,z3,z4,z5⟩:=HST.out _ _ HRx.out
    have HR2:=Ql4 z5
    have hm0:(0:Int) < (m:Int):=by omega
    have z4':wr.cell? ⟨q,0,none⟩=some (.iface (ndT x) (.pointer (some ⟨b2,0,none⟩))):=z4
    clear z4 z5
    go_wp2_with fail
    go_roundw
    case rel=>exact ⟨trivial,x,b2,by omega,by congr 1;omega,rfl,rfl,HR2⟩
    case measure=>simp [intOf];omega
end tr
namespace tr
open Go.RowKit er
end tr
namespace tr
open Go.RowKit er
end tr
namespace tr
open Go.RowKit er
set_option maxHeartbeats 4000000 in
set_option maxRecDepth 100000 in
theorem Ps (w:World):Calls Tryz.prog 71 #[] w fun x w'=>x= .returned (.pointer (some ⟨w.heap.size,0,none⟩))∧w'=w.alloc (.cells #[.nilIface] 228):=by
 go_enter Tryz.func71,Tryz.ntmps71
 go_wp2_with fail
 go_ret
 exact ⟨rfl,rfl⟩
set_option maxHeartbeats 4000000 in
set_option maxRecDepth 100000 in
theorem Qez (w:World):Calls Tryz.prog 238 #[.int .u64 0] w fun x w'=>x= .returned (.int .i64 0)∧w'=w:=by
 go_enter Tryz.func238,Tryz.ntmps238
 go_wp2_with fail
 go_ret
 exact ⟨by first|kernel_rfl|decide,rfl⟩
set_option maxHeartbeats 4000000 in
set_option maxRecDepth 100000 in
theorem Qf3 (w:World):Calls Tryz.prog 167 #[.int .u64 0] w fun x w'=>x= .returned (.int .i64 0)∧w'=w:=by
 have H:=Ql4 (Qez w)
 go_enter Tryz.func167,Tryz.ntmps167
 go_wp2_with fail
 with_reducible refine H.out.mono ?_
 rintro e w5 ⟨rfl,rfl⟩
 go_wp2_with fail
 go_ret
 exact ⟨rfl,rfl⟩
set_option maxHeartbeats 4000000 in
set_option maxRecDepth 100000 in
theorem Qhq (w:World):Calls Tryz.prog 228 #[.slice none 0 0,.int .i64 0,.int .i64 0] w fun x w'=>x= .returned (.tuple #[])∧w'=w:=by
 go_enter Tryz.func228,Tryz.ntmps228
 go_wp2_with fail
 go_loopw [6,7] (fun s6 s7 wr=>wr=w∧s6= .int .i64 1) (fun _ _ _=>0)
 case atStart=>exact ⟨rfl,rfl⟩
 case round=>
  obtain ⟨rfl,rfl⟩:=hrel
  go_wp2_with fail
  go_end0
  exact ⟨rfl,rfl⟩
set_option maxHeartbeats 4000000 in
set_option maxRecDepth 100000 in
theorem Qfp (w:World):Calls Tryz.prog 166 #[.slice none 0 0,.int .i64 0,.int .i64 0,.int .i64 0] w fun x w'=>x= .returned (.tuple #[])∧w'=w:=by
 have H:=Ql4 (Qhq w)
 go_enter Tryz.func166,Tryz.ntmps166
 go_wp2_with fail
 go_loopw [1,2,3,8,9,10] (fun s1 s2 s3 s8 s9 s10 wr=>wr=w∧s1= .int .i64 0∧s2= .int .i64 0∧s3= .int .i64 0) (fun _ _ _ _ _ _ _=>0)
 case atStart=>exact ⟨rfl,rfl,rfl,rfl⟩
 case round=>
  obtain ⟨rfl,rfl,rfl,rfl⟩:=hrel
  go_wp2_with fail
  with_reducible refine H.out.mono ?_
  rintro e w5 ⟨rfl,rfl⟩
  go_wp2_with fail
  refine bodyPost_ret (v:= .tuple #[]) (by simp [results,Tryz.results166,go_sem]) rfl ⟨rfl,rfl⟩
set_option maxHeartbeats 4000000 in
set_option maxRecDepth 100000 in
theorem Qb5 (w:World):Calls Tryz.prog 87 #[.slice none 0 0] w fun x w'=>x= .returned (.tuple #[])∧w'=w:=by
 have H1:=Ql4 (Qf3 w)
 have H2:=Ql4 (Qfp w)
 go_enter Tryz.func87,Tryz.ntmps87
 go_wp2_with fail
 with_reducible refine H1.out.mono ?_
 rintro e w5 ⟨rfl,rfl⟩
 go_wp2_with fail
 with_reducible refine H2.out.mono ?_
 rintro e w5 ⟨rfl,rfl⟩
 go_wp2_with fail
 go_end0
 exact ⟨rfl,rfl⟩
end tr
namespace tr
open Go.RowKit er
end tr
namespace tr
open Go.RowKit er
end tr
namespace tr
open Go.RowKit er
end tr
namespace tr
open Go.RowKit er
structure Kid where
 key:Int
 at_:Int
 deriving DecidableEq
inductive Pg where
 |leaf (l:List Ext)
 |inner (l:List Kid)
def Xr {h:Nat} (n:Nd (h+1)):List Kid:=n.ks.map fun k=>⟨Qb k,k.at_⟩
def pgN:{h:Nat}→Nd h→Pg
 |0,n=>.leaf n.l
 |_+1,n=>.inner (Xr n)
def pgs:{h:Nat}→Nd h→List Pg
 |0,n=>[pgN n]
 |_+1,n=>n.ks.flatMap pgs++[pgN n]
def Rz:{h:Nat}→Nd h→List Int
 |0,n=>[Qb n]
 |_+1,n=>n.ks.flatMap Rz++[Qb n]
def strip:{h:Nat}→Nd h→Nd h
 |0,n=>mkL 0 n.l
 |_+1,n=>mkI 0 (n.ks.map strip)
theorem X9:∀{h:Nat} (n:Nd h),flat (strip n)=flat n
 |0,n=>rfl
 |h+1,n=>by
  show (n.ks.map strip).flatMap flat=n.ks.flatMap flat
  rw [List.flatMap_map]
  exact congrArg (fun f=>n.ks.flatMap f) (funext fun k=>X9 k)
theorem X8:∀{h:Nat} (n:Nd h),(strip n).size=n.size
 |0,n=>rfl
 |h+1,n=>by show (n.ks.map strip).length=n.ks.length;rw [List.length_map]
theorem Gp:∀{h:Nat} (n:Nd h),Kw (strip n)↔Kw n
 |0,n=>Iff.rfl
 |h+1,n=>by
  show (∀k∈n.ks.map strip,(4≤k.size∧k.size≤8)∧Kw k)↔∀k∈n.ks,(4≤k.size∧k.size≤8)∧Kw k
  simp only [List.forall_mem_map,X8,Gp]
theorem Xg:∀{h:Nat} (n:Nd h),Zc (strip n)=Zc n
 |0,n=>rfl
 |h+1,n=>by
  show 1+((n.ks.map strip).map Zc).sum=1+(n.ks.map Zc).sum
  rw [List.map_map]
  have:Zc ∘ (strip:Nd h→Nd h)=Zc:=funext fun k=>Xg k
  rw [this]
theorem Un:∀{h:Nat} (n:Nd h),(pgs n).length=Zc n
 |0,n=>rfl
 |h+1,n=>by
  have:(n.ks.flatMap pgs).length=(n.ks.map Zc).sum:=by
   rw [List.length_flatMap]
   congr 1
   exact List.map_congr_left (fun k _=>Un k)
  show (n.ks.flatMap pgs++[pgN n]).length=1+(n.ks.map Zc).sum
  rw [List.length_append,this]
  simp;omega
theorem Rx {α β:Type} (f:α→List β):∀(l:List α) (i:Nat) (x:β),(l.flatMap f)[i]? =some x→∃P e Q i',l=P++e::Q∧i=(P.flatMap f).length+i'∧(f e)[i']? =some x
 |[],i,x,h=>by simp at h
 |e::l,i,x,h=>by
  rw [List.flatMap_cons] at h
  by_cases hi:i < (f e).length
  ·rw [List.getElem?_append_left hi] at h
   exact ⟨[],e,l,i,rfl,by simp,h⟩
  ·rw [List.getElem?_append_right (by omega)] at h
   obtain ⟨P,e',Q,i',rfl,h2,h3⟩:=Rx f l _ x h
   exact ⟨e::P,e',Q,i',rfl,by rw [List.flatMap_cons,List.length_append];omega,h3⟩
def Ord (w:World):{h:Nat}→List Nat→Value→Nd h→List (Nat×Nat)→Prop
 |0,F,v,n,L=>∃b g c,F=[b,g]∧v=Zl 0 b∧LfAt w b g c (Nd.at_ n) (Nd.l n)∧L=[(0,b)]
 |h+1,F,v,n,L=>∃b g c,∃es:List (Kd h×List (Nat×Nat)),F=b::g::dsF (es.map fun e=>e.1)∧v=Zl (h+1) b∧Whole w b 300 #[.int .i64 (Nd.at_ n),.slice (some ⟨g,0,none⟩) es.length c]∧Row w g c 1 226 (es.map fun e=>e.1.2.1)∧Nd.ks n=es.map (fun e=>e.1.2.2)∧(∀e∈es,Ord w e.1.1 e.1.2.1 e.1.2.2 e.2)∧L=es.flatMap (fun e=>e.2)++[(h+1,b)]
theorem Ord.at_ {w:World}:∀{h:Nat} {F:List Nat} {v:Value} {n:Nd h} {L:List (Nat×Nat)},Ord w F v n L→NdAt w F v n
 |0,F,v,n,L,⟨b,g,c,h1,h2,h3,_⟩=>⟨b,g,c,h1,h2,h3.1,h3.2⟩
 |h+1,F,v,n,L,⟨b,g,c,es,h1,h2,h3,h4,h5,h6,_⟩=>by
  refine ⟨b,g,c,es.map (fun e:Kd h×List (Nat×Nat)=>e.1),h1,h2,?_,?_,?_,?_⟩
  ·rw [h5,List.length_map];exact h3
  ·rw [h5,List.map_map];rfl
  ·rw [List.map_map];exact h4
  ·intro d hd
   obtain ⟨e,he,rfl⟩:=List.mem_map.1 hd
   exact (h6 e he).at_
theorem Ord.len {w:World}:∀{h:Nat} {F:List Nat} {v:Value} {n:Nd h} {L:List (Nat×Nat)},Ord w F v n L→L.length=Zc n
 |0,F,v,n,L,⟨b,g,c,h1,h2,h3,h4⟩=>by rw [h4];rfl
 |h+1,F,v,n,L,⟨b,g,c,es,h1,h2,h3,h4,h5,h6,h7⟩=>by
  show L.length=1+(n.ks.map Zc).sum
  rw [h7,h5,List.map_map,List.length_append,List.length_flatMap]
  have:es.map (fun e=>e.2.length)=es.map (Zc ∘ fun e=>e.1.2.2):=List.map_congr_left fun e he=>(h6 e he).len
  rw [this]
  simp;omega
theorem Ord.keep {G:Nat→Prop} {w w':World} (hk:Keep G w w'):∀{h:Nat} {F:List Nat} {v:Value} {n:Nd h} {L:List (Nat×Nat)},Ord w F v n L→(∀k∈F,¬G k)→Ord w' F v n L
 |0,F,v,n,L,⟨b,g,c,h1,h2,h3,h4⟩,hF=>by
  subst h1
  exact ⟨b,g,c,rfl,h2,h3.keep hk (hF b (by simp)) (hF g (by simp)),h4⟩
 |h+1,F,v,n,L,⟨b,g,c,es,h1,h2,h3,h4,h5,h6,h7⟩,hF=>by
  subst h1
  refine ⟨b,g,c,es,rfl,h2,h3.keep hk (hF b (by simp)),h4.keep hk (hF g (by simp)),h5,fun e he=>Ord.keep hk (h6 e he) (fun k hm=>hF k ?_),h7⟩
  exact List.mem_cons_of_mem _ (List.mem_cons_of_mem _ (Xz (List.mem_map.2 ⟨e,he,rfl⟩) hm))
theorem Uy {α β γ:Type} {f:α→List β} {g:α→List γ} {l:List α} (h:∀e∈l,(f e).length=(g e).length):(l.flatMap f).length=(l.flatMap g).length:=by
 rw [List.length_flatMap,List.length_flatMap]
 congr 1
 exact List.map_congr_left h
theorem Qdg {α:Type} (A B C:List α) (i:Nat) (a:α) (h:i < B.length):(A++B++C).set (A.length+i) a=A++B.set i a++C:=by
 rw [List.append_assoc,List.set_append_right _ _ (by omega),show A.length+i - A.length=i by omega,List.set_append_left _ _ h,List.append_assoc]
theorem pre_eq {α:Type} (A B B' C C':List α) (i' j:Nat) (hl:B'.length=B.length) (hi:i' < B.length) (h:∀t,t≤i'→B'[t]? =B[t]?) (hj:j≤A.length+i'):(A++(B'++C'))[j]? =(A++(B++C))[j]? :=by
 by_cases hjP:j < A.length
 ·rw [List.getElem?_append_left hjP,List.getElem?_append_left hjP]
 ·have hA:A.length≤j:=by omega
  rw [List.getElem?_append_right hA,List.getElem?_append_right hA,List.getElem?_append_left (show j - A.length < B'.length by omega),List.getElem?_append_left (show j - A.length < B.length by omega)]
  exact h _ (by omega)
theorem Ord.set:∀{h:Nat} {w:World} {F:List Nat} {v:Value} {n:Nd h} {L:List (Nat×Nat)},Ord w F v n L→F.Nodup→∀(i:Nat) (x:Nat×Nat),L[i]? =some x→∀a:Int,
  x.2∈F∧∃n':Nd h,Ord (w.setCell ⟨x.2,0,none⟩ (.int .i64 a)) F v n' L∧strip n'=strip n∧ats n'=(ats n).set i a∧∀j,j≤i→(pgs n')[j]? =(pgs n)[j]?
 |0,w,F,v,n,L,⟨b,g,c,h1,h2,h3,h4⟩,hnd,i,x,hx,a=>by
  subst h1 h4
  match i,hx with
  |0,hx=>
   simp at hx
   subst hx
   refine ⟨by simp,mkL a n.l,⟨b,g,c,rfl,h2,⟨?_,?_⟩,rfl⟩,rfl,rfl,fun j _=>rfl⟩
   ·have:=h3.1.set 0 (.int .i64 a)
    exact (by simpa using this:Whole (w.setCell ⟨b,0,none⟩ (.int .i64 a)) b 350 #[.int .i64 a,.slice (some ⟨g,0,none⟩) n.l.length c])
   ·exact h3.2.keep (Keep.set1 w b 0 _) (by simp at hnd;exact fun e=>hnd e.symm)
  |i+1,hx=>simp at hx
 |h+1,w,F,v,n,L,⟨b,g,c,es,h1,h2,h3,h4,h5,h6,h7⟩,hnd,i,x,hx,a=>by
  subst h1 h7
  have hnb:b≠g∧b∉dsF (es.map fun e=>e.1)∧g∉dsF (es.map fun e=>e.1)∧(dsF (es.map fun e=>e.1)).Nodup:=by
   simp only [List.nodup_cons,List.mem_cons,not_or] at hnd
   exact ⟨hnd.1.1,hnd.1.2,hnd.2.1,hnd.2.2⟩
  obtain ⟨n1,n2,n3,n4⟩:=hnb
  have eats:ats n=es.flatMap (fun e=>ats e.1.2.2)++[n.at_]:=by
   show n.ks.flatMap ats++[n.at_]=_
   rw [h5,List.flatMap_map]
  have epgs:pgs n=es.flatMap (fun e=>pgs e.1.2.2)++[pgN n]:=by
   show n.ks.flatMap pgs++[pgN n]=_
   rw [h5,List.flatMap_map]
  have la:∀{l:List (Kd h×List (Nat×Nat))},(∀e∈l,e∈es)→(l.flatMap fun e=>e.2).length=(l.flatMap fun e=>ats e.1.2.2).length:=fun hl=>Uy fun e he=>by rw [(h6 e (hl e he)).len,Zf]
  have lp:∀{l:List (Kd h×List (Nat×Nat))},(∀e∈l,e∈es)→(l.flatMap fun e=>e.2).length=(l.flatMap fun e=>pgs e.1.2.2).length:=fun hl=>Uy fun e he=>by rw [(h6 e (hl e he)).len,Un]
  by_cases hi:i < (es.flatMap fun e=>e.2).length
  ·rw [List.getElem?_append_left hi] at hx
   obtain ⟨P,e,Q,i',rfl,rfl,h8⟩:=Rx _ _ _ _ hx
   have hmem:e∈P++e::Q:=by simp
   have hP:∀q∈P,q∈P++e::Q:=fun q hq=>by simp [hq]
   have hQ:∀q∈Q,q∈P++e::Q:=fun q hq=>by simp [hq]
   rw [List.map_append,List.map_cons,Hm,Wh] at n2 n3 n4
   have m4:=List.nodup_append.1 n4
   have m5:=List.nodup_append.1 m4.2.1
   obtain ⟨x1,k',x2,x3,x4,x5⟩:=Ord.set (h6 e hmem) m5.1 i' x h8 a
   have hk1:Keep (fun k=>k=x.2) w (w.setCell ⟨x.2,0,none⟩ (.int .i64 a)):=Keep.set1 w x.2 0 _
   have xb:x.2≠b:=fun e'=>n2 (by rw [←e'];simp [x1])
   have xg:x.2≠g:=fun e'=>n3 (by rw [←e'];simp [x1])
   refine ⟨by
    rw [List.map_append,List.map_cons,Hm,Wh]
    simp [x1],mkI n.at_ ((P++((e.1.1,e.1.2.1,k'),e.2)::Q).map fun e=>e.1.2.2),⟨b,g,c,P++((e.1.1,e.1.2.1,k'),e.2)::Q,?_,h2,?_,?_,rfl,?_,?_⟩,?_,?_,?_⟩
   ·simp [dsF]
   ·have:=h3.keep hk1 (fun e'=>xb e'.symm)
    have e1:(P++((e.1.1,e.1.2.1,k'),e.2)::Q).length=(P++e::Q).length:=by simp
    rw [e1]
    exact this
   ·have:=h4.keep hk1 (fun e'=>xg e'.symm)
    simpa using this
   ·intro q hq
    rcases List.mem_append.1 hq with hq|hq
    ·refine (h6 q (hP q hq)).keep hk1 (fun k hk e'=>?_)
     have e2:k=x.2:=e'
     exact m4.2.2 k (Xz (List.mem_map.2 ⟨q,hq,rfl⟩) hk) k (by rw [e2];simp [x1]) rfl
    ·rcases List.mem_cons.1 hq with rfl|hq
     ·exact x2
     ·refine (h6 q (hQ q hq)).keep hk1 (fun k hk e'=>?_)
      have e2:k=x.2:=e'
      exact m5.2.2 k (by rw [e2];exact x1) k (Xz (List.mem_map.2 ⟨q,hq,rfl⟩) hk) rfl
   ·simp
   ·show mkI 0 (((P++((e.1.1,e.1.2.1,k'),e.2)::Q).map fun e=>e.1.2.2).map strip)=mkI 0 (n.ks.map strip)
    rw [h5]
    simp [x3]
   ·rw [eats]
    show ((P++((e.1.1,e.1.2.1,k'),e.2)::Q).map fun e=>e.1.2.2).flatMap ats++[n.at_]=_
    rw [List.flatMap_map]
    simp only [List.flatMap_append,List.flatMap_cons]
    rw [x4,la hP]
    have hl:i' < (ats e.1.2.2).length:=by
     rw [Zf,←(h6 e hmem).len]
     exact (List.getElem?_eq_some_iff.1 h8).1
    have:=Qdg (P.flatMap fun e=>ats e.1.2.2) (ats e.1.2.2) (Q.flatMap (fun e=>ats e.1.2.2)++[n.at_]) i' a hl
    simp only [List.append_assoc] at this ⊢
    exact this.symm
   ·intro j hj
    rw [epgs]
    show (((P++((e.1.1,e.1.2.1,k'),e.2)::Q).map fun e=>e.1.2.2).flatMap pgs++[pgN (mkI n.at_ ((P++((e.1.1,e.1.2.1,k'),e.2)::Q).map fun e=>e.1.2.2))])[j]? =_
    rw [List.flatMap_map]
    simp only [List.flatMap_append,List.flatMap_cons,List.append_assoc]
    have hl:i' < (pgs e.1.2.2).length:=by
     rw [Un,←(h6 e hmem).len]
     exact (List.getElem?_eq_some_iff.1 h8).1
    have hl':(pgs k').length=(pgs e.1.2.2).length:=by rw [Un,Un,←Xg k',x3,Xg]
    rw [lp hP] at hj
    exact pre_eq _ _ _ _ _ i' j hl' hl x5 hj
  ·rw [List.getElem?_append_right (by omega)] at hx
   have hi0:i - (es.flatMap fun e=>e.2).length=0:=by
    cases hq:i - (es.flatMap fun e=>e.2).length with
    |zero=>rfl
    |succ q=>rw [hq] at hx;simp at hx
   rw [hi0] at hx
   simp at hx
   subst hx
   have hie:i=(es.flatMap fun e=>e.2).length:=by omega
   have hk1:Keep (fun k=>k=b) w (w.setCell ⟨b,0,none⟩ (.int .i64 a)):=Keep.set1 w b 0 _
   refine ⟨by simp,mkI a n.ks,⟨b,g,c,es,rfl,h2,?_,h4.keep hk1 (fun e=>n1 e.symm),h5,?_,rfl⟩,rfl,?_,?_⟩
   ·have:=h3.set 0 (.int .i64 a)
    exact (by simpa using this:Whole (w.setCell ⟨b,0,none⟩ (.int .i64 a)) b 300 #[.int .i64 a,.slice (some ⟨g,0,none⟩) es.length c])
   ·intro e he
    refine (h6 e he).keep hk1 (fun k hk e'=>?_)
    have e2:k=b:=e'
    rw [e2] at hk
    exact n2 (Xz (List.mem_map.2 ⟨e,he,rfl⟩) hk)
   ·rw [eats,hie,la (fun e he=>he)]
    show n.ks.flatMap ats++[a]=_
    rw [h5,List.flatMap_map,List.set_append_right _ _ (by omega)]
    simp
   ·intro j hj
    rfl
theorem Ord.get:∀{h:Nat} {w:World} {F:List Nat} {v:Value} {n:Nd h} {L:List (Nat×Nat)},Ord w F v n L→∀(i:Nat) (x:Nat×Nat),L[i]? =some x→
  ∃(F':List Nat) (m:Nd x.1),NdAt w F' (Zl x.1 x.2) m∧(∀k∈F',k∈F)∧(pgs n)[i]? =some (pgN m)∧(Rz n)[i]? =some (Qb m)∧(ats n)[i]? =some m.at_∧(Kw n→Kw m∧(1≤n.size→n.size≤8→1≤m.size∧m.size≤8)∧(Big n→Big m))∧(Chk (flat n)→Chk (flat m))∧∃A B,ats n=A++ats m++B∧A.length+(ats m).length=i+1
 |0,w,F,v,n,L,hh@⟨b,g,c,h1,h2,h3,h4⟩,i,x,hx=>by
  subst h1 h4
  match i,hx with
  |0,hx=>
   simp at hx
   subst hx
   exact ⟨[b,g],n,P6 h3,fun k hk=>hk,rfl,rfl,rfl,fun hk=>⟨hk,fun q1 q2=>⟨q1,q2⟩,fun q=>q⟩,fun q=>q,[],[],by simp,rfl⟩
  |i+1,hx=>simp at hx
 |h+1,w,F,v,n,L,hh@⟨b,g,c,es,h1,h2,h3,h4,h5,h6,h7⟩,i,x,hx=>by
  have hnd:=Ord.at_ hh
  subst h1 h7 h2
  have eats:ats n=es.flatMap (fun e=>ats e.1.2.2)++[n.at_]:=by
   show n.ks.flatMap ats++[n.at_]=_
   rw [h5,List.flatMap_map]
  have epgs:pgs n=es.flatMap (fun e=>pgs e.1.2.2)++[pgN n]:=by
   show n.ks.flatMap pgs++[pgN n]=_
   rw [h5,List.flatMap_map]
  have efst:Rz n=es.flatMap (fun e=>Rz e.1.2.2)++[Qb n]:=by
   show n.ks.flatMap Rz++[Qb n]=_
   rw [h5,List.flatMap_map]
  have eflat:flat n=es.flatMap (fun e=>flat e.1.2.2):=by
   show n.ks.flatMap flat=_
   rw [h5,List.flatMap_map]
  have fst_len:∀{h:Nat} (n:Nd h),(Rz n).length=Zc n:=by
   intro h
   induction h with
   |zero=>intro n;rfl
   |succ h ih=>
    intro n
    have:(n.ks.flatMap Rz).length=(n.ks.map Zc).sum:=by
     rw [List.length_flatMap]
     congr 1
     exact List.map_congr_left (fun k _=>ih k)
    show (n.ks.flatMap Rz++[Qb n]).length=1+(n.ks.map Zc).sum
    rw [List.length_append,this]
    simp;omega
  have la:∀{l:List (Kd h×List (Nat×Nat))},(∀e∈l,e∈es)→(l.flatMap fun e=>e.2).length=(l.flatMap fun e=>ats e.1.2.2).length:=fun hl=>Uy fun e he=>by rw [(h6 e (hl e he)).len,Zf]
  have lp:∀{l:List (Kd h×List (Nat×Nat))},(∀e∈l,e∈es)→(l.flatMap fun e=>e.2).length=(l.flatMap fun e=>pgs e.1.2.2).length:=fun hl=>Uy fun e he=>by rw [(h6 e (hl e he)).len,Un]
  have lf:∀{l:List (Kd h×List (Nat×Nat))},(∀e∈l,e∈es)→(l.flatMap fun e=>e.2).length=(l.flatMap fun e=>Rz e.1.2.2).length:=fun hl=>Uy fun e he=>by rw [(h6 e (hl e he)).len,fst_len]
  by_cases hi:i < (es.flatMap fun e=>e.2).length
  ·rw [List.getElem?_append_left hi] at hx
   obtain ⟨P,e,Q,i',rfl,rfl,h8⟩:=Rx _ _ _ _ hx
   have hmem:e∈P++e::Q:=by simp
   have hP:∀q∈P,q∈P++e::Q:=fun q hq=>by simp [hq]
   obtain ⟨F',m,x1,x2,x3,x4,x5,x6,x7,A,B,x8,x9⟩:=Ord.get (h6 e hmem) i' x h8
   have pick:∀{γ:Type} (f:Kd h×List (Nat×Nat)→List γ) (z:γ) (r:List γ),(P.flatMap fun e=>e.2).length=(P.flatMap f).length→(f e)[i']? =some z→((P++e::Q).flatMap f++r)[(P.flatMap fun e=>e.2).length+i']? =some z:=by
    intro γ f z r hl hz
    rw [hl,List.flatMap_append,List.flatMap_cons,List.append_assoc,List.append_assoc,List.getElem?_append_right (by omega),show (P.flatMap f).length+i' - (P.flatMap f).length=i' by omega,List.getElem?_append_left (List.getElem?_eq_some_iff.1 hz).1]
    exact hz
   refine ⟨F',m,x1,fun k hk=>?_,?_,?_,?_,fun hk=>?_,fun hc=>?_,P.flatMap (fun e=>ats e.1.2.2)++A,B++Q.flatMap (fun e=>ats e.1.2.2)++[n.at_],?_,?_⟩
   ·exact List.mem_cons_of_mem _ (List.mem_cons_of_mem _ (Xz (List.mem_map.2 ⟨e,hmem,rfl⟩) (x2 k hk)))
   ·rw [epgs];exact pick _ _ _ (lp hP) x3
   ·rw [efst];exact pick _ _ _ (lf hP) x4
   ·rw [eats];exact pick _ _ _ (la hP) x5
   ·have hw:Wf e.1.2.2:=hk.mem (by rw [h5];exact List.mem_map.2 ⟨e,hmem,rfl⟩)
    refine ⟨(x6 hw.2).1,fun _ _=>(x6 hw.2).2.1 (by have:=hw.1;omega) hw.1.2,fun _=>(x6 hw.2).2.2 ?_⟩
    have h4:=hw.1.1
    generalize e.1.2.2=z at h4
    cases h with
    |zero=>trivial
    |succ h=>exact (show 2≤z.size by omega)
   ·rw [eflat,List.flatMap_append,List.flatMap_cons] at hc
    exact x7 hc.right.left
   ·rw [eats,List.flatMap_append,List.flatMap_cons,x8]
    simp [List.append_assoc]
   ·rw [List.length_append,la hP];omega
  ·rw [List.getElem?_append_right (by omega)] at hx
   have hi0:i - (es.flatMap fun e=>e.2).length=0:=by
    cases hq:i - (es.flatMap fun e=>e.2).length with
    |zero=>rfl
    |succ q=>rw [hq] at hx;simp at hx
   rw [hi0] at hx
   simp at hx
   subst hx
   have hie:i=(es.flatMap fun e=>e.2).length:=by omega
   refine ⟨_,n,hnd,fun k hk=>hk,?_,?_,?_,fun hk=>⟨hk,fun q1 q2=>⟨q1,q2⟩,fun q=>q⟩,fun q=>q,[],[],by simp,by rw [eats,hie,la (fun e he=>he)];simp⟩
   ·rw [epgs,hie,lp (fun e he=>he)];simp
   ·rw [efst,hie,lf (fun e he=>he)];simp
   ·rw [eats,hie,la (fun e he=>he)];simp
def OrdL (w:World) {h:Nat} (ds:List (Kd h)) (L:List (Nat×Nat)):Prop:=∃es:List (Kd h×List (Nat×Nat)),es.map (fun e=>e.1)=ds∧(∀e∈es,Ord w e.1.1 e.1.2.1 e.1.2.2 e.2)∧L=es.flatMap (fun e=>e.2)
theorem OrdL.nil (w:World) {h:Nat}:OrdL w ([]:List (Kd h)) []:=⟨[],rfl,by simp,rfl⟩
theorem OrdL.snoc {w:World} {h:Nat} {ds:List (Kd h)} {L L':List (Nat×Nat)} {d:Kd h} (hl:OrdL w ds L) (hd:Ord w d.1 d.2.1 d.2.2 L'):OrdL w (ds++[d]) (L++L'):=by
 obtain ⟨es,rfl,h2,rfl⟩:=hl
 refine ⟨es++[(d,L')],by simp,fun e he=>?_,by simp⟩
 rcases List.mem_append.1 he with he|he
 ·exact h2 e he
 ·rw [List.mem_singleton.1 he];exact hd
theorem OrdL.len {w:World} {h:Nat} {ds:List (Kd h)} {L:List (Nat×Nat)} (hl:OrdL w ds L):L.length=(ds.flatMap fun d=>ats d.2.2).length:=by
 obtain ⟨es,rfl,h2,rfl⟩:=hl
 rw [List.flatMap_map]
 exact Uy fun e he=>by rw [(h2 e he).len,Zf]
theorem OrdL.inner {w:World} {h b q c:Nat} {ds:List (Kd h)} {n:Nd (h+1)} {L:List (Nat×Nat)} (hin:Qkv w b q c n.at_ ds) (ek:n.ks=ds.map fun d=>d.2.2) (hl:OrdL w ds L):Ord w (b::q::dsF ds) (Zl (h+1) b) n (L++[(h+1,b)]):=by
 obtain ⟨es,rfl,h2,rfl⟩:=hl
 refine ⟨b,q,c,es,rfl,rfl,?_,?_,?_,h2,rfl⟩
 ·have:=hin.1;rw [List.length_map] at this;exact this
 ·have:=hin.2.1;rw [List.map_map] at this;exact this
 ·rw [ek,List.map_map];rfl
def Ci (h g:Nat) (lb:Array Value) (S:List (Nat×Nat)→World→Prop) (G:Nat→Prop) (w0:World):Prop:=
 ∀(F:List Nat) (v:Value) (n:Nd h) (done:List (Nat×Nat)) (w:World),NdAt w0 F v n→(∀k∈F,¬G k)→Kw n→n.size≤100→done.length+Zc n≤16777216→S done w→
  Calls Tryz.prog 251 #[v,.func (.func g) #[] lb] w fun x w'=>x= .returned (.tuple #[])∧∃L,S (done++L) w'∧Ord w0 F v n L
set_option maxHeartbeats 4000000 in
set_option maxRecDepth 100000 in
theorem Qka (g:Nat) (lb:Array Value) (S:List (Nat×Nat)→World→Prop) (G:Nat→Prop) (w0:World) (H:La g lb S G w0):Ci 0 g lb S G w0:=by
 intro F v n done w hn hG hk hs hN hS
 obtain ⟨b,q,c,rfl,rfl,hl⟩:=X4 hn
 have eg:=H.eg
 have HCL:=Ql4 (H.call done (0,b) w (by have:Zc n=1:=rfl;omega) hS)
 have HAT:Hid (Ord w0 [b,q] (Zl 0 b) n [(0,b)]):=⟨b,q,c,rfl,rfl,hl,rfl⟩
 have htb:=Qk7
 clear hl hn hG hk hs hN hS H
 show Calls Tryz.prog 251 #[.iface 348 (.pointer (some ⟨b,0,none⟩)),.func (.func g) #[] lb] w _
 have HCL2:Hid (Calls Tryz.prog g (#[.iface 348 (.pointer (some ⟨b,0,none⟩))]++lb) w fun e w'=>e= .returned (.tuple #[])∧S (done++[(0,b)]) w'):=HCL.out
 go_enter Tryz.func251,Tryz.ntmps251
 go_wp2_with fail
 refine HCL2.out.mono ?_
 rintro e w5 ⟨rfl,hs5⟩
 have HS5:=Ql4 hs5
 clear hs5
 go_wp2_with fail
 go_end0
 exact ⟨rfl,_,HS5.out,HAT.out⟩
set_option maxHeartbeats 4000000 in
set_option maxRecDepth 100000 in
theorem Wd (h g:Nat) (lb:Array Value) (S:List (Nat×Nat)→World→Prop) (G:Nat→Prop) (w0:World) (H:La g lb S G w0) (IH:Ci h g lb S G w0):Ci (h+1) g lb S G w0:=by
 intro F v n done w hn hG hk hs hN hS
 obtain ⟨b,q,c,ds,rfl,rfl,hin,ek⟩:=Jv hn
 have eg:=H.eg
 have HH:=Ql4 H
 have HL:Hid (∀done wq,S done wq→Qkv wq b q c n.at_ ds):=fun done wq h=>⟨hin.1.keep (H.keep done wq h) (hG b (by simp)),hin.2.1.keep (H.keep done wq h) (hG q (by simp)),O8 (H.keep done wq h) hin.2.2 (fun k hk=>hG k (by simp [hk]))⟩
 have hlen:n.ks.length=ds.length:=by rw [ek,List.length_map]
 have hs':ds.length≤100:=by have:n.ks.length≤100:=hs;omega
 have hats:ats n=n.ks.flatMap ats++[n.at_]:=rfl
 obtain ⟨m,hm⟩:∃m,ds.length=m:=⟨_,rfl⟩
 have hsum:∀j d,ds[j]? =some d→done.length+(((ds.take j).flatMap fun d=>ats d.2.2).length)+Zc d.2.2+1≤16777216:=by
  intro j d hd
  obtain ⟨e,hl⟩:=Qjc hd
  have h1:=Zf n
  rw [hats,ek,e] at h1
  simp only [List.map_append,List.map_cons,List.map_nil,List.flatMap_append,List.flatMap_cons,List.flatMap_nil,List.length_append,List.append_nil,List.length_cons,List.length_nil] at h1
  have h2:=Zf d.2.2
  have h3:((ds.take j).flatMap fun d=>ats d.2.2).length=(((ds.take j).map fun d=>d.2.2).flatMap ats).length:=by rw [List.flatMap_map]
  omega
 have HKD:Hid (∀j,j < m→∃(d:Kd h) (kb:Nat),ds[j]? =some d∧(∀done wq,S done wq→wq.cell? ⟨q,j,none⟩=some (.iface (ndT h) (.pointer (some ⟨kb,0,none⟩))))∧∀(L:List (Nat×Nat)) wq,L.length=((ds.take j).flatMap fun d=>ats d.2.2).length→S (done++L) wq→Calls Tryz.prog 251 #[.iface (ndT h) (.pointer (some ⟨kb,0,none⟩)),.func (.func g) #[] lb] wq fun x w'=>x= .returned (.tuple #[])∧∃L',S (done++L++L') w'∧Ord w0 d.1 d.2.1 d.2.2 L'):=by
  intro j hj
  have hjl:j < ds.length:=by omega
  have hd:=List.getElem?_eq_getElem hjl
  have hmem:=List.getElem_mem hjl
  obtain ⟨kb,kF,f1,f2⟩:=(hin.2.2 _ hmem).form
  have hkw:Wf (ds[j]'hjl).2.2:=hk.mem (by rw [ek];exact List.mem_map.2 ⟨_,hmem,rfl⟩)
  refine ⟨ds[j]'hjl,kb,hd,fun done wq h=>?_,fun L wq hLL h=>?_⟩
  ·rw [←f2]
   exact (HL.out _ _ h).2.1.cell (by rw [List.getElem?_map,hd];rfl)
  ·rw [←f2]
   have:=hsum j _ hd
   refine (IH _ _ _ (done++L) wq (hin.2.2 _ hmem) (fun k hk=>hG k (List.mem_cons_of_mem _ (List.mem_cons_of_mem _ (Xz hmem hk)))) hkw.2 (by have:=hkw.1;omega) (by rw [List.length_append];omega) h).mono ?_
   rintro x w' ⟨rfl,L',l1,l2⟩
   exact ⟨rfl,L',l1,l2⟩
 have HFL:Hid (∀j d,ds[j]? =some d→ds.take (j+1)=ds.take j++[d]):=fun j d hd=>by rw [List.take_add_one,hd];rfl
 have HFIN:Hid (∀L wq,S (done++L) wq→OrdL w0 ds L→Calls Tryz.prog g (#[.iface 297 (.pointer (some ⟨b,0,none⟩))]++lb) wq fun e w'=>e= .returned (.tuple #[])∧∃L,S (done++L) w'∧Ord w0 (b::q::dsF ds) (Zl (h+1) b) n L):=by
  intro L wq hS2 hA
  have hlt:(done++L).length < 16777216:=by
   have h1:=Zf n
   rw [hats,ek,List.flatMap_map] at h1
   simp only [List.length_append,List.length_cons,List.length_nil] at h1
   rw [List.length_append,hA.len]
   omega
  refine (H.call (done++L) (h+1,b) wq hlt hS2).mono ?_
  rintro e w' ⟨rfl,hs5⟩
  exact ⟨rfl,L++[(h+1,b)],by rw [←List.append_assoc];exact hs5,hA.inner hin ek⟩
 have c1:w.cell? ⟨b,1,none⟩=some (.slice (some ⟨q,0,none⟩) m c):=by have:=(HL.out done w hS).1.cell 1;rw [hm] at this;exact this
 have HS0:=Ql4 hS
 have HMM:=Ql4 hm
 have hta:=Sr
 have hmi:(m:Int)≤100:=by omega
 clear hsum hats hs' hlen ek hin hn hG hk hs hN hS H IH hm
 show Calls Tryz.prog 251 #[.iface 297 (.pointer (some ⟨b,0,none⟩)),.func (.func g) #[] lb] w _
 go_enter Tryz.func251,Tryz.ntmps251
 go_wp2_with fail
 go_loopw [7,19] (fun s7 i wr=>∃(j:Nat) (L:List (Nat×Nat)),j≤m∧i= .int .i64 j∧Hid (S (done++L) wr)∧Hid (OrdL w0 (ds.take j) L)) (fun _ i _=>m - (intOf i).toNat)
 case atStart=>exact ⟨0,[],Nat.zero_le _,rfl,by show S _ _;simpa using HS0.out,by show OrdL _ _ _;rw [List.take_zero];exact OrdL.nil _⟩
 case round=>
  obtain ⟨j,L,hj,rfl,HS,HA⟩:=hrel
  by_cases hlt:j < m
  ·have hji:(j:Int) < (m:Int):=by omega
   obtain ⟨d,kb,d1,d2,d3⟩:=HKD.out j hlt
   have c2:=d2 _ _ HS.out
   have HCL:=Ql4 (d3 L wr HA.out.len HS.out)
   have HT:=Ql4 (HFL.out j d d1)
   clear d1 d2 d3
   go_wp2_with fail
   with_reducible refine (HCL.out).mono ?_
   rintro e w5 ⟨rfl,L',l1,l2⟩
   have HS5:Hid (S (done++(L++L')) w5):=by show S _ _;rw [←List.append_assoc];exact l1
   have HA5:Hid (OrdL w0 (ds.take (j+1)) (L++L')):=by show OrdL _ _ _;rw [HT.out];exact HA.out.snoc l2
   clear l1 l2
   go_wp2_with fail
   go_roundw
   case rel=>exact ⟨j+1,L++L',by omega,by go_num,HS5,HA5⟩
   case measure=>simp [intOf];omega
  ·obtain rfl:j=m:=by omega
   have hfull:ds.take j=ds:=by rw [←HMM.out];exact List.take_length
   rw [hfull] at HA
   have HCF:=Ql4 (HFIN.out L wr HS.out HA.out)
   go_wp2_with fail
   refine HCF.out.mono ?_
   rintro e w5 ⟨rfl,L',l1,l2⟩
   have HS5:=Ql4 l1
   have HA5:=Ql4 l2
   clear l1 l2
   go_wp2_with fail
   go_end0
   exact ⟨rfl,_,HS5.out,HA5.out⟩
theorem N9 (g:Nat) (lb:Array Value) (S:List (Nat×Nat)→World→Prop) (G:Nat→Prop) (w0:World) (H:La g lb S G w0):∀h,Ci h g lb S G w0
 |0=>Qka g lb S G w0 H
 |h+1=>Wd h g lb S G w0 H (N9 g lb S G w0 H h)
def Tree.Ord (w:World) (F:List Nat) (p:Nat):Tree→List (Nat×Nat)→Prop
 |.no,L=>F=[p]∧Whole w p 228 #[.nilIface]∧L=[]
 |.top h n,L=>∃F' v,F=p::F'∧Whole w p 228 #[v]∧tr.Ord w F' v n L∧F'.Nodup∧p∉F'
def Qqg (w:World) (F:List Nat) (p:Nat) (T:Tree) (x:Ending) (w':World):Prop:=∃v' L,x= .returned v'∧w'.ownsRow w.heap.size 226 1 v' L.length (L.map pv)∧T.Ord w F p L∧Below w.heap.size w w'
set_option maxHeartbeats 4000000 in
set_option maxRecDepth 100000 in
theorem Fv (w:World) (F:List Nat) (p:Nat) (T:Tree) (ht:TrAt w F p T) (hok:T.Ok) (hN:T.cnt≤16777216):
  Calls Tryz.prog 203 #[.pointer (some ⟨p,0,none⟩)] w (Qqg w F p T):=by
 obtain ⟨w3,hw3⟩:∃w3,w.alloc (.cells #[.slice none 0 0] 291)=w3:=⟨_,rfl⟩
 have k3:Keep (fun _=>False) w w3:=by rw [←hw3];exact (Keep.refl _ _).alloc _
 have hs3:w3.heap.size=w.heap.size+1:=by rw [←hw3];simp
 have b3:Whole w3 w.heap.size 291 #[.slice none 0 0]:=by rw [←hw3];exact Whole.new _ _ _
 have hNS:NodS w (w.heap.size+1) w.heap.size [] w3:=⟨k3,by omega,by omega,by omega,_,b3,⟨rfl,.inl ⟨rfl,rfl⟩⟩⟩
 cases T with
 |no=>
  have c0:=(ht.2.keep k3 (fun h=>h)).cell 0
  simp at c0
  have c1:=b3.cell 0
  simp at c1
  have HB:Hid (Below w.heap.size w w3):=⟨k3.os,k3.tape,k3.output,k3.size,fun j hj=>k3.block j hj (fun h=>h)⟩
  have HT0:Hid (Tree.no.Ord w F p []):=⟨ht.1,ht.2,rfl⟩
  clear hNS b3 hs3 k3 ht hok hN
  go_enter Tryz.func203,Tryz.ntmps203
  go_wp2_with fail
  go_ret
  exact ⟨_,[],rfl,⟨rfl,.inl ⟨rfl,rfl⟩⟩,HT0.out,HB.out⟩
 |top h n=>
  obtain ⟨F',v,rfl,hp,hn,hpn⟩:=ht
  obtain ⟨q1,q2,q3,q4⟩:=hok.parts
  obtain ⟨kb,kF,f1,f2⟩:=hn.at_.form
  have c0:=(hp.keep k3 (fun h=>h)).cell 0
  rw [f2] at c0
  simp at c0
  have hE:=N9 _ _ _ _ w (Vu w (w.heap.size+1) w.heap.size) h F' v n [] w3 hn.at_ (fun _ _ h=>h) q1 (by omega) (by have h0:Zc n≤16777216:=hN;simpa using h0) hNS
  rw [f2] at hE
  have HE:Hid (Calls Tryz.prog 251 #[.iface (ndT h) (.pointer (some ⟨kb,0,none⟩)),.func (.func 252) #[] #[.pointer (some ⟨w.heap.size,0,none⟩)]] w3 fun x w'=>x= .returned (.tuple #[])∧∃A c m,w'.cell? ⟨w.heap.size,0,none⟩=some (.slice A m c)∧Qqg w (p::F') p (.top h n) (.returned (.slice A m c)) w'):=by
   refine hE.mono ?_
   rintro x w' ⟨rfl,L,⟨r1,r2,r3,r4,v,r9,r10⟩,hA⟩
   simp only [List.nil_append] at r10
   obtain ⟨A,c,rfl⟩:=Qk r10
   exact ⟨rfl,A,c,_,r9.cell 0,_,L,rfl,Qs r10 (by omega),⟨F',v,rfl,hp,by rw [f2];exact hA,hn.nd,hpn⟩,⟨r1.os,r1.tape,r1.output,r1.size,fun j hj=>r1.block j hj (fun h=>h)⟩⟩
  obtain ⟨AA,hAA⟩:∃AA,Tree.top h n=AA:=⟨_,rfl⟩
  rw [hAA] at HE ⊢
  clear hAA hE f1 f2 q1 q2 q3 q4 hn hp hpn hNS b3 hs3 k3 hok hN
  go_enter Tryz.func203,Tryz.ntmps203
  go_wp2_with fail
  with_reducible refine HE.out.mono ?_
  rintro e w5 ⟨rfl,A,c,m,z1,z2⟩
  have HZ2:=Ql4 z2
  clear z2
  go_wp2_with fail
  go_ret
  exact HZ2.out
def nfs {h:Nat} (n:Nd h):List Int:=(ats n).filter fun a=>decide (a≠-1)
def frN {h:Nat} (n:Nd h):Nat:=((ats n).filter fun a=>decide (a= -1)).length
theorem Qkr {h:Nat} (n:Nd (h+1)):ats n=n.ks.flatMap ats++[n.at_]:=rfl
def Tree.All (P:{h:Nat}→Nd h→Prop):Tree→Prop
 |.no=>True
 |.top _ n=>P n
def Tree.nfs:Tree→List Int
 |.no=>[]
 |.top _ n=>tr.nfs n
end tr
namespace tr
open Go.RowKit er
end tr
namespace tr
open Go.RowKit er
end tr
end Go.Proofs.YtfialjmemcobjaaGreatDoor
