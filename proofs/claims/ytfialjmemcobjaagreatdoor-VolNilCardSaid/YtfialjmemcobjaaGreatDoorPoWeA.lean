/- A part of the proof. -/
import Derived.Test.YtfialjmemcobjaaGreatDoorPoFlB
import Derived.Test.YtfialjmemcobjaaGreatDoorPoShA
import Derived.Deep.RegionHeld3
set_option linter.unusedSimpArgs false
set_option linter.unusedVariables false
namespace Go.Proofs.YtfialjmemcobjaaGreatDoor.we
open Go.RowKit Go.Proofs.YtfialjmemcobjaaGreatDoor.er
set_option linter.unusedVariables false
structure Bk where
 st:Int
 va:Int
 wo:Int
def Bk.val (b:Bk):Value:= .agg #[.int .i64 b.st,.int .i64 b.va,.int .i64 b.wo]
def bkCells (l:List Bk):List Value:=l.flatMap fun b=>[.int .i64 b.st,.int .i64 b.va,.int .i64 b.wo]
theorem bkCells_at:∀(l:List Bk) (j:Nat) (m:Bk),l[j]? =some m→
  (bkCells l)[j * 3]? =some (.int .i64 m.st)∧(bkCells l)[j * 3+1]? =some (.int .i64 m.va)∧(bkCells l)[j * 3+2]? =some (.int .i64 m.wo)
 |[],_,_,h=>by simp at h
 |x::r,0,m,h=>by
  simp at h
  subst h
  simp [bkCells]
 |x::r,j+1,m,h=>by
  have ih:=bkCells_at r j m (by simpa using h)
  have e:bkCells (x::r)= .int .i64 x.st::.int .i64 x.va::.int .i64 x.wo::bkCells r:=by simp [bkCells]
  rw [e,show (j+1) * 3=j * 3+3 from by omega]
  simpa using ih
theorem bkCells_snoc (l:List Bk) (m:Bk):bkCells (l++[m])=bkCells l++[.int .i64 m.st,.int .i64 m.va,.int .i64 m.wo]:=by simp [bkCells]
def wornOf (b:Bk):Int:=max b.wo 0
theorem worn_any (b:Bk) (w:World):
  Calls Tryz.prog 339 #[b.val] w fun e w'=>e= .returned (.int .i64 (wornOf b))∧Below w.heap.size w w':=by
 obtain ⟨s,v,o⟩:=b
 show Calls Tryz.prog 339 #[.agg #[.int .i64 s,.int .i64 v,.int .i64 o]] w _
 go_enter Tryz.func339,Tryz.ntmps339
 go_wp2_with fail
 refine bodyPost_ret (v:= .int .i64 (max o 0)) (by simp [results,Tryz.results339,go_sem]) rfl ⟨rfl,(Below.refl _ _).alloc (Nat.le_refl _) _⟩
theorem byWorn_any (a b:Bk) (w:World):
  Calls Tryz.prog 329 #[a.val,b.val] w fun e w'=>e= .returned (.int .i64 (Lib.compareInt (wornOf a) (wornOf b)))∧Below w.heap.size w w':=by
 obtain ⟨s,v,o⟩:=a
 obtain ⟨t,x,p⟩:=b
 show Calls Tryz.prog 329 #[.agg #[.int .i64 s,.int .i64 v,.int .i64 o],.agg #[.int .i64 t,.int .i64 x,.int .i64 p]] w _
 have HK:Hid (∀w',Below ((w.alloc (.cells #[.int .i64 s,.int .i64 v,.int .i64 o] 92)).alloc (.cells #[.int .i64 t,.int .i64 x,.int .i64 p] 92)).heap.size ((w.alloc (.cells #[.int .i64 s,.int .i64 v,.int .i64 o] 92)).alloc (.cells #[.int .i64 t,.int .i64 x,.int .i64 p] 92)) w'→(w'.cell? ⟨w.heap.size,0,none⟩=some (.int .i64 s)∧w'.cell? ⟨w.heap.size,1,none⟩=some (.int .i64 v)∧w'.cell? ⟨w.heap.size,2,none⟩=some (.int .i64 o)∧w'.cell? ⟨w.heap.size+1,0,none⟩=some (.int .i64 t)∧w'.cell? ⟨w.heap.size+1,1,none⟩=some (.int .i64 x)∧w'.cell? ⟨w.heap.size+1,2,none⟩=some (.int .i64 p))):=by
  intro w' hb
  have h1:Whole ((w.alloc (.cells #[.int .i64 s,.int .i64 v,.int .i64 o] 92)).alloc (.cells #[.int .i64 t,.int .i64 x,.int .i64 p] 92)) w.heap.size 92 #[.int .i64 s,.int .i64 v,.int .i64 o]:=(Whole.new w _ _).alloc _
  have h2:Whole ((w.alloc (.cells #[.int .i64 s,.int .i64 v,.int .i64 o] 92)).alloc (.cells #[.int .i64 t,.int .i64 x,.int .i64 p] 92)) (w.heap.size+1) 92 #[.int .i64 t,.int .i64 x,.int .i64 p]:=Whole.new' _ _ _ _ (by simp)
  exact ⟨below_c hb (h1.cell 0),below_c hb (h1.cell 1),below_c hb (h1.cell 2),below_c hb (h2.cell 0),below_c hb (h2.cell 1),below_c hb (h2.cell 2)⟩
 have B0:=Lib.hid (Below.refl ((w.alloc (.cells #[.int .i64 s,.int .i64 v,.int .i64 o] 92)).alloc (.cells #[.int .i64 t,.int .i64 x,.int .i64 p] 92)).heap.size ((w.alloc (.cells #[.int .i64 s,.int .i64 v,.int .i64 o] 92)).alloc (.cells #[.int .i64 t,.int .i64 x,.int .i64 p] 92))).drew
 have BW:=Lib.hid (((Below.refl w.heap.size w).alloc (Nat.le_refl _) (.cells #[.int .i64 s,.int .i64 v,.int .i64 o] 92)).alloc (by simp) (.cells #[.int .i64 t,.int .i64 x,.int .i64 p] 92))
 have HSZ:Hid (w.heap.size≤((w.alloc (.cells #[.int .i64 s,.int .i64 v,.int .i64 o] 92)).alloc (.cells #[.int .i64 t,.int .i64 x,.int .i64 p] 92)).heap.size):=BW.out.size
 go_enter Tryz.func329,Tryz.ntmps329
 go_wp2_with fail
 go_region_held3 (fun w'=>w'.cell? ⟨w.heap.size,0,none⟩=some (.int .i64 s)∧w'.cell? ⟨w.heap.size,1,none⟩=some (.int .i64 v)∧w'.cell? ⟨w.heap.size,2,none⟩=some (.int .i64 o)∧w'.cell? ⟨w.heap.size+1,0,none⟩=some (.int .i64 t)∧w'.cell? ⟨w.heap.size+1,1,none⟩=some (.int .i64 x)∧w'.cell? ⟨w.heap.size+1,2,none⟩=some (.int .i64 p)) (first|exact HK.out _ B0.out|exact HK.out _ HB2.out|exact HK.out _ HB1.out) (first|(go_at_call 129;refine (Tryz.cmp_Compare_int _ _ _).mono ?_;rintro e w3 ⟨rfl,rfl⟩)|(go_at_call 339;have h1:=HB1;refine (worn_any ⟨t,x,p⟩ _).mono ?_;rintro e w2 ⟨rfl,hb2⟩;have HB2:=Lib.hid (HB1.out.trans (hb2.mono HB1.out.size));clear hb2)|(go_at_call 339;refine (worn_any ⟨s,v,o⟩ _).mono ?_;rintro e w1 ⟨rfl,hb1⟩;have HB1:=Lib.hid (B0.out.trans (hb1.mono B0.out.size));clear hb1))
 go_wp2_with fail
 go_ret
 exact ⟨rfl,BW.out.trans (HB2.out.mono HSZ.out)⟩
theorem is_any (k:Int) (w:World):
  Calls Tryz.prog 328 #[.int .i64 k] w fun e w'=>∃g,e= .returned (.func (.func 338) #[] #[.pointer (some ⟨g,0,none⟩)])∧w'.cell? ⟨g,0,none⟩=some (.int .i64 k)∧w.heap.size≤g∧Below w.heap.size w w':=by
 go_enter Tryz.func328,Tryz.ntmps328
 go_wp2_with fail
 go_ret
 exact ⟨w.heap.size,rfl,by simp,Nat.le_refl _,(Below.refl _ _).alloc (Nat.le_refl _) _⟩
theorem is1_any (g:Nat) (k:Int) (b:Bk) (w:World) (hg:w.cell? ⟨g,0,none⟩=some (.int .i64 k)):
  Calls Tryz.prog 338 #[b.val,.pointer (some ⟨g,0,none⟩)] w fun e w'=>e= .returned (.bool (b.st == k))∧Below w.heap.size w w':=by
 obtain ⟨s,v,o⟩:=b
 have HG:=Lib.hid hg
 have hlt:=World.block_lt_of_cell? _ _ hg
 have c0:=below_c ((Below.refl w.heap.size w).alloc (Nat.le_refl _) (.cells #[.int .i64 s,.int .i64 v,.int .i64 o] 92)) hg
 show Calls Tryz.prog 338 #[.agg #[.int .i64 s,.int .i64 v,.int .i64 o],.pointer (some ⟨g,0,none⟩)] w _
 go_enter Tryz.func338,Tryz.ntmps338
 go_wp2_with fail
 go_ret
 exact ⟨rfl,(Below.refl _ _).alloc (Nat.le_refl _) _⟩
end Go.Proofs.YtfialjmemcobjaaGreatDoor.we
set_option linter.unusedSimpArgs false
set_option linter.unusedVariables false
namespace Go.Proofs.YtfialjmemcobjaaGreatDoor.we
open Go.RowKit Go.Proofs.YtfialjmemcobjaaGreatDoor.er
set_option linter.unusedVariables false
def TabAt (w:World) (v:Value) (l:List Bk):Prop:=∃A cap,v= .slice A l.length cap∧l.length≤64∧(0 < l.length→∃g,A=some ⟨g,0,none⟩∧∀(j:Nat) (m:Bk),l[j]? =some m→w.cell? ⟨g,j * 3,none⟩=some (.int .i64 m.st)∧w.cell? ⟨g,j * 3+1,none⟩=some (.int .i64 m.va)∧w.cell? ⟨g,j * 3+2,none⟩=some (.int .i64 m.wo))
theorem TabAt.below {w w':World} {v:Value} {l:List Bk} (h:TabAt w v l) (hb:Below w.heap.size w w'):TabAt w' v l:=by
 obtain ⟨A,cap,rfl,h1,h2⟩:=h
 refine ⟨A,cap,rfl,h1,fun h0=>?_⟩
 obtain ⟨g,rfl,hc⟩:=h2 h0
 exact ⟨g,rfl,fun j m hm=>⟨below_c hb (hc j m hm).1,below_c hb (hc j m hm).2.1,below_c hb (hc j m hm).2.2⟩⟩
theorem TabAt.own {w:World} {B:Nat} {A:Option Addr} {cap n:Nat} {l:List Bk} (h:w.ownsRow B 92 3 (.slice A n cap) l.length (bkCells l)) (hl:l.length≤64):TabAt w (.slice A n cap) l:=by
 obtain rfl:=own_len h
 refine ⟨A,cap,rfl,hl,fun h0=>?_⟩
 obtain ⟨g,rfl,_,_,_,hc,_⟩:=own_cell h h0
 exact ⟨g,rfl,fun j m hm=>by
  obtain ⟨e0,e1,e2⟩:=bkCells_at l j m hm
  exact ⟨hc _ _ e0,hc _ _ e1,hc _ _ e2⟩⟩
def cntTo (l:List Bk) (k:Int):Nat→Int
 |0=>0
 |j+1=>cntTo l k j+(match l[j]? with|some x=>if (x.st == k)=true then 1 else 0|none=>0)
def countL (l:List Bk) (k:Int):Int:=cntTo l k l.length
set_option maxHeartbeats 4000000 in
set_option maxRecDepth 100000 in
theorem count_any (l:List Bk) (v:Value) (k:Int) (w:World) (h:TabAt w v l):
  Calls Tryz.prog 102 #[v,.int .i64 k] w fun e w'=>e= .returned (.int .i64 (countL l k))∧Below w.heap.size w w':=by
 obtain ⟨A,cap,rfl,hl,hc⟩:=h
 have HC:=Lib.hid hc
 clear hc
 have hli:(l.length:Int)≤64:=by omega
 go_enter Tryz.func102,Tryz.ntmps102
 go_wp2_with fail
 go_loopw [5,10] (fun nv i wr=>∃(j:Nat) (x:Int),j≤l.length∧i= .int .i64 j∧nv= .int .i64 x∧0≤x∧x≤j∧Hid (x=cntTo l k j)∧Hid (Below w.heap.size w wr)) (fun _ i _=>l.length - (intOf i).toNat)
 case atStart=>exact ⟨0,0,Nat.zero_le _,rfl,rfl,by omega,by omega,rfl,Below.refl _ _⟩
 case round=>
  obtain ⟨j,x,hj,rfl,rfl,hx0,hx1,HX,HBEL⟩:=hrel
  by_cases hlt:j < l.length
  ·obtain ⟨m,hm⟩:∃m,l[j]? =some m:=⟨l[j],List.getElem?_eq_getElem hlt⟩
   obtain ⟨g,rfl,hcells⟩:=HC.out (by omega)
   obtain ⟨e0,e1,e2⟩:=hcells j m hm
   have c0:=below_c HBEL.out e0
   have c1:=below_c HBEL.out e1
   have c2:=below_c HBEL.out e2
   have HN:Hid (cntTo l k (j+1)=x+(if (m.st == k)=true then 1 else 0)):=by show _=_;rw [HX.out];simp only [cntTo,hm]
   have hji:(j:Int) < (l.length:Int):=by omega
   clear e0 e1 e2 hcells hm
   cases hq:(m.st == k)
   ·have HQ:=Lib.hid hq
    go_wp2_with fail
    go_roundw
    case rel=>exact ⟨j+1,x,by omega,by go_num,rfl,hx0,by omega,by show x=_;rw [HN.out,HQ.out];simp,HBEL.out.alloc HBEL.out.size _⟩
    case measure=>simp [intOf];omega
   ·have HQ:=Lib.hid hq
    go_wp2_with fail
    go_roundw
    case rel=>exact ⟨j+1,x+1,by omega,by go_num,rfl,by omega,by omega,by show x+1=_;rw [HN.out,HQ.out];simp,HBEL.out.alloc HBEL.out.size _⟩
    case measure=>simp [intOf];omega
  ·obtain rfl:j=l.length:=by omega
   go_wp2_with fail
   go_ret
   exact ⟨by rw [HX.out];rfl,HBEL.out⟩
def bkAt (l:List Bk) (j:Int):Bk:=l.getD j.toNat ⟨0,0,0⟩
def pickTo (l:List Bk):Nat→Int
 |0=> -1
 |j+1=>match l[j]? with
  |some x=>if (x.st == 0)=true then (if pickTo l j < 0 then (j:Int) else if Lib.compareInt (wornOf x) (wornOf (bkAt l (pickTo l j))) < 0 then (j:Int) else pickTo l j) else pickTo l j
  |none=>pickTo l j
def pickL (l:List Bk):Int:=pickTo l l.length
theorem pickTo_le (l:List Bk):∀j,-1≤pickTo l j∧pickTo l j < j∨j=0∧pickTo l j= -1
 |0=>.inr ⟨rfl,rfl⟩
 |j+1=>by
  left
  have h:=pickTo_le l j
  unfold pickTo
  split
  ·split
   ·split
    ·omega
    ·split <;> omega
   ·omega
  ·omega
set_option maxHeartbeats 4000000 in
set_option maxRecDepth 100000 in
theorem least_any (l:List Bk) (v:Value) (gk:Nat) (w:World) (h:TabAt w v l) (hk:w.cell? ⟨gk,0,none⟩=some (.int .i64 0)):
  Calls Tryz.prog 327 #[v,.func (.func 338) #[] #[.pointer (some ⟨gk,0,none⟩)],.func (.func 329) #[] #[]] w fun e w'=>e= .returned (.int .i64 (pickL l))∧Below w.heap.size w w':=by
 obtain ⟨A,cap,rfl,hl,hc⟩:=h
 have HC:=Lib.hid hc
 have HK:=Lib.hid hk
 clear hc hk
 have hli:(l.length:Int)≤64:=by omega
 go_enter Tryz.func327,Tryz.ntmps327
 go_wp2_with fail
 go_loopw [7,12] (fun bv i wr=>∃(j:Nat) (x:Int),j≤l.length∧i= .int .i64 j∧bv= .int .i64 x∧-1≤x∧x < j+1∧Hid (x=pickTo l j)∧Hid (x < j∨x < 0)∧Hid (Below w.heap.size w wr)) (fun _ i _=>l.length - (intOf i).toNat)
 case atStart=>exact ⟨0,-1,Nat.zero_le _,rfl,rfl,by omega,by omega,rfl,.inr (by decide),Below.refl _ _⟩
 case round=>
  obtain ⟨j,x,hj,rfl,rfl,hx0,hx1,HX,HXJ,HBEL⟩:=hrel
  by_cases hlt:j < l.length
  ·obtain ⟨m,hm⟩:∃m,l[j]? =some m:=⟨l[j],List.getElem?_eq_getElem hlt⟩
   obtain ⟨g,rfl,hcells⟩:=HC.out (by omega)
   obtain ⟨e0,e1,e2⟩:=hcells j m hm
   have c0:=below_c HBEL.out e0
   have c1:=below_c HBEL.out e1
   have c2:=below_c HBEL.out e2
   have HN:Hid (pickTo l (j+1)=if (m.st == 0)=true then (if x < 0 then (j:Int) else if Lib.compareInt (wornOf m) (wornOf (bkAt l x)) < 0 then (j:Int) else x) else x):=by show _=_;rw [HX.out];simp only [pickTo,hm]
   have hji:(j:Int) < (l.length:Int):=by omega
   have HBX:=Lib.hid (Whole.new wr 92 #[.int .i64 m.st,.int .i64 m.va,.int .i64 m.wo])
   have HB1:=Lib.hid (HBEL.out.alloc HBEL.out.size (.cells #[.int .i64 m.st,.int .i64 m.va,.int .i64 m.wo] 92))
   have HKr:=Lib.hid (below_c HB1.out HK.out)
   have HBL:=Lib.hid ((Below.refl wr.heap.size wr).alloc (Nat.le_refl _) (.cells #[.int .i64 m.st,.int .i64 m.va,.int .i64 m.wo] 92))
   have HSZ:Hid (w.heap.size≤(wr.alloc (.cells #[.int .i64 m.st,.int .i64 m.va,.int .i64 m.wo] 92)).heap.size):=HB1.out.size
   have HL1:Hid (wr.heap.size < (wr.alloc (.cells #[.int .i64 m.st,.int .i64 m.va,.int .i64 m.wo] 92)).heap.size):=by show _ < _;simp
   have HCL:=Lib.hid hcells
   clear e0 e1 e2 hcells hm
   have B0:=Lib.hid (Below.refl (wr.alloc (.cells #[.int .i64 m.st,.int .i64 m.va,.int .i64 m.wo] 92)).heap.size (wr.alloc (.cells #[.int .i64 m.st,.int .i64 m.va,.int .i64 m.wo] 92))).drew
   have HKA:Hid (∀w',Below (wr.alloc (.cells #[.int .i64 m.st,.int .i64 m.va,.int .i64 m.wo] 92)).heap.size (wr.alloc (.cells #[.int .i64 m.st,.int .i64 m.va,.int .i64 m.wo] 92)) w'→(w'.cell? ⟨wr.heap.size,0,none⟩=some (.int .i64 m.st)∧w'.cell? ⟨wr.heap.size,1,none⟩=some (.int .i64 m.va)∧w'.cell? ⟨wr.heap.size,2,none⟩=some (.int .i64 m.wo))):=fun w' hb=>⟨below_c hb (HBX.out.cell 0),below_c hb (HBX.out.cell 1),below_c hb (HBX.out.cell 2)⟩
   cases hq:(m.st == 0)
   ·have HQ:=Lib.hid hq
    go_wp2_with fail
    refine wp_region_held_drew (S:=fun w'=>w'.cell? ⟨wr.heap.size,0,none⟩=some (.int .i64 m.st)∧w'.cell? ⟨wr.heap.size,1,none⟩=some (.int .i64 m.va)∧w'.cell? ⟨wr.heap.size,2,none⟩=some (.int .i64 m.wo)) (by kernel_rfl) (HKA.out _ B0.out) (fun hHeld=>?_)
    refine wpAnyH_take (i:=0) (oi:={dst:=some 17,op:=_,type:=_,pos:=_,after:=_,guard:=_}) (v:=?_) rfl (by kernel_rfl) (by kernel_rfl) (by kernel_rfl) (fun _ _ _ h=>h) (Or.inl ⟨by rfl,?_⟩) (by assumption) ?_
    rotate_left
    ·intro wz hSw;(try dsimp only at hSw);go_simp;(try with_reducible rfl)
    try simp only [Act.put,List.setIfInBounds_toArray,List.set_cons_zero,List.set_cons_succ]
    refine wpAnyH_take (i:=1) (oi:={dst:=some 18,op:=_,type:=_,pos:=_,after:=_,guard:=_}) (v:=?_) rfl (by kernel_rfl) (by kernel_rfl) (by kernel_rfl) (fun _ _ _ h=>h) (Or.inl ⟨by rfl,?_⟩) (by assumption) ?_
    rotate_left
    ·intro wz hSw;(try dsimp only at hSw);go_simp;(try with_reducible rfl)
    try simp only [Act.put,List.setIfInBounds_toArray,List.set_cons_zero,List.set_cons_succ]
    refine wpAnyH_ready (rs:=[2]) (by kernel_rfl) (by simp) (AllReadyH.cons (o:={dst:=some 19,op:=_,type:=_,pos:=_,after:=_,guard:=_}) rfl (fun K hK=>?_) AllReadyH.nil)
    rw [if_pos (by rfl)]
    go_simp
    ((go_at_call 338;refine (is1_any gk 0 m _ (below_c B0.out HKr.out)).mono ?_;rw [HQ.out];rintro e w2 ⟨rfl,hb2⟩;have HB2:=Lib.hid (B0.out.trans (hb2.mono B0.out.size));clear hb2))
    refine hK.out _ _ (HKA.out _ HB2.out) (fun hHeld=>?_)
    clear hK K
    try simp only [Act.put,List.setIfInBounds_toArray,List.set_cons_zero,List.set_cons_succ]
    refine wpAnyH_take (i:=3) (oi:={dst:=some 20,op:=_,type:=_,pos:=_,after:=_,guard:=_}) (v:=?_) rfl (by kernel_rfl) (by kernel_rfl) (by kernel_rfl) (fun _ _ _ h=>h) (Or.inl ⟨by rfl,?_⟩) (by assumption) ?_
    rotate_left
    ·intro wz hSw;(try dsimp only at hSw);go_simp;(try with_reducible rfl)
    try simp only [Act.put,List.setIfInBounds_toArray,List.set_cons_zero,List.set_cons_succ]
    refine wpAnyH_take (i:=4) (oi:={dst:=some 21,op:=_,type:=_,pos:=_,after:=_,guard:=_}) (v:=undef) rfl (by kernel_rfl) (by kernel_rfl) (by kernel_rfl) (fun _ _ _ h=>h) (Or.inr ⟨by rfl,rfl⟩) (by assumption) ?_
    try simp only [Act.put,List.setIfInBounds_toArray,List.set_cons_zero,List.set_cons_succ]
    refine wpAnyH_take (i:=5) (oi:={dst:=some 22,op:=_,type:=_,pos:=_,after:=_,guard:=_}) (v:=undef) rfl (by kernel_rfl) (by kernel_rfl) (by kernel_rfl) (fun _ _ _ h=>h) (Or.inr ⟨by rfl,rfl⟩) (by assumption) ?_
    try simp only [Act.put,List.setIfInBounds_toArray,List.set_cons_zero,List.set_cons_succ]
    refine wpAnyH_take (i:=6) (oi:={dst:=some 23,op:=_,type:=_,pos:=_,after:=_,guard:=_}) (v:=undef) rfl (by kernel_rfl) (by kernel_rfl) (by kernel_rfl) (fun _ _ _ h=>h) (Or.inr ⟨by rfl,rfl⟩) (by assumption) ?_
    try simp only [Act.put,List.setIfInBounds_toArray,List.set_cons_zero,List.set_cons_succ]
    refine wpAnyH_take (i:=7) (oi:={dst:=some 24,op:=_,type:=_,pos:=_,after:=_,guard:=_}) (v:=undef) rfl (by kernel_rfl) (by kernel_rfl) (by kernel_rfl) (fun _ _ _ h=>h) (Or.inr ⟨by rfl,rfl⟩) (by assumption) ?_
    try simp only [Act.put,List.setIfInBounds_toArray,List.set_cons_zero,List.set_cons_succ]
    refine wpAnyH_take (i:=8) (oi:={dst:=some 25,op:=_,type:=_,pos:=_,after:=_,guard:=_}) (v:=undef) rfl (by kernel_rfl) (by kernel_rfl) (by kernel_rfl) (fun _ _ _ h=>h) (Or.inr ⟨by rfl,rfl⟩) (by assumption) ?_
    try simp only [Act.put,List.setIfInBounds_toArray,List.set_cons_zero,List.set_cons_succ]
    refine wpAnyH_take (i:=9) (oi:={dst:=some 26,op:=_,type:=_,pos:=_,after:=_,guard:=_}) (v:=undef) rfl (by kernel_rfl) (by kernel_rfl) (by kernel_rfl) (fun _ _ _ h=>h) (Or.inr ⟨by rfl,rfl⟩) (by assumption) ?_
    try simp only [Act.put,List.setIfInBounds_toArray,List.set_cons_zero,List.set_cons_succ]
    refine wpAnyH_take (i:=10) (oi:={dst:=some 27,op:=_,type:=_,pos:=_,after:=_,guard:=_}) (v:=undef) rfl (by kernel_rfl) (by kernel_rfl) (by kernel_rfl) (fun _ _ _ h=>h) (Or.inr ⟨by rfl,rfl⟩) (by assumption) ?_
    try simp only [Act.put,List.setIfInBounds_toArray,List.set_cons_zero,List.set_cons_succ]
    refine wpAnyH_take (i:=11) (oi:={dst:=some 28,op:=_,type:=_,pos:=_,after:=_,guard:=_}) (v:=undef) rfl (by kernel_rfl) (by kernel_rfl) (by kernel_rfl) (fun _ _ _ h=>h) (Or.inr ⟨by rfl,rfl⟩) (by assumption) ?_
    try simp only [Act.put,List.setIfInBounds_toArray,List.set_cons_zero,List.set_cons_succ]
    refine wpAnyH_take (i:=12) (oi:={dst:=some 29,op:=_,type:=_,pos:=_,after:=_,guard:=_}) (v:=undef) rfl (by kernel_rfl) (by kernel_rfl) (by kernel_rfl) (fun _ _ _ h=>h) (Or.inr ⟨by rfl,rfl⟩) (by assumption) ?_
    try simp only [Act.put,List.setIfInBounds_toArray,List.set_cons_zero,List.set_cons_succ]
    refine wpAnyH_take (i:=13) (oi:={dst:=some 30,op:=_,type:=_,pos:=_,after:=_,guard:=_}) (v:=undef) rfl (by kernel_rfl) (by kernel_rfl) (by kernel_rfl) (fun _ _ _ h=>h) (Or.inr ⟨by rfl,rfl⟩) (by assumption) ?_
    try simp only [Act.put,List.setIfInBounds_toArray,List.set_cons_zero,List.set_cons_succ]
    refine wpAnyH_take (i:=14) (oi:={dst:=some 31,op:=_,type:=_,pos:=_,after:=_,guard:=_}) (v:=undef) rfl (by kernel_rfl) (by kernel_rfl) (by kernel_rfl) (fun _ _ _ h=>h) (Or.inr ⟨by rfl,rfl⟩) (by assumption) ?_
    try simp only [Act.put,List.setIfInBounds_toArray,List.set_cons_zero,List.set_cons_succ]
    refine wpAnyH_take (i:=15) (oi:={dst:=some 32,op:=_,type:=_,pos:=_,after:=_,guard:=_}) (v:=undef) rfl (by kernel_rfl) (by kernel_rfl) (by kernel_rfl) (fun _ _ _ h=>h) (Or.inr ⟨by rfl,rfl⟩) (by assumption) ?_
    try simp only [Act.put,List.setIfInBounds_toArray,List.set_cons_zero,List.set_cons_succ]
    refine wpAnyH_take (i:=16) (oi:={dst:=some 33,op:=_,type:=_,pos:=_,after:=_,guard:=_}) (v:=?_) rfl (by kernel_rfl) (by kernel_rfl) (by kernel_rfl) (fun _ _ _ h=>h) (Or.inl ⟨by rfl,?_⟩) (by assumption) ?_
    rotate_left
    ·intro wz hSw;(try dsimp only at hSw);go_simp;(try with_reducible rfl)
    try simp only [Act.put,List.setIfInBounds_toArray,List.set_cons_zero,List.set_cons_succ]
    refine wpAnyH_done (by kernel_rfl) ?_ _
    go_wp2_with fail
    go_roundw
    case rel=>exact ⟨j+1,x,by omega,by go_num,rfl,hx0,by omega,by show x=_;rw [HN.out,HQ.out];simp,by show x < ((j+1:Nat):Int)∨_;rcases HXJ.out with h|h <;> omega,HB1.out.trans (HB2.out.mono HSZ.out)⟩
    case measure=>simp [intOf];omega
   ·have HQ:=Lib.hid hq
    by_cases hneg:x < 0
    ·go_wp2_with fail
     refine wp_region_held_drew (S:=fun w'=>w'.cell? ⟨wr.heap.size,0,none⟩=some (.int .i64 m.st)∧w'.cell? ⟨wr.heap.size,1,none⟩=some (.int .i64 m.va)∧w'.cell? ⟨wr.heap.size,2,none⟩=some (.int .i64 m.wo)) (by kernel_rfl) (HKA.out _ B0.out) (fun hHeld=>?_)
     refine wpAnyH_take (i:=0) (oi:={dst:=some 17,op:=_,type:=_,pos:=_,after:=_,guard:=_}) (v:=?_) rfl (by kernel_rfl) (by kernel_rfl) (by kernel_rfl) (fun _ _ _ h=>h) (Or.inl ⟨by rfl,?_⟩) (by assumption) ?_
     rotate_left
     ·intro wz hSw;(try dsimp only at hSw);go_simp;(try with_reducible rfl)
     try simp only [Act.put,List.setIfInBounds_toArray,List.set_cons_zero,List.set_cons_succ]
     refine wpAnyH_take (i:=1) (oi:={dst:=some 18,op:=_,type:=_,pos:=_,after:=_,guard:=_}) (v:=?_) rfl (by kernel_rfl) (by kernel_rfl) (by kernel_rfl) (fun _ _ _ h=>h) (Or.inl ⟨by rfl,?_⟩) (by assumption) ?_
     rotate_left
     ·intro wz hSw;(try dsimp only at hSw);go_simp;(try with_reducible rfl)
     try simp only [Act.put,List.setIfInBounds_toArray,List.set_cons_zero,List.set_cons_succ]
     refine wpAnyH_ready (rs:=[2]) (by kernel_rfl) (by simp) (AllReadyH.cons (o:={dst:=some 19,op:=_,type:=_,pos:=_,after:=_,guard:=_}) rfl (fun K hK=>?_) AllReadyH.nil)
     rw [if_pos (by rfl)]
     go_simp
     ((go_at_call 338;refine (is1_any gk 0 m _ (below_c B0.out HKr.out)).mono ?_;rw [HQ.out];rintro e w2 ⟨rfl,hb2⟩;have HB2:=Lib.hid (B0.out.trans (hb2.mono B0.out.size));clear hb2))
     refine hK.out _ _ (HKA.out _ HB2.out) (fun hHeld=>?_)
     clear hK K
     try simp only [Act.put,List.setIfInBounds_toArray,List.set_cons_zero,List.set_cons_succ]
     refine wpAnyH_take (i:=3) (oi:={dst:=some 20,op:=_,type:=_,pos:=_,after:=_,guard:=_}) (v:=?_) rfl (by kernel_rfl) (by kernel_rfl) (by kernel_rfl) (fun _ _ _ h=>h) (Or.inl ⟨by rfl,?_⟩) (by assumption) ?_
     rotate_left
     ·intro wz hSw;(try dsimp only at hSw);go_simp;(try with_reducible rfl)
     try simp only [Act.put,List.setIfInBounds_toArray,List.set_cons_zero,List.set_cons_succ]
     refine wpAnyH_take (i:=4) (oi:={dst:=some 21,op:=_,type:=_,pos:=_,after:=_,guard:=_}) (v:=?_) rfl (by kernel_rfl) (by kernel_rfl) (by kernel_rfl) (fun _ _ _ h=>h) (Or.inl ⟨by rfl,?_⟩) (by assumption) ?_
     rotate_left
     ·intro wz hSw;(try dsimp only at hSw);go_simp;(try with_reducible rfl)
     try simp only [Act.put,List.setIfInBounds_toArray,List.set_cons_zero,List.set_cons_succ]
     refine wpAnyH_take (i:=5) (oi:={dst:=some 22,op:=_,type:=_,pos:=_,after:=_,guard:=_}) (v:=?_) rfl (by kernel_rfl) (by kernel_rfl) (by kernel_rfl) (fun _ _ _ h=>h) (Or.inl ⟨by rfl,?_⟩) (by assumption) ?_
     rotate_left
     ·intro wz hSw;(try dsimp only at hSw);go_simp;(try with_reducible rfl)
     try simp only [Act.put,List.setIfInBounds_toArray,List.set_cons_zero,List.set_cons_succ]
     refine wpAnyH_take (i:=6) (oi:={dst:=some 23,op:=_,type:=_,pos:=_,after:=_,guard:=_}) (v:=?_) rfl (by kernel_rfl) (by kernel_rfl) (by kernel_rfl) (fun _ _ _ h=>h) (Or.inl ⟨by rfl,?_⟩) (by assumption) ?_
     rotate_left
     ·intro wz hSw;(try dsimp only at hSw);go_simp;(try with_reducible rfl)
     try simp only [Act.put,List.setIfInBounds_toArray,List.set_cons_zero,List.set_cons_succ]
     refine wpAnyH_take (i:=7) (oi:={dst:=some 24,op:=_,type:=_,pos:=_,after:=_,guard:=_}) (v:=undef) rfl (by kernel_rfl) (by kernel_rfl) (by kernel_rfl) (fun _ _ _ h=>h) (Or.inr ⟨by rfl,rfl⟩) (by assumption) ?_
     try simp only [Act.put,List.setIfInBounds_toArray,List.set_cons_zero,List.set_cons_succ]
     refine wpAnyH_take (i:=8) (oi:={dst:=some 25,op:=_,type:=_,pos:=_,after:=_,guard:=_}) (v:=undef) rfl (by kernel_rfl) (by kernel_rfl) (by kernel_rfl) (fun _ _ _ h=>h) (Or.inr ⟨by rfl,rfl⟩) (by assumption) ?_
     try simp only [Act.put,List.setIfInBounds_toArray,List.set_cons_zero,List.set_cons_succ]
     refine wpAnyH_take (i:=9) (oi:={dst:=some 26,op:=_,type:=_,pos:=_,after:=_,guard:=_}) (v:=undef) rfl (by kernel_rfl) (by kernel_rfl) (by kernel_rfl) (fun _ _ _ h=>h) (Or.inr ⟨by rfl,rfl⟩) (by assumption) ?_
     try simp only [Act.put,List.setIfInBounds_toArray,List.set_cons_zero,List.set_cons_succ]
     refine wpAnyH_take (i:=10) (oi:={dst:=some 27,op:=_,type:=_,pos:=_,after:=_,guard:=_}) (v:=undef) rfl (by kernel_rfl) (by kernel_rfl) (by kernel_rfl) (fun _ _ _ h=>h) (Or.inr ⟨by rfl,rfl⟩) (by assumption) ?_
     try simp only [Act.put,List.setIfInBounds_toArray,List.set_cons_zero,List.set_cons_succ]
     refine wpAnyH_take (i:=11) (oi:={dst:=some 28,op:=_,type:=_,pos:=_,after:=_,guard:=_}) (v:=undef) rfl (by kernel_rfl) (by kernel_rfl) (by kernel_rfl) (fun _ _ _ h=>h) (Or.inr ⟨by rfl,rfl⟩) (by assumption) ?_
     try simp only [Act.put,List.setIfInBounds_toArray,List.set_cons_zero,List.set_cons_succ]
     refine wpAnyH_take (i:=12) (oi:={dst:=some 29,op:=_,type:=_,pos:=_,after:=_,guard:=_}) (v:=undef) rfl (by kernel_rfl) (by kernel_rfl) (by kernel_rfl) (fun _ _ _ h=>h) (Or.inr ⟨by rfl,rfl⟩) (by assumption) ?_
     try simp only [Act.put,List.setIfInBounds_toArray,List.set_cons_zero,List.set_cons_succ]
     refine wpAnyH_take (i:=13) (oi:={dst:=some 30,op:=_,type:=_,pos:=_,after:=_,guard:=_}) (v:=undef) rfl (by kernel_rfl) (by kernel_rfl) (by kernel_rfl) (fun _ _ _ h=>h) (Or.inr ⟨by rfl,rfl⟩) (by assumption) ?_
     try simp only [Act.put,List.setIfInBounds_toArray,List.set_cons_zero,List.set_cons_succ]
     refine wpAnyH_take (i:=14) (oi:={dst:=some 31,op:=_,type:=_,pos:=_,after:=_,guard:=_}) (v:=undef) rfl (by kernel_rfl) (by kernel_rfl) (by kernel_rfl) (fun _ _ _ h=>h) (Or.inr ⟨by rfl,rfl⟩) (by assumption) ?_
     try simp only [Act.put,List.setIfInBounds_toArray,List.set_cons_zero,List.set_cons_succ]
     refine wpAnyH_take (i:=15) (oi:={dst:=some 32,op:=_,type:=_,pos:=_,after:=_,guard:=_}) (v:=?_) rfl (by kernel_rfl) (by kernel_rfl) (by kernel_rfl) (fun _ _ _ h=>h) (Or.inl ⟨by rfl,?_⟩) (by assumption) ?_
     rotate_left
     ·intro wz hSw;(try dsimp only at hSw);go_simp;(try with_reducible rfl)
     try simp only [Act.put,List.setIfInBounds_toArray,List.set_cons_zero,List.set_cons_succ]
     refine wpAnyH_take (i:=16) (oi:={dst:=some 33,op:=_,type:=_,pos:=_,after:=_,guard:=_}) (v:=?_) rfl (by kernel_rfl) (by kernel_rfl) (by kernel_rfl) (fun _ _ _ h=>h) (Or.inl ⟨by rfl,?_⟩) (by assumption) ?_
     rotate_left
     ·intro wz hSw;(try dsimp only at hSw);go_simp;(try with_reducible rfl)
     try simp only [Act.put,List.setIfInBounds_toArray,List.set_cons_zero,List.set_cons_succ]
     refine wpAnyH_done (by kernel_rfl) ?_ _
     go_wp2_with fail
     go_roundw
     case rel=>exact ⟨j+1,j,by omega,by go_num,rfl,by omega,by omega,by show (j:Int)=_;rw [HN.out,HQ.out];simp [hneg],.inl (by show (j:Int) < ((j+1:Nat):Int);omega),HB1.out.trans (HB2.out.mono HSZ.out)⟩
     case measure=>simp [intOf];omega
    ·have hx2:0≤x:=by omega
     obtain ⟨y,hy⟩:∃y:Nat,x=(y:Int):=⟨x.toNat,by omega⟩
     subst hy
     have hyl:y < l.length:=by rcases HXJ.out with h|h <;> omega
     have hyli:(y:Int) < (l.length:Int):=by omega
     obtain ⟨n,hn⟩:∃n,l[y]? =some n:=⟨l[y],List.getElem?_eq_getElem hyl⟩
     have hbk:bkAt l (y:Int)=n:=by unfold bkAt;rw [Int.toNat_natCast,List.getD,hn];rfl
     obtain ⟨n0,n1,n2⟩:=HCL.out y n hn
     have HN0:=Lib.hid (below_c HB1.out n0)
     have HN1:=Lib.hid (below_c HB1.out n1)
     have HN2:=Lib.hid (below_c HB1.out n2)
     have HKB:Hid (∀w',Below (wr.alloc (.cells #[.int .i64 m.st,.int .i64 m.va,.int .i64 m.wo] 92)).heap.size (wr.alloc (.cells #[.int .i64 m.st,.int .i64 m.va,.int .i64 m.wo] 92)) w'→(w'.cell? ⟨wr.heap.size,0,none⟩=some (.int .i64 m.st)∧w'.cell? ⟨wr.heap.size,1,none⟩=some (.int .i64 m.va)∧w'.cell? ⟨wr.heap.size,2,none⟩=some (.int .i64 m.wo)∧w'.cell? ⟨g,y * 3,none⟩=some (.int .i64 n.st)∧w'.cell? ⟨g,y * 3+1,none⟩=some (.int .i64 n.va)∧w'.cell? ⟨g,y * 3+2,none⟩=some (.int .i64 n.wo))):=fun w' hb=>⟨below_c hb (HBX.out.cell 0),below_c hb (HBX.out.cell 1),below_c hb (HBX.out.cell 2),below_c hb HN0.out,below_c hb HN1.out,below_c hb HN2.out⟩
     obtain ⟨cv,hcv⟩:∃cv,Lib.compareInt (wornOf m) (wornOf n)=cv:=⟨_,rfl⟩
     have HBY:Hid (∀wq,Calls Tryz.prog 329 #[m.val,n.val] wq fun e w'=>e= .returned (.int .i64 cv)∧Below wq.heap.size wq w'):=fun wq=>hcv▸byWorn_any m n wq
     have HNN:=Lib.hid hneg
     rw [hbk,hcv] at HN
     clear n0 n1 n2 hn hbk hcv hneg
     cases hd:decide (cv < 0)
     ·have HD:=Lib.hid hd
      go_wp2_with fail
      go_region_held3 (fun w'=>w'.cell? ⟨wr.heap.size,0,none⟩=some (.int .i64 m.st)∧w'.cell? ⟨wr.heap.size,1,none⟩=some (.int .i64 m.va)∧w'.cell? ⟨wr.heap.size,2,none⟩=some (.int .i64 m.wo)∧w'.cell? ⟨g,y * 3,none⟩=some (.int .i64 n.st)∧w'.cell? ⟨g,y * 3+1,none⟩=some (.int .i64 n.va)∧w'.cell? ⟨g,y * 3+2,none⟩=some (.int .i64 n.wo)) (first|exact HKB.out _ B0.out|exact HKB.out _ HB3.out|exact HKB.out _ HB2.out) (first|(go_at_call 329;refine (HBY.out _).mono ?_;rintro e w3 ⟨rfl,hb3⟩;have HB3:=Lib.hid (HB2.out.trans (hb3.mono HB2.out.size));clear hb3)|(go_at_call 338;refine (is1_any gk 0 m _ (below_c B0.out HKr.out)).mono ?_;rw [HQ.out];rintro e w2 ⟨rfl,hb2⟩;have HB2:=Lib.hid (B0.out.trans (hb2.mono B0.out.size));clear hb2))
      go_wp2_with fail
      go_roundw
      case rel=>exact ⟨j+1,y,by omega,by go_num,rfl,hx0,by omega,by show (y:Int)=_;rw [HN.out,HQ.out,if_pos rfl,if_neg (Int.not_lt.2 (Int.natCast_nonneg y)),if_neg (of_decide_eq_false HD.out)],by show (y:Int) < ((j+1:Nat):Int)∨_;omega,HB1.out.trans (HB3.out.mono HSZ.out)⟩
      case measure=>simp [intOf];omega
     ·have HD:=Lib.hid hd
      go_wp2_with fail
      go_region_held3 (fun w'=>w'.cell? ⟨wr.heap.size,0,none⟩=some (.int .i64 m.st)∧w'.cell? ⟨wr.heap.size,1,none⟩=some (.int .i64 m.va)∧w'.cell? ⟨wr.heap.size,2,none⟩=some (.int .i64 m.wo)∧w'.cell? ⟨g,y * 3,none⟩=some (.int .i64 n.st)∧w'.cell? ⟨g,y * 3+1,none⟩=some (.int .i64 n.va)∧w'.cell? ⟨g,y * 3+2,none⟩=some (.int .i64 n.wo)) (first|exact HKB.out _ B0.out|exact HKB.out _ HB3.out|exact HKB.out _ HB2.out) (first|(go_at_call 329;refine (HBY.out _).mono ?_;rintro e w3 ⟨rfl,hb3⟩;have HB3:=Lib.hid (HB2.out.trans (hb3.mono HB2.out.size));clear hb3)|(go_at_call 338;refine (is1_any gk 0 m _ (below_c B0.out HKr.out)).mono ?_;rw [HQ.out];rintro e w2 ⟨rfl,hb2⟩;have HB2:=Lib.hid (B0.out.trans (hb2.mono B0.out.size));clear hb2))
      go_wp2_with fail
      go_roundw
      case rel=>exact ⟨j+1,j,by omega,by go_num,rfl,by omega,by omega,by show (j:Int)=_;rw [HN.out,HQ.out,if_pos rfl,if_neg (Int.not_lt.2 (Int.natCast_nonneg y)),if_pos (of_decide_eq_true HD.out)],.inl (by show (j:Int) < ((j+1:Nat):Int);omega),HB1.out.trans (HB3.out.mono HSZ.out)⟩
      case measure=>simp [intOf];omega
  ·obtain rfl:j=l.length:=by omega
   go_wp2_with fail
   go_ret
   exact ⟨by rw [HX.out];rfl,HBEL.out⟩
set_option maxHeartbeats 1000000 in
theorem pick_any (l:List Bk) (v:Value) (w:World) (h:TabAt w v l):
  Calls Tryz.prog 315 #[v] w fun e w'=>e= .returned (.int .i64 (pickL l))∧Below w.heap.size w w':=by
 have H:=Lib.hid h
 obtain ⟨A,cap,rfl,_⟩:=h
 go_enter Tryz.func315,Tryz.ntmps315
 go_wp2_with (first|(go_at_call 328;refine (is_any 0 _).mono ?_;rintro e w1 ⟨g,rfl,hg,hg1,hb1⟩;have HT:=Lib.hid (H.out.below hb1);have HG:=Lib.hid hg;have HB:=Lib.hid hb1;clear hb1 hg hg1)|(go_at_call 327;refine (least_any l _ g _ HT.out HG.out).mono ?_;rintro e w2 ⟨rfl,hb2⟩;have HB2:=Lib.hid (HB.out.trans (hb2.mono HB.out.size));clear hb2))
 go_ret
 exact ⟨rfl,HB2.out⟩
end Go.Proofs.YtfialjmemcobjaaGreatDoor.we
