/- A part of the proof. -/
import Derived.Test.YtfialjmemcobjaaGreatDoorPoCkA
import Derived.Test.YtfialjmemcobjaaGreatDoorPoFwB
set_option linter.unusedVariables false
set_option linter.unusedSimpArgs false
namespace Go.Proofs.YtfialjmemcobjaaGreatDoor.pg
open Go.RowKit Go.Proofs.YtfialjmemcobjaaGreatDoor.er Go.Proofs.YtfialjmemcobjaaGreatDoor.fd Go.Proofs.YtfialjmemcobjaaGreatDoor.ck
set_option linter.unusedVariables false
theorem widths_any (w:World):
  Calls Tryz.prog 55 #[] w fun e w'=>∃g,e= .returned (.slice (some ⟨g,0,none⟩) 5 5)∧WidthsAt w' g∧w.heap.size≤g∧Below w.heap.size w w':=by
 go_enter Tryz.func55,Tryz.ntmps55
 go_wp2_with fail
 go_ret
 exact ⟨w.heap.size,rfl,Whole.new _ _ _,Nat.le_refl _,(Below.refl _ _).alloc (Nat.le_refl _) _⟩
def numsOf (p:Page):Nat→Int
 |0=>p.kind
 |1=>p.space
 |2=>p.key
 |3=>p.seq
 |_=>p.body.size
theorem mayB_yes {p:Page} (h:mayB p=true):1≤p.kind∧p.kind≤4∧0≤p.space∧p.space≤65535∧0≤p.key∧p.key≤4294967295∧0≤p.seq∧p.seq≤281474976710655∧p.body.size≤100:=by
 simp only [mayB,inB,Bool.and_eq_true,decide_eq_true_eq] at h
 omega
theorem numsOf_lo {p:Page} (h:mayB p=true):∀j,j < 5→0≤numsOf p j:=by
 obtain ⟨h1,h2,h3,h4,h5,h6,h7,h8,h9⟩:=mayB_yes h
 intro j hj
 match j,hj with
 |0,_=>show 0≤p.kind;omega
 |1,_=>exact h3
 |2,_=>exact h5
 |3,_=>exact h7
 |4,_=>show 0≤(p.body.size:Int);omega
theorem numsOf_hi {p:Page} (h:mayB p=true):∀j,j < 5→numsOf p j < 256 ^ widN j:=by
 obtain ⟨h1,h2,h3,h4,h5,h6,h7,h8,h9⟩:=mayB_yes h
 intro j hj
 match j,hj with
 |0,_=>show p.kind < 256 ^ 1;omega
 |1,_=>show p.space < 256 ^ 2;omega
 |2,_=>show p.key < 256 ^ 4;omega
 |3,_=>show p.seq < 256 ^ 6;omega
 |4,_=>show (p.body.size:Int) < 256 ^ 1;omega
theorem nums_cells {w:World} {g:Nat} {p:Page} (h:Whole w g 98 #[.int .u64 p.kind,.int .u64 p.space,.int .u64 p.key,.int .u64 p.seq,.int .u64 p.body.size]):∀j,j < 5→w.cell? ⟨g,j,none⟩=some (.int .u64 (numsOf p j)):=by
 intro j hj
 rw [h.cell j]
 match j,hj with
 |0,_=>rfl
 |1,_=>rfl
 |2,_=>rfl
 |3,_=>rfl
 |4,_=>rfl
def headF (p:Page):ByteArray:=(⟨#[83,99]⟩:ByteArray)++⟨(rowL (numsOf p) 5).toArray⟩
def writeF (p:Page):ByteArray:=sealF (headF p++p.body)
theorem rowL_five (n:Nat→Int):(rowL n 5).length=14:=by simp [rowL,bytesOf_length,widN]
theorem rowB_size (n:Nat→Int):(⟨(rowL n 5).toArray⟩:ByteArray).size=14:=by show (rowL n 5).toArray.size=14;simp [rowL_five]
set_option maxHeartbeats 4000000 in
set_option maxRecDepth 100000 in
theorem write_no (p:Page) (w:World) (h:mayB p=false):
  Calls Tryz.prog 12 #[p.val] w fun e w'=>e= .returned (.tuple #[.string ⟨#[]⟩,.int .i64 1])∧Below w.heap.size w w':=by
 obtain ⟨k,s,y,q,b⟩:=p
 have H:=Lib.hid h
 clear h
 show Calls Tryz.prog 12 #[.agg #[.int .i64 k,.int .i64 s,.int .i64 y,.int .i64 q,.string b]] w _
 have hb1:Below w.heap.size w (w.alloc (.cells #[.int .i64 k,.int .i64 s,.int .i64 y,.int .i64 q,.string b] 32)):=(Below.refl _ _).alloc (Nat.le_refl _) _
 have HB1:=Lib.hid hb1
 clear hb1
 have HM:=Lib.hid (may_any ⟨k,s,y,q,b⟩ (w.alloc (.cells #[.int .i64 k,.int .i64 s,.int .i64 y,.int .i64 q,.string b] 32)))
 go_enter Tryz.func12,Tryz.ntmps12
 go_wp2_with fail
 refine HM.out.mono ?_
 rw [H.out]
 rintro e w' ⟨rfl,hb⟩
 have HB:=Lib.hid (HB1.out.trans (hb.mono HB1.out.size))
 clear hb
 go_wp2_with fail
 refine bodyPost_ret (v:= .tuple #[.string ⟨#[]⟩,.int .i64 1]) (by simp [results,Tryz.results12,go_sem]) rfl ⟨rfl,HB.out⟩
set_option maxHeartbeats 4000000 in
set_option maxRecDepth 100000 in
theorem write_yes (p:Page) (w:World) (h:mayB p=true):
  Calls Tryz.prog 12 #[p.val] w fun e w'=>e= .returned (.tuple #[.string (writeF p),.int .i64 0])∧Below w.heap.size w w':=by
 have h9:=mayB_yes h
 have H0:=Lib.hid (numsOf_lo h)
 have H1:=Lib.hid (numsOf_hi h)
 obtain ⟨k,s,y,q,b⟩:=p
 have H:=Lib.hid h
 clear h
 obtain ⟨h1,h2,h3,h4,h5,h6,h7,h8,h9⟩:=h9
 simp only at h1 h2 h3 h4 h5 h6 h7 h8 h9
 show Calls Tryz.prog 12 #[.agg #[.int .i64 k,.int .i64 s,.int .i64 y,.int .i64 q,.string b]] w _
 have HB1:=Lib.hid ((Below.refl w.heap.size w).alloc (Nat.le_refl _) (.cells #[.int .i64 k,.int .i64 s,.int .i64 y,.int .i64 q,.string b] 32))
 have HM:=Lib.hid (may_any ⟨k,s,y,q,b⟩ (w.alloc (.cells #[.int .i64 k,.int .i64 s,.int .i64 y,.int .i64 q,.string b] 32)))
 have HW:=Lib.hid (Whole.new w 32 #[.int .i64 k,.int .i64 s,.int .i64 y,.int .i64 q,.string b])
 go_enter Tryz.func12,Tryz.ntmps12
 go_wp2_with fail
 refine HM.out.mono ?_
 rw [H.out]
 rintro e w' ⟨rfl,hb⟩
 have HB:=Lib.hid (HB1.out.trans (hb.mono HB1.out.size))
 have d0:=below_c hb (HW.out.cell 0)
 have d1:=below_c hb (HW.out.cell 1)
 have d2:=below_c hb (HW.out.cell 2)
 have d3:=below_c hb (HW.out.cell 3)
 have d4:=below_c hb (HW.out.cell 4)
 have HK:Hid (∀wb,Below w'.heap.size w' wb→(wb.cell? ⟨w.heap.size,0,none⟩=some (.int .i64 k)∧wb.cell? ⟨w.heap.size,1,none⟩=some (.int .i64 s)∧wb.cell? ⟨w.heap.size,2,none⟩=some (.int .i64 y)∧wb.cell? ⟨w.heap.size,3,none⟩=some (.int .i64 q)∧wb.cell? ⟨w.heap.size,4,none⟩=some (.string b))):=fun wb hb=>⟨below_c hb d0,below_c hb d1,below_c hb d2,below_c hb d3,below_c hb d4⟩
 clear hb
 have hw0:IntKind.u64.wrap k=k:=wrap_u64 (by omega) (by omega)
 have hw1:IntKind.u64.wrap s=s:=wrap_u64 (by omega) (by omega)
 have hw2:IntKind.u64.wrap y=y:=wrap_u64 (by omega) (by omega)
 have hw3:IntKind.u64.wrap q=q:=wrap_u64 (by omega) (by omega)
 have hw4:IntKind.u64.wrap (b.size:Int)=(b.size:Int):=wrap_u64 (by omega) (by omega)
 have HN5:Hid (Whole (w'.alloc (.cells #[.int .u64 k,.int .u64 s,.int .u64 y,.int .u64 q,.int .u64 b.size] 98)).drew w'.heap.size 98 #[.int .u64 k,.int .u64 s,.int .u64 y,.int .u64 q,.int .u64 b.size]):=Whole.new w' 98 #[.int .u64 k,.int .u64 s,.int .u64 y,.int .u64 q,.int .u64 b.size]
 have HLT:Hid (w'.heap.size < (w'.alloc (.cells #[.int .u64 k,.int .u64 s,.int .u64 y,.int .u64 q,.int .u64 b.size] 98)).drew.heap.size):=by show _ < _;simp
 have HB5:=Lib.hid ((Below.refl w'.heap.size w').alloc (Nat.le_refl _) (.cells #[.int .u64 k,.int .u64 s,.int .u64 y,.int .u64 q,.int .u64 b.size] 98)).drew
 go_wp2_with fail
 go_region_held3 (fun w'=>w'.cell? ⟨w.heap.size,0,none⟩=some (.int .i64 k)∧w'.cell? ⟨w.heap.size,1,none⟩=some (.int .i64 s)∧w'.cell? ⟨w.heap.size,2,none⟩=some (.int .i64 y)∧w'.cell? ⟨w.heap.size,3,none⟩=some (.int .i64 q)∧w'.cell? ⟨w.heap.size,4,none⟩=some (.string b)) (first|exact HK.out _ HB6.out|exact HK.out _ HB3.out|exact HK.out _ HB4.out|exact HK.out _ (by repeat (first|exact Below.refl _ _|refine Below.drew ?_|refine Below.alloc ?_ (by first|omega|(simp <;> omega)) _)))
  (first|(go_at_call 55;refine (widths_any _).mono ?_;rintro e w4 ⟨g,rfl,hw4,hg4,hb4⟩;have HW4:=Lib.hid hw4;have HN4:=Lib.hid (Whole.below HN5.out hb4 HLT.out);have HB4:=Lib.hid (HB5.out.trans (hb4.mono (Nat.le_of_lt HLT.out)));clear hw4 hg4 hb4)|(go_at_call 55;refine (widths_any _).mono ?_;rintro e w4 ⟨g,rfl,hw4,hg4,hb4⟩;have HW4:Hid (WidthsAt (w4.alloc (.cells #[.int .u64 k,.int .u64 s,.int .u64 y,.int .u64 q,.int .u64 b.size] 98)) g):=Whole.alloc hw4 _;have HN4:=Lib.hid (Whole.new w4 98 #[.int .u64 k,.int .u64 s,.int .u64 y,.int .u64 q,.int .u64 b.size]);have HB3:=Lib.hid ((Below.refl w'.heap.size w').drew.trans hb4);have HB4:=Lib.hid (HB3.out.alloc HB3.out.size (.cells #[.int .u64 k,.int .u64 s,.int .u64 y,.int .u64 q,.int .u64 b.size] 98));clear hw4 hg4 hb4)|(go_at_call 54;refine (row_any _ g (numsOf ⟨k,s,y,q,b⟩) _ HW4.out (nums_cells HN4.out) H0.out H1.out).mono ?_;rintro e w5 ⟨rfl,hb5⟩;have HB6:=Lib.hid (HB4.out.trans (hb5.mono HB4.out.size));clear hb5))
 all_goals
  have d5:=(HK.out _ HB6.out).2.2.2.2
  have hz:=rowB_size (numsOf ⟨k,s,y,q,b⟩)
  have hsz:(headF ⟨k,s,y,q,b⟩++b).size≤70368744177664:=by
   rw [ByteArray.size_append,headF,ByteArray.size_append,hz]
   have:(⟨#[83,99]⟩:ByteArray).size=2:=rfl
   omega
  have HSZ:=Lib.hid hsz
  have HB7:=Lib.hid (HB.out.trans (HB6.out.mono HB.out.size))
  clear hsz
  go_wp2_with fail
  refine (seal_any (headF ⟨k,s,y,q,b⟩++b) _ HSZ.out).mono ?_
  rintro e w6 ⟨rfl,hb6⟩
  have HB8:=Lib.hid (HB7.out.trans (hb6.mono HB7.out.size))
  clear hb6
  go_wp2_with fail
  refine bodyPost_ret (v:= .tuple #[.string (writeF ⟨k,s,y,q,b⟩),.int .i64 0]) (by simp [results,Tryz.results12,go_sem,writeF]) rfl ⟨rfl,HB8.out⟩
theorem headF_size (p:Page):(headF p).size=16:=by
 rw [headF,ByteArray.size_append,rowB_size]
 rfl
theorem sealF_size (s:ByteArray):(sealF s).size=s.size+4:=by
 rw [sealF,ByteArray.size_append,Go.strOfNums_size]
 rfl
theorem writeF_size (p:Page):(writeF p).size=p.body.size+20:=by
 rw [writeF,sealF_size,ByteArray.size_append,headF_size]
 omega
end Go.Proofs.YtfialjmemcobjaaGreatDoor.pg
set_option linter.unusedSimpArgs false
set_option linter.unusedVariables false
namespace Go.Proofs.YtfialjmemcobjaaGreatDoor.pg
open Go.RowKit Go.Proofs.YtfialjmemcobjaaGreatDoor.er Go.Proofs.YtfialjmemcobjaaGreatDoor.fd Go.Proofs.YtfialjmemcobjaaGreatDoor.ck
set_option linter.unusedVariables false
def noPage:Page:=⟨0,0,0,0,⟨#[]⟩⟩
def numAt (s:ByteArray) (j:Nat):Int:=getN s (offN j) (widN j) (widN j)
def pageOf (s:ByteArray):Page:=⟨IntKind.i64.wrap (numAt s 0),IntKind.i64.wrap (numAt s 1),IntKind.i64.wrap (numAt s 2),IntKind.i64.wrap (numAt s 3),s.extract 14 s.size⟩
def lenOk (s:ByteArray):Bool:=(((s.extract 14 s.size).size:Int) == numAt s 4)
def readIn (t:ByteArray):Page×Int:=
 if t.size < 16 then (noPage,3) else
 if ((t.extract 0 2).toList == [83,99])=false then (noPage,3) else
 if lenOk (t.extract 2 t.size)=false then (noPage,3) else
 if mayB (pageOf (t.extract 2 t.size))=false then (noPage,3) else (pageOf (t.extract 2 t.size),0)
def readF (t:ByteArray):Page×Int:=if (openF t).2=0 then readIn (openF t).1 else (noPage,(openF t).2)
theorem openF_size (t:ByteArray):(openF t).1.size≤t.size:=by
 unfold openF
 split
 ·show 0≤_;omega
 ·split
  ·simp
  ·show 0≤_;omega
theorem take_r (u r:ByteArray) (x0 x1 x2 x3 x4:Int) (g:Nat) (w:World) (hw:WidthsAt w g) (h16:16≤u.size) (hs:u.size≤70368744177664) (hr:(u.extract 2 u.size).extract 14 (u.extract 2 u.size).size=r)
  (h0:numAt (u.extract 2 u.size) 0=x0) (h1:numAt (u.extract 2 u.size) 1=x1) (h2:numAt (u.extract 2 u.size) 2=x2) (h3:numAt (u.extract 2 u.size) 3=x3) (h4:numAt (u.extract 2 u.size) 4=x4):
  Calls Tryz.prog 104 #[.string (u.extract 2 u.size),.slice (some ⟨g,0,none⟩) 5 5] w fun e w'=>∃ga cap,e= .returned (.tuple #[.slice (some ⟨ga,0,none⟩) 5 cap,.string r,.int .i64 0])∧
   (w'.cell? ⟨ga,0,none⟩=some (.int .u64 x0)∧w'.cell? ⟨ga,1,none⟩=some (.int .u64 x1)∧w'.cell? ⟨ga,2,none⟩=some (.int .u64 x2)∧w'.cell? ⟨ga,3,none⟩=some (.int .u64 x3)∧w'.cell? ⟨ga,4,none⟩=some (.int .u64 x4))∧Below w.heap.size w w':=by
 subst hr h0 h1 h2 h3 h4
 refine (take_any (u.extract 2 u.size) g w hw (by simp;omega) (by simp;omega)).mono ?_
 rintro e w' ⟨A,cap,rfl,hown,hb⟩
 obtain ⟨ga,rfl,_,_,_,hc,_⟩:=own_cell hown (by omega)
 exact ⟨ga,cap,rfl,⟨hc 0 _ rfl,hc 1 _ rfl,hc 2 _ rfl,hc 3 _ rfl,hc 4 _ rfl⟩,hb⟩
theorem below_set5 {B g:Nat} {w w':World} (h:Below B w w') (hg:B≤g) (a b c d e:Value):Below B w (((((w'.setCell ⟨g,0,none⟩ a).setCell ⟨g,1,none⟩ b).setCell ⟨g,2,none⟩ c).setCell ⟨g,3,none⟩ d).setCell ⟨g,4,none⟩ e):=
 ((((h.setCell (p:=⟨g,0,none⟩) hg a).setCell (p:=⟨g,1,none⟩) hg b).setCell (p:=⟨g,2,none⟩) hg c).setCell (p:=⟨g,3,none⟩) hg d).setCell (p:=⟨g,4,none⟩) hg e
theorem tmp_whole {w w':World} {t:TypeId} (hb:Below (w.alloc (.cells #[.int .i64 0,.int .i64 0,.int .i64 0,.int .i64 0,.string ⟨#[]⟩] t)).heap.size (w.alloc (.cells #[.int .i64 0,.int .i64 0,.int .i64 0,.int .i64 0,.string ⟨#[]⟩] t)) w'):Whole w' w.heap.size t #[.int .i64 0,.int .i64 0,.int .i64 0,.int .i64 0,.string ⟨#[]⟩]:=
 Whole.below (Whole.new w t #[.int .i64 0,.int .i64 0,.int .i64 0,.int .i64 0,.string ⟨#[]⟩]) hb (by simp)
theorem tmp_cells {w:World} {g:Nat} {t:TypeId} {a b c d e:Value} (h:Whole w g t #[a,b,c,d,e]):
  (w.cell? ⟨g,0,none⟩=some a∧w.cell? ⟨g,1,none⟩=some b∧w.cell? ⟨g,2,none⟩=some c∧w.cell? ⟨g,3,none⟩=some d∧w.cell? ⟨g,4,none⟩=some e)∧
  w.frozen? ⟨g,0,none⟩=false∧w.frozen? ⟨g,1,none⟩=false∧w.frozen? ⟨g,2,none⟩=false∧w.frozen? ⟨g,3,none⟩=false∧w.frozen? ⟨g,4,none⟩=false:=
 ⟨⟨h.cell 0,h.cell 1,h.cell 2,h.cell 3,h.cell 4⟩,h.fz 0,h.fz 1,h.fz 2,h.fz 3,h.fz 4⟩
theorem set5_cells {w:World} {g:Nat} {t:TypeId} {a b c d e:Value} (h:Whole w g t #[a,b,c,d,e]) (a' b' c' d' e':Value):
  let w2:=(((((w.setCell ⟨g,0,none⟩ a').setCell ⟨g,1,none⟩ b').setCell ⟨g,2,none⟩ c').setCell ⟨g,3,none⟩ d').setCell ⟨g,4,none⟩ e')
  (w2.cell? ⟨g,0,none⟩=some a'∧w2.cell? ⟨g,1,none⟩=some b'∧w2.cell? ⟨g,2,none⟩=some c'∧w2.cell? ⟨g,3,none⟩=some d'∧w2.cell? ⟨g,4,none⟩=some e'):=by
 have k:Whole (((((w.setCell ⟨g,0,none⟩ a').setCell ⟨g,1,none⟩ b').setCell ⟨g,2,none⟩ c').setCell ⟨g,3,none⟩ d').setCell ⟨g,4,none⟩ e') g t #[a',b',c',d',e']:=by
  simpa using ((((h.set 0 a').set 1 b').set 2 c').set 3 d').set 4 e'
 exact ⟨k.cell 0,k.cell 1,k.cell 2,k.cell 3,k.cell 4⟩
set_option maxHeartbeats 4000000 in
set_option maxRecDepth 100000 in
theorem read_any (t:ByteArray) (w:World) (hs:t.size≤70368744177664):
  Calls Tryz.prog 43 #[.string t] w fun e w'=>e= .returned (.tuple #[(readF t).1.val,.int .i64 (readF t).2])∧Below w.heap.size w w':=by
 have hsz:=openF_size t
 by_cases h0:(openF t).2=0
 ·obtain ⟨u,c,hu⟩:∃u c,openF t=(u,c):=⟨_,_,rfl⟩
  have hr:readF t=readIn u:=by unfold readF;rw [if_pos h0,hu]
  have HO:=Lib.hid (open_any t (w.alloc (.cells #[.int .i64 0,.int .i64 0,.int .i64 0,.int .i64 0,.string ⟨#[]⟩] 32)) hs)
  rw [hu] at HO hsz h0
  obtain rfl:c=0:=h0
  simp only at HO hsz
  have HR:=Lib.hid hr
  clear hr hu
  by_cases h16:u.size < 16
  ·have HE:Hid (readIn u=(noPage,3)):=by show _=_;unfold readIn;rw [if_pos h16]
   have h16i:(u.size:Int) < 16:=by omega
   go_enter Tryz.func43,Tryz.ntmps43
   go_wp2_with fail
   refine HO.out.mono ?_
   rintro e w' ⟨rfl,hb⟩
   have HWH:=Lib.hid (tmp_whole hb)
   obtain ⟨⟨q0,q1,q2,q3,q4⟩,z0,z1,z2,z3,z4⟩:=tmp_cells HWH.out
   have HB:=Lib.hid (((Below.refl w.heap.size w).alloc (Nat.le_refl _) (.cells #[.int .i64 0,.int .i64 0,.int .i64 0,.int .i64 0,.string ⟨#[]⟩] 32)).trans (hb.mono (by simp)))
   clear hb
   go_wp2_with fail
   obtain ⟨r0,r1,r2,r3,r4⟩:=set5_cells HWH.out (.int .i64 0) (.int .i64 0) (.int .i64 0) (.int .i64 0) (.string ⟨#[]⟩)
   refine bodyPost_ret (v:= .tuple #[noPage.val,.int .i64 3]) (by simp [results,Tryz.results43,go_sem,noPage,Page.val,r0,r1,r2,r3,r4]) rfl ⟨by rw [HR.out,HE.out],below_set5 HB.out (Nat.le_refl _) _ _ _ _ _⟩
  ·have h16i:(16:Int)≤(u.size:Int):=by omega
   cases hm:((u.extract 0 2).toList == [83,99])
   ·have HE:Hid (readIn u=(noPage,3)):=by show _=_;unfold readIn;rw [if_neg h16,if_pos hm]
    go_enter Tryz.func43,Tryz.ntmps43
    go_wp2_with fail
    refine HO.out.mono ?_
    rintro e w' ⟨rfl,hb⟩
    have HWH:=Lib.hid (tmp_whole hb)
    obtain ⟨⟨q0,q1,q2,q3,q4⟩,z0,z1,z2,z3,z4⟩:=tmp_cells HWH.out
    have HB:=Lib.hid (((Below.refl w.heap.size w).alloc (Nat.le_refl _) (.cells #[.int .i64 0,.int .i64 0,.int .i64 0,.int .i64 0,.string ⟨#[]⟩] 32)).trans (hb.mono (by simp)))
    clear hb
    go_wp2_with fail
    obtain ⟨r0,r1,r2,r3,r4⟩:=set5_cells HWH.out (.int .i64 0) (.int .i64 0) (.int .i64 0) (.int .i64 0) (.string ⟨#[]⟩)
    refine bodyPost_ret (v:= .tuple #[noPage.val,.int .i64 3]) (by simp [results,Tryz.results43,go_sem,noPage,Page.val,r0,r1,r2,r3,r4]) rfl ⟨by rw [HR.out,HE.out],below_set5 HB.out (Nat.le_refl _) _ _ _ _ _⟩
   ·have HM:=Lib.hid hm
    go_enter Tryz.func43,Tryz.ntmps43
    go_wp2_with fail
    refine HO.out.mono ?_
    rintro e w' ⟨rfl,hb⟩
    have HWH:=Lib.hid (tmp_whole hb)
    obtain ⟨⟨q0,q1,q2,q3,q4⟩,z0,z1,z2,z3,z4⟩:=tmp_cells HWH.out
    have HB:=Lib.hid (((Below.refl w.heap.size w).alloc (Nat.le_refl _) (.cells #[.int .i64 0,.int .i64 0,.int .i64 0,.int .i64 0,.string ⟨#[]⟩] 32)).trans (hb.mono (by simp)))
    clear hb
    obtain ⟨r,hr⟩:∃r,(u.extract 2 u.size).extract 14 (u.extract 2 u.size).size=r:=⟨_,rfl⟩
    obtain ⟨x0,hx0⟩:∃x,numAt (u.extract 2 u.size) 0=x:=⟨_,rfl⟩
    obtain ⟨x1,hx1⟩:∃x,numAt (u.extract 2 u.size) 1=x:=⟨_,rfl⟩
    obtain ⟨x2,hx2⟩:∃x,numAt (u.extract 2 u.size) 2=x:=⟨_,rfl⟩
    obtain ⟨x3,hx3⟩:∃x,numAt (u.extract 2 u.size) 3=x:=⟨_,rfl⟩
    obtain ⟨x4,hx4⟩:∃x,numAt (u.extract 2 u.size) 4=x:=⟨_,rfl⟩
    obtain ⟨y0,hy0⟩:∃y,IntKind.i64.wrap x0=y:=⟨_,rfl⟩
    obtain ⟨y1,hy1⟩:∃y,IntKind.i64.wrap x1=y:=⟨_,rfl⟩
    obtain ⟨y2,hy2⟩:∃y,IntKind.i64.wrap x2=y:=⟨_,rfl⟩
    obtain ⟨y3,hy3⟩:∃y,IntKind.i64.wrap x3=y:=⟨_,rfl⟩
    have hpg:pageOf (u.extract 2 u.size)=⟨y0,y1,y2,y3,r⟩:=by unfold pageOf;rw [hx0,hx1,hx2,hx3,hy0,hy1,hy2,hy3,hr]
    have hln:lenOk (u.extract 2 u.size)=((r.size:Int) == x4):=by unfold lenOk;rw [hr,hx4]
    have hrz:r.size≤u.size:=by rw [←hr];simp;omega
    have hwr:IntKind.u64.wrap (r.size:Int)=(r.size:Int):=wrap_u64 (by omega) (by omega)
    have HT:Hid (∀g wq,WidthsAt wq g→_):=fun g wq hq=>take_r u r x0 x1 x2 x3 x4 g wq hq (by omega) (by omega) hr hx0 hx1 hx2 hx3 hx4
    have HIN:Hid (readIn u=if ((r.size:Int) == x4)=false then (noPage,3) else if mayB ⟨y0,y1,y2,y3,r⟩=false then (noPage,3) else (⟨y0,y1,y2,y3,r⟩,0)):=by
     show _=_
     unfold readIn
     rw [if_neg h16,if_neg (by rw [hm];simp),hln,hpg]
    clear hr hx0 hx1 hx2 hx3 hx4 hpg hln
    have hrzi:(r.size:Int)≤70368744177664:=by omega
    clear hrz hs hsz
    have h2i:(2:Int)≤(u.size:Int):=by omega
    go_wp2_with fail
    go_region_held3 (fun _=>True) (trivial)
     (first|(go_at_call 55;refine (widths_any _).mono ?_;rintro e w4 ⟨g,rfl,hw4,hg4,hb4⟩;have HW4:=Lib.hid hw4;have HB4:=Lib.hid (HB.out.drew.trans (hb4.mono (by have:=HB.out.size;exact this)));have HWH4:=Lib.hid (Whole.below (w:=w'.drew) HWH.out hb4 (by have:=HWH.out.lt;exact this));clear hw4 hg4 hb4)|(go_at_call 104;refine (HT.out g _ HW4.out).mono ?_;rintro e w5 ⟨ga,cap,rfl,⟨l0,l1,l2,l3,l4⟩,hb5⟩;have HB5:=Lib.hid (HB4.out.trans (hb5.mono HB4.out.size));have HWH5:=Lib.hid (Whole.below HWH4.out hb5 HWH4.out.lt);clear hb5))
    obtain ⟨⟨q0,q1,q2,q3,q4⟩,z0,z1,z2,z3,z4⟩:=tmp_cells HWH5.out
    cases hl:((r.size:Int) == x4)
    ·have HXL:=Lib.hid hl
     go_wp2_with fail
     obtain ⟨r0,r1,r2,r3,r4⟩:=set5_cells HWH5.out (.int .i64 0) (.int .i64 0) (.int .i64 0) (.int .i64 0) (.string ⟨#[]⟩)
     refine bodyPost_ret (v:= .tuple #[noPage.val,.int .i64 3]) (by simp [results,Tryz.results43,go_sem,noPage,Page.val,r0,r1,r2,r3,r4]) rfl ⟨by rw [HR.out,HIN.out,HXL.out,if_pos rfl],below_set5 HB5.out (Nat.le_refl _) _ _ _ _ _⟩
    ·have HXL:=Lib.hid hl
     go_wp2_with fail
     go_region_held3 (fun w'=>w'.cell? ⟨ga,0,none⟩=some (.int .u64 x0)∧w'.cell? ⟨ga,1,none⟩=some (.int .u64 x1)∧w'.cell? ⟨ga,2,none⟩=some (.int .u64 x2)∧w'.cell? ⟨ga,3,none⟩=some (.int .u64 x3)∧w'.cell? ⟨ga,4,none⟩=some (.int .u64 x4)) (first|exact ⟨l0,l1,l2,l3,l4⟩|go_keep) (fail)
     go_wp2_with fail
     refine (may_any ⟨y0,y1,y2,y3,r⟩ _).mono ?_
     cases hmay:mayB ⟨y0,y1,y2,y3,r⟩
     ·have HMY:=Lib.hid hmay
      clear hmay q0 q1 q2 q3 q4 z0 z1 z2 z3 z4
      rintro e w6 ⟨rfl,hb6⟩
      have HWH6:=Lib.hid (Whole.below (w:=(w5.alloc (.cells #[.int .i64 y0,.int .i64 y1,.int .i64 y2,.int .i64 y3,.string r] 32)).drew) (HWH5.out.alloc (.cells #[.int .i64 y0,.int .i64 y1,.int .i64 y2,.int .i64 y3,.string r] 32)) hb6 (by have:=HWH5.out.lt;simp;omega))
      have HB6:=Lib.hid ((HB5.out.alloc HB5.out.size (.cells #[.int .i64 y0,.int .i64 y1,.int .i64 y2,.int .i64 y3,.string r] 32)).drew.trans (hb6.mono (by have:=HB5.out.size;simp;omega)))
      obtain ⟨⟨q0,q1,q2,q3,q4⟩,z0,z1,z2,z3,z4⟩:=tmp_cells HWH6.out
      clear hb6
      go_wp2_with fail
      obtain ⟨r0,r1,r2,r3,r4⟩:=set5_cells HWH6.out (.int .i64 0) (.int .i64 0) (.int .i64 0) (.int .i64 0) (.string ⟨#[]⟩)
      refine bodyPost_ret (v:= .tuple #[noPage.val,.int .i64 3]) (by simp [results,Tryz.results43,go_sem,noPage,Page.val,r0,r1,r2,r3,r4]) rfl ⟨by rw [HR.out,HIN.out,HXL.out,if_neg (by simp),HMY.out,if_pos rfl],below_set5 HB6.out (Nat.le_refl _) _ _ _ _ _⟩
     ·have HMY:=Lib.hid hmay
      clear hmay q0 q1 q2 q3 q4 z0 z1 z2 z3 z4
      rintro e w6 ⟨rfl,hb6⟩
      have HWH6:=Lib.hid (Whole.below (w:=(w5.alloc (.cells #[.int .i64 y0,.int .i64 y1,.int .i64 y2,.int .i64 y3,.string r] 32)).drew) (HWH5.out.alloc (.cells #[.int .i64 y0,.int .i64 y1,.int .i64 y2,.int .i64 y3,.string r] 32)) hb6 (by have:=HWH5.out.lt;simp;omega))
      have HB6:=Lib.hid ((HB5.out.alloc HB5.out.size (.cells #[.int .i64 y0,.int .i64 y1,.int .i64 y2,.int .i64 y3,.string r] 32)).drew.trans (hb6.mono (by have:=HB5.out.size;simp;omega)))
      have HP6:=Lib.hid (Whole.below (w:=(w5.alloc (.cells #[.int .i64 y0,.int .i64 y1,.int .i64 y2,.int .i64 y3,.string r] 32)).drew) (Whole.new w5 _ _) hb6 (by simp))
      obtain ⟨⟨q0,q1,q2,q3,q4⟩,z0,z1,z2,z3,z4⟩:=tmp_cells HWH6.out
      obtain ⟨⟨p0,p1,p2,p3,p4⟩,_⟩:=tmp_cells HP6.out
      clear hb6
      go_wp2_with fail
      obtain ⟨r0,r1,r2,r3,r4⟩:=set5_cells HWH6.out (.int .i64 y0) (.int .i64 y1) (.int .i64 y2) (.int .i64 y3) (.string r)
      refine bodyPost_ret (v:= .tuple #[Page.val ⟨y0,y1,y2,y3,r⟩,.int .i64 0]) (by simp [results,Tryz.results43,go_sem,Page.val,r0,r1,r2,r3,r4]) rfl ⟨by rw [HR.out,HIN.out,HXL.out,if_neg (by simp),HMY.out,if_neg (by simp)],below_set5 HB6.out (Nat.le_refl _) _ _ _ _ _⟩
 ·have HE:Hid (readF t=(noPage,(openF t).2)):=by show _=_;unfold readF;rw [if_neg h0]
  obtain ⟨u,c,hu⟩:∃u c,openF t=(u,c):=⟨_,_,rfl⟩
  have HO:=Lib.hid (open_any t (w.alloc (.cells #[.int .i64 0,.int .i64 0,.int .i64 0,.int .i64 0,.string ⟨#[]⟩] 32)) hs)
  rw [hu] at HO HE h0
  simp only at HO HE h0
  have hc:(c == 0)=false:=by simpa using h0
  clear h0 hu
  go_enter Tryz.func43,Tryz.ntmps43
  go_wp2_with fail
  refine HO.out.mono ?_
  rintro e w' ⟨rfl,hb⟩
  have HWH:=Lib.hid (tmp_whole hb)
  obtain ⟨⟨q0,q1,q2,q3,q4⟩,z0,z1,z2,z3,z4⟩:=tmp_cells HWH.out
  have HB:=Lib.hid (((Below.refl w.heap.size w).alloc (Nat.le_refl _) (.cells #[.int .i64 0,.int .i64 0,.int .i64 0,.int .i64 0,.string ⟨#[]⟩] 32)).trans (hb.mono (by simp)))
  clear hb
  go_wp2_with fail
  obtain ⟨r0,r1,r2,r3,r4⟩:=set5_cells HWH.out (.int .i64 0) (.int .i64 0) (.int .i64 0) (.int .i64 0) (.string ⟨#[]⟩)
  refine bodyPost_ret (v:= .tuple #[noPage.val,.int .i64 c]) (by simp [results,Tryz.results43,go_sem,noPage,Page.val,r0,r1,r2,r3,r4]) rfl ⟨by rw [HE.out],below_set5 HB.out (Nat.le_refl _) _ _ _ _ _⟩
end Go.Proofs.YtfialjmemcobjaaGreatDoor.pg
namespace Go.Proofs.YtfialjmemcobjaaGreatDoor.pg
open Go.RowKit Go.Proofs.YtfialjmemcobjaaGreatDoor.er Go.Proofs.YtfialjmemcobjaaGreatDoor.fd Go.Proofs.YtfialjmemcobjaaGreatDoor.ck
set_option linter.unusedVariables false
theorem rowL_at (n:Nat→Int):∀(m j i:Nat),j < m→i < widN j→(rowL n m)[offN j+i]? =some (UInt8.ofNat ((n j) / 256 ^ i % 256).toNat)
 |m+1,j,i,hj,hi=>by
  have hlen:∀m,(rowL n m).length=offN m:=by
   intro m
   induction m with
   |zero=>rfl
   |succ m ih=>simp [rowL,offN,ih,bytesOf_length]
  have hmono:∀a b,a≤b→offN a≤offN b:=by
   intro a b hab
   induction b with
   |zero=>
    have:a=0:=by omega
    subst this;exact Nat.le_refl _
   |succ b ih=>
    rcases Nat.lt_or_ge b a with h|h
    ·have:a=b+1:=by omega
     subst this;exact Nat.le_refl _
    ·exact Nat.le_trans (ih h) (by simp [offN])
  rcases Nat.lt_or_ge j m with h|h
  ·have h1:offN j+i < (rowL n m).length:=by
    rw [hlen]
    have:=hmono (j+1) m h
    simp only [offN] at this
    omega
   show (rowL n m++_)[_]? =_
   rw [List.getElem?_append_left h1]
   exact rowL_at n m j i h hi
  ·obtain rfl:j=m:=by omega
   show (rowL n j++_)[_]? =_
   rw [List.getElem?_append_right (by rw [hlen];omega),hlen,Nat.add_sub_cancel_left]
   rw [List.getElem?_map]
   simp [bytesOf,hi]
theorem numAt_row (p:Page) (h:mayB p=true) (j:Nat) (hj:j < 5):numAt ((⟨(rowL (numsOf p) 5).toArray⟩:ByteArray)++p.body) j=numsOf p j:=by
 have h0:=numsOf_lo h j hj
 have h1:=numsOf_hi h j hj
 have hw:widN j≤7:=by unfold widN;split <;> omega
 have:=getN_bytes ((⟨(rowL (numsOf p) 5).toArray⟩:ByteArray)++p.body) (offN j) (widN j) (numsOf p j) h0 h1 hw (fun i hi=>by
  have hr:=rowL_at (numsOf p) 5 j i hj hi
  obtain ⟨hlt,he⟩:=List.getElem?_eq_some_iff.1 hr
  rw [byteAt_data _ _ _ hlt,he]
  exact byte_mod _ (Int.emod_nonneg _ (by decide)) (Int.emod_lt_of_pos _ (by decide))) (widN j) (Nat.le_refl _)
 rw [numAt,this,Nat.sub_self]
 simp
theorem wrap_i64 {n:Int} (h0:0≤n) (h1:n < 9223372036854775808):IntKind.i64.wrap n=n:=by rw [IntKind.wrap_i64];omega
theorem extract_back (a b:ByteArray):(a++b).extract a.size (a++b).size=b:=by
 rw [ByteArray.size_append,ByteArray.extract_append]
 have h:a.extract a.size (a.size+b.size)=ByteArray.empty:=by
  apply ByteArray.ext
  simp
 simp [h]
theorem extract_front (a b:ByteArray):(a++b).extract 0 a.size=a:=by
 rw [ByteArray.extract_append]
 simp
theorem open_sealV (s:ByteArray):openF (sealF s)=(s,0):=by
 have hz:(sealF s).size=s.size+4:=by unfold sealF;rw [ByteArray.size_append,strOfNums_size];rfl
 have he:(sealF s).extract 0 ((sealF s).size - 4)=s:=by
  rw [hz]
  exact ByteArray.extract_append_eq_left rfl
 unfold openF
 rw [if_neg (by omega),he,if_pos (show ((sealF s).toList == (sealF s).toList)=true from beq_self_eq_true _)]
theorem read_write (p:Page) (h:mayB p=true):readF (writeF p)=(p,0):=by
 have hm:=mayB_yes h
 unfold readF writeF
 rw [open_sealV,if_pos rfl]
 obtain ⟨r,hr⟩:∃r:ByteArray,r=⟨(rowL (numsOf p) 5).toArray⟩:=⟨_,rfl⟩
 have hrz:r.size=14:=by rw [hr];exact rowB_size _
 have hu:headF p++p.body=(⟨#[83,99]⟩:ByteArray)++(r++p.body):=by rw [headF,←hr,ByteArray.append_assoc]
 have h2:(⟨#[83,99]⟩:ByteArray).size=2:=rfl
 have hs:(headF p++p.body).extract 2 (headF p++p.body).size=r++p.body:=by
  rw [hu]
  exact extract_back ⟨#[83,99]⟩ (r++p.body)
 have hb:(r++p.body).extract 14 (r++p.body).size=p.body:=by
  have:=extract_back r p.body
  rw [hrz] at this
  exact this
 have hn:∀j,j < 5→numAt (r++p.body) j=numsOf p j:=fun j hj=>by rw [hr];exact numAt_row p h j hj
 show readIn (headF p++p.body)=(p,0)
 unfold readIn
 rw [hs,if_neg (by rw [ByteArray.size_append,headF_size];omega)]
 have hf:(headF p++p.body).extract 0 2=⟨#[83,99]⟩:=by
  rw [hu]
  exact extract_front ⟨#[83,99]⟩ (r++p.body)
 rw [hf,if_neg (by simp [go_sem])]
 have hl:lenOk (r++p.body)=true:=by
  unfold lenOk
  rw [hb,hn 4 (by omega)]
  simp [numsOf]
 have hp:pageOf (r++p.body)=p:=by
  unfold pageOf
  rw [hb,hn 0 (by omega),hn 1 (by omega),hn 2 (by omega),hn 3 (by omega)]
  obtain ⟨k,s,y,q,b⟩:=p
  simp only at hm
  show (⟨IntKind.i64.wrap k,IntKind.i64.wrap s,IntKind.i64.wrap y,IntKind.i64.wrap q,b⟩:Page)=_
  rw [wrap_i64 (by omega) (by omega),wrap_i64 (by omega) (by omega),wrap_i64 (by omega) (by omega),wrap_i64 (by omega) (by omega)]
 rw [hl,if_neg (by simp),hp,h,if_neg (by simp)]
end Go.Proofs.YtfialjmemcobjaaGreatDoor.pg
