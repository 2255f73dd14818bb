/- A part of the proof. -/
import Derived.Test.YtfialjmemcobjaaGreatDoorPrCkA
import Derived.Test.YtfialjmemcobjaaGreatDoorPrFwB
set_option linter.unusedVariables false
set_option linter.unusedSimpArgs false
namespace Go.Proofs.YtfialjmemcobjaaGreatDoor
namespace pg
open Go.RowKit er fd ck
theorem Ib (w:World):
  Calls Tryz.prog 55 #[] w fun e w'=>∃g,e= .returned (.slice (some ⟨g,0,none⟩) 5 5)∧WidthsAt w' g∧w.heap.size≤g∧Below w.heap.size w w':=by
 go_enter Tryz.func55,Tryz.ntmps55
 go_wp2_with fail
 go_ret
 exact ⟨w.heap.size,rfl,Whole.new _ _ _,Nat.le_refl _,(Below.refl _ _).alloc (Nat.le_refl _) _⟩
def numsOf (p:Page):Nat→Int
 |0=>p.kind
 |1=>p.space
 |2=>p.key
 |3=>p.seq
 |_=>p.body.size
theorem Jy {p:Page} (h:Zj p=true):1≤p.kind∧p.kind≤4∧0≤p.space∧p.space≤65535∧0≤p.key∧p.key≤4294967295∧0≤p.seq∧p.seq≤281474976710655∧p.body.size≤100:=by
 simp only [Zj,inB,Bool.and_eq_true,decide_eq_true_eq] at h
 omega
theorem Na {p:Page} (h:Zj p=true):∀j,j < 5→0≤numsOf p j:=by
 obtain ⟨h1,h2,h3,h4,h5,h6,h7,h8,h9⟩:=Jy h
 intro j hj
 match j,hj with
 |0,_=>show 0≤p.kind;omega
 |1,_=>exact h3
 |2,_=>exact h5
 |3,_=>exact h7
 |4,_=>show 0≤(p.body.size:Int);omega
theorem Nb {p:Page} (h:Zj p=true):∀j,j < 5→numsOf p j < 256 ^ Ij j:=by
 obtain ⟨h1,h2,h3,h4,h5,h6,h7,h8,h9⟩:=Jy h
 intro j hj
 match j,hj with
 |0,_=>show p.kind < 256 ^ 1;omega
 |1,_=>show p.space < 256 ^ 2;omega
 |2,_=>show p.key < 256 ^ 4;omega
 |3,_=>show p.seq < 256 ^ 6;omega
 |4,_=>show (p.body.size:Int) < 256 ^ 1;omega
theorem Qzn {w:World} {g:Nat} {p:Page} (h:Whole w g 98 #[.int .u64 p.kind,.int .u64 p.space,.int .u64 p.key,.int .u64 p.seq,.int .u64 p.body.size]):∀j,j < 5→w.cell? ⟨g,j,none⟩=some (.int .u64 (numsOf p j)):=by
 intro j hj
 rw [h.cell j]
 match j,hj with
 |0,_=>rfl
 |1,_=>rfl
 |2,_=>rfl
 |3,_=>rfl
 |4,_=>rfl
def Gj (p:Page):ByteArray:=(⟨#[83,99]⟩:ByteArray)++⟨(Gg (numsOf p) 5).toArray⟩
def Qp (p:Page):ByteArray:=Y4 (Gj p++p.body)
theorem Qyk (n:Nat→Int):(Gg n 5).length=14:=by simp [Gg,bytesOf_length,Ij]
theorem Ex (n:Nat→Int):(⟨(Gg n 5).toArray⟩:ByteArray).size=14:=by show (Gg n 5).toArray.size=14;simp [Qyk]
set_option maxHeartbeats 4000000 in
set_option maxRecDepth 100000 in
theorem Aj (p:Page) (w:World) (h:Zj p=false):
  Calls Tryz.prog 12 #[p.val] w fun e w'=>e= .returned (.tuple #[.string ⟨#[]⟩,.int .i64 1])∧Below w.heap.size w w':=by
 obtain ⟨k,s,y,q,b⟩:=p
 have H:=Ql4 h
 clear h
 show Calls Tryz.prog 12 #[.agg #[.int .i64 k,.int .i64 s,.int .i64 y,.int .i64 q,.string b]] w _
 have hb1:Below w.heap.size w (w.alloc (.cells #[.int .i64 k,.int .i64 s,.int .i64 y,.int .i64 q,.string b] 32)):=(Below.refl _ _).alloc (Nat.le_refl _) _
 have HB1:=Ql4 hb1
 clear hb1
 have HM:=Ql4 (O5 ⟨k,s,y,q,b⟩ (w.alloc (.cells #[.int .i64 k,.int .i64 s,.int .i64 y,.int .i64 q,.string b] 32)))
 go_enter Tryz.func12,Tryz.ntmps12
 go_wp2_with fail
 refine HM.out.mono ?_
 rw [H.out]
 rintro e w' ⟨rfl,hb⟩
 have HB:=Ql4 (HB1.out.trans (hb.mono HB1.out.size))
 clear hb
 go_wp2_with fail
 refine bodyPost_ret (v:= .tuple #[.string ⟨#[]⟩,.int .i64 1]) (by simp [results,Tryz.results12,go_sem]) rfl ⟨rfl,HB.out⟩
set_option maxHeartbeats 4000000 in
set_option maxRecDepth 100000 in
theorem Dw (p:Page) (w:World) (h:Zj p=true):
  Calls Tryz.prog 12 #[p.val] w fun e w'=>e= .returned (.tuple #[.string (Qp p),.int .i64 0])∧Below w.heap.size w w':=by
 have h9:=Jy h
 have H0:=Ql4 (Na h)
 have H1:=Ql4 (Nb h)
 obtain ⟨k,s,y,q,b⟩:=p
 have H:=Ql4 h
 clear h
 obtain ⟨h1,h2,h3,h4,h5,h6,h7,h8,h9⟩:=h9
 simp only at h1 h2 h3 h4 h5 h6 h7 h8 h9
 show Calls Tryz.prog 12 #[.agg #[.int .i64 k,.int .i64 s,.int .i64 y,.int .i64 q,.string b]] w _
 have HB1:=Ql4 ((Below.refl w.heap.size w).alloc (Nat.le_refl _) (.cells #[.int .i64 k,.int .i64 s,.int .i64 y,.int .i64 q,.string b] 32))
 have HM:=Ql4 (O5 ⟨k,s,y,q,b⟩ (w.alloc (.cells #[.int .i64 k,.int .i64 s,.int .i64 y,.int .i64 q,.string b] 32)))
 have HW:=Ql4 (Whole.new w 32 #[.int .i64 k,.int .i64 s,.int .i64 y,.int .i64 q,.string b])
 go_enter Tryz.func12,Tryz.ntmps12
 go_wp2_with fail
 refine HM.out.mono ?_
 rw [H.out]
 rintro e w' ⟨rfl,hb⟩
 have HB:=Ql4 (HB1.out.trans (hb.mono HB1.out.size))
 have d0:=Qq hb (HW.out.cell 0)
 have d1:=Qq hb (HW.out.cell 1)
 have d2:=Qq hb (HW.out.cell 2)
 have d3:=Qq hb (HW.out.cell 3)
 have d4:=Qq hb (HW.out.cell 4)
 have HK:Hid (∀wb,Below w'.heap.size w' wb→(wb.cell? ⟨w.heap.size,0,none⟩=some (.int .i64 k)∧wb.cell? ⟨w.heap.size,1,none⟩=some (.int .i64 s)∧wb.cell? ⟨w.heap.size,2,none⟩=some (.int .i64 y)∧wb.cell? ⟨w.heap.size,3,none⟩=some (.int .i64 q)∧wb.cell? ⟨w.heap.size,4,none⟩=some (.string b))):=fun wb hb=>⟨Qq hb d0,Qq hb d1,Qq hb d2,Qq hb d3,Qq hb d4⟩
 clear hb
 have hw0:IntKind.u64.wrap k=k:=wrap_u64 (by omega) (by omega)
 have hw1:IntKind.u64.wrap s=s:=wrap_u64 (by omega) (by omega)
 have hw2:IntKind.u64.wrap y=y:=wrap_u64 (by omega) (by omega)
 have hw3:IntKind.u64.wrap q=q:=wrap_u64 (by omega) (by omega)
 have hw4:IntKind.u64.wrap (b.size:Int)=(b.size:Int):=wrap_u64 (by omega) (by omega)
 have HN5:Hid (Whole (w'.alloc (.cells #[.int .u64 k,.int .u64 s,.int .u64 y,.int .u64 q,.int .u64 b.size] 98)).drew w'.heap.size 98 #[.int .u64 k,.int .u64 s,.int .u64 y,.int .u64 q,.int .u64 b.size]):=Whole.new w' 98 #[.int .u64 k,.int .u64 s,.int .u64 y,.int .u64 q,.int .u64 b.size]
 have HLT:Hid (w'.heap.size < (w'.alloc (.cells #[.int .u64 k,.int .u64 s,.int .u64 y,.int .u64 q,.int .u64 b.size] 98)).drew.heap.size):=by show _ < _;simp
 have HB5:=Ql4 ((Below.refl w'.heap.size w').alloc (Nat.le_refl _) (.cells #[.int .u64 k,.int .u64 s,.int .u64 y,.int .u64 q,.int .u64 b.size] 98)).drew
 go_wp2_with fail
 go_region_held3 (fun w'=>w'.cell? ⟨w.heap.size,0,none⟩=some (.int .i64 k)∧w'.cell? ⟨w.heap.size,1,none⟩=some (.int .i64 s)∧w'.cell? ⟨w.heap.size,2,none⟩=some (.int .i64 y)∧w'.cell? ⟨w.heap.size,3,none⟩=some (.int .i64 q)∧w'.cell? ⟨w.heap.size,4,none⟩=some (.string b)) (first|exact HK.out _ HB6.out|exact HK.out _ HB3.out|exact HK.out _ HB4.out|exact HK.out _ (by repeat (first|exact Below.refl _ _|refine Below.drew ?_|refine Below.alloc ?_ (by first|omega|(simp <;> omega)) _)))
  (first|(go_at_call 55;refine (Ib _).mono ?_;rintro e w4 ⟨g,rfl,hw4,hg4,hb4⟩;have HW4:=Ql4 hw4;have HN4:=Ql4 (Whole.below HN5.out hb4 HLT.out);have HB4:=Ql4 (HB5.out.trans (hb4.mono (Nat.le_of_lt HLT.out)));clear hw4 hg4 hb4)|(go_at_call 55;refine (Ib _).mono ?_;rintro e w4 ⟨g,rfl,hw4,hg4,hb4⟩;have HW4:Hid (WidthsAt (w4.alloc (.cells #[.int .u64 k,.int .u64 s,.int .u64 y,.int .u64 q,.int .u64 b.size] 98)) g):=Whole.alloc hw4 _;have HN4:=Ql4 (Whole.new w4 98 #[.int .u64 k,.int .u64 s,.int .u64 y,.int .u64 q,.int .u64 b.size]);have HB3:=Ql4 ((Below.refl w'.heap.size w').drew.trans hb4);have HB4:=Ql4 (HB3.out.alloc HB3.out.size (.cells #[.int .u64 k,.int .u64 s,.int .u64 y,.int .u64 q,.int .u64 b.size] 98));clear hw4 hg4 hb4)|(go_at_call 54;refine (Qda _ g (numsOf ⟨k,s,y,q,b⟩) _ HW4.out (Qzn HN4.out) H0.out H1.out).mono ?_;rintro e w5 ⟨rfl,hb5⟩;have HB6:=Ql4 (HB4.out.trans (hb5.mono HB4.out.size));clear hb5))
 all_goals
  have d5:=(HK.out _ HB6.out).2.2.2.2
  have hz:=Ex (numsOf ⟨k,s,y,q,b⟩)
  have hsz:(Gj ⟨k,s,y,q,b⟩++b).size≤70368744177664:=by
   rw [ByteArray.size_append,Gj,ByteArray.size_append,hz]
   have:(⟨#[83,99]⟩:ByteArray).size=2:=rfl
   omega
  have HSZ:=Ql4 hsz
  have HB7:=Ql4 (HB.out.trans (HB6.out.mono HB.out.size))
  clear hsz
  go_wp2_with fail
  refine (Cw (Gj ⟨k,s,y,q,b⟩++b) _ HSZ.out).mono ?_
  rintro e w6 ⟨rfl,hb6⟩
  have HB8:=Ql4 (HB7.out.trans (hb6.mono HB7.out.size))
  clear hb6
  go_wp2_with fail
  refine bodyPost_ret (v:= .tuple #[.string (Qp ⟨k,s,y,q,b⟩),.int .i64 0]) (by simp [results,Tryz.results12,go_sem,Qp]) rfl ⟨rfl,HB8.out⟩
theorem Hu (p:Page):(Gj p).size=16:=by
 rw [Gj,ByteArray.size_append,Ex]
 rfl
theorem Qq2 (s:ByteArray):(Y4 s).size=s.size+4:=by
 rw [Y4,ByteArray.size_append,Go.strOfNums_size]
 rfl
theorem Gc (p:Page):(Qp p).size=p.body.size+20:=by
 rw [Qp,Qq2,ByteArray.size_append,Hu]
 omega
def Zg:Page:=⟨0,0,0,0,⟨#[]⟩⟩
def Xu (s:ByteArray) (j:Nat):Int:=Lm s (Ea j) (Ij j) (Ij j)
def Ei (s:ByteArray):Page:=⟨IntKind.i64.wrap (Xu s 0),IntKind.i64.wrap (Xu s 1),IntKind.i64.wrap (Xu s 2),IntKind.i64.wrap (Xu s 3),s.extract 14 s.size⟩
def Vm (s:ByteArray):Bool:=(((s.extract 14 s.size).size:Int) == Xu s 4)
def J5 (t:ByteArray):Page×Int:=
 if t.size < 16 then (Zg,3) else
 if ((t.extract 0 2).toList == [83,99])=false then (Zg,3) else
 if Vm (t.extract 2 t.size)=false then (Zg,3) else
 if Zj (Ei (t.extract 2 t.size))=false then (Zg,3) else (Ei (t.extract 2 t.size),0)
def K7 (t:ByteArray):Page×Int:=if (Xq t).2=0 then J5 (Xq t).1 else (Zg,(Xq t).2)
theorem Qzh (t:ByteArray):(Xq t).1.size≤t.size:=by
 unfold Xq
 split
 ·show 0≤_;omega
 ·split
  ·simp
  ·show 0≤_;omega
theorem Qbv (u r:ByteArray) (x0 x1 x2 x3 x4:Int) (g:Nat) (w:World) (hw:WidthsAt w g) (h16:16≤u.size) (hs:u.size≤70368744177664) (hr:(u.extract 2 u.size).extract 14 (u.extract 2 u.size).size=r)
  (h0:Xu (u.extract 2 u.size) 0=x0) (h1:Xu (u.extract 2 u.size) 1=x1) (h2:Xu (u.extract 2 u.size) 2=x2) (h3:Xu (u.extract 2 u.size) 3=x3) (h4:Xu (u.extract 2 u.size) 4=x4):
  Calls Tryz.prog 104 #[.string (u.extract 2 u.size),.slice (some ⟨g,0,none⟩) 5 5] w fun e w'=>∃ga cap,e= .returned (.tuple #[.slice (some ⟨ga,0,none⟩) 5 cap,.string r,.int .i64 0])∧
   (w'.cell? ⟨ga,0,none⟩=some (.int .u64 x0)∧w'.cell? ⟨ga,1,none⟩=some (.int .u64 x1)∧w'.cell? ⟨ga,2,none⟩=some (.int .u64 x2)∧w'.cell? ⟨ga,3,none⟩=some (.int .u64 x3)∧w'.cell? ⟨ga,4,none⟩=some (.int .u64 x4))∧Below w.heap.size w w':=by
 subst hr h0 h1 h2 h3 h4
 refine (Qgw (u.extract 2 u.size) g w hw (by simp;omega) (by simp;omega)).mono ?_
 rintro e w' ⟨A,cap,rfl,hown,hb⟩
 obtain ⟨ga,rfl,_,_,_,hc,_⟩:=Qo hown (by omega)
 exact ⟨ga,cap,rfl,⟨hc 0 _ rfl,hc 1 _ rfl,hc 2 _ rfl,hc 3 _ rfl,hc 4 _ rfl⟩,hb⟩
theorem Zv {B g:Nat} {w w':World} (h:Below B w w') (hg:B≤g) (a b c d e:Value):Below B w (((((w'.setCell ⟨g,0,none⟩ a).setCell ⟨g,1,none⟩ b).setCell ⟨g,2,none⟩ c).setCell ⟨g,3,none⟩ d).setCell ⟨g,4,none⟩ e):=
 ((((h.setCell (p:=⟨g,0,none⟩) hg a).setCell (p:=⟨g,1,none⟩) hg b).setCell (p:=⟨g,2,none⟩) hg c).setCell (p:=⟨g,3,none⟩) hg d).setCell (p:=⟨g,4,none⟩) hg e
theorem J2 {w w':World} {t:TypeId} (hb:Below (w.alloc (.cells #[.int .i64 0,.int .i64 0,.int .i64 0,.int .i64 0,.string ⟨#[]⟩] t)).heap.size (w.alloc (.cells #[.int .i64 0,.int .i64 0,.int .i64 0,.int .i64 0,.string ⟨#[]⟩] t)) w'):Whole w' w.heap.size t #[.int .i64 0,.int .i64 0,.int .i64 0,.int .i64 0,.string ⟨#[]⟩]:=
 Whole.below (Whole.new w t #[.int .i64 0,.int .i64 0,.int .i64 0,.int .i64 0,.string ⟨#[]⟩]) hb (by simp)
theorem Q9 {w:World} {g:Nat} {t:TypeId} {a b c d e:Value} (h:Whole w g t #[a,b,c,d,e]):
  (w.cell? ⟨g,0,none⟩=some a∧w.cell? ⟨g,1,none⟩=some b∧w.cell? ⟨g,2,none⟩=some c∧w.cell? ⟨g,3,none⟩=some d∧w.cell? ⟨g,4,none⟩=some e)∧
  w.frozen? ⟨g,0,none⟩=false∧w.frozen? ⟨g,1,none⟩=false∧w.frozen? ⟨g,2,none⟩=false∧w.frozen? ⟨g,3,none⟩=false∧w.frozen? ⟨g,4,none⟩=false:=
 ⟨⟨h.cell 0,h.cell 1,h.cell 2,h.cell 3,h.cell 4⟩,h.fz 0,h.fz 1,h.fz 2,h.fz 3,h.fz 4⟩
theorem Zt {w:World} {g:Nat} {t:TypeId} {a b c d e:Value} (h:Whole w g t #[a,b,c,d,e]) (a' b' c' d' e':Value):
  let w2:=(((((w.setCell ⟨g,0,none⟩ a').setCell ⟨g,1,none⟩ b').setCell ⟨g,2,none⟩ c').setCell ⟨g,3,none⟩ d').setCell ⟨g,4,none⟩ e')
  (w2.cell? ⟨g,0,none⟩=some a'∧w2.cell? ⟨g,1,none⟩=some b'∧w2.cell? ⟨g,2,none⟩=some c'∧w2.cell? ⟨g,3,none⟩=some d'∧w2.cell? ⟨g,4,none⟩=some e'):=by
 have k:Whole (((((w.setCell ⟨g,0,none⟩ a').setCell ⟨g,1,none⟩ b').setCell ⟨g,2,none⟩ c').setCell ⟨g,3,none⟩ d').setCell ⟨g,4,none⟩ e') g t #[a',b',c',d',e']:=by
  simpa using ((((h.set 0 a').set 1 b').set 2 c').set 3 d').set 4 e'
 exact ⟨k.cell 0,k.cell 1,k.cell 2,k.cell 3,k.cell 4⟩
set_option maxHeartbeats 4000000 in
set_option maxRecDepth 100000 in
theorem Xl (t:ByteArray) (w:World) (hs:t.size≤70368744177664):
  Calls Tryz.prog 43 #[.string t] w fun e w'=>e= .returned (.tuple #[(K7 t).1.val,.int .i64 (K7 t).2])∧Below w.heap.size w w':=by
 have hsz:=Qzh t
 by_cases h0:(Xq t).2=0
 ·obtain ⟨u,c,hu⟩:∃u c,Xq t=(u,c):=⟨_,_,rfl⟩
  have hr:K7 t=J5 u:=by unfold K7;rw [if_pos h0,hu]
  have HO:=Ql4 (Vj t (w.alloc (.cells #[.int .i64 0,.int .i64 0,.int .i64 0,.int .i64 0,.string ⟨#[]⟩] 32)) hs)
  rw [hu] at HO hsz h0
  obtain rfl:c=0:=h0
  simp only at HO hsz
  have HR:=Ql4 hr
  clear hr hu
  by_cases h16:u.size < 16
  ·have HE:Hid (J5 u=(Zg,3)):=by show _=_;unfold J5;rw [if_pos h16]
   have h16i:(u.size:Int) < 16:=by omega
   go_enter Tryz.func43,Tryz.ntmps43
   go_wp2_with fail
   refine HO.out.mono ?_
   rintro e w' ⟨rfl,hb⟩
   have HWH:=Ql4 (J2 hb)
   obtain ⟨⟨q0,q1,q2,q3,q4⟩,z0,z1,z2,z3,z4⟩:=Q9 HWH.out
   have HB:=Ql4 (((Below.refl w.heap.size w).alloc (Nat.le_refl _) (.cells #[.int .i64 0,.int .i64 0,.int .i64 0,.int .i64 0,.string ⟨#[]⟩] 32)).trans (hb.mono (by simp)))
   clear hb
   go_wp2_with fail
   obtain ⟨r0,r1,r2,r3,r4⟩:=Zt HWH.out (.int .i64 0) (.int .i64 0) (.int .i64 0) (.int .i64 0) (.string ⟨#[]⟩)
   refine bodyPost_ret (v:= .tuple #[Zg.val,.int .i64 3]) (by simp [results,Tryz.results43,go_sem,Zg,Page.val,r0,r1,r2,r3,r4]) rfl ⟨by rw [HR.out,HE.out],Zv HB.out (Nat.le_refl _) _ _ _ _ _⟩
  ·have h16i:(16:Int)≤(u.size:Int):=by omega
   cases hm:((u.extract 0 2).toList == [83,99])
   ·have HE:Hid (J5 u=(Zg,3)):=by show _=_;unfold J5;rw [if_neg h16,if_pos hm]
    go_enter Tryz.func43,Tryz.ntmps43
    go_wp2_with fail
    refine HO.out.mono ?_
    rintro e w' ⟨rfl,hb⟩
    have HWH:=Ql4 (J2 hb)
    obtain ⟨⟨q0,q1,q2,q3,q4⟩,z0,z1,z2,z3,z4⟩:=Q9 HWH.out
    have HB:=Ql4 (((Below.refl w.heap.size w).alloc (Nat.le_refl _) (.cells #[.int .i64 0,.int .i64 0,.int .i64 0,.int .i64 0,.string ⟨#[]⟩] 32)).trans (hb.mono (by simp)))
    clear hb
    go_wp2_with fail
    obtain ⟨r0,r1,r2,r3,r4⟩:=Zt HWH.out (.int .i64 0) (.int .i64 0) (.int .i64 0) (.int .i64 0) (.string ⟨#[]⟩)
    refine bodyPost_ret (v:= .tuple #[Zg.val,.int .i64 3]) (by simp [results,Tryz.results43,go_sem,Zg,Page.val,r0,r1,r2,r3,r4]) rfl ⟨by rw [HR.out,HE.out],Zv HB.out (Nat.le_refl _) _ _ _ _ _⟩
   ·have HM:=Ql4 hm
    go_enter Tryz.func43,Tryz.ntmps43
    go_wp2_with fail
    refine HO.out.mono ?_
    rintro e w' ⟨rfl,hb⟩
    have HWH:=Ql4 (J2 hb)
    obtain ⟨⟨q0,q1,q2,q3,q4⟩,z0,z1,z2,z3,z4⟩:=Q9 HWH.out
    have HB:=Ql4 (((Below.refl w.heap.size w).alloc (Nat.le_refl _) (.cells #[.int .i64 0,.int .i64 0,.int .i64 0,.int .i64 0,.string ⟨#[]⟩] 32)).trans (hb.mono (by simp)))
    clear hb
    obtain ⟨r,hr⟩:∃r,(u.extract 2 u.size).extract 14 (u.extract 2 u.size).size=r:=⟨_,rfl⟩
    obtain ⟨x0,hx0⟩:∃x,Xu (u.extract 2 u.size) 0=x:=⟨_,rfl⟩
    obtain ⟨x1,hx1⟩:∃x,Xu (u.extract 2 u.size) 1=x:=⟨_,rfl⟩
    obtain ⟨x2,hx2⟩:∃x,Xu (u.extract 2 u.size) 2=x:=⟨_,rfl⟩
    obtain ⟨x3,hx3⟩:∃x,Xu (u.extract 2 u.size) 3=x:=⟨_,rfl⟩
    obtain ⟨x4,hx4⟩:∃x,Xu (u.extract 2 u.size) 4=x:=⟨_,rfl⟩
    obtain ⟨y0,hy0⟩:∃y,IntKind.i64.wrap x0=y:=⟨_,rfl⟩
    obtain ⟨y1,hy1⟩:∃y,IntKind.i64.wrap x1=y:=⟨_,rfl⟩
    obtain ⟨y2,hy2⟩:∃y,IntKind.i64.wrap x2=y:=⟨_,rfl⟩
    obtain ⟨y3,hy3⟩:∃y,IntKind.i64.wrap x3=y:=⟨_,rfl⟩
    have hpg:Ei (u.extract 2 u.size)=⟨y0,y1,y2,y3,r⟩:=by unfold Ei;rw [hx0,hx1,hx2,hx3,hy0,hy1,hy2,hy3,hr]
    have hln:Vm (u.extract 2 u.size)=((r.size:Int) == x4):=by unfold Vm;rw [hr,hx4]
    have hrz:r.size≤u.size:=by rw [←hr];simp;omega
    have hwr:IntKind.u64.wrap (r.size:Int)=(r.size:Int):=wrap_u64 (by omega) (by omega)
    have HT:Hid (∀g wq,WidthsAt wq g→_):=fun g wq hq=>Qbv u r x0 x1 x2 x3 x4 g wq hq (by omega) (by omega) hr hx0 hx1 hx2 hx3 hx4
    have HIN:Hid (J5 u=if ((r.size:Int) == x4)=false then (Zg,3) else if Zj ⟨y0,y1,y2,y3,r⟩=false then (Zg,3) else (⟨y0,y1,y2,y3,r⟩,0)):=by
     show _=_
     unfold J5
     rw [if_neg h16,if_neg (by rw [hm];simp),hln,hpg]
    clear hr hx0 hx1 hx2 hx3 hx4 hpg hln
    have hrzi:(r.size:Int)≤70368744177664:=by omega
    clear hrz hs hsz
    have h2i:(2:Int)≤(u.size:Int):=by omega
    go_wp2_with fail
    go_region_held3 (fun _=>True) (trivial)
     (first|(go_at_call 55;refine (Ib _).mono ?_;rintro e w4 ⟨g,rfl,hw4,hg4,hb4⟩;have HW4:=Ql4 hw4;have HB4:=Ql4 (HB.out.drew.trans (hb4.mono (by have:=HB.out.size;exact this)));have HWH4:=Ql4 (Whole.below (w:=w'.drew) HWH.out hb4 (by have:=HWH.out.lt;exact this));clear hw4 hg4 hb4)|(go_at_call 104;refine (HT.out g _ HW4.out).mono ?_;rintro e w5 ⟨ga,cap,rfl,⟨l0,l1,l2,l3,l4⟩,hb5⟩;have HB5:=Ql4 (HB4.out.trans (hb5.mono HB4.out.size));have HWH5:=Ql4 (Whole.below HWH4.out hb5 HWH4.out.lt);clear hb5))
    obtain ⟨⟨q0,q1,q2,q3,q4⟩,z0,z1,z2,z3,z4⟩:=Q9 HWH5.out
    cases hl:((r.size:Int) == x4)
    ·have HXL:=Ql4 hl
     go_wp2_with fail
     obtain ⟨r0,r1,r2,r3,r4⟩:=Zt HWH5.out (.int .i64 0) (.int .i64 0) (.int .i64 0) (.int .i64 0) (.string ⟨#[]⟩)
     refine bodyPost_ret (v:= .tuple #[Zg.val,.int .i64 3]) (by simp [results,Tryz.results43,go_sem,Zg,Page.val,r0,r1,r2,r3,r4]) rfl ⟨by rw [HR.out,HIN.out,HXL.out,if_pos rfl],Zv HB5.out (Nat.le_refl _) _ _ _ _ _⟩
    ·have HXL:=Ql4 hl
     go_wp2_with fail
     go_region_held3 (fun w'=>w'.cell? ⟨ga,0,none⟩=some (.int .u64 x0)∧w'.cell? ⟨ga,1,none⟩=some (.int .u64 x1)∧w'.cell? ⟨ga,2,none⟩=some (.int .u64 x2)∧w'.cell? ⟨ga,3,none⟩=some (.int .u64 x3)∧w'.cell? ⟨ga,4,none⟩=some (.int .u64 x4)) (first|exact ⟨l0,l1,l2,l3,l4⟩|go_keep) (fail)
     go_wp2_with fail
     refine (O5 ⟨y0,y1,y2,y3,r⟩ _).mono ?_
     cases hmay:Zj ⟨y0,y1,y2,y3,r⟩
     ·have HMY:=Ql4 hmay
      clear hmay q0 q1 q2 q3 q4 z0 z1 z2 z3 z4
      rintro e w6 ⟨rfl,hb6⟩
      have HWH6:=Ql4 (Whole.below (w:=(w5.alloc (.cells #[.int .i64 y0,.int .i64 y1,.int .i64 y2,.int .i64 y3,.string r] 32)).drew) (HWH5.out.alloc (.cells #[.int .i64 y0,.int .i64 y1,.int .i64 y2,.int .i64 y3,.string r] 32)) hb6 (by have:=HWH5.out.lt;simp;omega))
      have HB6:=Ql4 ((HB5.out.alloc HB5.out.size (.cells #[.int .i64 y0,.int .i64 y1,.int .i64 y2,.int .i64 y3,.string r] 32)).drew.trans (hb6.mono (by have:=HB5.out.size;simp;omega)))
      obtain ⟨⟨q0,q1,q2,q3,q4⟩,z0,z1,z2,z3,z4⟩:=Q9 HWH6.out
      clear hb6
      go_wp2_with fail
      obtain ⟨r0,r1,r2,r3,r4⟩:=Zt HWH6.out (.int .i64 0) (.int .i64 0) (.int .i64 0) (.int .i64 0) (.string ⟨#[]⟩)
      refine bodyPost_ret (v:= .tuple #[Zg.val,.int .i64 3]) (by simp [results,Tryz.results43,go_sem,Zg,Page.val,r0,r1,r2,r3,r4]) rfl ⟨by rw [HR.out,HIN.out,HXL.out,if_neg (by simp),HMY.out,if_pos rfl],Zv HB6.out (Nat.le_refl _) _ _ _ _ _⟩
     ·have HMY:=Ql4 hmay
      clear hmay q0 q1 q2 q3 q4 z0 z1 z2 z3 z4
      rintro e w6 ⟨rfl,hb6⟩
      have HWH6:=Ql4 (Whole.below (w:=(w5.alloc (.cells #[.int .i64 y0,.int .i64 y1,.int .i64 y2,.int .i64 y3,.string r] 32)).drew) (HWH5.out.alloc (.cells #[.int .i64 y0,.int .i64 y1,.int .i64 y2,.int .i64 y3,.string r] 32)) hb6 (by have:=HWH5.out.lt;simp;omega))
      have HB6:=Ql4 ((HB5.out.alloc HB5.out.size (.cells #[.int .i64 y0,.int .i64 y1,.int .i64 y2,.int .i64 y3,.string r] 32)).drew.trans (hb6.mono (by have:=HB5.out.size;simp;omega)))
      have HP6:=Ql4 (Whole.below (w:=(w5.alloc (.cells #[.int .i64 y0,.int .i64 y1,.int .i64 y2,.int .i64 y3,.string r] 32)).drew) (Whole.new w5 _ _) hb6 (by simp))
      obtain ⟨⟨q0,q1,q2,q3,q4⟩,z0,z1,z2,z3,z4⟩:=Q9 HWH6.out
      obtain ⟨⟨p0,p1,p2,p3,p4⟩,_⟩:=Q9 HP6.out
      clear hb6
      go_wp2_with fail
      obtain ⟨r0,r1,r2,r3,r4⟩:=Zt HWH6.out (.int .i64 y0) (.int .i64 y1) (.int .i64 y2) (.int .i64 y3) (.string r)
      refine bodyPost_ret (v:= .tuple #[Page.val ⟨y0,y1,y2,y3,r⟩,.int .i64 0]) (by simp [results,Tryz.results43,go_sem,Page.val,r0,r1,r2,r3,r4]) rfl ⟨by rw [HR.out,HIN.out,HXL.out,if_neg (by simp),HMY.out,if_neg (by simp)],Zv HB6.out (Nat.le_refl _) _ _ _ _ _⟩
 ·have HE:Hid (K7 t=(Zg,(Xq t).2)):=by show _=_;unfold K7;rw [if_neg h0]
  obtain ⟨u,c,hu⟩:∃u c,Xq t=(u,c):=⟨_,_,rfl⟩
  have HO:=Ql4 (Vj t (w.alloc (.cells #[.int .i64 0,.int .i64 0,.int .i64 0,.int .i64 0,.string ⟨#[]⟩] 32)) hs)
  rw [hu] at HO HE h0
  simp only at HO HE h0
  have hc:(c == 0)=false:=by simpa using h0
  clear h0 hu
  go_enter Tryz.func43,Tryz.ntmps43
  go_wp2_with fail
  refine HO.out.mono ?_
  rintro e w' ⟨rfl,hb⟩
  have HWH:=Ql4 (J2 hb)
  obtain ⟨⟨q0,q1,q2,q3,q4⟩,z0,z1,z2,z3,z4⟩:=Q9 HWH.out
  have HB:=Ql4 (((Below.refl w.heap.size w).alloc (Nat.le_refl _) (.cells #[.int .i64 0,.int .i64 0,.int .i64 0,.int .i64 0,.string ⟨#[]⟩] 32)).trans (hb.mono (by simp)))
  clear hb
  go_wp2_with fail
  obtain ⟨r0,r1,r2,r3,r4⟩:=Zt HWH.out (.int .i64 0) (.int .i64 0) (.int .i64 0) (.int .i64 0) (.string ⟨#[]⟩)
  refine bodyPost_ret (v:= .tuple #[Zg.val,.int .i64 c]) (by simp [results,Tryz.results43,go_sem,Zg,Page.val,r0,r1,r2,r3,r4]) rfl ⟨by rw [HE.out],Zv HB.out (Nat.le_refl _) _ _ _ _ _⟩
theorem Qjj (n:Nat→Int):∀(m j i:Nat),j < m→i < Ij j→(Gg n m)[Ea j+i]? =some (UInt8.ofNat ((n j) / 256 ^ i % 256).toNat)
 |m+1,j,i,hj,hi=>by
  have hlen:∀m,(Gg n m).length=Ea m:=by
   intro m
   induction m with
   |zero=>rfl
   |succ m ih=>simp [Gg,Ea,ih,bytesOf_length]
  have hmono:∀a b,a≤b→Ea a≤Ea b:=by
   intro a b hab
   induction b with
   |zero=>
    have:a=0:=by omega
    subst this;exact Nat.le_refl _
   |succ b ih=>
    rcases Nat.lt_or_ge b a with h|h
    ·have:a=b+1:=by omega
     subst this;exact Nat.le_refl _
    ·exact Nat.le_trans (ih h) (by simp [Ea])
  rcases Nat.lt_or_ge j m with h|h
  ·have h1:Ea j+i < (Gg n m).length:=by
    rw [hlen]
    have:=hmono (j+1) m h
    simp only [Ea] at this
    omega
   show (Gg n m++_)[_]? =_
   rw [List.getElem?_append_left h1]
   exact Qjj n m j i h hi
  ·obtain rfl:j=m:=by omega
   show (Gg n j++_)[_]? =_
   rw [List.getElem?_append_right (by rw [hlen];omega),hlen,Nat.add_sub_cancel_left]
   rw [List.getElem?_map]
   simp [bytesOf,hi]
theorem Qyn (p:Page) (h:Zj p=true) (j:Nat) (hj:j < 5):Xu ((⟨(Gg (numsOf p) 5).toArray⟩:ByteArray)++p.body) j=numsOf p j:=by
 have h0:=Na h j hj
 have h1:=Nb h j hj
 have hw:Ij j≤7:=by unfold Ij;split <;> omega
 have:=U0 ((⟨(Gg (numsOf p) 5).toArray⟩:ByteArray)++p.body) (Ea j) (Ij j) (numsOf p j) h0 h1 hw (fun i hi=>by
  have hr:=Qjj (numsOf p) 5 j i hj hi
  obtain ⟨hlt,he⟩:=List.getElem?_eq_some_iff.1 hr
  rw [Bh _ _ _ hlt,he]
  exact Dm _ (Int.emod_nonneg _ (by decide)) (Int.emod_lt_of_pos _ (by decide))) (Ij j) (Nat.le_refl _)
 rw [Xu,this,Nat.sub_self]
 simp
theorem wrap_i64 {n:Int} (h0:0≤n) (h1:n < 9223372036854775808):IntKind.i64.wrap n=n:=by rw [IntKind.wrap_i64];omega
theorem De (a b:ByteArray):(a++b).extract a.size (a++b).size=b:=by
 rw [ByteArray.size_append,ByteArray.extract_append]
 have h:a.extract a.size (a.size+b.size)=ByteArray.empty:=by
  apply ByteArray.ext
  simp
 simp [h]
theorem Lp (a b:ByteArray):(a++b).extract 0 a.size=a:=by
 rw [ByteArray.extract_append]
 simp
theorem Qzf (s:ByteArray):Xq (Y4 s)=(s,0):=by
 have hz:(Y4 s).size=s.size+4:=by unfold Y4;rw [ByteArray.size_append,strOfNums_size];rfl
 have he:(Y4 s).extract 0 ((Y4 s).size - 4)=s:=by
  rw [hz]
  exact ByteArray.extract_append_eq_left rfl
 unfold Xq
 rw [if_neg (by omega),he,if_pos (show ((Y4 s).toList == (Y4 s).toList)=true from beq_self_eq_true _)]
theorem Uh (p:Page) (h:Zj p=true):K7 (Qp p)=(p,0):=by
 have hm:=Jy h
 unfold K7 Qp
 rw [Qzf,if_pos rfl]
 obtain ⟨r,hr⟩:∃r:ByteArray,r=⟨(Gg (numsOf p) 5).toArray⟩:=⟨_,rfl⟩
 have hrz:r.size=14:=by rw [hr];exact Ex _
 have hu:Gj p++p.body=(⟨#[83,99]⟩:ByteArray)++(r++p.body):=by rw [Gj,←hr,ByteArray.append_assoc]
 have h2:(⟨#[83,99]⟩:ByteArray).size=2:=rfl
 have hs:(Gj p++p.body).extract 2 (Gj p++p.body).size=r++p.body:=by
  rw [hu]
  exact De ⟨#[83,99]⟩ (r++p.body)
 have hb:(r++p.body).extract 14 (r++p.body).size=p.body:=by
  have:=De r p.body
  rw [hrz] at this
  exact this
 have hn:∀j,j < 5→Xu (r++p.body) j=numsOf p j:=fun j hj=>by rw [hr];exact Qyn p h j hj
 show J5 (Gj p++p.body)=(p,0)
 unfold J5
 rw [hs,if_neg (by rw [ByteArray.size_append,Hu];omega)]
 have hf:(Gj p++p.body).extract 0 2=⟨#[83,99]⟩:=by
  rw [hu]
  exact Lp ⟨#[83,99]⟩ (r++p.body)
 rw [hf,if_neg (by simp [go_sem])]
 have hl:Vm (r++p.body)=true:=by
  unfold Vm
  rw [hb,hn 4 (by omega)]
  simp [numsOf]
 have hp:Ei (r++p.body)=p:=by
  unfold Ei
  rw [hb,hn 0 (by omega),hn 1 (by omega),hn 2 (by omega),hn 3 (by omega)]
  obtain ⟨k,s,y,q,b⟩:=p
  simp only at hm
  show (⟨IntKind.i64.wrap k,IntKind.i64.wrap s,IntKind.i64.wrap y,IntKind.i64.wrap q,b⟩:Page)=_
  rw [wrap_i64 (by omega) (by omega),wrap_i64 (by omega) (by omega),wrap_i64 (by omega) (by omega),wrap_i64 (by omega) (by omega)]
 rw [hl,if_neg (by simp),hp,h,if_neg (by simp)]
end pg
end Go.Proofs.YtfialjmemcobjaaGreatDoor
