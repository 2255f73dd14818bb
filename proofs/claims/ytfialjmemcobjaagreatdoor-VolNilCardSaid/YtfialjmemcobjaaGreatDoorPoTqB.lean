/- A part of the proof. -/
import Derived.Test.YtfialjmemcobjaaGreatDoorPoFwB
import Derived.Test.YtfialjmemcobjaaGreatDoorPoTsMg
namespace Go.Proofs.YtfialjmemcobjaaGreatDoor.tr
open Go.RowKit Go.Proofs.YtfialjmemcobjaaGreatDoor.er
set_option linter.unusedVariables false
set_option linter.unusedSimpArgs false
theorem extract_more (s:ByteArray) (a b:Nat) (h:a≤s.size):(s.extract a s.size).extract b (s.extract a s.size).size=s.extract (a+b) s.size:=by
 apply ByteArray.ext
 simp only [ByteArray.data_extract,Array.extract_extract,ByteArray.size_extract]
 congr 1
 simp only [ByteArray.size]
 omega
theorem extract_none (s:ByteArray):s.extract s.size s.size=⟨#[]⟩:=by
 apply ByteArray.ext
 simp [ByteArray.data_extract]
theorem empty_no {s:ByteArray} (h:s.size≠0):s.toList.isEmpty=false:=by
 rw [ByteArray.toList_eq]
 cases hl:s.data.toList with
 |nil=>
  exfalso
  apply h
  have:=congrArg List.length hl
  simpa using this
 |cons _ _=>rfl
theorem size_ne {s:ByteArray} (h:s.size≠0):s≠⟨#[]⟩:=fun e=>h (by rw [e];rfl)
theorem byte0 {s:ByteArray} (h:s.size≠0):byteAt s 0=(s[0]'(by omega)).toNat:=by unfold byteAt;rw [dif_pos (by omega)]
def MayE (l:List Ext):Prop:=extB l=true
def MayK (l:List Kid):Prop:=2≤l.length∧l.length≤8∧KidsOk l
def extD (s:ByteArray) (o:Nat):Ext:=⟨leN s o 3,leN s (o+3) 4,leN s (o+7) 1,leN s (o+8) 2⟩
def extsD (s:ByteArray):List Ext:=(List.range (byteAt s 0).toNat).map fun i=>extD s (1+10 * i)
theorem extsD_len (s:ByteArray):(extsD s).length=(byteAt s 0).toNat:=by simp [extsD]
theorem extsD_at (s:ByteArray) (j:Nat) (h:j < (byteAt s 0).toNat):(extsD s)[j]? =some (extD s (1+10 * j)):=by
 unfold extsD
 rw [List.getElem?_map,List.getElem?_range h]
 rfl
set_option maxHeartbeats 4000000 in
set_option maxRecDepth 100000 in
theorem eThing (g c:Nat) (x0 x1 x2 x3:Int) (w:World) (hg:g < w.heap.size) (hc:w.cell? ⟨g,0,none⟩=some (.int .u64 x0)∧w.cell? ⟨g,1,none⟩=some (.int .u64 x1)∧w.cell? ⟨g,2,none⟩=some (.int .u64 x2)∧w.cell? ⟨g,3,none⟩=some (.int .u64 x3)) (h0:0≤x0∧x0 < 4294967296) (h1:0≤x1∧x1 < 4294967296) (h2:0≤x2∧x2 < 4294967296) (h3:0≤x3∧x3 < 4294967296):
  Calls Tryz.prog 289 #[.slice (some ⟨g,0,none⟩) 4 c] w fun x w'=>x= .returned (.agg #[.int .i64 x0,.int .i64 x1,.int .i64 x2,.int .i64 x3])∧Below w.heap.size w w':=by
 have HK:Hid (∀w',Below w.heap.size w w'→w'.cell? ⟨g,0,none⟩=some (.int .u64 x0)∧w'.cell? ⟨g,1,none⟩=some (.int .u64 x1)∧w'.cell? ⟨g,2,none⟩=some (.int .u64 x2)∧w'.cell? ⟨g,3,none⟩=some (.int .u64 x3)):=by
  intro w' hb
  obtain ⟨c0,c1,c2,c3⟩:=hc
  exact ⟨below_c hb c0,below_c hb c1,below_c hb c2,below_c hb c3⟩
 have HW:Hid (Whole (w.alloc (.cells #[.int .i64 0,.int .i64 0,.int .i64 0,.int .i64 0] 255)) w.heap.size 255 #[.int .i64 0,.int .i64 0,.int .i64 0,.int .i64 0]):=Whole.new w _ _
 obtain ⟨w2,hw2⟩:∃w2,w.alloc (.cells #[.int .i64 0,.int .i64 0,.int .i64 0,.int .i64 0] 255)=w2:=⟨_,rfl⟩
 have HB2:Hid (Below w.heap.size w w2):=by show Below _ _ _;rw [←hw2];exact (Below.refl _ _).alloc (Nat.le_refl _) _
 have hsz:w2.heap.size=w.heap.size+1:=by rw [←hw2];simp
 rw [hw2] at HW
 obtain ⟨c0,c1,c2,c3⟩:=HK.out w2 HB2.out
 obtain ⟨l0,u0⟩:=h0
 obtain ⟨l1,u1⟩:=h1
 obtain ⟨l2,u2⟩:=h2
 obtain ⟨l3,u3⟩:=h3
 have hgn:g≠w.heap.size:=by omega
 have z0:=HW.out.cell 0
 have y0:=HW.out.fz 0
 have z1:=HW.out.cell 1
 have y1:=HW.out.fz 1
 have z2:=HW.out.cell 2
 have y2:=HW.out.fz 2
 have z3:=HW.out.cell 3
 have y3:=HW.out.fz 3
 simp at z0 z1 z2 z3
 have v0:IntKind.i64.wrap x0=x0:=by rw [IntKind.wrap_i64];omega
 have v1:IntKind.i64.wrap x1=x1:=by rw [IntKind.wrap_i64];omega
 have v2:IntKind.i64.wrap x2=x2:=by rw [IntKind.wrap_i64];omega
 have v3:IntKind.i64.wrap x3=x3:=by rw [IntKind.wrap_i64];omega
 clear hc hg
 go_enter Tryz.func289,Tryz.ntmps289
 go_wp2_with fail
 go_region_held3 (fun w'=>w'.cell? ⟨g,0,none⟩=some (.int .u64 x0)∧w'.cell? ⟨g,1,none⟩=some (.int .u64 x1)∧w'.cell? ⟨g,2,none⟩=some (.int .u64 x2)∧w'.cell? ⟨g,3,none⟩=some (.int .u64 x3)) (exact HK.out _ (by repeat (first|with_reducible exact HB2.out|with_reducible exact Below.refl _ _|refine Below.drew ?_|refine Below.setCell ?_ (by first|omega|(simp <;> omega)) _|refine Below.alloc ?_ (by first|omega|(simp <;> omega)) _))) (fail)
 go_wp2_with fail
 have W5:Whole ((((w2.setCell ⟨w.heap.size,0,none⟩ (.int .i64 x0)).setCell ⟨w.heap.size,1,none⟩ (.int .i64 x1)).setCell ⟨w.heap.size,2,none⟩ (.int .i64 x2)).setCell ⟨w.heap.size,3,none⟩ (.int .i64 x3)).drew w.heap.size 255 #[.int .i64 x0,.int .i64 x1,.int .i64 x2,.int .i64 x3]:=by
  have:Whole ((((w2.setCell ⟨w.heap.size,0,none⟩ (.int .i64 x0)).setCell ⟨w.heap.size,1,none⟩ (.int .i64 x1)).setCell ⟨w.heap.size,2,none⟩ (.int .i64 x2)).setCell ⟨w.heap.size,3,none⟩ (.int .i64 x3)) w.heap.size 255 #[.int .i64 x0,.int .i64 x1,.int .i64 x2,.int .i64 x3]:=by simpa using ((((HW.out.set 0 (.int .i64 x0)).set 1 (.int .i64 x1)).set 2 (.int .i64 x2)).set 3 (.int .i64 x3))
  exact this
 have r0:=W5.cell 0
 have r1:=W5.cell 1
 have r2:=W5.cell 2
 have r3:=W5.cell 3
 simp at r0 r1 r2 r3
 refine bodyPost_ret (v:= .agg #[.int .i64 x0,.int .i64 x1,.int .i64 x2,.int .i64 x3]) (by simp [results,Tryz.results289,go_sem,r0,r1,r2,r3]) rfl ⟨rfl,?_⟩
 repeat (first|with_reducible exact HB2.out|refine Below.drew ?_|refine Below.setCell ?_ (by first|omega|(simp <;> omega)) _)
def kidD (s:ByteArray) (o:Nat):Kid:=⟨leN s o 3,leN s (o+3) 2⟩
def kidsD (s:ByteArray):List Kid:=(List.range (byteAt s 0).toNat).map fun i=>kidD s (1+5 * i)
theorem kidsD_len (s:ByteArray):(kidsD s).length=(byteAt s 0).toNat:=by simp [kidsD]
theorem kidsD_at (s:ByteArray) (j:Nat) (h:j < (byteAt s 0).toNat):(kidsD s)[j]? =some (kidD s (1+5 * j)):=by
 unfold kidsD
 rw [List.getElem?_map,List.getElem?_range h]
 rfl
set_option maxHeartbeats 4000000 in
set_option maxRecDepth 100000 in
theorem kThing (g c:Nat) (x0 x1:Int) (w:World) (hg:g < w.heap.size) (hc:w.cell? ⟨g,0,none⟩=some (.int .u64 x0)∧w.cell? ⟨g,1,none⟩=some (.int .u64 x1)) (h0:0≤x0∧x0 < 4294967296) (h1:0≤x1∧x1 < 4294967296):
  Calls Tryz.prog 293 #[.slice (some ⟨g,0,none⟩) 2 c] w fun x w'=>x= .returned (.agg #[.int .i64 x0,.int .i64 x1])∧Below w.heap.size w w':=by
 have HK:Hid (∀w',Below w.heap.size w w'→w'.cell? ⟨g,0,none⟩=some (.int .u64 x0)∧w'.cell? ⟨g,1,none⟩=some (.int .u64 x1)):=by
  intro w' hb
  obtain ⟨c0,c1⟩:=hc
  exact ⟨below_c hb c0,below_c hb c1⟩
 have HW:Hid (Whole (w.alloc (.cells #[.int .i64 0,.int .i64 0] 355)) w.heap.size 355 #[.int .i64 0,.int .i64 0]):=Whole.new w _ _
 obtain ⟨w2,hw2⟩:∃w2,w.alloc (.cells #[.int .i64 0,.int .i64 0] 355)=w2:=⟨_,rfl⟩
 have HB2:Hid (Below w.heap.size w w2):=by show Below _ _ _;rw [←hw2];exact (Below.refl _ _).alloc (Nat.le_refl _) _
 have hsz:w2.heap.size=w.heap.size+1:=by rw [←hw2];simp
 rw [hw2] at HW
 obtain ⟨c0,c1⟩:=HK.out w2 HB2.out
 obtain ⟨l0,u0⟩:=h0
 obtain ⟨l1,u1⟩:=h1
 have hgn:g≠w.heap.size:=by omega
 have z0:=HW.out.cell 0
 have y0:=HW.out.fz 0
 have z1:=HW.out.cell 1
 have y1:=HW.out.fz 1
 simp at z0 z1
 have v0:IntKind.i64.wrap x0=x0:=by rw [IntKind.wrap_i64];omega
 have v1:IntKind.i64.wrap x1=x1:=by rw [IntKind.wrap_i64];omega
 clear hc hg
 go_enter Tryz.func293,Tryz.ntmps293
 go_wp2_with fail
 go_region_held3 (fun w'=>w'.cell? ⟨g,0,none⟩=some (.int .u64 x0)∧w'.cell? ⟨g,1,none⟩=some (.int .u64 x1)) (exact HK.out _ (by repeat (first|with_reducible exact HB2.out|with_reducible exact Below.refl _ _|refine Below.drew ?_|refine Below.setCell ?_ (by first|omega|(simp <;> omega)) _|refine Below.alloc ?_ (by first|omega|(simp <;> omega)) _))) (fail)
 go_wp2_with fail
 have W5:Whole ((w2.setCell ⟨w.heap.size,0,none⟩ (.int .i64 x0)).setCell ⟨w.heap.size,1,none⟩ (.int .i64 x1)).drew w.heap.size 355 #[.int .i64 x0,.int .i64 x1]:=by
  have:Whole ((w2.setCell ⟨w.heap.size,0,none⟩ (.int .i64 x0)).setCell ⟨w.heap.size,1,none⟩ (.int .i64 x1)) w.heap.size 355 #[.int .i64 x0,.int .i64 x1]:=by simpa using ((HW.out.set 0 (.int .i64 x0)).set 1 (.int .i64 x1))
  exact this
 have r0:=W5.cell 0
 have r1:=W5.cell 1
 simp at r0 r1
 refine bodyPost_ret (v:= .agg #[.int .i64 x0,.int .i64 x1]) (by simp [results,Tryz.results293,go_sem,r0,r1]) rfl ⟨rfl,?_⟩
 repeat (first|with_reducible exact HB2.out|refine Below.drew ?_|refine Below.setCell ?_ (by first|omega|(simp <;> omega)) _)
def okE (s:ByteArray):Bool:=decide (s.size≠0) && decide (byteAt s 0≤8) && decide (s.size=1+10 * (byteAt s 0).toNat)
def RdE (s:ByteArray) (w:World) (x:Ending) (w':World):Prop:=
 (∃A c,x= .returned (.tuple #[.slice A (extsD s).length c,.int .i64 0])∧okE s=true∧MayE (extsD s)∧w'.ownsRow w.heap.size 255 4 (.slice A (extsD s).length c) (extsD s).length (extCells (extsD s))∧Below w.heap.size w w')∨
 (x= .returned (.tuple #[.slice none 0 0,.int .i64 3])∧¬(okE s=true∧MayE (extsD s))∧Below w.heap.size w w')
theorem eInfo:(Tryz.prog.info? 255).map (fun i=>(i.zero,i.size,i.bytes))=some (some (.agg #[.int .i64 0,.int .i64 0,.int .i64 0,.int .i64 0]),4,32):=by kernel_rfl
theorem eWs (w:World) (g:Nat) (e:Ext) (h:WidAt w g (extNums e)):WidAt w g ([3,4,1,2].map fun k=>(k,0)):=by
 intro j p hp
 match j,hp with
 |0,hp=>simp at hp;subst hp;exact h 0 (3,e.fr) rfl
 |1,hp=>simp at hp;subst hp;exact h 1 (4,e.n) rfl
 |2,hp=>simp at hp;subst hp;exact h 2 (1,e.kind) rfl
 |3,hp=>simp at hp;subst hp;exact h 3 (2,e.at_) rfl
 |j+4,hp=>simp at hp
set_option maxHeartbeats 8000000 in
set_option maxRecDepth 100000 in
theorem eRead (s:ByteArray) (gw:Nat) (w:World) (hw:WidAt w gw ([3,4,1,2].map fun k=>(k,0))) (hs:s.size≤1000000):
  Calls Tryz.prog 286 #[.string s,.slice (some ⟨gw,0,none⟩) 4 4,.func (.func 288) #[] #[],.func (.func 289) #[] #[]] w (RdE s w):=by
 have HW:=Lib.hid hw
 have hsi:(s.size:Int)≤1000000:=by omega
 have HNO:Hid (∀w',¬(okE s=true∧MayE (extsD s))→Below w.heap.size w w'→RdE s w (.returned (.tuple #[.slice none 0 0,.int .i64 3])) w'):=fun w' h hb=>.inr ⟨rfl,h,hb⟩
 clear hw
 go_enter Tryz.func286,Tryz.ntmps286
 by_cases h0:s.size=0
 ·have hse:s=⟨#[]⟩:=by
   apply ByteArray.ext
   exact Array.eq_empty_of_size_eq_zero h0
  have HBAD:Hid (¬(okE s=true∧MayE (extsD s))):=fun h=>by
   have:=h.1
   unfold okE at this
   simp [h0] at this
  subst hse
  go_wp2_with fail
  refine bodyPost_ret (v:= .tuple #[.slice none 0 0,.int .i64 3]) (by simp [results,Tryz.results286,go_sem]) rfl (HNO.out _ HBAD.out (Below.refl _ _))
 ·have hne:=size_ne h0
  have hem:=empty_no h0
  have hb0:=byte0 h0
  have h0i:(0:Int) < (s.size:Int):=by omega
  have h0n:0 < s.size:=by omega
  obtain ⟨b,hb⟩:∃b:Nat,(s[0]'(by omega)).toNat=b:=⟨_,rfl⟩
  have hb256:b < 256:=by rw [←hb];exact UInt8.toNat_lt _
  rw [hb] at hb0
  have hcnt:(byteAt s 0).toNat=b:=by rw [hb0];omega
  have HB0:=Lib.hid hb0
  have HCN:=Lib.hid hcnt
  have hbi:(b:Int) < 256:=by omega
  by_cases h8:b≤8
  ·have h8d:¬(8:Int) < (b:Int):=by omega
   have h8n:¬8 < b:=by omega
   have H8:=Lib.hid h8
   have HNE:=Lib.hid h0
   have HOKI:Hid (okE s=true↔s.size=1+10 * b):=by
    show _↔_
    unfold okE
    rw [HCN.out,HB0.out]
    simp [HNE.out]
    omega
   obtain ⟨i0,hi0,hz0,hz1,hz2⟩:=info_parts eInfo
   have HI0:=Lib.hid hi0
   have HZ0:=Lib.hid hz0
   have HZ1:=Lib.hid hz1
   have HZ2:=Lib.hid hz2
   clear hi0 hz0 hz1 hz2 hb0 hcnt h0 h8
   go_wp2_with fail
   go_loopw [10,11,12,13,14,26] (fun s10 s11 s12 s13 s14 s26 wr=>∃(j:Nat) (A:Option Addr) (c:Nat) (R:ByteArray),j≤b∧s10= .slice A j c∧s11= .string R∧s26= .int .u8 j∧Hid (1+10 * j≤s.size∧R=s.extract (1+10 * j) s.size)∧Hid (wr.ownsRow w.heap.size 255 4 (.slice A j c) j (extCells ((extsD s).take j)))∧Hid (Below w.heap.size w wr)) (fun _ _ _ _ _ s26 _=>b - (intOf s26).toNat)
   case atStart=>exact ⟨0,none,0,s.extract 1 s.size,Nat.zero_le _,rfl,by rfl,rfl,⟨by omega,rfl⟩,⟨rfl,.inl ⟨rfl,rfl⟩⟩,Below.refl _ _⟩
   case round=>
    obtain ⟨j,A,c,R,hj,rfl,rfl,rfl,HR,HO,HB⟩:=hrel
    by_cases hlt:j < b
    ·have hji:(j:Int) < (b:Int):=by omega
     have hj8:(j:Int)≤8:=by have:=H8.out;omega
     have HTK:Hid (Calls Tryz.prog 104 #[.string R,.slice (some ⟨gw,0,none⟩) 4 4] wr fun x w'=>(∃g5 c5,x= .returned (.tuple #[.slice (some ⟨g5,0,none⟩) 4 c5,.string (s.extract (1+10 * (j+1)) s.size),.int .i64 0])∧1+10 * (j+1)≤s.size∧g5 < w'.heap.size∧(w'.cell? ⟨g5,0,none⟩=some (.int .u64 (leN s (1+10 * j) 3))∧w'.cell? ⟨g5,1,none⟩=some (.int .u64 (leN s (1+10 * j+3) 4))∧w'.cell? ⟨g5,2,none⟩=some (.int .u64 (leN s (1+10 * j+7) 1))∧w'.cell? ⟨g5,3,none⟩=some (.int .u64 (leN s (1+10 * j+8) 2)))∧Below wr.heap.size wr w')∨(x= .returned (.tuple #[.slice none 0 0,.string ⟨#[]⟩,.int .i64 5])∧s.size < 1+10 * (j+1)∧Below wr.heap.size wr w')):=by
      obtain ⟨hR1,hR2⟩:=HR.out
      have hRsz:R.size=s.size - (1+10 * j):=by rw [hR2,ByteArray.size_extract];omega
      refine (takeW_any R [3,4,1,2] gw 4 wr (HW.out.below HB.out) (by decide) (by decide) (by decide) (by omega)).mono ?_
      rintro x w' (⟨hge,A5,c5,rfl,ho5,hb5⟩|⟨hlt5,rfl,hb5⟩)
      ·left
       have hge':10≤R.size:=hge
       obtain ⟨g5,rfl,_,hgl,_,hc5,_⟩:=own_cell ho5 (by decide)
       refine ⟨g5,c5,?_,by omega,hgl,?_,hb5⟩
       ·have e1:R.extract (List.sum [3,4,1,2]) R.size=s.extract (1+10 * (j+1)) s.size:=by
         rw [hR2,extract_more s _ _ hR1]
         show s.extract (1+10 * j+10) s.size=_
         rw [show 1+10 * j+10=1+10 * (j+1) by omega]
        rw [e1];rfl
       ·have hnum:∀i v,(numsW R [3,4,1,2] 4)[i]? =some v→w'.cell? ⟨g5,i,none⟩=some v:=hc5
        have q0:leN R 0 3=leN s (1+10 * j) 3:=by rw [hR2];exact leN_extract s (1+10 * j) 3 0 (by omega)
        have q1:leN R 3 4=leN s (1+10 * j+3) 4:=by rw [hR2];exact leN_extract s (1+10 * j) 4 3 (by omega)
        have q2:leN R 7 1=leN s (1+10 * j+7) 1:=by rw [hR2];exact leN_extract s (1+10 * j) 1 7 (by omega)
        have q3:leN R 8 2=leN s (1+10 * j+8) 2:=by rw [hR2];exact leN_extract s (1+10 * j) 2 8 (by omega)
        exact ⟨by rw [←q0];exact hnum 0 _ rfl,by rw [←q1];exact hnum 1 _ rfl,by rw [←q2];exact hnum 2 _ rfl,by rw [←q3];exact hnum 3 _ rfl⟩
      ·right
       have hlt':R.size < 10:=hlt5
       exact ⟨rfl,by omega,hb5⟩
     have HAT:Hid ((extsD s)[j]? =some (extD s (1+10 * j))):=extsD_at s j (by rw [HCN.out];exact hlt)
     have HSN:Hid (extCells ((extsD s).take (j+1))=extCells ((extsD s).take j)++[.int .i64 (leN s (1+10 * j) 3),.int .i64 (leN s (1+10 * j+3) 4),.int .i64 (leN s (1+10 * j+7) 1),.int .i64 (leN s (1+10 * j+8) 2)]):=by
      show _=_
      rw [take_cells HAT.out]
      rfl
     obtain ⟨x0,hx0⟩:∃x,leN s (1+10 * j) 3=x:=⟨_,rfl⟩
     have hr0:0≤x0∧x0 < 4294967296:=by have:=leN_rng s 3 (1+10 * j);rw [hx0] at this;omega
     rw [hx0] at HTK HSN
     obtain ⟨x1,hx1⟩:∃x,leN s (1+10 * j+3) 4=x:=⟨_,rfl⟩
     have hr1:0≤x1∧x1 < 4294967296:=by have:=leN_rng s 4 (1+10 * j+3);rw [hx1] at this;omega
     rw [hx1] at HTK HSN
     obtain ⟨x2,hx2⟩:∃x,leN s (1+10 * j+7) 1=x:=⟨_,rfl⟩
     have hr2:0≤x2∧x2 < 4294967296:=by have:=leN_rng s 1 (1+10 * j+7);rw [hx2] at this;omega
     rw [hx2] at HTK HSN
     obtain ⟨x3,hx3⟩:∃x,leN s (1+10 * j+8) 2=x:=⟨_,rfl⟩
     have hr3:0≤x3∧x3 < 4294967296:=by have:=leN_rng s 2 (1+10 * j+8);rw [hx3] at this;omega
     rw [hx3] at HTK HSN
     clear hx0 hx1 hx2 hx3
     go_wp2_with fail
     with_reducible refine HTK.out.mono ?_
     rintro e w5 (⟨g5,c5,rfl,hle5,hg5,hcells,hb5⟩|⟨rfl,hlt5,hb5⟩)
     ·have HTH:=Lib.hid (eThing g5 c5 x0 x1 x2 x3 w5 hg5 hcells hr0 hr1 hr2 hr3)
      have HB5:=Lib.hid (bel_tr HB.out hb5)
      have HO5:=Lib.hid (own_below HO.out hb5)
      clear hcells hb5 hg5
      go_wp2_with fail
      with_reducible refine HTH.out.mono ?_
      rintro e w6 ⟨rfl,hb6⟩
      have HB6:=Lib.hid (bel_tr HB5.out hb6)
      have HO6:=Lib.hid (own_below HO5.out hb6)
      have HOA:=Lib.hid (HO6.out.alloc (.cells #[.int .i64 x0,.int .i64 x1,.int .i64 x2,.int .i64 x3] 255))
      have HNW:Hid (∀(j':Nat) (u:Value),([.int .i64 x0,.int .i64 x1,.int .i64 x2,.int .i64 x3]:List Value)[j']? =some u→(w6.alloc (.cells #[.int .i64 x0,.int .i64 x1,.int .i64 x2,.int .i64 x3] 255)).cell? ((⟨w6.heap.size,0,none⟩:Addr).add j')=some u):=World.news_of_block (by simpa using heap_alloc_new w6 (.cells #[.int .i64 x0,.int .i64 x1,.int .i64 x2,.int .i64 x3] 255))
      have hone:∀u∈([.int .i64 x0,.int .i64 x1,.int .i64 x2,.int .i64 x3]:List Value),u.oneCell'=true:=by simp [Value.oneCell']
      have HONE:=Lib.hid hone
      have hszr:=HB6.out.size
      have HSZ2:Hid (w.heap.size≤(w6.alloc (.cells #[.int .i64 x0,.int .i64 x1,.int .i64 x2,.int .i64 x3] 255)).heap.size):=by show _≤_;simp only [World.size_alloc];omega
      have HSZ3:=Lib.hid hszr
      have HLE:=Lib.hid hle5
      clear hone hb6 hszr hle5
      go_wp2_with (at_builtin;go_must (refine wpList_append_own _ rfl (.tmp 37) (.tmp 41) 261 rfl w.heap.size 255 i0 _ 4 32 Tryz.underlying261 HI0.out HZ0.out HZ1.out HZ2.out rfl (by omega) (.slice A j c) j (extCells ((extsD s).take j)) rfl HOA.out ⟨w6.heap.size,0,none⟩ 1 1 [.int .i64 x0,.int .i64 x1,.int .i64 x2,.int .i64 x3] rfl rfl HNW.out HONE.out (by simp only [maxLen];omega) (by omega) HSZ2.out ?_;intro v2 w7 hown7 hg7 _;have HO7:=Lib.hid hown7;have HB7:=Lib.hid (below_append HO6.out hg7 HSZ3.out);obtain ⟨A2,c2',e2⟩:=own_slice hown7;subst e2;clear hown7 hg7))
      go_roundw
      case rel=>exact ⟨j+1,A2,c2',_,by omega,rfl,rfl,by go_num,⟨HLE.out,rfl⟩,by rw [HSN.out];with_reducible exact HO7,HB6.out.trans HB7.out⟩
      case measure=>simp [intOf];omega
     ·have HBAD:Hid (¬(okE s=true∧MayE (extsD s))):=fun h=>by
       have:=HOKI.out.1 h.1
       omega
      have HB5:=Lib.hid (bel_tr HB.out hb5)
      clear hb5
      go_wp2_with fail
      refine bodyPost_ret (v:= .tuple #[.slice none 0 0,.int .i64 3]) (by simp [results,Tryz.results286,go_sem]) rfl (HNO.out _ HBAD.out HB5.out)
    ·obtain rfl:j=b:=by omega
     by_cases hend:s.size=1+10 * j
     ·have hRe:R=⟨#[]⟩:=by
       rw [HR.out.2,←hend];exact extract_none s
      have HOK:Hid (okE s=true):=HOKI.out.2 hend
      have hfull:(extsD s).take j=extsD s:=by
       have:(extsD s).length=j:=by rw [extsD_len,HCN.out]
       rw [←this];exact List.take_length
      rw [hfull] at HO
      have HLN:Hid ((extsD s).length=j):=by show _=_;rw [extsD_len,HCN.out]
      have HMAY:Hid (Calls Tryz.prog 288 #[.slice A j c] wr fun x w'=>∃mb,x= .returned (.bool mb)∧(mb=true↔MayE (extsD s))∧Below wr.heap.size wr w'):=by
       have hx:=ExtsAt.own HO.out
       refine (extents_any (extsD s) _ wr hx.1 (by have:=HLN.out;have:=H8.out;omega)).mono ?_
       rintro x w' ⟨rfl,hb⟩
       exact ⟨_,rfl,Iff.rfl,hb⟩
      subst hRe
      clear hfull hend
      go_wp2_with fail
      with_reducible refine HMAY.out.mono ?_
      rintro e w5 ⟨mb,rfl,hmb,hb5⟩
      have HMB:=Lib.hid hmb
      have HB5:=Lib.hid (bel_tr HB.out hb5)
      have HO5:=Lib.hid (own_below HO.out hb5)
      clear hmb hb5
      cases mb with
      |false=>
       have HBAD:Hid (¬(okE s=true∧MayE (extsD s))):=fun h=>by
        have:=HMB.out.2 h.2
        cases this
       go_wp2_with fail
       refine bodyPost_ret (v:= .tuple #[.slice none 0 0,.int .i64 3]) (by simp [results,Tryz.results286,go_sem]) rfl (HNO.out _ HBAD.out HB5.out)
      |true=>
       have HEND:Hid (RdE s w (.returned (.tuple #[.slice A j c,.int .i64 0])) w5):=by
        refine .inl ⟨A,c,by rw [HLN.out],HOK.out,HMB.out.1 rfl,by rw [HLN.out];exact HO5.out,HB5.out⟩
       go_wp2_with fail
       refine bodyPost_ret (v:= .tuple #[.slice A j c,.int .i64 0]) (by simp [results,Tryz.results286,go_sem]) rfl HEND.out
     ·have hRz:R.size≠0:=by
       obtain ⟨hR1,hR2⟩:=HR.out
       rw [hR2,ByteArray.size_extract];omega
      have hRne:=size_ne hRz
      have hRem:=empty_no hRz
      have HBAD:Hid (¬(okE s=true∧MayE (extsD s))):=fun h=>hend (HOKI.out.1 h.1)
      go_wp2_with fail
      refine bodyPost_ret (v:= .tuple #[.slice none 0 0,.int .i64 3]) (by simp [results,Tryz.results286,go_sem]) rfl (HNO.out _ HBAD.out HB.out)
  ·have h8d:(8:Int) < (b:Int):=by omega
   have HBAD:Hid (¬(okE s=true∧MayE (extsD s))):=fun h=>by
    have:=h.1
    unfold okE at this
    rw [HB0.out] at this
    simp at this
    omega
   go_wp2_with fail
   refine bodyPost_ret (v:= .tuple #[.slice none 0 0,.int .i64 3]) (by simp [results,Tryz.results286,go_sem]) rfl (HNO.out _ HBAD.out (Below.refl _ _))
def okK (s:ByteArray):Bool:=decide (s.size≠0) && decide (byteAt s 0≤8) && decide (s.size=1+5 * (byteAt s 0).toNat)
def RdK (s:ByteArray) (w:World) (x:Ending) (w':World):Prop:=
 (∃A c,x= .returned (.tuple #[.slice A (kidsD s).length c,.int .i64 0])∧okK s=true∧MayK (kidsD s)∧w'.ownsRow w.heap.size 355 2 (.slice A (kidsD s).length c) (kidsD s).length (kidCells (kidsD s))∧Below w.heap.size w w')∨
 (x= .returned (.tuple #[.slice none 0 0,.int .i64 3])∧¬(okK s=true∧MayK (kidsD s))∧Below w.heap.size w w')
theorem kInfo:(Tryz.prog.info? 355).map (fun i=>(i.zero,i.size,i.bytes))=some (some (.agg #[.int .i64 0,.int .i64 0]),2,16):=by kernel_rfl
theorem kWs (w:World) (g:Nat) (e:Kid) (h:WidAt w g (kidNums e)):WidAt w g ([3,2].map fun k=>(k,0)):=by
 intro j p hp
 match j,hp with
 |0,hp=>simp at hp;subst hp;exact h 0 (3,e.key) rfl
 |1,hp=>simp at hp;subst hp;exact h 1 (2,e.at_) rfl
 |j+2,hp=>simp at hp
set_option maxHeartbeats 8000000 in
set_option maxRecDepth 100000 in
theorem kRead (s:ByteArray) (gw:Nat) (w:World) (hw:WidAt w gw ([3,2].map fun k=>(k,0))) (hs:s.size≤1000000):
  Calls Tryz.prog 290 #[.string s,.slice (some ⟨gw,0,none⟩) 2 2,.func (.func 292) #[] #[],.func (.func 293) #[] #[]] w (RdK s w):=by
 have HW:=Lib.hid hw
 have hsi:(s.size:Int)≤1000000:=by omega
 have HNO:Hid (∀w',¬(okK s=true∧MayK (kidsD s))→Below w.heap.size w w'→RdK s w (.returned (.tuple #[.slice none 0 0,.int .i64 3])) w'):=fun w' h hb=>.inr ⟨rfl,h,hb⟩
 clear hw
 go_enter Tryz.func290,Tryz.ntmps290
 by_cases h0:s.size=0
 ·have hse:s=⟨#[]⟩:=by
   apply ByteArray.ext
   exact Array.eq_empty_of_size_eq_zero h0
  have HBAD:Hid (¬(okK s=true∧MayK (kidsD s))):=fun h=>by
   have:=h.1
   unfold okK at this
   simp [h0] at this
  subst hse
  go_wp2_with fail
  refine bodyPost_ret (v:= .tuple #[.slice none 0 0,.int .i64 3]) (by simp [results,Tryz.results290,go_sem]) rfl (HNO.out _ HBAD.out (Below.refl _ _))
 ·have hne:=size_ne h0
  have hem:=empty_no h0
  have hb0:=byte0 h0
  have h0i:(0:Int) < (s.size:Int):=by omega
  have h0n:0 < s.size:=by omega
  obtain ⟨b,hb⟩:∃b:Nat,(s[0]'(by omega)).toNat=b:=⟨_,rfl⟩
  have hb256:b < 256:=by rw [←hb];exact UInt8.toNat_lt _
  rw [hb] at hb0
  have hcnt:(byteAt s 0).toNat=b:=by rw [hb0];omega
  have HB0:=Lib.hid hb0
  have HCN:=Lib.hid hcnt
  have hbi:(b:Int) < 256:=by omega
  by_cases h8:b≤8
  ·have h8d:¬(8:Int) < (b:Int):=by omega
   have h8n:¬8 < b:=by omega
   have H8:=Lib.hid h8
   have HNE:=Lib.hid h0
   have HOKI:Hid (okK s=true↔s.size=1+5 * b):=by
    show _↔_
    unfold okK
    rw [HCN.out,HB0.out]
    simp [HNE.out]
    omega
   obtain ⟨i0,hi0,hz0,hz1,hz2⟩:=info_parts kInfo
   have HI0:=Lib.hid hi0
   have HZ0:=Lib.hid hz0
   have HZ1:=Lib.hid hz1
   have HZ2:=Lib.hid hz2
   clear hi0 hz0 hz1 hz2 hb0 hcnt h0 h8
   go_wp2_with fail
   go_loopw [10,11,12,13,14,26] (fun s10 s11 s12 s13 s14 s26 wr=>∃(j:Nat) (A:Option Addr) (c:Nat) (R:ByteArray),j≤b∧s10= .slice A j c∧s11= .string R∧s26= .int .u8 j∧Hid (1+5 * j≤s.size∧R=s.extract (1+5 * j) s.size)∧Hid (wr.ownsRow w.heap.size 355 2 (.slice A j c) j (kidCells ((kidsD s).take j)))∧Hid (Below w.heap.size w wr)) (fun _ _ _ _ _ s26 _=>b - (intOf s26).toNat)
   case atStart=>exact ⟨0,none,0,s.extract 1 s.size,Nat.zero_le _,rfl,by rfl,rfl,⟨by omega,rfl⟩,⟨rfl,.inl ⟨rfl,rfl⟩⟩,Below.refl _ _⟩
   case round=>
    obtain ⟨j,A,c,R,hj,rfl,rfl,rfl,HR,HO,HB⟩:=hrel
    by_cases hlt:j < b
    ·have hji:(j:Int) < (b:Int):=by omega
     have hj8:(j:Int)≤8:=by have:=H8.out;omega
     have HTK:Hid (Calls Tryz.prog 104 #[.string R,.slice (some ⟨gw,0,none⟩) 2 2] wr fun x w'=>(∃g5 c5,x= .returned (.tuple #[.slice (some ⟨g5,0,none⟩) 2 c5,.string (s.extract (1+5 * (j+1)) s.size),.int .i64 0])∧1+5 * (j+1)≤s.size∧g5 < w'.heap.size∧(w'.cell? ⟨g5,0,none⟩=some (.int .u64 (leN s (1+5 * j) 3))∧w'.cell? ⟨g5,1,none⟩=some (.int .u64 (leN s (1+5 * j+3) 2)))∧Below wr.heap.size wr w')∨(x= .returned (.tuple #[.slice none 0 0,.string ⟨#[]⟩,.int .i64 5])∧s.size < 1+5 * (j+1)∧Below wr.heap.size wr w')):=by
      obtain ⟨hR1,hR2⟩:=HR.out
      have hRsz:R.size=s.size - (1+5 * j):=by rw [hR2,ByteArray.size_extract];omega
      refine (takeW_any R [3,2] gw 2 wr (HW.out.below HB.out) (by decide) (by decide) (by decide) (by omega)).mono ?_
      rintro x w' (⟨hge,A5,c5,rfl,ho5,hb5⟩|⟨hlt5,rfl,hb5⟩)
      ·left
       have hge':5≤R.size:=hge
       obtain ⟨g5,rfl,_,hgl,_,hc5,_⟩:=own_cell ho5 (by decide)
       refine ⟨g5,c5,?_,by omega,hgl,?_,hb5⟩
       ·have e1:R.extract (List.sum [3,2]) R.size=s.extract (1+5 * (j+1)) s.size:=by
         rw [hR2,extract_more s _ _ hR1]
         show s.extract (1+5 * j+5) s.size=_
         rw [show 1+5 * j+5=1+5 * (j+1) by omega]
        rw [e1];rfl
       ·have hnum:∀i v,(numsW R [3,2] 2)[i]? =some v→w'.cell? ⟨g5,i,none⟩=some v:=hc5
        have q0:leN R 0 3=leN s (1+5 * j) 3:=by rw [hR2];exact leN_extract s (1+5 * j) 3 0 (by omega)
        have q1:leN R 3 2=leN s (1+5 * j+3) 2:=by rw [hR2];exact leN_extract s (1+5 * j) 2 3 (by omega)
        exact ⟨by rw [←q0];exact hnum 0 _ rfl,by rw [←q1];exact hnum 1 _ rfl⟩
      ·right
       have hlt':R.size < 5:=hlt5
       exact ⟨rfl,by omega,hb5⟩
     have HAT:Hid ((kidsD s)[j]? =some (kidD s (1+5 * j))):=kidsD_at s j (by rw [HCN.out];exact hlt)
     have HSN:Hid (kidCells ((kidsD s).take (j+1))=kidCells ((kidsD s).take j)++[.int .i64 (leN s (1+5 * j) 3),.int .i64 (leN s (1+5 * j+3) 2)]):=by
      show _=_
      rw [kid_snoc HAT.out,kidCells_snoc]
      rfl
     obtain ⟨x0,hx0⟩:∃x,leN s (1+5 * j) 3=x:=⟨_,rfl⟩
     have hr0:0≤x0∧x0 < 4294967296:=by have:=leN_rng s 3 (1+5 * j);rw [hx0] at this;omega
     rw [hx0] at HTK HSN
     obtain ⟨x1,hx1⟩:∃x,leN s (1+5 * j+3) 2=x:=⟨_,rfl⟩
     have hr1:0≤x1∧x1 < 4294967296:=by have:=leN_rng s 2 (1+5 * j+3);rw [hx1] at this;omega
     rw [hx1] at HTK HSN
     clear hx0 hx1
     go_wp2_with fail
     with_reducible refine HTK.out.mono ?_
     rintro e w5 (⟨g5,c5,rfl,hle5,hg5,hcells,hb5⟩|⟨rfl,hlt5,hb5⟩)
     ·have HTH:=Lib.hid (kThing g5 c5 x0 x1 w5 hg5 hcells hr0 hr1)
      have HB5:=Lib.hid (bel_tr HB.out hb5)
      have HO5:=Lib.hid (own_below HO.out hb5)
      clear hcells hb5 hg5
      go_wp2_with fail
      with_reducible refine HTH.out.mono ?_
      rintro e w6 ⟨rfl,hb6⟩
      have HB6:=Lib.hid (bel_tr HB5.out hb6)
      have HO6:=Lib.hid (own_below HO5.out hb6)
      have HOA:=Lib.hid (HO6.out.alloc (.cells #[.int .i64 x0,.int .i64 x1] 355))
      have HNW:Hid (∀(j':Nat) (u:Value),([.int .i64 x0,.int .i64 x1]:List Value)[j']? =some u→(w6.alloc (.cells #[.int .i64 x0,.int .i64 x1] 355)).cell? ((⟨w6.heap.size,0,none⟩:Addr).add j')=some u):=World.news_of_block (by simpa using heap_alloc_new w6 (.cells #[.int .i64 x0,.int .i64 x1] 355))
      have hone:∀u∈([.int .i64 x0,.int .i64 x1]:List Value),u.oneCell'=true:=by simp [Value.oneCell']
      have HONE:=Lib.hid hone
      have hszr:=HB6.out.size
      have HSZ2:Hid (w.heap.size≤(w6.alloc (.cells #[.int .i64 x0,.int .i64 x1] 355)).heap.size):=by show _≤_;simp only [World.size_alloc];omega
      have HSZ3:=Lib.hid hszr
      have HLE:=Lib.hid hle5
      clear hone hb6 hszr hle5
      go_wp2_with (at_builtin;go_must (refine wpList_append_own _ rfl (.tmp 37) (.tmp 41) 351 rfl w.heap.size 355 i0 _ 2 16 Tryz.underlying351 HI0.out HZ0.out HZ1.out HZ2.out rfl (by omega) (.slice A j c) j (kidCells ((kidsD s).take j)) rfl HOA.out ⟨w6.heap.size,0,none⟩ 1 1 [.int .i64 x0,.int .i64 x1] rfl rfl HNW.out HONE.out (by simp only [maxLen];omega) (by omega) HSZ2.out ?_;intro v2 w7 hown7 hg7 _;have HO7:=Lib.hid hown7;have HB7:=Lib.hid (below_append HO6.out hg7 HSZ3.out);obtain ⟨A2,c2',e2⟩:=own_slice hown7;subst e2;clear hown7 hg7))
      go_roundw
      case rel=>exact ⟨j+1,A2,c2',_,by omega,rfl,rfl,by go_num,⟨HLE.out,rfl⟩,by rw [HSN.out];with_reducible exact HO7,HB6.out.trans HB7.out⟩
      case measure=>simp [intOf];omega
     ·have HBAD:Hid (¬(okK s=true∧MayK (kidsD s))):=fun h=>by
       have:=HOKI.out.1 h.1
       omega
      have HB5:=Lib.hid (bel_tr HB.out hb5)
      clear hb5
      go_wp2_with fail
      refine bodyPost_ret (v:= .tuple #[.slice none 0 0,.int .i64 3]) (by simp [results,Tryz.results290,go_sem]) rfl (HNO.out _ HBAD.out HB5.out)
    ·obtain rfl:j=b:=by omega
     by_cases hend:s.size=1+5 * j
     ·have hRe:R=⟨#[]⟩:=by
       rw [HR.out.2,←hend];exact extract_none s
      have HOK:Hid (okK s=true):=HOKI.out.2 hend
      have hfull:(kidsD s).take j=kidsD s:=by
       have:(kidsD s).length=j:=by rw [kidsD_len,HCN.out]
       rw [←this];exact List.take_length
      rw [hfull] at HO
      have HLN:Hid ((kidsD s).length=j):=by show _=_;rw [kidsD_len,HCN.out]
      have HMAY:Hid (Calls Tryz.prog 292 #[.slice A j c] wr fun x w'=>∃mb,x= .returned (.bool mb)∧(mb=true↔MayK (kidsD s))∧Below wr.heap.size wr w'):=by
       have hx:=KidsAt.own HO.out
       refine (kids_any (kidsD s) _ wr hx.1 (by have:=HLN.out;have:=H8.out;omega)).mono ?_
       rintro x w' ⟨mb,rfl,hb1,hb2⟩
       exact ⟨mb,rfl,hb1,hb2⟩
      subst hRe
      clear hfull hend
      go_wp2_with fail
      with_reducible refine HMAY.out.mono ?_
      rintro e w5 ⟨mb,rfl,hmb,hb5⟩
      have HMB:=Lib.hid hmb
      have HB5:=Lib.hid (bel_tr HB.out hb5)
      have HO5:=Lib.hid (own_below HO.out hb5)
      clear hmb hb5
      cases mb with
      |false=>
       have HBAD:Hid (¬(okK s=true∧MayK (kidsD s))):=fun h=>by
        have:=HMB.out.2 h.2
        cases this
       go_wp2_with fail
       refine bodyPost_ret (v:= .tuple #[.slice none 0 0,.int .i64 3]) (by simp [results,Tryz.results290,go_sem]) rfl (HNO.out _ HBAD.out HB5.out)
      |true=>
       have HEND:Hid (RdK s w (.returned (.tuple #[.slice A j c,.int .i64 0])) w5):=by
        refine .inl ⟨A,c,by rw [HLN.out],HOK.out,HMB.out.1 rfl,by rw [HLN.out];exact HO5.out,HB5.out⟩
       go_wp2_with fail
       refine bodyPost_ret (v:= .tuple #[.slice A j c,.int .i64 0]) (by simp [results,Tryz.results290,go_sem]) rfl HEND.out
     ·have hRz:R.size≠0:=by
       obtain ⟨hR1,hR2⟩:=HR.out
       rw [hR2,ByteArray.size_extract];omega
      have hRne:=size_ne hRz
      have hRem:=empty_no hRz
      have HBAD:Hid (¬(okK s=true∧MayK (kidsD s))):=fun h=>hend (HOKI.out.1 h.1)
      go_wp2_with fail
      refine bodyPost_ret (v:= .tuple #[.slice none 0 0,.int .i64 3]) (by simp [results,Tryz.results290,go_sem]) rfl (HNO.out _ HBAD.out HB.out)
  ·have h8d:(8:Int) < (b:Int):=by omega
   have HBAD:Hid (¬(okK s=true∧MayK (kidsD s))):=fun h=>by
    have:=h.1
    unfold okK at this
    rw [HB0.out] at this
    simp at this
    omega
   go_wp2_with fail
   refine bodyPost_ret (v:= .tuple #[.slice none 0 0,.int .i64 3]) (by simp [results,Tryz.results290,go_sem]) rfl (HNO.out _ HBAD.out (Below.refl _ _))
end Go.Proofs.YtfialjmemcobjaaGreatDoor.tr
namespace Go.Proofs.YtfialjmemcobjaaGreatDoor.tr
open Go.RowKit Go.Proofs.YtfialjmemcobjaaGreatDoor.er
set_option linter.unusedVariables false
set_option linter.unusedSimpArgs false
theorem own_le {w:World} {B B' k n:Nat} {e:TypeId} {v:Value} {xs:List Value} (h:w.ownsRow B' e k v n xs) (hB:B≤B'):w.ownsRow B e k v n xs:=by
 obtain ⟨h1,h2⟩:=h
 refine ⟨h1,?_⟩
 rcases h2 with h2|⟨g,cap,cur,a1,a2,a3⟩
 ·exact .inl h2
 ·exact .inr ⟨g,cap,cur,a1,Nat.le_trans hB a2,a3⟩
set_option maxHeartbeats 4000000 in
set_option maxRecDepth 100000 in
theorem readLeaf_any (s:ByteArray) (w:World) (hs:s.size≤1000000):Calls Tryz.prog 245 #[.string s] w (RdE s w):=by
 have HX:=Lib.hid (extW_any w)
 have HR:=Lib.hid (fun gw w1 h=>eRead s gw w1 h hs)
 go_enter Tryz.func245,Tryz.ntmps245
 go_wp2_with fail
 with_reducible refine HX.out.mono ?_
 rintro e w1 ⟨rfl,hw,hb⟩
 have HB:=Lib.hid hb
 have HE:=Lib.hid (HR.out w.heap.size w1 (eWs w1 _ ⟨0,0,0,0⟩ (hw _)))
 clear hw hb
 go_wp2_with fail
 with_reducible refine HE.out.mono ?_
 rintro e w2 (⟨A,c,rfl,h1,h2,h3,h4⟩|⟨rfl,h1,h2⟩)
 ·have HQ:Hid (RdE s w (.returned (.tuple #[.slice A (extsD s).length c,.int .i64 0])) w2):= .inl ⟨A,c,rfl,h1,h2,own_le h3 HB.out.size,HB.out.trans (h4.mono HB.out.size)⟩
  clear h1 h2 h3 h4
  go_wp2_with fail
  refine bodyPost_ret (v:= .tuple #[.slice A (extsD s).length c,.int .i64 0]) (by simp [results,Tryz.results245,go_sem]) rfl HQ.out
 ·have HQ:Hid (RdE s w (.returned (.tuple #[.slice none 0 0,.int .i64 3])) w2):= .inr ⟨rfl,h1,HB.out.trans (h2.mono HB.out.size)⟩
  clear h1 h2
  go_wp2_with fail
  refine bodyPost_ret (v:= .tuple #[.slice none 0 0,.int .i64 3]) (by simp [results,Tryz.results245,go_sem]) rfl HQ.out
set_option maxHeartbeats 4000000 in
set_option maxRecDepth 100000 in
theorem readInner_any (s:ByteArray) (w:World) (hs:s.size≤1000000):Calls Tryz.prog 247 #[.string s] w (RdK s w):=by
 have HX:=Lib.hid (kidW_any w)
 have HR:=Lib.hid (fun gw w1 h=>kRead s gw w1 h hs)
 go_enter Tryz.func247,Tryz.ntmps247
 go_wp2_with fail
 with_reducible refine HX.out.mono ?_
 rintro e w1 ⟨rfl,hw,hb⟩
 have HB:=Lib.hid hb
 have HE:=Lib.hid (HR.out w.heap.size w1 (kWs w1 _ ⟨0,0⟩ (hw _)))
 clear hw hb
 go_wp2_with fail
 with_reducible refine HE.out.mono ?_
 rintro e w2 (⟨A,c,rfl,h1,h2,h3,h4⟩|⟨rfl,h1,h2⟩)
 ·have HQ:Hid (RdK s w (.returned (.tuple #[.slice A (kidsD s).length c,.int .i64 0])) w2):= .inl ⟨A,c,rfl,h1,h2,own_le h3 HB.out.size,HB.out.trans (h4.mono HB.out.size)⟩
  clear h1 h2 h3 h4
  go_wp2_with fail
  refine bodyPost_ret (v:= .tuple #[.slice A (kidsD s).length c,.int .i64 0]) (by simp [results,Tryz.results247,go_sem]) rfl HQ.out
 ·have HQ:Hid (RdK s w (.returned (.tuple #[.slice none 0 0,.int .i64 3])) w2):= .inr ⟨rfl,h1,HB.out.trans (h2.mono HB.out.size)⟩
  clear h1 h2
  go_wp2_with fail
  refine bodyPost_ret (v:= .tuple #[.slice none 0 0,.int .i64 3]) (by simp [results,Tryz.results247,go_sem]) rfl HQ.out
def I64 (x:Int):Prop:= -9223372036854775808≤x∧x≤9223372036854775807
def ErrAt (w:World) (v:Value):Prop:=∃b op pg t x,v= .iface 183 (.pointer (some ⟨b,0,none⟩))∧Whole w b 187 #[.string op,.int .i64 pg,.iface t x]
theorem ErrAt.below {w w':World} {v:Value} (h:ErrAt w v) (hb:Below w.heap.size w w'):ErrAt w' v:=by
 obtain ⟨b,op,pg,t,x,h1,h2⟩:=h
 exact ⟨b,op,pg,t,x,h1,h2.keep (Keep.below (F:=fun _=>False) hb) (fun h=>h)⟩
set_option maxHeartbeats 4000000 in
theorem wrap_any (op:ByteArray) (pg:Int) (t:TypeId) (x:Value) (w:World):Calls Tryz.prog 57 #[.string op,.int .i64 pg,.iface t x] w fun y w'=>y= .returned (.iface 183 (.pointer (some ⟨w.heap.size,0,none⟩)))∧w'=w.alloc (.cells #[.string op,.int .i64 pg,.iface t x] 187):=by
 go_enter Tryz.func57,Tryz.ntmps57
 go_wp2_with fail
 go_ret
 exact ⟨rfl,rfl⟩
theorem wrapErr_any (op:ByteArray) (pg:Int) (t:TypeId) (x:Value) (w:World):Calls Tryz.prog 57 #[.string op,.int .i64 pg,.iface t x] w fun z w'=>∃y,z= .returned (.iface 183 y)∧ErrAt w' (.iface 183 y)∧Below w.heap.size w w':=by
 refine (wrap_any op pg t x w).mono ?_
 rintro z w' ⟨rfl,rfl⟩
 exact ⟨_,rfl,⟨_,op,pg,t,x,rfl,Whole.new w _ _⟩,(Below.refl _ _).alloc (Nat.le_refl _) _⟩
def GetRet (o:Option (Int×ByteArray)) (w:World) (x:Ending) (w':World):Prop:=
 match o with
 |some p=>x= .returned (.tuple #[.int .i64 p.1,.string p.2,.nilIface])∧Below w.heap.size w w'
 |none=>∃t e,x= .returned (.tuple #[.int .i64 0,.string ⟨#[]⟩,.iface t e])∧Below w.heap.size w w'
structure Gtr where
 g:Nat
 la:Array Value
 lb:Array Value
 B:Int→Option (Int×ByteArray)
 inv:World→Prop
 below:∀{w w':World},inv w→Below w.heap.size w w'→inv w'
 eg:∀args w,(callFunc g args).run Tryz.prog w= .ok (.enter g args) w
 sz:∀pg p,B pg=some p→p.2.size≤1000000
 get:∀w pg,inv w→I64 pg→Calls Tryz.prog g (la.push (.int .i64 pg)++lb) w (GetRet (B pg) w)
def smallB (pg top n least:Int):Bool:=(decide (pg≠top) && decide (n < 4)) || decide (n < least)
set_option maxHeartbeats 4000000 in
set_option maxRecDepth 100000 in
theorem small_any (r:Nat) (pg top n least:Int) (w:World) (h:w.cell? ⟨r,1,none⟩=some (.int .i64 top)):
  Calls Tryz.prog 246 #[.pointer (some ⟨r,0,none⟩),.int .i64 pg,.int .i64 n,.int .i64 least] w fun x w'=>x= .returned (.bool (smallB pg top n least))∧w=w':=by
 unfold smallB
 by_cases h1:pg=top
 ·subst h1
  by_cases h3:n < least
  ·go_enter Tryz.func246,Tryz.ntmps246
   go_wp2_with fail
   go_ret
   exact ⟨by simp [h3],rfl⟩
  ·go_enter Tryz.func246,Tryz.ntmps246
   go_wp2_with fail
   go_ret
   exact ⟨by simp [h3],rfl⟩
 ·by_cases h2:n < 4
  ·go_enter Tryz.func246,Tryz.ntmps246
   go_wp2_with fail
   go_ret
   exact ⟨by simp [h1,h2],rfl⟩
  ·by_cases h3:n < least
   ·go_enter Tryz.func246,Tryz.ntmps246
    go_wp2_with fail
    go_ret
    exact ⟨by simp [h1,h2,h3],rfl⟩
   ·go_enter Tryz.func246,Tryz.ntmps246
    go_wp2_with fail
    go_ret
    exact ⟨by simp [h1,h2,h3],rfl⟩
end Go.Proofs.YtfialjmemcobjaaGreatDoor.tr
namespace Go.Proofs.YtfialjmemcobjaaGreatDoor.tr
open Go.RowKit Go.Proofs.YtfialjmemcobjaaGreatDoor.er
set_option linter.unusedVariables false
set_option linter.unusedSimpArgs false
def Ne:{h:Nat}→Nd h→Prop
 |0,n=>1≤n.l.length
 |_+1,n=>1≤n.ks.length∧∀k∈n.ks,Ne k
set_option maxHeartbeats 4000000 in
theorem firstNe_any (w:World):∀(h:Nat) (b:Nat) (F:List Nat) (n:Nd h),NdAt w F (.iface (ndT h) (.pointer (some ⟨b,0,none⟩))) n→Ne n→
  Calls Tryz.prog (fiF h) #[.pointer (some ⟨b,0,none⟩)] w fun e w'=>e= .returned (.int .i64 (firstN n))∧w=w'
 |0,b,F,n,⟨b',g,c,h1,h2,h3,h4⟩,hs=>by
  obtain rfl:=ptr_inj h2
  clear h2
  have hs':1≤(Nd.l n).length:=hs
  have HR:Hid (firstN n=match n.l with|[]=>0|e::_=>e.fr):=by show _=_;unfold firstN;rfl
  obtain ⟨e,r,hl⟩:∃e r,Nd.l n=e::r:=by
   cases hl:Nd.l n with
   |nil=>rw [hl] at hs';simp at hs'
   |cons e r=>exact ⟨e,r,rfl⟩
  rw [HR.out,hl]
  rw [hl] at h3 h4
  have c1:=h3.cell 1
  simp at c1
  have d0:=h4.cell (extCells_at (e::r) 0 e rfl).1
  simp at d0
  have hp:(0:Int) < ((r.length:Int)+1):=by omega
  have hp':0 < r.length+1:=by omega
  clear h1 h4 h3 hl hs' hs HR
  obtain ⟨m,hm⟩:∃m,r.length=m:=⟨_,rfl⟩
  rw [hm] at c1 hp hp'
  clear hm
  show Calls Tryz.prog 387 _ w _
  go_enter Tryz.func387,Tryz.ntmps387
  go_wp2_with fail
  go_ret
  exact ⟨rfl,rfl⟩
 |h+1,b,F,n,⟨b',g,c,ds,h1,h2,h3,h4,h5,h6⟩,hs=>by
  obtain rfl:=ptr_inj h2
  clear h2
  have hs':1≤(Nd.ks n).length:=hs.1
  cases ds with
  |nil=>rw [h4] at hs';simp at hs'
  |cons d ds=>
   have hd:=h6 d (by simp)
   have hkw:Ne d.2.2:=hs.2 d.2.2 (by rw [h4];simp)
   obtain ⟨kb,kF,hk1,hk2⟩:=hd.form
   have hr:firstN n=firstN d.2.2:=by show (match n.ks with|[]=>(0:Int)|k::_=>firstN k)=_;rw [h4];rfl
   rw [hr]
   rw [h4] at h3
   have c1:=h3.cell 1
   simp at c1
   have d0:=h5.cell (j:=0) (v:=d.2.1) rfl
   rw [hk2] at hd d0
   have HC:=Lib.hid (firstNe_any w h kb d.1 d.2.2 hd hkw)
   have hme:=meFi (.pointer (some ⟨kb,0,none⟩)) w h
   have hen:=enFi #[.pointer (some ⟨kb,0,none⟩)] w h
   obtain ⟨x,hx⟩:∃x,firstN d.2.2=x:=⟨_,rfl⟩
   rw [hx] at HC ⊢
   have hp:(0:Int) < ((ds.length:Int)+1):=by omega
   have hp':0 < ds.length+1:=by omega
   obtain ⟨m,hm⟩:∃m,ds.length=m:=⟨_,rfl⟩
   rw [hm] at c1 hp hp'
   clear hm h1 h3 h4 h5 h6 hs' hs hd hkw hk1 hk2 hr hx
   show Calls Tryz.prog 373 _ w _
   go_enter Tryz.func373,Tryz.ntmps373
   go_wp2_with fail
   refine HC.out.mono ?_
   rintro e w' ⟨rfl,rfl⟩
   go_wp2_with fail
   go_ret
   exact ⟨rfl,rfl⟩
def rdKids {h:Nat} (f:Int→Option (Nd h)):List Kid→Option (List (Nd h))
 |[]=>some []
 |k::r=>match f k.at_ with
  |none=>none
  |some d=>if firstN d=k.key then (rdKids f r).map (fun t=>d::t) else none
open Classical in
noncomputable def readN (B:Int→Option (Int×ByteArray)) (top:Int):(h:Nat)→Int→Option (Nd h)
 |0,pg=>match B pg with
  |none=>none
  |some p=>if p.1=2∧(okE p.2=true∧MayE (extsD p.2))∧smallB pg top (extsD p.2).length 1=false then some (mkL pg (extsD p.2)) else none
 |h+1,pg=>match B pg with
  |none=>none
  |some p=>if p.1=3∧(okK p.2=true∧MayK (kidsD p.2))∧smallB pg top (kidsD p.2).length 2=false then (rdKids (readN B top h) (kidsD p.2)).map (fun t=>mkI pg t) else none
def RdPost {h:Nat} (o:Option (Nd h)) (w:World) (x:Ending) (w':World):Prop:=
 match o with
 |some n=>∃F b,x= .returned (.tuple #[ptrV h b,.nilIface])∧NdAt w' F (ptrV h b) n∧F.Nodup∧(∀k∈F,w.heap.size≤k)∧Ne n∧Below w.heap.size w w'
 |none=>∃e,x= .returned (.tuple #[.nilIface,.iface 183 e])∧ErrAt w' (.iface 183 e)∧Below w.heap.size w w'
def RdAt (K:Gtr) (w:World) (r:Nat) (top:Int):Prop:=Whole w r 287 #[.func (.func K.g) K.la K.lb,.int .i64 top]∧K.inv w
theorem RdAt.below {K:Gtr} {w w':World} {r:Nat} {top:Int} (h:RdAt K w r top) (hb:Below w.heap.size w w'):RdAt K w' r top:=
 ⟨h.1.keep (Keep.below (F:=fun _=>False) hb) (fun h=>h),K.below h.2 hb⟩
def RdCtr (K:Gtr) (h:Nat):Prop:=∀(w:World) (r:Nat) (top pg:Int),RdAt K w r top→I64 pg→
 Calls Tryz.prog 196 #[.pointer (some ⟨r,0,none⟩),.int .i64 pg,.int .i64 ((h:Int)+1)] w (RdPost (readN K.B top h pg) w)
theorem leaf_made {w wq:World} {l:List Ext} {A:Option Addr} {c:Nat} {pg:Int} (h1:1≤l.length) (h:wq.ownsRow w.heap.size 255 4 (.slice A l.length c) l.length (extCells l)) (hw:w.heap.size≤wq.heap.size):
  ∃F,NdAt (wq.alloc (.cells #[.int .i64 pg,.slice A l.length c] 350)) F (ptrV 0 wq.heap.size) (mkL pg l)∧F.Nodup∧(∀k∈F,w.heap.size≤k)∧Ne (mkL pg l):=by
 obtain ⟨g,c2,e,hr,hg⟩:=Row.own h h1
 injection e with e1 e2 e3
 subst e1 e3
 have hgl:=hr.lt
 refine ⟨[wq.heap.size,g],leaf_at ⟨Whole.new _ _ _,hr.keep (Keep.below (F:=fun _=>False) ((Below.refl _ _).alloc (Nat.le_refl _) _)) (fun h=>h)⟩,?_,?_,h1⟩
 ·simp;omega
 ·intro k hk
  simp at hk
  rcases hk with rfl|rfl <;> omega
open Classical in
set_option maxHeartbeats 8000000 in
set_option maxRecDepth 100000 in
theorem rd_leaf (K:Gtr):RdCtr K 0:=by
 intro w r top pg hr hpg
 obtain ⟨g0,la,lb,B,inv,hbel,eg,hsz,hget⟩:=K
 have c0:=hr.1.cell 0
 have c1:=hr.1.cell 1
 simp at c0 c1
 have HG:Hid (Calls Tryz.prog g0 (la.push (.int .i64 pg)++lb) w (GetRet (B pg) w)):=hget w pg hr.2 hpg
 have HC1:Hid (∀wq,Below w.heap.size w wq→wq.cell? ⟨r,1,none⟩=some (.int .i64 top)):=fun wq hb=>below_c hb c1
 have HRN:Hid (readN B top 0 pg=match B pg with|none=>none|some p=>if p.1=2∧(okE p.2=true∧MayE (extsD p.2))∧smallB pg top (extsD p.2).length 1=false then some (mkL pg (extsD p.2)) else none):=by show _=_;rfl
 have HWR:=Lib.hid (fun op t x wq=>wrapErr_any op pg t x wq)
 have HERR:Hid (∀y wq,readN B top 0 pg=none→ErrAt wq (.iface 183 y)→Below w.heap.size w wq→RdPost (readN B top 0 pg) w (.returned (.tuple #[.nilIface,.iface 183 y])) wq):=by
  intro y wq h1 h2 h3
  rw [h1]
  exact ⟨y,rfl,h2,h3⟩
 have HSM:=Lib.hid (fun wq n hb=>small_any r pg top n 1 wq (HC1.out wq hb))
 show Calls Tryz.prog 196 #[.pointer (some ⟨r,0,none⟩),.int .i64 pg,.int .i64 1] w (RdPost (readN B top 0 pg) w)
 cases hgb:B pg with
 |none=>
  rw [hgb] at HG HRN
  have HNN:Hid (readN B top 0 pg=none):=HRN.out
  clear hr hpg hgb hget hbel hsz HRN HSM HC1
  go_enter Tryz.func196,Tryz.ntmps196
  go_wp2_with fail
  with_reducible refine HG.out.mono ?_
  rintro e w1 ⟨t1,x1,rfl,hb1⟩
  have HB1:=Lib.hid hb1
  clear hb1
  go_wp2_with fail
  with_reducible refine (HWR.out _ _ _ _).mono ?_
  rintro e w2 ⟨y,rfl,he2,hb2⟩
  have HE:=Lib.hid (HERR.out y w2 HNN.out he2 (HB1.out.trans (hb2.mono HB1.out.size)))
  clear he2 hb2
  go_wp2_with fail
  refine bodyPost_ret (v:= .tuple #[.nilIface,.iface 183 y]) (by simp [results,Tryz.results196,go_sem]) rfl HE.out
 |some p=>
  obtain ⟨kd,s⟩:=p
  have hss:=hsz _ _ hgb
  rw [hgb] at HG HRN
  simp only at hss
  have HRL:=Lib.hid (fun wq=>readLeaf_any s wq hss)
  clear hr hpg hgb hget hbel hsz HC1
  go_enter Tryz.func196,Tryz.ntmps196
  go_wp2_with fail
  with_reducible refine HG.out.mono ?_
  rintro e w1 ⟨rfl,hb1⟩
  have HB1:=Lib.hid hb1
  clear hb1
  go_wp2_with fail
  with_reducible refine (HWR.out _ _ _ _).mono ?_
  rintro e w2 ⟨y,rfl,he2,hb2⟩
  have HE2:=Lib.hid he2
  have HB2:=Lib.hid (HB1.out.trans (hb2.mono HB1.out.size))
  have HL2:=Lib.hid (HRL.out w2)
  clear he2 hb2
  go_wp2_with fail
  with_reducible refine HL2.out.mono ?_
  rintro e w3 (⟨A,c,rfl,k1,k2,k3,k4⟩|⟨rfl,k1,k2⟩)
  ·obtain ⟨n,hn⟩:∃n,(extsD s).length=n:=⟨_,rfl⟩
   have hn8:1≤n∧n≤8:=by
    unfold MayE extB at k2
    simp at k2
    omega
   have hni:(n:Int)≤8:=by omega
   have HB3:=Lib.hid (HB2.out.trans (k4.mono HB2.out.size))
   have HE3:=Lib.hid (HE2.out.below k4)
   have HMK:=Lib.hid (fun pg=>leaf_made (pg:=pg) (w:=w) (by omega) (own_le k3 HB2.out.size) HB3.out.size)
   rw [hn] at HMK ⊢
   by_cases hk:kd=2
   ·subst hk
    obtain ⟨sb,hsb⟩:∃sb,smallB pg top n 1=sb:=⟨_,rfl⟩
    have HS3:=Lib.hid (HSM.out w3 n HB3.out)
    rw [hsb] at HS3
    cases sb with
    |true=>
     have HNN:Hid (readN B top 0 pg=none):=by
      show _=_
      rw [HRN.out]
      exact if_neg (by rw [hn];rintro ⟨_,_,h⟩;rw [hsb] at h;cases h)
     have HE:=Lib.hid (HERR.out y w3 HNN.out HE3.out HB3.out)
     clear k1 k2 k3 k4 hn hsb
     go_wp2_with fail
     with_reducible refine HS3.out.mono ?_
     rintro e w4 ⟨rfl,rfl⟩
     go_wp2_with fail
     refine bodyPost_ret (v:= .tuple #[.nilIface,.iface 183 y]) (by simp [results,Tryz.results196,go_sem]) rfl HE.out
    |false=>
     have HSO:Hid (readN B top 0 pg=some (mkL pg (extsD s))):=by
      show _=_
      rw [HRN.out]
      exact if_pos ⟨rfl,⟨k1,k2⟩,by rw [hn];exact hsb⟩
     have HE:Hid (RdPost (readN B top 0 pg) w (.returned (.tuple #[ptrV 0 w3.heap.size,.nilIface])) (w3.alloc (.cells #[.int .i64 pg,.slice A n c] 350))):=by
      show RdPost _ _ _ _
      rw [HSO.out]
      obtain ⟨F,m1,m2,m3,m4⟩:=HMK.out pg
      exact ⟨F,_,rfl,m1,m2,m3,m4,HB3.out.alloc HB3.out.size _⟩
     clear k1 k2 k3 k4 hn hsb
     go_wp2_with fail
     with_reducible refine HS3.out.mono ?_
     rintro e w4 ⟨rfl,rfl⟩
     go_wp2_with fail
     refine bodyPost_ret (v:= .tuple #[ptrV 0 w3.heap.size,.nilIface]) (by simp [results,Tryz.results196,go_sem,ptrV,ndT]) rfl HE.out
   ·have HNN:Hid (readN B top 0 pg=none):=by
     show _=_
     rw [HRN.out]
     exact if_neg (by rintro ⟨h,_⟩;exact hk h)
    have HE:=Lib.hid (HERR.out y w3 HNN.out HE3.out HB3.out)
    clear k1 k2 k3 k4 hn
    go_wp2_with fail
    refine bodyPost_ret (v:= .tuple #[.nilIface,.iface 183 y]) (by simp [results,Tryz.results196,go_sem]) rfl HE.out
  ·have HB3:=Lib.hid (HB2.out.trans (k2.mono HB2.out.size))
   have HNN:Hid (readN B top 0 pg=none):=by
    show _=_
    rw [HRN.out]
    exact if_neg (by rintro ⟨_,h,_⟩;exact k1 h)
   have HE:=Lib.hid (HERR.out y w3 HNN.out (HE2.out.below k2) HB3.out)
   clear k1 k2
   by_cases hk:kd=2
   ·subst hk
    go_wp2_with fail
    refine bodyPost_ret (v:= .tuple #[.nilIface,.iface 183 y]) (by simp [results,Tryz.results196,go_sem]) rfl HE.out
   ·go_wp2_with fail
    refine bodyPost_ret (v:= .tuple #[.nilIface,.iface 183 y]) (by simp [results,Tryz.results196,go_sem]) rfl HE.out
end Go.Proofs.YtfialjmemcobjaaGreatDoor.tr
namespace Go.Proofs.YtfialjmemcobjaaGreatDoor.tr
open Go.RowKit Go.Proofs.YtfialjmemcobjaaGreatDoor.er
set_option linter.unusedVariables false
set_option linter.unusedSimpArgs false
structure RdW (w:World) (b:Nat) (pg:Int) {h:Nat} (ds:List (Kd h)) (A:Option Addr) (c:Nat) (wr:World):Prop where
 box:Whole wr b 300 #[.int .i64 pg,.slice A ds.length c]
 row:wr.ownsRow w.heap.size 226 1 (.slice A ds.length c) ds.length (ds.map fun d=>d.2.1)
 nds:∀d∈ds,NdAt wr d.1 d.2.1 d.2.2
 nd:(dsF ds).Nodup
 ge:∀k∈dsF ds,w.heap.size≤k∧k≠b∧(Value.slice A ds.length c).ownBlock≠some k
 ne:∀d∈ds,Ne d.2.2
 bel:Below w.heap.size w wr
theorem RdW.below {w wr wq:World} {b:Nat} {pg:Int} {h:Nat} {ds:List (Kd h)} {A:Option Addr} {c:Nat} (hr:RdW w b pg ds A c wr) (hb:Below wr.heap.size wr wq):RdW w b pg ds A c wq:=
 ⟨hr.box.keep (Keep.below (F:=fun _=>False) hb) (fun h=>h),own_below hr.row hb,kids_keep (Keep.below (F:=fun _=>False) hb) hr.nds (fun _ _ h=>h),hr.nd,hr.ge,hr.ne,hr.bel.trans (hb.mono hr.bel.size)⟩
theorem rdw_new {w wq:World} {pg:Int} {h:Nat} (hb:Below w.heap.size w wq):RdW w wq.heap.size pg ([]:List (Kd h)) none 0 (wq.alloc (.cells #[.int .i64 pg,.slice none 0 0] 300)):=
 ⟨Whole.new _ _ _,⟨rfl,.inl ⟨rfl,rfl⟩⟩,fun d hd=>by simp at hd,by simp [dsF],fun k hk=>by simp [dsF] at hk,fun d hd=>by simp at hd,hb.alloc hb.size _⟩
theorem rdw_put {w wr w6:World} {b:Nat} {pg:Int} {h:Nat} {ds:List (Kd h)} {A:Option Addr} {c:Nat} {d:Kd h} {g2 c2:Nat} (hwb:w.heap.size≤b) (hr:RdW w b pg ds A c wr) (hd:NdAt wr d.1 d.2.1 d.2.2) (hne:Ne d.2.2) (hnd:d.1.Nodup)
  (hge:∀k∈d.1,w.heap.size≤k∧k≠b∧(Value.slice A ds.length c).ownBlock≠some k∧k∉dsF ds)
  (q1:w6.ownsRow w.heap.size 226 1 (.slice (some ⟨g2,0,none⟩) (ds.length+1) c2) (ds.length+1) ((ds.map fun d=>d.2.1)++[d.2.1]))
  (q2:(wr.alloc (.cells #[d.2.1] 226)).grownBy w6 (Value.slice A ds.length c).ownBlock)
  (q3:(Value.slice A ds.length c).ownBlock=some g2∨g2=(wr.alloc (.cells #[d.2.1] 226)).heap.size):
  (w6.cell? ⟨b,1,none⟩=some (.slice A ds.length c)∧w6.frozen? ⟨b,1,none⟩=false)∧RdW w b pg (ds++[d]) (some ⟨g2,0,none⟩) c2 (w6.setCell ⟨b,1,none⟩ (.slice (some ⟨g2,0,none⟩) (ds.length+1) c2)):=by
 have b6:=(hr.box.alloc (.cells #[d.2.1] 226)).grown q2 (own_ne hr.row hr.box (by decide))
 obtain ⟨v2,hv2⟩:∃v2:Value,.slice (some ⟨g2,0,none⟩) (ds.length+1) c2=v2:=⟨_,rfl⟩
 have hl:(ds++[d]).length=ds.length+1:=by simp
 have b7:Whole (w6.setCell ⟨b,1,none⟩ v2) b 300 #[.int .i64 pg,v2]:=by simpa using b6.set 1 v2
 have hK:Keep (fun k=>k=b∨(Value.slice A ds.length c).ownBlock=some k) wr (w6.setCell ⟨b,1,none⟩ v2):=
  (((Keep.refl _ _).alloc _).grown q2 (fun j hj=>.inl (.inr hj))).setCell (p:=⟨b,1,none⟩) (.inl (.inl rfl)) _
 have hltF:=kids_lt hr.nds
 have hlt1:=hd.lt
 refine ⟨⟨b6.cell 1,b6.fz 1⟩,?_,?_,?_,?_,?_,?_,?_⟩
 ·rw [hl,hv2];exact b7
 ·rw [hl,hv2,List.map_append]
  rw [hv2] at q1
  have hkS:Keep (fun j=>j=b) w6 (w6.setCell ⟨b,1,none⟩ v2):=Keep.set1 w6 b 1 _
  exact own_keep q1 hkS (fun j hj e=>own_ne q1 b6 (by decide) (by rw [hj,e]))
 ·intro x hx
  rw [hv2]
  rcases List.mem_append.1 hx with hx|hx
  ·refine (hr.nds x hx).keep hK (fun k hk=>?_)
   have:=hr.ge k (mem_dsF hx hk)
   rintro (e|e)
   ·exact this.2.1 e
   ·exact this.2.2 e
  ·obtain rfl:x=d:=by simpa using hx
   refine hd.keep hK (fun k hk=>?_)
   have:=hge k hk
   rintro (e|e)
   ·exact this.2.1 e
   ·exact this.2.2.1 e
 ·have e1:dsF (ds++[d])=dsF ds++d.1:=by simp [dsF]
  rw [e1]
  exact List.nodup_append.2 ⟨hr.nd,hnd,fun a ha b hb e=>(hge b hb).2.2.2 (e▸ha)⟩
 ·intro k hk
  have e1:dsF (ds++[d])=dsF ds++d.1:=by simp [dsF]
  rw [e1] at hk
  have hk2:w.heap.size≤k∧k≠b∧(Value.slice A ds.length c).ownBlock≠some k∧k < wr.heap.size:=by
   rcases List.mem_append.1 hk with hk|hk
   ·exact ⟨(hr.ge k hk).1,(hr.ge k hk).2.1,(hr.ge k hk).2.2,hltF k hk⟩
   ·exact ⟨(hge k hk).1,(hge k hk).2.1,(hge k hk).2.2.1,hlt1 k hk⟩
  refine ⟨hk2.1,hk2.2.1,fun e=>?_⟩
  have e2:g2=k:=by
   have:some g2=some k:=e
   injection this
  rcases q3 with q3|q3
  ·exact hk2.2.2.1 (by rw [q3,e2])
  ·simp at q3;omega
 ·intro x hx
  rcases List.mem_append.1 hx with hx|hx
  ·exact hr.ne x hx
  ·obtain rfl:x=d:=by simpa using hx
   exact hne
 ·rw [hv2]
  exact hr.bel.trans (hK.toBelow hr.bel.size (fun k hk=>by
   rcases hk with rfl|hk
   ·exact hwb
   ·exact (hr.row.lt k hk).1))
theorem rdw_end {w wr:World} {b:Nat} {pg:Int} {h:Nat} {ds:List (Kd h)} {A:Option Addr} {c:Nat} (hwb:w.heap.size≤b) (hr:RdW w b pg ds A c wr) (h0:0 < ds.length):
  ∃F,NdAt wr F (ptrV (h+1) b) (mkI pg (ds.map fun d=>d.2.2))∧F.Nodup∧(∀k∈F,w.heap.size≤k)∧Ne (mkI pg (ds.map fun d=>d.2.2)):=by
 obtain ⟨g,c',e,hro,hgB⟩:=Row.own hr.row h0
 injection e with e1 e2 e3
 subst e1 e3
 have hne:=own_ne hr.row hr.box (by decide)
 refine ⟨b::g::dsF ds,inner_at ⟨hr.box,hro,hr.nds⟩,?_,?_,?_,?_⟩
 ·rw [List.nodup_cons,List.nodup_cons]
  refine ⟨?_,?_,hr.nd⟩
  ·rw [List.mem_cons]
   rintro (e|e)
   ·exact hne (by rw [e];rfl)
   ·exact (hr.ge b e).2.1 rfl
  ·intro e
   exact (hr.ge g e).2.2 rfl
 ·intro k hk
  simp only [List.mem_cons] at hk
  rcases hk with rfl|rfl|hk
  ·exact hwb
  ·exact hgB
  ·exact (hr.ge k hk).1
 ·show 1≤(ds.map fun d=>d.2.2).length
  simp;omega
 ·intro k hk
  obtain ⟨d,hd,rfl⟩:=List.mem_map.1 (show k∈ds.map fun d=>d.2.2 from hk)
  exact hr.ne d hd
def RdS {h:Nat} (f:Int→Option (Nd h)) (ks:List Kid) (j:Nat) (ds:List (Kd h)):Prop:=ds.length=j∧rdKids f ks=(rdKids f (ks.drop j)).map (fun t=>(ds.map fun d=>d.2.2)++t)
theorem rds_new {h:Nat} (f:Int→Option (Nd h)) (ks:List Kid):RdS f ks 0 []:=⟨rfl,by simp⟩
theorem rds_step {h:Nat} {f:Int→Option (Nd h)} {ks:List Kid} {j:Nat} {ds:List (Kd h)} (hs:RdS f ks j ds) {k:Kid} (hk:ks[j]? =some k):
  (f k.at_=none→rdKids f ks=none)∧(∀n,f k.at_=some n→(firstN n≠k.key→rdKids f ks=none)∧(firstN n=k.key→∀d:Kd h,d.2.2=n→RdS f ks (j+1) (ds++[d]))):=by
 obtain ⟨h1,h2⟩:=hs
 obtain ⟨hj,rfl⟩:=List.getElem?_eq_some_iff.1 hk
 rw [List.drop_eq_getElem_cons hj] at h2
 refine ⟨fun hn=>?_,fun n hn=>⟨fun hne=>?_,fun he d hd=>⟨by simp [h1],?_⟩⟩⟩
 ·rw [h2];simp [rdKids,hn]
 ·rw [h2];simp [rdKids,hn,hne]
 ·rw [h2]
  simp only [rdKids,hn]
  rw [if_pos he,List.map_append]
  cases rdKids f (ks.drop (j+1)) <;> simp [hd]
theorem rds_end {h:Nat} {f:Int→Option (Nd h)} {ks:List Kid} {ds:List (Kd h)} (hs:RdS f ks ks.length ds):rdKids f ks=some (ds.map fun d=>d.2.2):=by
 rw [hs.2,List.drop_length];simp [rdKids]
end Go.Proofs.YtfialjmemcobjaaGreatDoor.tr
namespace Go.Proofs.YtfialjmemcobjaaGreatDoor.tr
open Go.RowKit Go.Proofs.YtfialjmemcobjaaGreatDoor.er
set_option linter.unusedVariables false
set_option linter.unusedSimpArgs false
open Classical in
set_option maxHeartbeats 16000000 in
set_option maxRecDepth 100000 in
theorem rd_inner (K:Gtr) {h:Nat} (hh:h≤50) (ih:RdCtr K h):RdCtr K (h+1):=by
 intro w r top pg hr hpg
 obtain ⟨g0,la,lb,Bg,inv,hbel,eg,hsz,hget⟩:=K
 have c0:=hr.1.cell 0
 have c1:=hr.1.cell 1
 simp at c0 c1
 have HG:Hid (Calls Tryz.prog g0 (la.push (.int .i64 pg)++lb) w (GetRet (Bg pg) w)):=hget w pg hr.2 hpg
 have HC1:Hid (∀wq,Below w.heap.size w wq→wq.cell? ⟨r,1,none⟩=some (.int .i64 top)):=fun wq hb=>below_c hb c1
 have HRN:Hid (readN Bg top (h+1) pg=match Bg pg with|none=>none|some p=>if p.1=3∧(okK p.2=true∧MayK (kidsD p.2))∧smallB pg top (kidsD p.2).length 2=false then (rdKids (readN Bg top h) (kidsD p.2)).map (fun t=>mkI pg t) else none):=by show _=_;rfl
 have HWR:=Lib.hid (fun op t x wq=>wrapErr_any op pg t x wq)
 have HERR:Hid (∀y wq,readN Bg top (h+1) pg=none→ErrAt wq (.iface 183 y)→Below w.heap.size w wq→RdPost (readN Bg top (h+1) pg) w (.returned (.tuple #[.nilIface,.iface 183 y])) wq):=by
  intro y wq h1 h2 h3
  rw [h1]
  exact ⟨y,rfl,h2,h3⟩
 have HSM:=Lib.hid (fun wq n hb=>small_any r pg top n 2 wq (HC1.out wq hb))
 obtain ⟨H,hH⟩:∃H:Int,((h+1:Nat):Int)+1=H:=⟨_,rfl⟩
 have HRD:Hid (∀wq k,Below w.heap.size w wq→I64 k→Calls Tryz.prog 196 #[.pointer (some ⟨r,0,none⟩),.int .i64 k,.int .i64 (H - 1)] wq (RdPost (readN Bg top h k) wq)):=by
  intro wq k hb hk
  have:=ih wq r top k (RdAt.below hr hb) hk
  rw [show (h:Int)+1=H - 1 by omega] at this
  exact this
 show Calls Tryz.prog _ #[.pointer (some ⟨r,0,none⟩),.int .i64 pg,.int .i64 (((h+1:Nat):Int)+1)] w (RdPost (readN Bg top (h+1) pg) w)
 rw [hH]
 have hH1:2≤H:=by omega
 have hH2:H≤100:=by omega
 have hH3:¬H=1:=by omega
 clear hH ih
 cases hgb:Bg pg with
 |none=>
  rw [hgb] at HG HRN
  have HNN:Hid (readN Bg top (h+1) pg=none):=HRN.out
  clear hr hpg hgb hget hbel hsz HRN HSM HC1 HRD
  go_enter Tryz.func196,Tryz.ntmps196
  go_wp2_with fail
  with_reducible refine HG.out.mono ?_
  rintro e w1 ⟨t1,x1,rfl,hb1⟩
  have HB1:=Lib.hid hb1
  clear hb1
  go_wp2_with fail
  with_reducible refine (HWR.out _ _ _ _).mono ?_
  rintro e w2 ⟨y,rfl,he2,hb2⟩
  have HE:=Lib.hid (HERR.out y w2 HNN.out he2 (HB1.out.trans (hb2.mono HB1.out.size)))
  clear he2 hb2
  go_wp2_with fail
  refine bodyPost_ret (v:= .tuple #[.nilIface,.iface 183 y]) (by simp [results,Tryz.results196,go_sem]) rfl HE.out
 |some p=>
  obtain ⟨kd,s⟩:=p
  have hss:=hsz _ _ hgb
  rw [hgb] at HG HRN
  simp only at hss
  have HRL:=Lib.hid (fun wq=>readInner_any s wq hss)
  clear hr hpg hgb hget hbel hsz HC1
  go_enter Tryz.func196,Tryz.ntmps196
  go_wp2_with fail
  with_reducible refine HG.out.mono ?_
  rintro e w1 ⟨rfl,hb1⟩
  have HB1:=Lib.hid hb1
  clear hb1
  go_wp2_with fail
  with_reducible refine (HWR.out _ _ _ _).mono ?_
  rintro e w2 ⟨y,rfl,he2,hb2⟩
  have HE2:=Lib.hid he2
  have HB2:=Lib.hid (HB1.out.trans (hb2.mono HB1.out.size))
  have HL2:=Lib.hid (HRL.out w2)
  clear he2 hb2
  go_wp2_with fail
  with_reducible refine HL2.out.mono ?_
  rintro e w3 (⟨A,c,rfl,k1,k2,k3,k4⟩|⟨rfl,k1,k2⟩)
  ·obtain ⟨ks,hks⟩:∃ks,kidsD s=ks:=⟨_,rfl⟩
   rw [hks] at k2 k3 HRN
   obtain ⟨n,hn⟩:∃n,ks.length=n:=⟨_,rfl⟩
   have hn8:2≤n∧n≤8:=by have:=k2.1;have:=k2.2.1;omega
   have hni:(n:Int)≤8:=by omega
   have HB3:=Lib.hid (HB2.out.trans (k4.mono HB2.out.size))
   have HE3:=Lib.hid (HE2.out.below k4)
   have HKB:Hid (∀k∈ks,I64 k.key∧I64 k.at_):=fun k hk=>by
    have:=k2.2.2.1 k hk
    unfold kidB at this
    simp at this
    unfold I64
    omega
   rw [hn] at k3
   rw [hks,hn]
   by_cases hk:kd=3
   ·subst hk
    obtain ⟨sb,hsb⟩:∃sb,smallB pg top n 2=sb:=⟨_,rfl⟩
    have HS3:=Lib.hid (HSM.out w3 n HB3.out)
    rw [hsb] at HS3
    cases sb with
    |true=>
     have HNN:Hid (readN Bg top (h+1) pg=none):=by
      show _=_
      rw [HRN.out]
      exact if_neg (by simp only;rw [hn];rintro ⟨_,_,h⟩;rw [hsb] at h;cases h)
     have HE:=Lib.hid (HERR.out y w3 HNN.out HE3.out HB3.out)
     clear k1 k2 k3 k4 hn hsb hks
     go_wp2_with fail
     with_reducible refine HS3.out.mono ?_
     rintro e w4 ⟨rfl,rfl⟩
     go_wp2_with fail
     refine bodyPost_ret (v:= .tuple #[.nilIface,.iface 183 y]) (by simp [results,Tryz.results196,go_sem]) rfl HE.out
    |false=>
     have HSO:Hid (readN Bg top (h+1) pg=(rdKids (readN Bg top h) ks).map (fun t=>mkI pg t)):=by
      show _=_
      rw [HRN.out]
      exact if_pos ⟨rfl,⟨k1,k2⟩,by rw [hn];exact hsb⟩
     obtain ⟨gk,rfl,_,hgl,hgf,hkc,_⟩:=own_cell k3 (by omega)
     have HKC:Hid (∀(j:Nat) (k:Kid) wq,ks[j]? =some k→Below w3.heap.size w3 wq→wq.cell? ⟨gk,j * 2,none⟩=some (.int .i64 k.key)∧wq.cell? ⟨gk,j * 2+1,none⟩=some (.int .i64 k.at_)):=by
      intro j k wq hj hb
      obtain ⟨d0,d1⟩:=kidCells_at ks j k hj
      exact ⟨below_c hb (hkc _ _ d0),below_c hb (hkc _ _ d1)⟩
     have HNL:=Lib.hid hn
     have HNW:=Lib.hid (rdw_new (h:=h) (pg:=pg) (Below.refl w3.heap.size w3))
     obtain ⟨b,hb⟩:∃b,w3.heap.size=b:=⟨_,rfl⟩
     obtain ⟨w4,hw4⟩:∃w4,w3.alloc (.cells #[.int .i64 pg,.slice none 0 0] 300)=w4:=⟨_,rfl⟩
     have hb4:Below w3.heap.size w3 w4:=by rw [←hw4];exact (Below.refl _ _).alloc (Nat.le_refl _) _
     have HW4:Hid (RdW w3 b pg ([]:List (Kd h)) none 0 w4):=by
      show RdW _ _ _ _ _ _ _
      rw [←hw4,←hb]
      exact HNW.out
     have HBS:=Lib.hid hb
     clear k1 k2 k3 k4 hn hsb hks hgl hgf hkc HNW hb4
     go_wp2_with fail
     with_reducible refine HS3.out.mono ?_
     rintro e w5 ⟨rfl,rfl⟩
     go_wp2_with fail
     try rw [hw4]
     try rw [hb]
     clear hw4 hb
     go_loopw [18,19,20,89] (fun s18 s19 s20 s89 wr=>∃(j:Nat) (B:Option Addr) (d:Nat) (ds:List (Kd h)),j≤n∧s89= .int .i64 j∧Hid (RdW w3 b pg ds B d wr)∧Hid (RdS (readN Bg top h) ks j ds)) (fun _ _ _ s89 _=>n - (intOf s89).toNat)
     case atStart=>exact ⟨0,none,0,[],Nat.zero_le _,rfl,HW4,rds_new _ _⟩
     case round=>
      obtain ⟨j,B,d,ds,hj,rfl,HW,HS⟩:=hrel
      by_cases hlt:j < n
      ·have hji:(j:Int) < (n:Int):=by omega
       obtain ⟨k,hkj⟩:∃k,ks[j]? =some k:=⟨_,List.getElem?_eq_getElem (by rw [HNL.out];exact hlt)⟩
       obtain ⟨d0,d1⟩:=HKC.out j k wr hkj HW.out.bel
       have HST:=Lib.hid (rds_step HS.out hkj)
       have hki:=HKB.out k (List.mem_of_getElem? hkj)
       have HRK:=Lib.hid (fun wq hb=>HRD.out wq k.at_ hb hki.2)
       obtain ⟨ky,ka⟩:=k
       simp only at d0 d1 hki HRK HST
       have hk1:=hki.1
       have hk2:=hki.2
       unfold I64 at hk1 hk2
       clear hki hkj
       obtain ⟨qb,hqb⟩:∃qb,wr.heap.size=qb:=⟨_,rfl⟩
       obtain ⟨wx,hwx⟩:∃wx,wr.alloc (.cells #[.int .i64 ky,.int .i64 ka] 355)=wx:=⟨_,rfl⟩
       have HWX:Hid (Whole wx qb 355 #[.int .i64 ky,.int .i64 ka]∧Below wr.heap.size wr wx):=by
        show _∧_
        rw [←hwx,←hqb]
        exact ⟨Whole.new _ _ _,(Below.refl _ _).alloc (Nat.le_refl _) _⟩
       have HBWX:Hid (Below w.heap.size w wx):=HB3.out.trans ((HW.out.bel.mono HB3.out.size).trans (HWX.out.2.mono (Nat.le_trans HB3.out.size HW.out.bel.size)))
       have x0:wx.cell? ⟨qb,0,none⟩=some (.int .i64 ky):=by simpa using HWX.out.1.cell 0
       have x1:wx.cell? ⟨qb,1,none⟩=some (.int .i64 ka):=by simpa using HWX.out.1.cell 1
       go_wp2_with fail
       with_reducible refine (HRK.out wx HBWX.out).mono ?_
       rintro e w7 hpost
       clear hwx hqb d0 d1 x0 x1
       cases hsub:readN Bg top h ka with
       |none=>
        rw [hsub] at hpost
        obtain ⟨y7,rfl,he7,hb7⟩:=hpost
        have HNN:Hid (readN Bg top (h+1) pg=none):=by
         show _=_
         rw [HSO.out,HST.out.1 hsub];rfl
        have HE7:=Lib.hid (HERR.out y7 w7 HNN.out he7 (HBWX.out.trans (hb7.mono HBWX.out.size)))
        clear he7 hb7 hsub
        go_wp2_with fail
        refine bodyPost_ret (v:= .tuple #[.nilIface,.iface 183 y7]) (by simp [results,Tryz.results196,go_sem]) rfl HE7.out
       |some nd=>
        rw [hsub] at hpost
        obtain ⟨F,b7,rfl,hn7,hf7,hg7,hne7,hb7⟩:=hpost
        have HN7:=Lib.hid (And.intro hn7 (And.intro hf7 (And.intro hg7 (And.intro hne7 hb7))))
        have q0:w7.cell? ⟨qb,0,none⟩=some (.int .i64 ky):=by simpa using (HWX.out.1.below hb7 HWX.out.1.lt).cell 0
        have HB7:=Lib.hid (HBWX.out.trans (hb7.mono HBWX.out.size))
        have HBR:Hid (Below wr.heap.size wr w7):=HWX.out.2.trans (hb7.mono HWX.out.2.size)
        have HB37:Hid (Below w3.heap.size w3 w7):=HW.out.bel.trans (HBR.out.mono HW.out.bel.size)
        have HKQ:Hid (∀w',Below w7.heap.size w7 w'→w'.cell? ⟨qb,0,none⟩=some (.int .i64 ky)):=fun w' hb=>below_c hb q0
        have hme:=fun b w=>meFi (.pointer (some ⟨b,0,none⟩)) w h
        have hen:=fun b w=>enFi #[.pointer (some ⟨b,0,none⟩)] w h
        obtain ⟨fx,hfx⟩:∃fx,firstN nd=fx:=⟨_,rfl⟩
        have HFI:Hid (∀wq,Below w7.heap.size w7 wq→Calls Tryz.prog (fiF h) #[.pointer (some ⟨b7,0,none⟩)] wq fun e w'=>e= .returned (.int .i64 fx)∧wq=w'):=by
         intro wq hb
         rw [←hfx]
         exact firstNe_any wq h b7 F nd (hn7.keep (Keep.below (F:=fun _=>False) hb) (fun _ _ h=>h)) hne7
        have HST2:=Lib.hid (HST.out.2 nd hsub)
        rw [hfx] at HST2
        clear hn7 hf7 hg7 hne7 hb7 hsub hfx
        unfold ptrV
        go_wp2_with fail
        go_region_held3 (fun w'=>w'.cell? ⟨qb,0,none⟩=some (.int .i64 ky)) (first|with_reducible exact q0|exact HKQ.out _ (by repeat (first|with_reducible exact Below.refl _ _|refine Below.drew ?_))) (((with_reducible refine (HFI.out _ (by repeat (first|with_reducible exact Below.refl _ _|refine Below.drew ?_))).mono ?_);rintro e w8 ⟨rfl,rfl⟩))
        have HBD:Hid (Below w7.heap.size w7 w7.drew):=(Below.refl _ _).drew
        obtain ⟨w8,hw8⟩:∃w8,w7.drew=w8:=⟨_,rfl⟩
        rw [hw8] at HBD ⊢
        clear hw8 q0 HKQ
        by_cases hfk:fx=ky
        ·subst hfk
         have HRW:Hid (RdW w3 b pg ds B d w8):=(HW.out.below HBR.out).below HBD.out
         have hdl:ds.length=j:=HS.out.1
         have HSN:Hid (RdS (readN Bg top h) ks (j+1) (ds++[(F,ptrV h b7,nd)])):=HST2.out.2 rfl (F,ptrV h b7,nd) rfl
         obtain ⟨V,hV⟩:∃V:List Value,(ds.map fun d=>d.2.1)=V:=⟨_,rfl⟩
         have hrow:=HRW.out.row
         have hbox:=HRW.out.box.cell 1
         rw [hdl,hV] at hrow
         rw [hdl] at hbox
         simp at hbox
         have HOA:=Lib.hid (hrow.alloc (.cells #[.iface (ndT h) (.pointer (some ⟨b7,0,none⟩))] 226))
         have HNW:Hid (∀(j':Nat) (u:Value),([.iface (ndT h) (.pointer (some ⟨b7,0,none⟩))]:List Value)[j']? =some u→(w8.alloc (.cells #[.iface (ndT h) (.pointer (some ⟨b7,0,none⟩))] 226)).cell? ((⟨w8.heap.size,0,none⟩:Addr).add j')=some u):=World.news_of_block (by simpa using heap_alloc_new w8 (.cells #[.iface (ndT h) (.pointer (some ⟨b7,0,none⟩))] 226))
         have hone:∀u∈([.iface (ndT h) (.pointer (some ⟨b7,0,none⟩))]:List Value),u.oneCell'=true:=by simp [Value.oneCell']
         have HONE:=Lib.hid hone
         have HSZ2:Hid (w3.heap.size≤(w8.alloc (.cells #[.iface (ndT h) (.pointer (some ⟨b7,0,none⟩))] 226)).heap.size):=by
          show _≤_
          have:=HRW.out.bel.size
          simp only [World.size_alloc];omega
         have HEND:Hid (∀g2 c2 w6,w6.ownsRow w3.heap.size 226 1 (.slice (some ⟨g2,0,none⟩) (j+1) c2) (j+1) (V++[.iface (ndT h) (.pointer (some ⟨b7,0,none⟩))])→(w8.alloc (.cells #[.iface (ndT h) (.pointer (some ⟨b7,0,none⟩))] 226)).grownBy w6 (Value.slice B j d).ownBlock→((Value.slice B j d).ownBlock=some g2∨g2=(w8.alloc (.cells #[.iface (ndT h) (.pointer (some ⟨b7,0,none⟩))] 226)).heap.size)→(w6.cell? ⟨b,1,none⟩=some (.slice B j d)∧w6.frozen? ⟨b,1,none⟩=false)∧RdW w3 b pg (ds++[(F,ptrV h b7,nd)]) (some ⟨g2,0,none⟩) c2 (w6.setCell ⟨b,1,none⟩ (.slice (some ⟨g2,0,none⟩) (j+1) c2))):=by
          intro g2 c2 w6 q1 q2 q3
          obtain ⟨p1,p2,p3,p4,p5⟩:=HN7.out
          have hrl:=HRW.out
          have hltB:=HW.out.box.lt
          have hltF:=kids_lt HW.out.nds
          have hwx:=HWX.out.2.size
          have hltR:∀k,(Value.slice B ds.length d).ownBlock=some k→k < wr.heap.size:=fun k hk=>(HW.out.row.lt k hk).2
          rw [←hdl] at q1 q2 q3 ⊢
          rw [←hV] at q1
          refine rdw_put (by rw [←HBS.out];exact Nat.le_refl _) hrl (p1.keep (Keep.below (F:=fun _=>False) HBD.out) (fun _ _ h=>h)) p4 p2 (fun k hk=>?_) q1 q2 q3
          have h1:=p3 k hk
          have h2:=HW.out.bel.size
          refine ⟨by omega,by omega,fun e=>by have:=hltR k e;omega,fun e=>by have:=hltF k e;omega⟩
         obtain ⟨i0,hi0,hz0,hz1,hz2⟩:=info_parts infoN
         have HI0:=Lib.hid hi0
         have HZ0:=Lib.hid hz0
         have HZ1:=Lib.hid hz1
         have HZ2:=Lib.hid hz2
         have hj8:(j:Int)≤8:=by omega
         clear hi0 hz0 hz1 hz2 hone hrow hV
         go_wp2_with (at_builtin;go_must (refine wpList_append_lies _ rfl (.tmp 115) (.tmp 117) 291 rfl w3.heap.size 226 i0 _ 1 16 Tryz.underlying291 HI0.out HZ0.out HZ1.out HZ2.out rfl (by omega) (.slice B j d) j V rfl HOA.out ⟨w8.heap.size,0,none⟩ 1 1 [.iface (ndT h) (.pointer (some ⟨b7,0,none⟩))] rfl rfl HNW.out HONE.out (by omega) (by simp only [maxLen];omega) (by omega) HSZ2.out _ rfl ?_;intro g2 c2 w6 hown6 hg6 hat6 _;obtain ⟨⟨z0,z1⟩,hfin⟩:=HEND.out g2 c2 w6 hown6 hg6 hat6;have HFIN:=Lib.hid hfin;clear hown6 hg6 hat6 hfin))
         have hmeas:n - (intOf (.int .i64 ((j:Int)+1))).toNat < n - (intOf (.int .i64 (j:Int))).toNat:=by simp [intOf];omega
         refine ⟨⟨j+1,_,_,_,?_,?_,HFIN,HSN⟩,hmeas⟩
         ·omega
         ·go_num
        ·have HNN:Hid (readN Bg top (h+1) pg=none):=by
          show _=_
          rw [HSO.out,HST2.out.1 hfk];rfl
         have HEQ:=Lib.hid (HERR.out y w8 HNN.out ((HE3.out.below HB37.out).below HBD.out) (HB7.out.trans (HBD.out.mono HB7.out.size)))
         go_wp2_with fail
         refine bodyPost_ret (v:= .tuple #[.nilIface,.iface 183 y]) (by simp [results,Tryz.results196,go_sem]) rfl HEQ.out
      ·obtain rfl:j=n:=by omega
       have HEQ:Hid (RdPost (readN Bg top (h+1) pg) w (.returned (.tuple #[.iface 297 (.pointer (some ⟨b,0,none⟩)),.nilIface])) wr):=by
        show RdPost _ _ _ _
        have hs:=HS.out
        have hle:0 < ds.length:=by rw [hs.1];omega
        rw [←HNL.out] at hs
        rw [HSO.out,rds_end hs]
        obtain ⟨F,m1,m2,m3,m4⟩:=rdw_end (by rw [←HBS.out];exact Nat.le_refl _) HW.out hle
        have h3:=HB3.out.size
        exact ⟨F,b,rfl,m1,m2,fun k hk=>by have:=m3 k hk;omega,m4,HB3.out.trans (HW.out.bel.mono h3)⟩
       go_wp2_with fail
       refine bodyPost_ret (v:= .tuple #[.iface 297 (.pointer (some ⟨b,0,none⟩)),.nilIface]) (by simp [results,Tryz.results196,go_sem]) rfl HEQ.out
   ·have HNN:Hid (readN Bg top (h+1) pg=none):=by
     show _=_
     rw [HRN.out]
     exact if_neg (by rintro ⟨h,_⟩;exact hk h)
    have HE:=Lib.hid (HERR.out y w3 HNN.out HE3.out HB3.out)
    clear k1 k2 k3 k4 hn hks
    go_wp2_with fail
    refine bodyPost_ret (v:= .tuple #[.nilIface,.iface 183 y]) (by simp [results,Tryz.results196,go_sem]) rfl HE.out
  ·have HB3:=Lib.hid (HB2.out.trans (k2.mono HB2.out.size))
   have HNN:Hid (readN Bg top (h+1) pg=none):=by
    show _=_
    rw [HRN.out]
    exact if_neg (by rintro ⟨_,h,_⟩;exact k1 h)
   have HE:=Lib.hid (HERR.out y w3 HNN.out (HE2.out.below k2) HB3.out)
   clear k1 k2
   by_cases hk:kd=3
   ·subst hk
    go_wp2_with fail
    refine bodyPost_ret (v:= .tuple #[.nilIface,.iface 183 y]) (by simp [results,Tryz.results196,go_sem]) rfl HE.out
   ·go_wp2_with fail
    refine bodyPost_ret (v:= .tuple #[.nilIface,.iface 183 y]) (by simp [results,Tryz.results196,go_sem]) rfl HE.out
end Go.Proofs.YtfialjmemcobjaaGreatDoor.tr
namespace Go.Proofs.YtfialjmemcobjaaGreatDoor.tr
open Go.RowKit Go.Proofs.YtfialjmemcobjaaGreatDoor.er
set_option linter.unusedVariables false
set_option linter.unusedSimpArgs false
theorem rd_any (K:Gtr) (h:Nat) (hh:h≤40):RdCtr K h:=by
 induction h with
 |zero=>exact rd_leaf K
 |succ h ih=>exact rd_inner K (by omega) (ih (by omega))
theorem byteL {l:List UInt8} {i:Nat} {x:UInt8} (h:l[i]? =some x):byteAt ⟨l.toArray⟩ i=(x.toNat:Int):=by
 obtain ⟨h1,h2⟩:=List.getElem?_eq_some_iff.1 h
 unfold byteAt
 rw [dif_pos (by show i < l.toArray.size;simpa using h1)]
 have:(⟨l.toArray⟩:ByteArray)[i]'(by show i < l.toArray.size;simpa using h1)=x:=by
  show l.toArray[i]'_=x
  simpa using h2
 rw [this]
theorem flatR_at {α:Type} {R:α→List UInt8} {m:Nat}:∀(l:List α) (i:Nat) (x:α) (d:Nat),(∀y,(R y).length=m)→l[i]? =some x→d < m→(l.flatMap R)[m * i+d]? =(R x)[d]?
 |[],i,x,d,_,h,_=>by simp at h
 |y::l,0,x,d,hR,h,hd=>by
  simp at h
  subst h
  rw [List.flatMap_cons,List.getElem?_append_left (by rw [hR];omega)]
  simp
 |y::l,i+1,x,d,hR,h,hd=>by
  have ih:=flatR_at l i x d hR (by simpa using h) hd
  rw [List.flatMap_cons,List.getElem?_append_right (by rw [hR,Nat.mul_succ];omega),hR,←ih]
  congr 1
  rw [Nat.mul_succ];omega
def bq (n:Int) (j:Nat):UInt8:=UInt8.ofNat (n / (256 ^ j:Int) % 256).toNat
theorem bq_nat (n:Int) (j:Nat):((bq n j).toNat:Int)=n / 256 ^ j % 256:=byte_mod _ (Int.emod_nonneg _ (by decide)) (Int.emod_lt_of_pos _ (by decide))
theorem ext_row (e:Ext):extRow e=[bq e.fr 0,bq e.fr 1,bq e.fr 2,bq e.n 0,bq e.n 1,bq e.n 2,bq e.n 3,bq e.kind 0,bq e.at_ 0,bq e.at_ 1]:=rfl
theorem len8 {n:Nat} (h:n≤8):((UInt8.ofNat n).toNat:Int)=n:=by
 have:=byte_mod (n:Int) (by omega) (by omega)
 simpa using this
theorem size_flat {α:Type} {R:α→List UInt8} {m:Nat} (l:List α) (h:∀y,(R y).length=m):(l.flatMap R).length=m * l.length:=by
 induction l with
 |nil=>simp
 |cons y l ih=>rw [List.flatMap_cons,List.length_append,h,ih,List.length_cons,Nat.mul_succ];omega
theorem leaf_dec {l:List Ext} (h1:1≤l.length) (h8:l.length≤8) (ho:∀e∈l,oneB e=true):okE ⟨(leafL l).toArray⟩=true∧extsD ⟨(leafL l).toArray⟩=l∧(leafL l).length≤81:=by
 have hL:∀y,(extRow y).length=10:=fun y=>by rw [ext_row];rfl
 have hb0:byteAt ⟨(leafL l).toArray⟩ 0=(l.length:Int):=by rw [byteL (l:=leafL l) (i:=0) (x:=UInt8.ofNat l.length) rfl,len8 h8]
 have hsz:(leafL l).length=1+10 * l.length:=by unfold leafL;rw [List.length_cons,size_flat l hL];omega
 have hs2:(⟨(leafL l).toArray⟩:ByteArray).size=1+10 * l.length:=by show (leafL l).toArray.size=_;simpa using hsz
 refine ⟨?_,?_,by omega⟩
 ·unfold okE
  rw [hb0,hs2]
  simp
  omega
 ·have hbb:∀(j:Nat) (e:Ext) (d:Nat) (x:UInt8),l[j]? =some e→(extRow e)[d]? =some x→d < 10→byteAt ⟨(leafL l).toArray⟩ (1+10 * j+d)=(x.toNat:Int):=by
   intro j e d x hj hx hd
   refine byteL ?_
   unfold leafL
   rw [show 1+10 * j+d=(10 * j+d)+1 by omega,List.getElem?_cons_succ,flatR_at l j e d hL hj hd]
   exact hx
  apply List.ext_getElem?
  intro i
  by_cases hi:i < l.length
  ·have hj:=List.getElem?_eq_getElem hi
   generalize l[i]=e at hj
   rw [extsD_at _ i (by rw [hb0];omega),hj]
   have hf:=ext_fit (ho e (List.mem_of_getElem? hj))
   have k1:=one_spec (ho e (List.mem_of_getElem? hj))
   have hh:=hbb i e
   have e1:leN ⟨(leafL l).toArray⟩ (1+10 * i) 3=e.fr:=leN_of _ _ _ _ (by omega) (by have h2:e.end_=e.fr+e.n:=rfl;omega) (by omega) (fun d hd=>by
    match d,hd with
    |0,_=>rw [show 1+10 * i+0=1+10 * i+0 from rfl,hh 0 (bq e.fr 0) hj rfl (by omega),bq_nat]
    |1,_=>rw [hh 1 (bq e.fr 1) hj rfl (by omega),bq_nat]
    |2,_=>rw [hh 2 (bq e.fr 2) hj rfl (by omega),bq_nat])
   have e2:leN ⟨(leafL l).toArray⟩ (1+10 * i+3) 4=e.n:=leN_of _ _ _ _ (by omega) (by have h2:e.end_=e.fr+e.n:=rfl;omega) (by omega) (fun d hd=>by
    match d,hd with
    |0,_=>rw [hh 3 (bq e.n 0) hj rfl (by omega),bq_nat]
    |1,_=>rw [Nat.add_assoc (1+10 * i),hh 4 (bq e.n 1) hj rfl (by omega),bq_nat]
    |2,_=>rw [Nat.add_assoc (1+10 * i),hh 5 (bq e.n 2) hj rfl (by omega),bq_nat]
    |3,_=>rw [Nat.add_assoc (1+10 * i),hh 6 (bq e.n 3) hj rfl (by omega),bq_nat])
   have e3:leN ⟨(leafL l).toArray⟩ (1+10 * i+7) 1=e.kind:=leN_of _ _ _ _ (by omega) (by omega) (by omega) (fun d hd=>by
    match d,hd with
    |0,_=>rw [hh 7 (bq e.kind 0) hj rfl (by omega),bq_nat])
   have e4:leN ⟨(leafL l).toArray⟩ (1+10 * i+8) 2=e.at_:=leN_of _ _ _ _ (by omega) (by omega) (by omega) (fun d hd=>by
    match d,hd with
    |0,_=>rw [hh 8 (bq e.at_ 0) hj rfl (by omega),bq_nat]
    |1,_=>rw [Nat.add_assoc (1+10 * i),hh 9 (bq e.at_ 1) hj rfl (by omega),bq_nat])
   unfold extD
   rw [e1,e2,e3,e4]
  ·rw [List.getElem?_eq_none (by rw [extsD_len,hb0];omega),List.getElem?_eq_none (by omega)]
end Go.Proofs.YtfialjmemcobjaaGreatDoor.tr
namespace Go.Proofs.YtfialjmemcobjaaGreatDoor.tr
open Go.RowKit Go.Proofs.YtfialjmemcobjaaGreatDoor.er
set_option linter.unusedVariables false
set_option linter.unusedSimpArgs false
def rsmallB (top:Bool) (n least:Int):Bool:=if top=true then decide (n < least) else decide (n < 4)
open Classical in
noncomputable def readD (B:Int→Option (Int×ByteArray)):(h:Nat)→Bool→Int→Option (Nd h)
 |0,t,pg=>match B pg with
  |none=>none
  |some p=>if p.1=2∧(okE p.2=true∧MayE (extsD p.2))∧rsmallB t (extsD p.2).length 1=false then some (mkL pg (extsD p.2)) else none
 |h+1,t,pg=>match B pg with
  |none=>none
  |some p=>if p.1=3∧(okK p.2=true∧MayK (kidsD p.2))∧rsmallB t (kidsD p.2).length 2=false then (rdKids (readD B h false) (kidsD p.2)).map (fun t=>mkI pg t) else none
theorem rdKids_len {h:Nat} {f:Int→Option (Nd h)}:∀{ks:List Kid} {ns:List (Nd h)},rdKids f ks=some ns→ns.length=ks.length∧∀(j:Nat) (n:Nd h),ns[j]? =some n→∃k,ks[j]? =some k∧f k.at_=some n∧firstN n=k.key
 |[],ns,hr=>by
  injection hr with hr
  subst hr
  exact ⟨rfl,fun j n hn=>by simp at hn⟩
 |k::r,ns,hr=>by
  unfold rdKids at hr
  cases hf:f k.at_ with
  |none=>rw [hf] at hr;cases hr
  |some d=>
   rw [hf] at hr
   simp only at hr
   split at hr
   ·rename_i hk
    cases hrr:rdKids f r with
    |none=>rw [hrr] at hr;cases hr
    |some t=>
     rw [hrr] at hr
     injection hr with hr
     subst hr
     obtain ⟨i1,i2⟩:=rdKids_len hrr
     refine ⟨by simp [i1],fun j n hn=>?_⟩
     cases j with
     |zero=>simp at hn;subst hn;exact ⟨k,rfl,hf,hk⟩
     |succ j=>simp at hn;exact i2 j n hn
   ·cases hr
theorem rdKids_mono {h:Nat} {f g:Int→Option (Nd h)}:∀{ks:List Kid} {ns:List (Nd h)},rdKids f ks=some ns→(∀(j:Nat) (k:Kid) (n:Nd h),ks[j]? =some k→f k.at_=some n→ns[j]? =some n→g k.at_=some n)→rdKids g ks=some ns
 |[],ns,hr,_=>hr
 |k::r,ns,hr,hg=>by
  unfold rdKids at hr ⊢
  cases hf:f k.at_ with
  |none=>rw [hf] at hr;cases hr
  |some d=>
   rw [hf] at hr
   simp only at hr
   split at hr
   ·rename_i hk
    cases hrr:rdKids f r with
    |none=>rw [hrr] at hr;cases hr
    |some t=>
     rw [hrr] at hr
     injection hr with hr
     subst hr
     rw [hg 0 k d rfl hf rfl]
     simp only
     rw [if_pos hk,rdKids_mono hrr (fun j k' n h1 h2 h3=>hg (j+1) k' n (by simpa using h1) h2 (by simpa using h3))]
     rfl
   ·cases hr
theorem readD_zero {B:Int→Option (Int×ByteArray)} {t:Bool} {pg:Int} {n:Nd 0} (hr:readD B 0 t pg=some n):∃p,B pg=some p∧p.1=2∧okE p.2=true∧MayE (extsD p.2)∧rsmallB t (extsD p.2).length 1=false∧n=mkL pg (extsD p.2):=by
 unfold readD at hr
 cases hg:B pg with
 |none=>rw [hg] at hr;cases hr
 |some p=>
  rw [hg] at hr
  simp only at hr
  split at hr
  ·rename_i hc
   injection hr with hr
   exact ⟨p,rfl,hc.1,hc.2.1.1,hc.2.1.2,hc.2.2,hr.symm⟩
  ·cases hr
open Classical in
theorem readD_succ {B:Int→Option (Int×ByteArray)} {h:Nat} {t:Bool} {pg:Int} {n:Nd (h+1)} (hr:readD B (h+1) t pg=some n):∃p ns,B pg=some p∧p.1=3∧okK p.2=true∧MayK (kidsD p.2)∧rsmallB t (kidsD p.2).length 2=false∧rdKids (readD B h false) (kidsD p.2)=some ns∧n=mkI pg ns:=by
 rw [show readD B (h+1) t pg=(match B pg with|none=>none|some p=>if p.1=3∧(okK p.2=true∧MayK (kidsD p.2))∧rsmallB t (kidsD p.2).length 2=false then (rdKids (readD B h false) (kidsD p.2)).map (fun t=>mkI pg t) else none) from rfl] at hr
 cases hg:B pg with
 |none=>rw [hg] at hr;cases hr
 |some p=>
  rw [hg] at hr
  simp only at hr
  split at hr
  ·rename_i hc
   cases hk:rdKids (readD B h false) (kidsD p.2) with
   |none=>rw [hk] at hr;cases hr
   |some ns=>
    rw [hk] at hr
    injection hr with hr
    exact ⟨p,ns,rfl,hc.1,hc.2.1.1,hc.2.1.2,hc.2.2,hk,hr.symm⟩
  ·cases hr
theorem mayE_len {l:List Ext} (h:MayE l):1≤l.length∧l.length≤8:=by
 unfold MayE extB at h
 simp only [Bool.and_eq_true,decide_eq_true_eq] at h
 exact h.1
theorem readD_bound {B:Int→Option (Int×ByteArray)}:∀{h:Nat} {t:Bool} {pg:Int} {n:Nd h},readD B h t pg=some n→cntN n+1≤2 * 8 ^ h∧(flat n).length≤8 ^ (h+1)∧1≤(flat n).length
 |0,t,pg,n,hr=>by
  obtain ⟨p,_,_,_,hm,_,rfl⟩:=readD_zero hr
  obtain ⟨h1,h2⟩:=mayE_len hm
  exact ⟨Nat.le_refl _,h2,h1⟩
 |h+1,t,pg,n,hr=>by
  obtain ⟨p,ns,_,_,_,hm,_,hk,rfl⟩:=readD_succ hr
  obtain ⟨h1,h2⟩:=rdKids_len hk
  have h8:ns.length≤8:=by rw [h1];exact hm.2.1
  have hl2:2≤ns.length:=by rw [h1];exact hm.1
  have hall:∀x∈ns,cntN x+1≤2 * 8 ^ h∧(flat x).length≤8 ^ (h+1)∧1≤(flat x).length:=fun x hx=>by
   obtain ⟨j,hj,rfl⟩:=List.mem_iff_getElem.1 hx
   obtain ⟨k,_,hf,_⟩:=h2 j _ (List.getElem?_eq_getElem hj)
   exact readD_bound hf
  have hsum:∀l:List (Nd h),(∀x∈l,cntN x+1≤2 * 8 ^ h∧(flat x).length≤8 ^ (h+1)∧1≤(flat x).length)→(l.map cntN).sum+l.length≤l.length * (2 * 8 ^ h)∧(flats l).length≤l.length * 8 ^ (h+1)∧l.length≤(flats l).length:=by
   generalize 2 * 8 ^ h=X
   generalize 8 ^ (h+1)=Y
   intro l
   induction l with
   |nil=>intro _;exact ⟨by simp,by simp [flats],by simp [flats]⟩
   |cons x r ih=>
    intro hx
    have i0:=hx x (by simp)
    have i1:=ih (fun y hy=>hx y (by simp [hy]))
    rw [flats_cons,List.map_cons,List.sum_cons,List.length_append,List.length_cons,Nat.add_one_mul,Nat.add_one_mul]
    omega
  obtain ⟨s1,s2,s3⟩:=hsum ns hall
  have e1:cntN (mkI pg ns)=1+(ns.map cntN).sum:=rfl
  have e2:flat (mkI pg ns)=flats ns:=rfl
  have m1:ns.length * (2 * 8 ^ h)≤8 * (2 * 8 ^ h):=Nat.mul_le_mul_right _ h8
  have m2:ns.length * 8 ^ (h+1)≤8 * 8 ^ (h+1):=Nat.mul_le_mul_right _ h8
  have p1:8 ^ (h+1)=8 * 8 ^ h:=by rw [Nat.pow_succ];omega
  have p2:8 ^ (h+1+1)=8 * 8 ^ (h+1):=by rw [Nat.pow_succ];omega
  rw [e1,e2,p2,p1]
  rw [p1] at s2 m2
  omega
theorem smallB_iff {pg top n least:Int}:smallB pg top n least=false↔(pg=top∨4≤n)∧least≤n:=by
 unfold smallB
 by_cases h:pg=top <;> simp [h] <;> omega
theorem rsmallB_iff {t:Bool} {n least:Int} (h:least≤4):rsmallB t n least=false↔(t=true∨4≤n)∧least≤n:=by
 unfold rsmallB
 cases t <;> simp <;> omega
open Classical in
theorem readN_zero {B:Int→Option (Int×ByteArray)} {top pg:Int} {n:Nd 0}:readN B top 0 pg=some n↔∃p,B pg=some p∧p.1=2∧okE p.2=true∧MayE (extsD p.2)∧((pg=top∨4≤(extsD p.2).length)∧1≤(extsD p.2).length)∧n=mkL pg (extsD p.2):=by
 unfold readN
 cases hg:B pg with
 |none=>simp
 |some p=>
  simp only
  constructor
  ·intro h
   split at h
   ·rename_i hc
    injection h with h
    have:=smallB_iff.1 hc.2.2
    exact ⟨p,rfl,hc.1,hc.2.1.1,hc.2.1.2,⟨by omega,by omega⟩,h.symm⟩
   ·cases h
  ·rintro ⟨p',h0,h1,h2,h3,h4,rfl⟩
   injection h0 with h0
   subst h0
   exact if_pos ⟨h1,⟨h2,h3⟩,smallB_iff.2 ⟨by omega,by omega⟩⟩
open Classical in
theorem readN_succ {B:Int→Option (Int×ByteArray)} {top pg:Int} {h:Nat} {n:Nd (h+1)}:readN B top (h+1) pg=some n↔∃p ns,B pg=some p∧p.1=3∧okK p.2=true∧MayK (kidsD p.2)∧((pg=top∨4≤(kidsD p.2).length)∧2≤(kidsD p.2).length)∧rdKids (readN B top h) (kidsD p.2)=some ns∧n=mkI pg ns:=by
 rw [show readN B top (h+1) pg=(match B pg with|none=>none|some p=>if p.1=3∧(okK p.2=true∧MayK (kidsD p.2))∧smallB pg top (kidsD p.2).length 2=false then (rdKids (readN B top h) (kidsD p.2)).map (fun t=>mkI pg t) else none) from rfl]
 cases hg:B pg with
 |none=>simp
 |some p=>
  simp only
  constructor
  ·intro h
   split at h
   ·rename_i hc
    cases hk:rdKids (readN B top _) (kidsD p.2) with
    |none=>rw [hk] at h;cases h
    |some ns=>
     rw [hk] at h
     injection h with h
     have:=smallB_iff.1 hc.2.2
     exact ⟨p,ns,rfl,hc.1,hc.2.1.1,hc.2.1.2,⟨by omega,by omega⟩,hk,h.symm⟩
   ·cases h
  ·rintro ⟨p',ns,h0,h1,h2,h3,h4,h5,rfl⟩
   injection h0 with h0
   subst h0
   rw [if_pos ⟨h1,⟨h2,h3⟩,smallB_iff.2 ⟨by omega,by omega⟩⟩,h5]
   rfl
open Classical in
theorem readD_zero' {B:Int→Option (Int×ByteArray)} {t:Bool} {pg:Int} {p:Int×ByteArray} (h0:B pg=some p) (h1:p.1=2) (h2:okE p.2=true) (h3:MayE (extsD p.2)) (h4:rsmallB t (extsD p.2).length 1=false):readD B 0 t pg=some (mkL pg (extsD p.2)):=by
 unfold readD
 rw [h0]
 exact if_pos ⟨h1,⟨h2,h3⟩,h4⟩
open Classical in
theorem readD_succ' {B:Int→Option (Int×ByteArray)} {t:Bool} {pg:Int} {h:Nat} {p:Int×ByteArray} {ns:List (Nd h)} (h0:B pg=some p) (h1:p.1=3) (h2:okK p.2=true) (h3:MayK (kidsD p.2)) (h4:rsmallB t (kidsD p.2).length 2=false) (h5:rdKids (readD B h false) (kidsD p.2)=some ns):readD B (h+1) t pg=some (mkI pg ns):=by
 rw [show readD B (h+1) t pg=(match B pg with|none=>none|some p=>if p.1=3∧(okK p.2=true∧MayK (kidsD p.2))∧rsmallB t (kidsD p.2).length 2=false then (rdKids (readD B h false) (kidsD p.2)).map (fun t=>mkI pg t) else none) from rfl,h0]
 simp only
 rw [if_pos ⟨h1,⟨h2,h3⟩,h4⟩,h5]
 rfl
theorem readD_N {B:Int→Option (Int×ByteArray)} {top:Int}:∀{h:Nat} {t:Bool} {pg:Int} {n:Nd h},(t=true→pg=top)→readD B h t pg=some n→readN B top h pg=some n
 |0,t,pg,n,ht,hr=>by
  obtain ⟨p,h0,h1,h2,h3,h4,rfl⟩:=readD_zero hr
  have:=(rsmallB_iff (by omega)).1 h4
  exact readN_zero.2 ⟨p,h0,h1,h2,h3,⟨this.1.imp ht (by omega),by omega⟩,rfl⟩
 |h+1,t,pg,n,ht,hr=>by
  obtain ⟨p,ns,h0,h1,h2,h3,h4,h5,rfl⟩:=readD_succ hr
  have:=(rsmallB_iff (by omega)).1 h4
  exact readN_succ.2 ⟨p,ns,h0,h1,h2,h3,⟨this.1.imp ht (by omega),by omega⟩,rdKids_mono h5 (fun j k n hk hf hn=>readD_N (fun h=>by cases h) hf),rfl⟩
theorem readN_high {B:Int→Option (Int×ByteArray)} {top:Int}:∀{h h':Nat} {pg:Int} {n:Nd h} {n':Nd h'},readN B top h pg=some n→readN B top h' pg=some n'→h=h'
 |0,0,_,_,_,_,_=>rfl
 |0,h'+1,pg,n,n',hr,hr'=>by
  obtain ⟨p,h0,h1,_⟩:=readN_zero.1 hr
  obtain ⟨p',_,g0,g1,_⟩:=readN_succ.1 hr'
  rw [h0] at g0
  injection g0 with g0
  rw [←g0,h1] at g1
  omega
 |h+1,0,pg,n,n',hr,hr'=>by
  obtain ⟨p,h0,h1,_⟩:=readN_zero.1 hr'
  obtain ⟨p',_,g0,g1,_⟩:=readN_succ.1 hr
  rw [h0] at g0
  injection g0 with g0
  rw [←g0,h1] at g1
  omega
 |h+1,h'+1,pg,n,n',hr,hr'=>by
  obtain ⟨p,ns,h0,_,_,h3,_,h5,_⟩:=readN_succ.1 hr
  obtain ⟨p',ns',g0,_,_,_,_,g5,_⟩:=readN_succ.1 hr'
  rw [h0] at g0
  injection g0 with g0
  subst g0
  obtain ⟨i1,i2⟩:=rdKids_len h5
  obtain ⟨j1,j2⟩:=rdKids_len g5
  have hl:=h3.1
  obtain ⟨k,e1,e2,_⟩:=i2 0 _ (List.getElem?_eq_getElem (by omega))
  obtain ⟨k',f1,f2,_⟩:=j2 0 _ (List.getElem?_eq_getElem (by omega))
  rw [e1] at f1
  injection f1 with f1
  subst f1
  rw [readN_high e2 f2]
theorem readN_low {B:Int→Option (Int×ByteArray)} {top:Int} {H:Nat} {N:Nd H} (hN:readN B top H top=some N):∀{h:Nat} {pg:Int} {n:Nd h},h < H→readN B top h pg=some n→readD B h false pg=some n
 |0,pg,n,hh,hr=>by
  have hne:pg≠top:=fun e=>by rw [e] at hr;have:=readN_high hr hN;omega
  obtain ⟨p,h0,h1,h2,h3,h4,rfl⟩:=readN_zero.1 hr
  exact readD_zero' h0 h1 h2 h3 ((rsmallB_iff (by omega)).2 ⟨.inr (by have:=h4.1.resolve_left hne;omega),by omega⟩)
 |h+1,pg,n,hh,hr=>by
  have hne:pg≠top:=fun e=>by rw [e] at hr;have:=readN_high hr hN;omega
  obtain ⟨p,ns,h0,h1,h2,h3,h4,h5,rfl⟩:=readN_succ.1 hr
  exact readD_succ' h0 h1 h2 h3 ((rsmallB_iff (by omega)).2 ⟨.inr (by have:=h4.1.resolve_left hne;omega),by omega⟩) (rdKids_mono h5 (fun j k n hk hf hn=>readN_low hN (by omega) hf))
theorem readN_D {B:Int→Option (Int×ByteArray)} {top:Int}:∀{h:Nat} {n:Nd h},readN B top h top=some n→readD B h true top=some n
 |0,n,hr=>by
  obtain ⟨p,h0,h1,h2,h3,h4,rfl⟩:=readN_zero.1 hr
  exact readD_zero' h0 h1 h2 h3 ((rsmallB_iff (by omega)).2 ⟨.inl rfl,by omega⟩)
 |h+1,n,hr=>by
  obtain ⟨p,ns,h0,h1,h2,h3,h4,h5,rfl⟩:=readN_succ.1 hr
  exact readD_succ' h0 h1 h2 h3 ((rsmallB_iff (by omega)).2 ⟨.inl rfl,by omega⟩) (rdKids_mono h5 (fun j k n hk hf hn=>readN_low hr (by omega) hf))
theorem read_same (B:Int→Option (Int×ByteArray)) (top:Int) (h:Nat):readN B top h top=readD B h true top:=by
 cases hd:readD B h true top with
 |some n=>exact readD_N (fun _=>rfl) hd
 |none=>
  cases hn:readN B top h top with
  |none=>rfl
  |some n=>rw [readN_D hn] at hd;cases hd
theorem readD_made {B:Int→Option (Int×ByteArray)}:∀{h:Nat} {t:Bool} {pg:Int} {n:Nd h},readD B h t pg=some n→Kw n∧n.size≤8∧(t=false→4≤n.size)∧Big n∧1≤n.size∧∀e∈flat n,oneB e=true
 |0,t,pg,n,hr=>by
  obtain ⟨p,h0,h1,h2,h3,h4,rfl⟩:=readD_zero hr
  have hs:=(rsmallB_iff (by omega)).1 h4
  obtain ⟨m1,m2⟩:=mayE_len h3
  have h3':=h3
  unfold MayE extB at h3'
  simp only [Bool.and_eq_true] at h3'
  exact ⟨trivial,m2,fun ht=>by have:=hs.1.resolve_left (by rw [ht];simp);show 4≤(extsD p.2).length;omega,trivial,m1,(chkB_chk _ h3'.2).one⟩
 |h+1,t,pg,n,hr=>by
  obtain ⟨p,ns,h0,h1,h2,h3,h4,h5,rfl⟩:=readD_succ hr
  have hs:=(rsmallB_iff (by omega)).1 h4
  obtain ⟨i1,i2⟩:=rdKids_len h5
  have h8:=h3.2.1
  have hl2:=h3.1
  have hall:∀k∈ns,readD B h false k.at_=some k∨∃q,readD B h false q=some k:=fun k hk=>by
   obtain ⟨j,hj,rfl⟩:=List.mem_iff_getElem.1 hk
   obtain ⟨q,_,e2,_⟩:=i2 j _ (List.getElem?_eq_getElem hj)
   exact .inr ⟨_,e2⟩
  have hmade:∀k∈ns,Kw k∧k.size≤8∧(false=false→4≤k.size)∧Big k∧1≤k.size∧∀e∈flat k,oneB e=true:=fun k hk=>by
   rcases hall k hk with e|⟨q,e⟩ <;> exact readD_made e
  refine ⟨fun k hk=>⟨⟨(hmade k hk).2.2.1 rfl,(hmade k hk).2.1⟩,(hmade k hk).1⟩,by show ns.length≤8;omega,fun ht=>by have:=hs.1.resolve_left (by rw [ht];simp);show 4≤ns.length;omega,by show 2≤ns.length;omega,by show 1≤ns.length;omega,?_⟩
  intro e he
  have hfl:∀l:List (Nd h),(∀k∈l,∀e∈flat k,oneB e=true)→∀e∈flats l,oneB e=true:=by
   intro l
   induction l with
   |nil=>intro _ e he;simp [flats] at he
   |cons x r ih=>
    intro hx e he
    rw [flats_cons] at he
    rcases List.mem_append.1 he with he|he
    ·exact hx x (by simp) e he
    ·exact ih (fun k hk=>hx k (by simp [hk])) e he
  exact hfl ns (fun k hk=>(hmade k hk).2.2.2.2.2) e he
theorem readD_ok {B:Int→Option (Int×ByteArray)} {h:Nat} {pg:Int} {n:Nd h} (hr:readD B h true pg=some n):(Tree.top h n).Ok:=by
 obtain ⟨m1,m2,_,m4,m5,_⟩:=readD_made hr
 cases h with
 |zero=>exact ⟨m5,m2⟩
 |succ h=>exact ⟨⟨m4,m2⟩,m1⟩
end Go.Proofs.YtfialjmemcobjaaGreatDoor.tr
namespace Go.Proofs.YtfialjmemcobjaaGreatDoor.tr
open Go.RowKit Go.Proofs.YtfialjmemcobjaaGreatDoor.er
set_option linter.unusedVariables false
set_option linter.unusedSimpArgs false
def TreadPost (T:Tree) (w:World) (x:Ending) (w':World):Prop:=∃p F,x= .returned (.tuple #[.pointer (some ⟨p,0,none⟩),.nilIface])∧TrAt w' F p T∧(∀k∈F,w.heap.size≤k)∧Below w.heap.size w w'
set_option maxHeartbeats 8000000 in
set_option maxRecDepth 100000 in
theorem tread_no (w:World) (g:Value):
  Calls Tryz.prog 132 #[.int .i64 (-1),.int .i64 0,g] w (TreadPost .no w):=by
 have HNEW:Hid (Calls Tryz.prog 71 #[] w fun x w'=>∃p,x= .returned (.pointer (some ⟨p,0,none⟩))∧TreadPost .no w (.returned (.tuple #[.pointer (some ⟨p,0,none⟩),.nilIface])) w'):=by
  refine (new_any w).mono ?_
  rintro x w' ⟨rfl,rfl⟩
  exact ⟨_,rfl,_,[w.heap.size],rfl,⟨rfl,Whole.new _ _ _⟩,by simp,(Below.refl _ _).alloc (Nat.le_refl _) _⟩
 go_enter Tryz.func132,Tryz.ntmps132
 go_wp2_with fail
 with_reducible refine HNEW.out.mono ?_
 rintro e w1 ⟨p,rfl,hp⟩
 have HP:=Lib.hid hp
 clear hp
 go_wp2_with fail
 refine bodyPost_ret (v:= .tuple #[.pointer (some ⟨p,0,none⟩),.nilIface]) (by simp [results,Tryz.results132,go_sem]) rfl HP.out
def ErrRet (w:World) (x:Ending) (w':World):Prop:=∃e,x= .returned (.tuple #[.pointer none,.iface 183 e])∧ErrAt w' (.iface 183 e)∧Below w.heap.size w w'
def TrdPost {h:Nat} (o:Option (Nd h)) (w:World) (x:Ending) (w':World):Prop:=
 match o with
 |some n=>if chkB (flat n)=true then TreadPost (.top h n) w x w' else ErrRet w x w'
 |none=>ErrRet w x w'
set_option maxHeartbeats 8000000 in
set_option maxRecDepth 100000 in
theorem tread_gen (K:Gtr) (w:World) (h:Nat) (top:Int) (hb:K.inv w) (ha:I64 top) (hne:top≠-1) (hh:h≤5):
  Calls Tryz.prog 132 #[.int .i64 top,.int .i64 ((h:Int)+1),.func (.func K.g) K.la K.lb] w (TrdPost (readN K.B top h top) w):=by
 have HRDK:=Lib.hid (rd_any K h (by omega))
 have HBEL:=Lib.hid (fun (w w':World)=>K.below (w:=w) (w':=w'))
 unfold RdCtr RdAt at HRDK
 obtain ⟨g0,la,lb,B,inv,hbel,eg,hsz,hget⟩:=K
 simp only at hb HRDK HBEL ⊢
 clear hbel hget hsz
 obtain ⟨H,hH⟩:∃H:Int,(h:Int)+1=H:=⟨_,rfl⟩
 rw [hH]
 obtain ⟨p,hp⟩:∃p,w.heap.size=p:=⟨_,rfl⟩
 obtain ⟨w1,hw1⟩:∃w1,w.alloc (.cells #[.nilIface] 228)=w1:=⟨_,rfl⟩
 obtain ⟨r,hr⟩:∃r,w1.heap.size=r:=⟨_,rfl⟩
 obtain ⟨w2,hw2⟩:∃w2,w1.alloc (.cells #[.func (.func g0) la lb,.int .i64 top] 287)=w2:=⟨_,rfl⟩
 have hb1:Below w.heap.size w w1:=by rw [←hw1];exact (Below.refl _ _).alloc (Nat.le_refl _) _
 have hb2:Below w1.heap.size w1 w2:=by rw [←hw2];exact (Below.refl _ _).alloc (Nat.le_refl _) _
 have hr1:r=p+1:=by rw [←hr,←hp,←hw1];simp
 have hwp:Whole w1 p 228 #[.nilIface]:=by rw [←hw1,←hp];exact Whole.new _ _ _
 have hwr:Whole w2 r 287 #[.func (.func g0) la lb,.int .i64 top]:=by rw [←hw2,←hr];exact Whole.new _ _ _
 have HNEW:Hid (Calls Tryz.prog 71 #[] w fun x w'=>x= .returned (.pointer (some ⟨p,0,none⟩))∧w'=w1):=by
  have:=new_any w
  rw [hp,hw1] at this
  exact this
 have HRD:Hid (Calls Tryz.prog 196 #[.pointer (some ⟨r,0,none⟩),.int .i64 top,.int .i64 H] w2 fun x w3=>
   (∃(b:Nat) (F:List Nat) (n:Nd h),readN B top h top=some n∧x= .returned (.tuple #[ptrV h b,.nilIface])∧(w3.cell? ⟨p,0,none⟩=some .nilIface∧w3.frozen? ⟨p,0,none⟩=false)∧TrAt (w3.setCell ⟨p,0,none⟩ (ptrV h b)) (p::F) p (.top h n)∧(∀k∈p::F,p≤k)∧Below w.heap.size w (w3.setCell ⟨p,0,none⟩ (ptrV h b)))∨
   (readN B top h top=none∧∃e,x= .returned (.tuple #[.nilIface,.iface 183 e])∧ErrAt w3 (.iface 183 e)∧Below w.heap.size w w3)):=by
  have:=HRDK.out w2 r top top ⟨hwr,HBEL.out _ _ (HBEL.out _ _ hb hb1) hb2⟩ ha
  rw [hH] at this
  refine this.mono ?_
  intro x w3 hx
  cases hn:readN B top h top with
  |none=>
   rw [hn] at hx
   obtain ⟨e,rfl,k1,k2⟩:=hx
   exact .inr ⟨rfl,e,rfl,k1,(hb1.trans (hb2.mono hb1.size)).trans (k2.mono (by have:=hb1.size;have:=hb2.size;omega))⟩
  |some n=>
   rw [hn] at hx
   obtain ⟨F,b,rfl,k1,k2,k3,k4,k5⟩:=hx
   have hp1:=hwp.lt
   have h2s:=hb2.size
   have hwp3:=(hwp.below hb2 hwp.lt).below k5 (by omega)
   have hbk:Below w.heap.size w w3:=(hb1.trans (hb2.mono hb1.size)).trans (k5.mono (by have:=hb1.size;omega))
   have hkp:Keep (fun k=>k=p) w3 (w3.setCell ⟨p,0,none⟩ (ptrV h b)):=Keep.set1 w3 p 0 _
   have hpF:p∉F:=fun hm=>by have:=k3 p hm;omega
   refine .inl ⟨b,F,n,rfl,rfl,⟨hwp3.cell 0,hwp3.fz 0⟩,⟨F,ptrV h b,rfl,by simpa using hwp3.set 0 (ptrV h b),⟨k1.keep hkp (fun k hk e=>hpF (e▸hk)),k2⟩,hpF⟩,?_,?_⟩
   ·intro k hk
    rcases List.mem_cons.1 hk with rfl|hk
    ·omega
    ·have:=k3 k hk;omega
   ·exact hbk.trans (hkp.toBelow hbk.size (fun k hk=>by have hk':k=p:=hk;omega))
 have HAL:Hid (∀w4 F (n:Nd h),readN B top h top=some n→TrAt w4 F p (.top h n)→Calls Tryz.prog 165 #[.pointer (some ⟨p,0,none⟩)] w4 fun x w'=>∃A m c,m=(flat n).length∧x= .returned (.slice A m c)∧w'.ownsRow w4.heap.size 255 4 (.slice A m c) m (extCells (flat n))∧Below w4.heap.size w4 w'):=by
  intro w4 F n hn ht
  rw [read_same] at hn
  have hlen:=(readD_bound hn).2.1
  have e1:8 ^ (h+1)≤8 ^ 6:=Nat.pow_le_pow_right (by omega) (by omega)
  have e2:8 ^ 6=262144:=by decide
  refine (allW_any w4 F p (.top h n) ht (readD_ok hn) (readD_made hn).2.2.2.2.2 (by show (flat n).length≤_;omega)).mono ?_
  rintro x w' ⟨v',rfl,q1,q2⟩
  obtain ⟨A,c,rfl⟩:=own_slice q1
  exact ⟨A,_,c,rfl,rfl,q1,q2⟩
 have HCK:Hid (∀wq v m (n:Nd h),readN B top h top=some n→wq.ownsRow m 255 4 v (flat n).length (extCells (flat n))→Calls Tryz.prog 197 #[v] wq fun x w'=>x= .returned (.bool (chkB (flat n)))∧Below wq.heap.size wq w'):=by
  intro wq v m n hn hv
  rw [read_same] at hn
  have hlen:=(readD_bound hn).2.1
  have e1:8 ^ (h+1)≤8 ^ 6:=Nat.pow_le_pow_right (by omega) (by omega)
  have e2:8 ^ 6=262144:=by decide
  exact check_any _ v wq (ExtsAt.own hv).1 (by omega)
 have HP:=Lib.hid hp
 have HWR:=Lib.hid (fun op wq=>wrapErr_any op top 28 (.int .i64 3) wq)
 have ht0:(top == -1)=false:=by simpa using hne
 have hH0:(H == 0)=false:=by simp;omega
 have hH1:decide (H < 0)=false:=by simp;omega
 have hH6:decide (6 < H)=false:=by simp;omega
 obtain ⟨o,ho⟩:∃o,readN B top h top=o:=⟨_,rfl⟩
 rw [ho] at HRD HAL HCK ⊢
 clear hb hb1 hb2 hwp hwr hH hr1 ho ha hne
 go_enter Tryz.func132,Tryz.ntmps132
 go_wp2_with fail
 with_reducible refine HNEW.out.mono ?_
 rintro e wx ⟨rfl,rfl⟩
 go_wp2_with fail
 with_reducible refine HRD.out.mono ?_
 rintro e w3 (⟨b,F,n,rfl,rfl,⟨z0,z1⟩,ht4,hF4,hb4⟩|⟨rfl,e3,rfl,he3,hb3⟩)
 ·obtain ⟨w4,hw4⟩:∃w4,w3.setCell ⟨p,0,none⟩ (ptrV h b)=w4:=⟨_,rfl⟩
  rw [hw4] at ht4 hb4
  have HT4:=Lib.hid ht4
  have HF4:=Lib.hid hF4
  have HB4:=Lib.hid hb4
  have HA4:=Lib.hid (HAL.out w4 _ n rfl ht4)
  unfold ptrV at hw4 ⊢
  clear ht4 hF4 hb4 hw1 hw2 hr hp
  go_wp2_with fail
  with_reducible refine HA4.out.mono ?_
  rintro e w5 ⟨A5,m5,c5,hm5,rfl,ho5,hb5⟩
  have HC5:=Lib.hid (HCK.out w5 (.slice A5 m5 c5) _ n rfl (by rw [←hm5];exact ho5))
  have HB5:=Lib.hid hb5
  obtain ⟨ck,hck⟩:∃ck,chkB (flat n)=ck:=⟨_,rfl⟩
  rw [hck] at HC5
  have HCKB:=Lib.hid hck
  clear ho5 hb5 hm5 hck
  go_wp2_with fail
  with_reducible refine HC5.out.mono ?_
  rintro e w6 ⟨rfl,hb6⟩
  have hbb:Below w4.heap.size w4 w6:=HB5.out.trans (hb6.mono HB5.out.size)
  have HB6:Hid (Below w.heap.size w w6):=HB4.out.trans (hbb.mono HB4.out.size)
  cases ck with
  |true=>
   have HEND:Hid (TrdPost (some n) w (.returned (.tuple #[.pointer (some ⟨p,0,none⟩),.nilIface])) w6):=by
    show (if chkB (flat n)=true then TreadPost (.top h n) w _ w6 else ErrRet w _ w6)
    rw [if_pos HCKB.out]
    refine ⟨p,p::F,rfl,HT4.out.keep (Keep.below (F:=fun _=>False) hbb) (fun _ _ h=>h),fun k hk=>?_,HB6.out⟩
    rw [HP.out]
    exact HF4.out k hk
   clear hb6 hbb
   go_wp2_with fail
   refine bodyPost_ret (v:= .tuple #[.pointer (some ⟨p,0,none⟩),.nilIface]) (by simp [results,Tryz.results132,go_sem]) rfl HEND.out
  |false=>
   clear hb6 hbb
   go_wp2_with fail
   with_reducible refine (HWR.out _ _).mono ?_
   rintro e w7 ⟨y,rfl,he7,hb7⟩
   have HEND:Hid (TrdPost (some n) w (.returned (.tuple #[.pointer none,.iface 183 y])) w7):=by
    show (if chkB (flat n)=true then TreadPost (.top h n) w _ w7 else ErrRet w _ w7)
    rw [if_neg (by rw [HCKB.out];decide)]
    exact ⟨y,rfl,he7,HB6.out.trans (hb7.mono HB6.out.size)⟩
   clear he7 hb7
   go_wp2_with fail
   refine bodyPost_ret (v:= .tuple #[.pointer none,.iface 183 y]) (by simp [results,Tryz.results132,go_sem]) rfl HEND.out
 ·have HEND:Hid (TrdPost (none:Option (Nd h)) w (.returned (.tuple #[.pointer none,.iface 183 e3])) w3):=⟨e3,rfl,he3,hb3⟩
  clear he3 hb3 hw1 hw2 hr hp
  go_wp2_with fail
  refine bodyPost_ret (v:= .tuple #[.pointer none,.iface 183 e3]) (by simp [results,Tryz.results132,go_sem]) rfl HEND.out
end Go.Proofs.YtfialjmemcobjaaGreatDoor.tr
