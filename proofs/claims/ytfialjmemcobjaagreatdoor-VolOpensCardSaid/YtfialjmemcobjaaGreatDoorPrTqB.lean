/- A part of the proof. -/
import Derived.Test.YtfialjmemcobjaaGreatDoorPrFwB
import Derived.Test.YtfialjmemcobjaaGreatDoorPrTsMg
set_option linter.unusedVariables false
set_option linter.unusedSimpArgs false
namespace Go.Proofs.YtfialjmemcobjaaGreatDoor
namespace tr
open Go.RowKit er
theorem Da (s:ByteArray) (a b:Nat) (h:a≤s.size):(s.extract a s.size).extract b (s.extract a s.size).size=s.extract (a+b) s.size:=by
 apply ByteArray.ext
 simp only [ByteArray.data_extract,Array.extract_extract,ByteArray.size_extract]
 congr 1
 simp only [ByteArray.size]
 omega
theorem Di (s:ByteArray):s.extract s.size s.size=⟨#[]⟩:=by
 apply ByteArray.ext
 simp [ByteArray.data_extract]
theorem Db {s:ByteArray} (h:s.size≠0):s.toList.isEmpty=false:=by
 rw [ByteArray.toList_eq]
 cases hl:s.data.toList with
 |nil=>
  exfalso
  apply h
  have:=congrArg List.length hl
  simpa using this
 |cons _ _=>rfl
theorem Bw {s:ByteArray} (h:s.size≠0):s≠⟨#[]⟩:=fun e=>h (by rw [e];rfl)
theorem Qbl {s:ByteArray} (h:s.size≠0):Qn s 0=(s[0]'(by omega)).toNat:=by unfold Qn;rw [dif_pos (by omega)]
def U7 (l:List Ext):Prop:=Lr l=true
def Gb (l:List Kid):Prop:=2≤l.length∧l.length≤8∧KidsOk l
def Qer (s:ByteArray) (o:Nat):Ext:=⟨leN s o 3,leN s (o+3) 4,leN s (o+7) 1,leN s (o+8) 2⟩
def Qr (s:ByteArray):List Ext:=(List.range (Qn s 0).toNat).map fun i=>Qer s (1+10 * i)
theorem Es (s:ByteArray):(Qr s).length=(Qn s 0).toNat:=by simp [Qr]
theorem Wo (s:ByteArray) (j:Nat) (h:j < (Qn s 0).toNat):(Qr s)[j]? =some (Qer s (1+10 * j)):=by
 unfold Qr
 rw [List.getElem?_map,List.getElem?_range h]
 rfl
set_option maxHeartbeats 4000000 in
set_option maxRecDepth 100000 in
theorem Qcp (g c:Nat) (x0 x1 x2 x3:Int) (w:World) (hg:g < w.heap.size) (hc:w.cell? ⟨g,0,none⟩=some (.int .u64 x0)∧w.cell? ⟨g,1,none⟩=some (.int .u64 x1)∧w.cell? ⟨g,2,none⟩=some (.int .u64 x2)∧w.cell? ⟨g,3,none⟩=some (.int .u64 x3)) (h0:0≤x0∧x0 < 4294967296) (h1:0≤x1∧x1 < 4294967296) (h2:0≤x2∧x2 < 4294967296) (h3:0≤x3∧x3 < 4294967296):
  Calls Tryz.prog 289 #[.slice (some ⟨g,0,none⟩) 4 c] w fun x w'=>x= .returned (.agg #[.int .i64 x0,.int .i64 x1,.int .i64 x2,.int .i64 x3])∧Below w.heap.size w w':=by
 have HK:Hid (∀w',Below w.heap.size w w'→w'.cell? ⟨g,0,none⟩=some (.int .u64 x0)∧w'.cell? ⟨g,1,none⟩=some (.int .u64 x1)∧w'.cell? ⟨g,2,none⟩=some (.int .u64 x2)∧w'.cell? ⟨g,3,none⟩=some (.int .u64 x3)):=by
  intro w' hb
  obtain ⟨c0,c1,c2,c3⟩:=hc
  exact ⟨Qq hb c0,Qq hb c1,Qq hb c2,Qq hb c3⟩
 have HW:Hid (Whole (w.alloc (.cells #[.int .i64 0,.int .i64 0,.int .i64 0,.int .i64 0] 255)) w.heap.size 255 #[.int .i64 0,.int .i64 0,.int .i64 0,.int .i64 0]):=Whole.new w _ _
 obtain ⟨w2,hw2⟩:∃w2,w.alloc (.cells #[.int .i64 0,.int .i64 0,.int .i64 0,.int .i64 0] 255)=w2:=⟨_,rfl⟩
 have HB2:Hid (Below w.heap.size w w2):=by show Below _ _ _;rw [←hw2];exact (Below.refl _ _).alloc (Nat.le_refl _) _
 have hsz:w2.heap.size=w.heap.size+1:=by rw [←hw2];simp
 rw [hw2] at HW
 obtain ⟨c0,c1,c2,c3⟩:=HK.out w2 HB2.out
 obtain ⟨l0,u0⟩:=h0
 obtain ⟨l1,u1⟩:=h1
 obtain ⟨l2,u2⟩:=h2
 obtain ⟨l3,u3⟩:=h3
 have hgn:g≠w.heap.size:=by omega
 have z0:=HW.out.cell 0
 have y0:=HW.out.fz 0
 have z1:=HW.out.cell 1
 have y1:=HW.out.fz 1
 have z2:=HW.out.cell 2
 have y2:=HW.out.fz 2
 have z3:=HW.out.cell 3
 have y3:=HW.out.fz 3
 simp at z0 z1 z2 z3
 have v0:IntKind.i64.wrap x0=x0:=by rw [IntKind.wrap_i64];omega
 have v1:IntKind.i64.wrap x1=x1:=by rw [IntKind.wrap_i64];omega
 have v2:IntKind.i64.wrap x2=x2:=by rw [IntKind.wrap_i64];omega
 have v3:IntKind.i64.wrap x3=x3:=by rw [IntKind.wrap_i64];omega
 clear hc hg
 go_enter Tryz.func289,Tryz.ntmps289
 go_wp2_with fail
 go_region_held3 (fun w'=>w'.cell? ⟨g,0,none⟩=some (.int .u64 x0)∧w'.cell? ⟨g,1,none⟩=some (.int .u64 x1)∧w'.cell? ⟨g,2,none⟩=some (.int .u64 x2)∧w'.cell? ⟨g,3,none⟩=some (.int .u64 x3)) (exact HK.out _ (by repeat (first|with_reducible exact HB2.out|with_reducible exact Below.refl _ _|refine Below.drew ?_|refine Below.setCell ?_ (by first|omega|(simp <;> omega)) _|refine Below.alloc ?_ (by first|omega|(simp <;> omega)) _))) (fail)
 go_wp2_with fail
 have W5:Whole ((((w2.setCell ⟨w.heap.size,0,none⟩ (.int .i64 x0)).setCell ⟨w.heap.size,1,none⟩ (.int .i64 x1)).setCell ⟨w.heap.size,2,none⟩ (.int .i64 x2)).setCell ⟨w.heap.size,3,none⟩ (.int .i64 x3)).drew w.heap.size 255 #[.int .i64 x0,.int .i64 x1,.int .i64 x2,.int .i64 x3]:=by
  have:Whole ((((w2.setCell ⟨w.heap.size,0,none⟩ (.int .i64 x0)).setCell ⟨w.heap.size,1,none⟩ (.int .i64 x1)).setCell ⟨w.heap.size,2,none⟩ (.int .i64 x2)).setCell ⟨w.heap.size,3,none⟩ (.int .i64 x3)) w.heap.size 255 #[.int .i64 x0,.int .i64 x1,.int .i64 x2,.int .i64 x3]:=by simpa using ((((HW.out.set 0 (.int .i64 x0)).set 1 (.int .i64 x1)).set 2 (.int .i64 x2)).set 3 (.int .i64 x3))
  exact this
 have r0:=W5.cell 0
 have r1:=W5.cell 1
 have r2:=W5.cell 2
 have r3:=W5.cell 3
 simp at r0 r1 r2 r3
 refine bodyPost_ret (v:= .agg #[.int .i64 x0,.int .i64 x1,.int .i64 x2,.int .i64 x3]) (by simp [results,Tryz.results289,go_sem,r0,r1,r2,r3]) rfl ⟨rfl,?_⟩
 repeat (first|with_reducible exact HB2.out|refine Below.drew ?_|refine Below.setCell ?_ (by first|omega|(simp <;> omega)) _)
def Qce (s:ByteArray) (o:Nat):Kid:=⟨leN s o 3,leN s (o+3) 2⟩
def Ql (s:ByteArray):List Kid:=(List.range (Qn s 0).toNat).map fun i=>Qce s (1+5 * i)
theorem Nt (s:ByteArray):(Ql s).length=(Qn s 0).toNat:=by simp [Ql]
theorem Qig (s:ByteArray) (j:Nat) (h:j < (Qn s 0).toNat):(Ql s)[j]? =some (Qce s (1+5 * j)):=by
 unfold Ql
 rw [List.getElem?_map,List.getElem?_range h]
 rfl
set_option maxHeartbeats 4000000 in
set_option maxRecDepth 100000 in
theorem Qcb (g c:Nat) (x0 x1:Int) (w:World) (hg:g < w.heap.size) (hc:w.cell? ⟨g,0,none⟩=some (.int .u64 x0)∧w.cell? ⟨g,1,none⟩=some (.int .u64 x1)) (h0:0≤x0∧x0 < 4294967296) (h1:0≤x1∧x1 < 4294967296):
  Calls Tryz.prog 293 #[.slice (some ⟨g,0,none⟩) 2 c] w fun x w'=>x= .returned (.agg #[.int .i64 x0,.int .i64 x1])∧Below w.heap.size w w':=by
 have HK:Hid (∀w',Below w.heap.size w w'→w'.cell? ⟨g,0,none⟩=some (.int .u64 x0)∧w'.cell? ⟨g,1,none⟩=some (.int .u64 x1)):=by
  intro w' hb
  obtain ⟨c0,c1⟩:=hc
  exact ⟨Qq hb c0,Qq hb c1⟩
 have HW:Hid (Whole (w.alloc (.cells #[.int .i64 0,.int .i64 0] 355)) w.heap.size 355 #[.int .i64 0,.int .i64 0]):=Whole.new w _ _
 obtain ⟨w2,hw2⟩:∃w2,w.alloc (.cells #[.int .i64 0,.int .i64 0] 355)=w2:=⟨_,rfl⟩
 have HB2:Hid (Below w.heap.size w w2):=by show Below _ _ _;rw [←hw2];exact (Below.refl _ _).alloc (Nat.le_refl _) _
 have hsz:w2.heap.size=w.heap.size+1:=by rw [←hw2];simp
 rw [hw2] at HW
 obtain ⟨c0,c1⟩:=HK.out w2 HB2.out
 obtain ⟨l0,u0⟩:=h0
 obtain ⟨l1,u1⟩:=h1
 have hgn:g≠w.heap.size:=by omega
 have z0:=HW.out.cell 0
 have y0:=HW.out.fz 0
 have z1:=HW.out.cell 1
 have y1:=HW.out.fz 1
 simp at z0 z1
 have v0:IntKind.i64.wrap x0=x0:=by rw [IntKind.wrap_i64];omega
 have v1:IntKind.i64.wrap x1=x1:=by rw [IntKind.wrap_i64];omega
 clear hc hg
 go_enter Tryz.func293,Tryz.ntmps293
 go_wp2_with fail
 go_region_held3 (fun w'=>w'.cell? ⟨g,0,none⟩=some (.int .u64 x0)∧w'.cell? ⟨g,1,none⟩=some (.int .u64 x1)) (exact HK.out _ (by repeat (first|with_reducible exact HB2.out|with_reducible exact Below.refl _ _|refine Below.drew ?_|refine Below.setCell ?_ (by first|omega|(simp <;> omega)) _|refine Below.alloc ?_ (by first|omega|(simp <;> omega)) _))) (fail)
 go_wp2_with fail
 have W5:Whole ((w2.setCell ⟨w.heap.size,0,none⟩ (.int .i64 x0)).setCell ⟨w.heap.size,1,none⟩ (.int .i64 x1)).drew w.heap.size 355 #[.int .i64 x0,.int .i64 x1]:=by
  have:Whole ((w2.setCell ⟨w.heap.size,0,none⟩ (.int .i64 x0)).setCell ⟨w.heap.size,1,none⟩ (.int .i64 x1)) w.heap.size 355 #[.int .i64 x0,.int .i64 x1]:=by simpa using ((HW.out.set 0 (.int .i64 x0)).set 1 (.int .i64 x1))
  exact this
 have r0:=W5.cell 0
 have r1:=W5.cell 1
 simp at r0 r1
 refine bodyPost_ret (v:= .agg #[.int .i64 x0,.int .i64 x1]) (by simp [results,Tryz.results293,go_sem,r0,r1]) rfl ⟨rfl,?_⟩
 repeat (first|with_reducible exact HB2.out|refine Below.drew ?_|refine Below.setCell ?_ (by first|omega|(simp <;> omega)) _)
def okE (s:ByteArray):Bool:=decide (s.size≠0) && decide (Qn s 0≤8) && decide (s.size=1+10 * (Qn s 0).toNat)
def RdE (s:ByteArray) (w:World) (x:Ending) (w':World):Prop:=
 (∃A c,x= .returned (.tuple #[.slice A (Qr s).length c,.int .i64 0])∧okE s=true∧U7 (Qr s)∧w'.ownsRow w.heap.size 255 4 (.slice A (Qr s).length c) (Qr s).length (Qz (Qr s))∧Below w.heap.size w w')∨
 (x= .returned (.tuple #[.slice none 0 0,.int .i64 3])∧¬(okE s=true∧U7 (Qr s))∧Below w.heap.size w w')
theorem Qhe:(Tryz.prog.info? 255).map (fun i=>(i.zero,i.size,i.bytes))=some (some (.agg #[.int .i64 0,.int .i64 0,.int .i64 0,.int .i64 0]),4,32):=by kernel_rfl
theorem eWs (w:World) (g:Nat) (e:Ext) (h:WidAt w g (Q7 e)):WidAt w g ([3,4,1,2].map fun k=>(k,0)):=by
 intro j p hp
 match j,hp with
 |0,hp=>simp at hp;subst hp;exact h 0 (3,e.fr) rfl
 |1,hp=>simp at hp;subst hp;exact h 1 (4,e.n) rfl
 |2,hp=>simp at hp;subst hp;exact h 2 (1,e.kind) rfl
 |3,hp=>simp at hp;subst hp;exact h 3 (2,e.at_) rfl
 |j+4,hp=>simp at hp
set_option maxHeartbeats 8000000 in
set_option maxRecDepth 100000 in
theorem Qhd (s:ByteArray) (gw:Nat) (w:World) (hw:WidAt w gw ([3,4,1,2].map fun k=>(k,0))) (hs:s.size≤1000000):
  Calls Tryz.prog 286 #[.string s,.slice (some ⟨gw,0,none⟩) 4 4,.func (.func 288) #[] #[],.func (.func 289) #[] #[]] w (RdE s w):=by
 have HW:=Ql4 hw
 have hsi:(s.size:Int)≤1000000:=by omega
 have HNO:Hid (∀w',¬(okE s=true∧U7 (Qr s))→Below w.heap.size w w'→RdE s w (.returned (.tuple #[.slice none 0 0,.int .i64 3])) w'):=fun w' h hb=>.inr ⟨rfl,h,hb⟩
 clear hw
 go_enter Tryz.func286,Tryz.ntmps286
 by_cases h0:s.size=0
 ·have hse:s=⟨#[]⟩:=by
   apply ByteArray.ext
   exact Array.eq_empty_of_size_eq_zero h0
  have HBAD:Hid (¬(okE s=true∧U7 (Qr s))):=fun h=>by
   have:=h.1
   unfold okE at this
   simp [h0] at this
  subst hse
  go_wp2_with fail
  refine bodyPost_ret (v:= .tuple #[.slice none 0 0,.int .i64 3]) (by simp [results,Tryz.results286,go_sem]) rfl (HNO.out _ HBAD.out (Below.refl _ _))
 ·have hne:=Bw h0
  have hem:=Db h0
  have hb0:=Qbl h0
  have h0i:(0:Int) < (s.size:Int):=by omega
  have h0n:0 < s.size:=by omega
  obtain ⟨b,hb⟩:∃b:Nat,(s[0]'(by omega)).toNat=b:=⟨_,rfl⟩
  have hb256:b < 256:=by rw [←hb];exact UInt8.toNat_lt _
  rw [hb] at hb0
  have hcnt:(Qn s 0).toNat=b:=by rw [hb0];omega
  have HB0:=Ql4 hb0
  have HCN:=Ql4 hcnt
  have hbi:(b:Int) < 256:=by omega
  by_cases h8:b≤8
  ·have h8d:¬(8:Int) < (b:Int):=by omega
   have h8n:¬8 < b:=by omega
   have H8:=Ql4 h8
   have HNE:=Ql4 h0
   have HOKI:Hid (okE s=true↔s.size=1+10 * b):=by
    show _↔_
    unfold okE
    rw [HCN.out,HB0.out]
    simp [HNE.out]
    omega
   obtain ⟨i0,hi0,hz0,hz1,hz2⟩:=info_parts Qhe
   have HI0:=Ql4 hi0
   have HZ0:=Ql4 hz0
   have HZ1:=Ql4 hz1
   have HZ2:=Ql4 hz2
   clear hi0 hz0 hz1 hz2 hb0 hcnt h0 h8
   go_wp2_with fail
   go_loopw [10,11,12,13,14,26] (fun s10 s11 s12 s13 s14 s26 wr=>∃(j:Nat) (A:Option Addr) (c:Nat) (R:ByteArray),j≤b∧s10= .slice A j c∧s11= .string R∧s26= .int .u8 j∧Hid (1+10 * j≤s.size∧R=s.extract (1+10 * j) s.size)∧Hid (wr.ownsRow w.heap.size 255 4 (.slice A j c) j (Qz ((Qr s).take j)))∧Hid (Below w.heap.size w wr)) (fun _ _ _ _ _ s26 _=>b - (intOf s26).toNat)
   case atStart=>exact ⟨0,none,0,s.extract 1 s.size,Nat.zero_le _,rfl,by rfl,rfl,⟨by omega,rfl⟩,⟨rfl,.inl ⟨rfl,rfl⟩⟩,Below.refl _ _⟩
   case round=>
    obtain ⟨j,A,c,R,hj,rfl,rfl,rfl,HR,HO,HB⟩:=hrel
    by_cases hlt:j < b
    ·have hji:(j:Int) < (b:Int):=by omega
     have hj8:(j:Int)≤8:=by have:=H8.out;omega
     have HTK:Hid (Calls Tryz.prog 104 #[.string R,.slice (some ⟨gw,0,none⟩) 4 4] wr fun x w'=>(∃g5 c5,x= .returned (.tuple #[.slice (some ⟨g5,0,none⟩) 4 c5,.string (s.extract (1+10 * (j+1)) s.size),.int .i64 0])∧1+10 * (j+1)≤s.size∧g5 < w'.heap.size∧(w'.cell? ⟨g5,0,none⟩=some (.int .u64 (leN s (1+10 * j) 3))∧w'.cell? ⟨g5,1,none⟩=some (.int .u64 (leN s (1+10 * j+3) 4))∧w'.cell? ⟨g5,2,none⟩=some (.int .u64 (leN s (1+10 * j+7) 1))∧w'.cell? ⟨g5,3,none⟩=some (.int .u64 (leN s (1+10 * j+8) 2)))∧Below wr.heap.size wr w')∨(x= .returned (.tuple #[.slice none 0 0,.string ⟨#[]⟩,.int .i64 5])∧s.size < 1+10 * (j+1)∧Below wr.heap.size wr w')):=by
      obtain ⟨hR1,hR2⟩:=HR.out
      have hRsz:R.size=s.size - (1+10 * j):=by rw [hR2,ByteArray.size_extract];omega
      refine (Y2 R [3,4,1,2] gw 4 wr (HW.out.below HB.out) (by decide) (by decide) (by decide) (by omega)).mono ?_
      rintro x w' (⟨hge,A5,c5,rfl,ho5,hb5⟩|⟨hlt5,rfl,hb5⟩)
      ·left
       have hge':10≤R.size:=hge
       obtain ⟨g5,rfl,_,hgl,_,hc5,_⟩:=Qo ho5 (by decide)
       refine ⟨g5,c5,?_,by omega,hgl,?_,hb5⟩
       ·have e1:R.extract (List.sum [3,4,1,2]) R.size=s.extract (1+10 * (j+1)) s.size:=by
         rw [hR2,Da s _ _ hR1]
         show s.extract (1+10 * j+10) s.size=_
         rw [show 1+10 * j+10=1+10 * (j+1) by omega]
        rw [e1];rfl
       ·have hnum:∀i v,(Yy R [3,4,1,2] 4)[i]? =some v→w'.cell? ⟨g5,i,none⟩=some v:=hc5
        have q0:leN R 0 3=leN s (1+10 * j) 3:=by rw [hR2];exact Zb s (1+10 * j) 3 0 (by omega)
        have q1:leN R 3 4=leN s (1+10 * j+3) 4:=by rw [hR2];exact Zb s (1+10 * j) 4 3 (by omega)
        have q2:leN R 7 1=leN s (1+10 * j+7) 1:=by rw [hR2];exact Zb s (1+10 * j) 1 7 (by omega)
        have q3:leN R 8 2=leN s (1+10 * j+8) 2:=by rw [hR2];exact Zb s (1+10 * j) 2 8 (by omega)
        exact ⟨by rw [←q0];exact hnum 0 _ rfl,by rw [←q1];exact hnum 1 _ rfl,by rw [←q2];exact hnum 2 _ rfl,by rw [←q3];exact hnum 3 _ rfl⟩
      ·right
       have hlt':R.size < 10:=hlt5
       exact ⟨rfl,by omega,hb5⟩
     have HAT:Hid ((Qr s)[j]? =some (Qer s (1+10 * j))):=Wo s j (by rw [HCN.out];exact hlt)
     have HSN:Hid (Qz ((Qr s).take (j+1))=Qz ((Qr s).take j)++[.int .i64 (leN s (1+10 * j) 3),.int .i64 (leN s (1+10 * j+3) 4),.int .i64 (leN s (1+10 * j+7) 1),.int .i64 (leN s (1+10 * j+8) 2)]):=by
      show _=_
      rw [Qql HAT.out]
      rfl
     obtain ⟨x0,hx0⟩:∃x,leN s (1+10 * j) 3=x:=⟨_,rfl⟩
     have hr0:0≤x0∧x0 < 4294967296:=by have:=Kl s 3 (1+10 * j);rw [hx0] at this;omega
     rw [hx0] at HTK HSN
     obtain ⟨x1,hx1⟩:∃x,leN s (1+10 * j+3) 4=x:=⟨_,rfl⟩
     have hr1:0≤x1∧x1 < 4294967296:=by have:=Kl s 4 (1+10 * j+3);rw [hx1] at this;omega
     rw [hx1] at HTK HSN
     obtain ⟨x2,hx2⟩:∃x,leN s (1+10 * j+7) 1=x:=⟨_,rfl⟩
     have hr2:0≤x2∧x2 < 4294967296:=by have:=Kl s 1 (1+10 * j+7);rw [hx2] at this;omega
     rw [hx2] at HTK HSN
     obtain ⟨x3,hx3⟩:∃x,leN s (1+10 * j+8) 2=x:=⟨_,rfl⟩
     have hr3:0≤x3∧x3 < 4294967296:=by have:=Kl s 2 (1+10 * j+8);rw [hx3] at this;omega
     rw [hx3] at HTK HSN
     clear hx0 hx1 hx2 hx3
     go_wp2_with fail
     with_reducible refine HTK.out.mono ?_
     rintro e w5 (⟨g5,c5,rfl,hle5,hg5,hcells,hb5⟩|⟨rfl,hlt5,hb5⟩)
     ·have HTH:=Ql4 (Qcp g5 c5 x0 x1 x2 x3 w5 hg5 hcells hr0 hr1 hr2 hr3)
      have HB5:=Ql4 (Qa HB.out hb5)
      have HO5:=Ql4 (own_below HO.out hb5)
      clear hcells hb5 hg5
      go_wp2_with fail
      with_reducible refine HTH.out.mono ?_
      rintro e w6 ⟨rfl,hb6⟩
      have HB6:=Ql4 (Qa HB5.out hb6)
      have HO6:=Ql4 (own_below HO5.out hb6)
      have HOA:=Ql4 (HO6.out.alloc (.cells #[.int .i64 x0,.int .i64 x1,.int .i64 x2,.int .i64 x3] 255))
      have HNW:Hid (∀(j':Nat) (u:Value),([.int .i64 x0,.int .i64 x1,.int .i64 x2,.int .i64 x3]:List Value)[j']? =some u→(w6.alloc (.cells #[.int .i64 x0,.int .i64 x1,.int .i64 x2,.int .i64 x3] 255)).cell? ((⟨w6.heap.size,0,none⟩:Addr).add j')=some u):=World.news_of_block (by simpa using heap_alloc_new w6 (.cells #[.int .i64 x0,.int .i64 x1,.int .i64 x2,.int .i64 x3] 255))
      have hone:∀u∈([.int .i64 x0,.int .i64 x1,.int .i64 x2,.int .i64 x3]:List Value),u.oneCell'=true:=by simp [Value.oneCell']
      have HONE:=Ql4 hone
      have hszr:=HB6.out.size
      have HSZ2:Hid (w.heap.size≤(w6.alloc (.cells #[.int .i64 x0,.int .i64 x1,.int .i64 x2,.int .i64 x3] 255)).heap.size):=by show _≤_;simp only [World.size_alloc];omega
      have HSZ3:=Ql4 hszr
      have HLE:=Ql4 hle5
      clear hone hb6 hszr hle5
      go_wp2_with (at_builtin;go_must (refine wpList_append_own _ rfl (.tmp 37) (.tmp 41) 261 rfl w.heap.size 255 i0 _ 4 32 Tryz.underlying261 HI0.out HZ0.out HZ1.out HZ2.out rfl (by omega) (.slice A j c) j (Qz ((Qr s).take j)) rfl HOA.out ⟨w6.heap.size,0,none⟩ 1 1 [.int .i64 x0,.int .i64 x1,.int .i64 x2,.int .i64 x3] rfl rfl HNW.out HONE.out (by simp only [maxLen];omega) (by omega) HSZ2.out ?_;intro v2 w7 hown7 hg7 _;have HO7:=Ql4 hown7;have HB7:=Ql4 (Q4 HO6.out hg7 HSZ3.out);obtain ⟨A2,c2',e2⟩:=Qk hown7;subst e2;clear hown7 hg7))
      go_roundw
      case rel=>exact ⟨j+1,A2,c2',_,by omega,rfl,rfl,by go_num,⟨HLE.out,rfl⟩,by rw [HSN.out];with_reducible exact HO7,HB6.out.trans HB7.out⟩
      case measure=>simp [intOf];omega
     ·have HBAD:Hid (¬(okE s=true∧U7 (Qr s))):=fun h=>by
       have:=HOKI.out.1 h.1
       omega
      have HB5:=Ql4 (Qa HB.out hb5)
      clear hb5
      go_wp2_with fail
      refine bodyPost_ret (v:= .tuple #[.slice none 0 0,.int .i64 3]) (by simp [results,Tryz.results286,go_sem]) rfl (HNO.out _ HBAD.out HB5.out)
    ·obtain rfl:j=b:=by omega
     by_cases hend:s.size=1+10 * j
     ·have hRe:R=⟨#[]⟩:=by
       rw [HR.out.2,←hend];exact Di s
      have HOK:Hid (okE s=true):=HOKI.out.2 hend
      have hfull:(Qr s).take j=Qr s:=by
       have:(Qr s).length=j:=by rw [Es,HCN.out]
       rw [←this];exact List.take_length
      rw [hfull] at HO
      have HLN:Hid ((Qr s).length=j):=by show _=_;rw [Es,HCN.out]
      have HMAY:Hid (Calls Tryz.prog 288 #[.slice A j c] wr fun x w'=>∃mb,x= .returned (.bool mb)∧(mb=true↔U7 (Qr s))∧Below wr.heap.size wr w'):=by
       have hx:=ExtsAt.own HO.out
       refine (Bb (Qr s) _ wr hx.1 (by have:=HLN.out;have:=H8.out;omega)).mono ?_
       rintro x w' ⟨rfl,hb⟩
       exact ⟨_,rfl,Iff.rfl,hb⟩
      subst hRe
      clear hfull hend
      go_wp2_with fail
      with_reducible refine HMAY.out.mono ?_
      rintro e w5 ⟨mb,rfl,hmb,hb5⟩
      have HMB:=Ql4 hmb
      have HB5:=Ql4 (Qa HB.out hb5)
      have HO5:=Ql4 (own_below HO.out hb5)
      clear hmb hb5
      cases mb with
      |false=>
       have HBAD:Hid (¬(okE s=true∧U7 (Qr s))):=fun h=>by
        have:=HMB.out.2 h.2
        cases this
       go_wp2_with fail
       refine bodyPost_ret (v:= .tuple #[.slice none 0 0,.int .i64 3]) (by simp [results,Tryz.results286,go_sem]) rfl (HNO.out _ HBAD.out HB5.out)
      |true=>
       have HEND:Hid (RdE s w (.returned (.tuple #[.slice A j c,.int .i64 0])) w5):=by
        refine .inl ⟨A,c,by rw [HLN.out],HOK.out,HMB.out.1 rfl,by rw [HLN.out];exact HO5.out,HB5.out⟩
       go_wp2_with fail
       refine bodyPost_ret (v:= .tuple #[.slice A j c,.int .i64 0]) (by simp [results,Tryz.results286,go_sem]) rfl HEND.out
     ·have hRz:R.size≠0:=by
       obtain ⟨hR1,hR2⟩:=HR.out
       rw [hR2,ByteArray.size_extract];omega
      have hRne:=Bw hRz
      have hRem:=Db hRz
      have HBAD:Hid (¬(okE s=true∧U7 (Qr s))):=fun h=>hend (HOKI.out.1 h.1)
      go_wp2_with fail
      refine bodyPost_ret (v:= .tuple #[.slice none 0 0,.int .i64 3]) (by simp [results,Tryz.results286,go_sem]) rfl (HNO.out _ HBAD.out HB.out)
  ·have h8d:(8:Int) < (b:Int):=by omega
   have HBAD:Hid (¬(okE s=true∧U7 (Qr s))):=fun h=>by
    have:=h.1
    unfold okE at this
    rw [HB0.out] at this
    simp at this
    omega
   go_wp2_with fail
   refine bodyPost_ret (v:= .tuple #[.slice none 0 0,.int .i64 3]) (by simp [results,Tryz.results286,go_sem]) rfl (HNO.out _ HBAD.out (Below.refl _ _))
def okK (s:ByteArray):Bool:=decide (s.size≠0) && decide (Qn s 0≤8) && decide (s.size=1+5 * (Qn s 0).toNat)
def RdK (s:ByteArray) (w:World) (x:Ending) (w':World):Prop:=
 (∃A c,x= .returned (.tuple #[.slice A (Ql s).length c,.int .i64 0])∧okK s=true∧Gb (Ql s)∧w'.ownsRow w.heap.size 355 2 (.slice A (Ql s).length c) (Ql s).length (Qt (Ql s))∧Below w.heap.size w w')∨
 (x= .returned (.tuple #[.slice none 0 0,.int .i64 3])∧¬(okK s=true∧Gb (Ql s))∧Below w.heap.size w w')
theorem Qf8:(Tryz.prog.info? 355).map (fun i=>(i.zero,i.size,i.bytes))=some (some (.agg #[.int .i64 0,.int .i64 0]),2,16):=by kernel_rfl
theorem kWs (w:World) (g:Nat) (e:Kid) (h:WidAt w g (Za e)):WidAt w g ([3,2].map fun k=>(k,0)):=by
 intro j p hp
 match j,hp with
 |0,hp=>simp at hp;subst hp;exact h 0 (3,e.key) rfl
 |1,hp=>simp at hp;subst hp;exact h 1 (2,e.at_) rfl
 |j+2,hp=>simp at hp
set_option maxHeartbeats 8000000 in
set_option maxRecDepth 100000 in
theorem Qf7 (s:ByteArray) (gw:Nat) (w:World) (hw:WidAt w gw ([3,2].map fun k=>(k,0))) (hs:s.size≤1000000):
  Calls Tryz.prog 290 #[.string s,.slice (some ⟨gw,0,none⟩) 2 2,.func (.func 292) #[] #[],.func (.func 293) #[] #[]] w (RdK s w):=by
 have HW:=Ql4 hw
 have hsi:(s.size:Int)≤1000000:=by omega
 have HNO:Hid (∀w',¬(okK s=true∧Gb (Ql s))→Below w.heap.size w w'→RdK s w (.returned (.tuple #[.slice none 0 0,.int .i64 3])) w'):=fun w' h hb=>.inr ⟨rfl,h,hb⟩
 clear hw
 go_enter Tryz.func290,Tryz.ntmps290
 by_cases h0:s.size=0
 ·have hse:s=⟨#[]⟩:=by
   apply ByteArray.ext
   exact Array.eq_empty_of_size_eq_zero h0
  have HBAD:Hid (¬(okK s=true∧Gb (Ql s))):=fun h=>by
   have:=h.1
   unfold okK at this
   simp [h0] at this
  subst hse
  go_wp2_with fail
  refine bodyPost_ret (v:= .tuple #[.slice none 0 0,.int .i64 3]) (by simp [results,Tryz.results290,go_sem]) rfl (HNO.out _ HBAD.out (Below.refl _ _))
 ·have hne:=Bw h0
  have hem:=Db h0
  have hb0:=Qbl h0
  have h0i:(0:Int) < (s.size:Int):=by omega
  have h0n:0 < s.size:=by omega
  obtain ⟨b,hb⟩:∃b:Nat,(s[0]'(by omega)).toNat=b:=⟨_,rfl⟩
  have hb256:b < 256:=by rw [←hb];exact UInt8.toNat_lt _
  rw [hb] at hb0
  have hcnt:(Qn s 0).toNat=b:=by rw [hb0];omega
  have HB0:=Ql4 hb0
  have HCN:=Ql4 hcnt
  have hbi:(b:Int) < 256:=by omega
  by_cases h8:b≤8
  ·have h8d:¬(8:Int) < (b:Int):=by omega
   have h8n:¬8 < b:=by omega
   have H8:=Ql4 h8
   have HNE:=Ql4 h0
   have HOKI:Hid (okK s=true↔s.size=1+5 * b):=by
    show _↔_
    unfold okK
    rw [HCN.out,HB0.out]
    simp [HNE.out]
    omega
   obtain ⟨i0,hi0,hz0,hz1,hz2⟩:=info_parts Qf8
   have HI0:=Ql4 hi0
   have HZ0:=Ql4 hz0
   have HZ1:=Ql4 hz1
   have HZ2:=Ql4 hz2
   clear hi0 hz0 hz1 hz2 hb0 hcnt h0 h8
   go_wp2_with fail
   go_loopw [10,11,12,13,14,26] (fun s10 s11 s12 s13 s14 s26 wr=>∃(j:Nat) (A:Option Addr) (c:Nat) (R:ByteArray),j≤b∧s10= .slice A j c∧s11= .string R∧s26= .int .u8 j∧Hid (1+5 * j≤s.size∧R=s.extract (1+5 * j) s.size)∧Hid (wr.ownsRow w.heap.size 355 2 (.slice A j c) j (Qt ((Ql s).take j)))∧Hid (Below w.heap.size w wr)) (fun _ _ _ _ _ s26 _=>b - (intOf s26).toNat)
   case atStart=>exact ⟨0,none,0,s.extract 1 s.size,Nat.zero_le _,rfl,by rfl,rfl,⟨by omega,rfl⟩,⟨rfl,.inl ⟨rfl,rfl⟩⟩,Below.refl _ _⟩
   case round=>
    obtain ⟨j,A,c,R,hj,rfl,rfl,rfl,HR,HO,HB⟩:=hrel
    by_cases hlt:j < b
    ·have hji:(j:Int) < (b:Int):=by omega
     have hj8:(j:Int)≤8:=by have:=H8.out;omega
     have HTK:Hid (Calls Tryz.prog 104 #[.string R,.slice (some ⟨gw,0,none⟩) 2 2] wr fun x w'=>(∃g5 c5,x= .returned (.tuple #[.slice (some ⟨g5,0,none⟩) 2 c5,.string (s.extract (1+5 * (j+1)) s.size),.int .i64 0])∧1+5 * (j+1)≤s.size∧g5 < w'.heap.size∧(w'.cell? ⟨g5,0,none⟩=some (.int .u64 (leN s (1+5 * j) 3))∧w'.cell? ⟨g5,1,none⟩=some (.int .u64 (leN s (1+5 * j+3) 2)))∧Below wr.heap.size wr w')∨(x= .returned (.tuple #[.slice none 0 0,.string ⟨#[]⟩,.int .i64 5])∧s.size < 1+5 * (j+1)∧Below wr.heap.size wr w')):=by
      obtain ⟨hR1,hR2⟩:=HR.out
      have hRsz:R.size=s.size - (1+5 * j):=by rw [hR2,ByteArray.size_extract];omega
      refine (Y2 R [3,2] gw 2 wr (HW.out.below HB.out) (by decide) (by decide) (by decide) (by omega)).mono ?_
      rintro x w' (⟨hge,A5,c5,rfl,ho5,hb5⟩|⟨hlt5,rfl,hb5⟩)
      ·left
       have hge':5≤R.size:=hge
       obtain ⟨g5,rfl,_,hgl,_,hc5,_⟩:=Qo ho5 (by decide)
       refine ⟨g5,c5,?_,by omega,hgl,?_,hb5⟩
       ·have e1:R.extract (List.sum [3,2]) R.size=s.extract (1+5 * (j+1)) s.size:=by
         rw [hR2,Da s _ _ hR1]
         show s.extract (1+5 * j+5) s.size=_
         rw [show 1+5 * j+5=1+5 * (j+1) by omega]
        rw [e1];rfl
       ·have hnum:∀i v,(Yy R [3,2] 2)[i]? =some v→w'.cell? ⟨g5,i,none⟩=some v:=hc5
        have q0:leN R 0 3=leN s (1+5 * j) 3:=by rw [hR2];exact Zb s (1+5 * j) 3 0 (by omega)
        have q1:leN R 3 2=leN s (1+5 * j+3) 2:=by rw [hR2];exact Zb s (1+5 * j) 2 3 (by omega)
        exact ⟨by rw [←q0];exact hnum 0 _ rfl,by rw [←q1];exact hnum 1 _ rfl⟩
      ·right
       have hlt':R.size < 5:=hlt5
       exact ⟨rfl,by omega,hb5⟩
     have HAT:Hid ((Ql s)[j]? =some (Qce s (1+5 * j))):=Qig s j (by rw [HCN.out];exact hlt)
     have HSN:Hid (Qt ((Ql s).take (j+1))=Qt ((Ql s).take j)++[.int .i64 (leN s (1+5 * j) 3),.int .i64 (leN s (1+5 * j+3) 2)]):=by
      show _=_
      rw [Ux HAT.out,Io]
      rfl
     obtain ⟨x0,hx0⟩:∃x,leN s (1+5 * j) 3=x:=⟨_,rfl⟩
     have hr0:0≤x0∧x0 < 4294967296:=by have:=Kl s 3 (1+5 * j);rw [hx0] at this;omega
     rw [hx0] at HTK HSN
     obtain ⟨x1,hx1⟩:∃x,leN s (1+5 * j+3) 2=x:=⟨_,rfl⟩
     have hr1:0≤x1∧x1 < 4294967296:=by have:=Kl s 2 (1+5 * j+3);rw [hx1] at this;omega
     rw [hx1] at HTK HSN
     clear hx0 hx1
     go_wp2_with fail
     with_reducible refine HTK.out.mono ?_
     rintro e w5 (⟨g5,c5,rfl,hle5,hg5,hcells,hb5⟩|⟨rfl,hlt5,hb5⟩)
     ·have HTH:=Ql4 (Qcb g5 c5 x0 x1 w5 hg5 hcells hr0 hr1)
      have HB5:=Ql4 (Qa HB.out hb5)
      have HO5:=Ql4 (own_below HO.out hb5)
      clear hcells hb5 hg5
      go_wp2_with fail
      with_reducible refine HTH.out.mono ?_
      rintro e w6 ⟨rfl,hb6⟩
      have HB6:=Ql4 (Qa HB5.out hb6)
      have HO6:=Ql4 (own_below HO5.out hb6)
      have HOA:=Ql4 (HO6.out.alloc (.cells #[.int .i64 x0,.int .i64 x1] 355))
      have HNW:Hid (∀(j':Nat) (u:Value),([.int .i64 x0,.int .i64 x1]:List Value)[j']? =some u→(w6.alloc (.cells #[.int .i64 x0,.int .i64 x1] 355)).cell? ((⟨w6.heap.size,0,none⟩:Addr).add j')=some u):=World.news_of_block (by simpa using heap_alloc_new w6 (.cells #[.int .i64 x0,.int .i64 x1] 355))
      have hone:∀u∈([.int .i64 x0,.int .i64 x1]:List Value),u.oneCell'=true:=by simp [Value.oneCell']
      have HONE:=Ql4 hone
      have hszr:=HB6.out.size
      have HSZ2:Hid (w.heap.size≤(w6.alloc (.cells #[.int .i64 x0,.int .i64 x1] 355)).heap.size):=by show _≤_;simp only [World.size_alloc];omega
      have HSZ3:=Ql4 hszr
      have HLE:=Ql4 hle5
      clear hone hb6 hszr hle5
      go_wp2_with (at_builtin;go_must (refine wpList_append_own _ rfl (.tmp 37) (.tmp 41) 351 rfl w.heap.size 355 i0 _ 2 16 Tryz.underlying351 HI0.out HZ0.out HZ1.out HZ2.out rfl (by omega) (.slice A j c) j (Qt ((Ql s).take j)) rfl HOA.out ⟨w6.heap.size,0,none⟩ 1 1 [.int .i64 x0,.int .i64 x1] rfl rfl HNW.out HONE.out (by simp only [maxLen];omega) (by omega) HSZ2.out ?_;intro v2 w7 hown7 hg7 _;have HO7:=Ql4 hown7;have HB7:=Ql4 (Q4 HO6.out hg7 HSZ3.out);obtain ⟨A2,c2',e2⟩:=Qk hown7;subst e2;clear hown7 hg7))
      go_roundw
      case rel=>exact ⟨j+1,A2,c2',_,by omega,rfl,rfl,by go_num,⟨HLE.out,rfl⟩,by rw [HSN.out];with_reducible exact HO7,HB6.out.trans HB7.out⟩
      case measure=>simp [intOf];omega
     ·have HBAD:Hid (¬(okK s=true∧Gb (Ql s))):=fun h=>by
       have:=HOKI.out.1 h.1
       omega
      have HB5:=Ql4 (Qa HB.out hb5)
      clear hb5
      go_wp2_with fail
      refine bodyPost_ret (v:= .tuple #[.slice none 0 0,.int .i64 3]) (by simp [results,Tryz.results290,go_sem]) rfl (HNO.out _ HBAD.out HB5.out)
    ·obtain rfl:j=b:=by omega
     by_cases hend:s.size=1+5 * j
     ·have hRe:R=⟨#[]⟩:=by
       rw [HR.out.2,←hend];exact Di s
      have HOK:Hid (okK s=true):=HOKI.out.2 hend
      have hfull:(Ql s).take j=Ql s:=by
       have:(Ql s).length=j:=by rw [Nt,HCN.out]
       rw [←this];exact List.take_length
      rw [hfull] at HO
      have HLN:Hid ((Ql s).length=j):=by show _=_;rw [Nt,HCN.out]
      have HMAY:Hid (Calls Tryz.prog 292 #[.slice A j c] wr fun x w'=>∃mb,x= .returned (.bool mb)∧(mb=true↔Gb (Ql s))∧Below wr.heap.size wr w'):=by
       have hx:=KidsAt.own HO.out
       refine (Vr (Ql s) _ wr hx.1 (by have:=HLN.out;have:=H8.out;omega)).mono ?_
       rintro x w' ⟨mb,rfl,hb1,hb2⟩
       exact ⟨mb,rfl,hb1,hb2⟩
      subst hRe
      clear hfull hend
      go_wp2_with fail
      with_reducible refine HMAY.out.mono ?_
      rintro e w5 ⟨mb,rfl,hmb,hb5⟩
      have HMB:=Ql4 hmb
      have HB5:=Ql4 (Qa HB.out hb5)
      have HO5:=Ql4 (own_below HO.out hb5)
      clear hmb hb5
      cases mb with
      |false=>
       have HBAD:Hid (¬(okK s=true∧Gb (Ql s))):=fun h=>by
        have:=HMB.out.2 h.2
        cases this
       go_wp2_with fail
       refine bodyPost_ret (v:= .tuple #[.slice none 0 0,.int .i64 3]) (by simp [results,Tryz.results290,go_sem]) rfl (HNO.out _ HBAD.out HB5.out)
      |true=>
       have HEND:Hid (RdK s w (.returned (.tuple #[.slice A j c,.int .i64 0])) w5):=by
        refine .inl ⟨A,c,by rw [HLN.out],HOK.out,HMB.out.1 rfl,by rw [HLN.out];exact HO5.out,HB5.out⟩
       go_wp2_with fail
       refine bodyPost_ret (v:= .tuple #[.slice A j c,.int .i64 0]) (by simp [results,Tryz.results290,go_sem]) rfl HEND.out
     ·have hRz:R.size≠0:=by
       obtain ⟨hR1,hR2⟩:=HR.out
       rw [hR2,ByteArray.size_extract];omega
      have hRne:=Bw hRz
      have hRem:=Db hRz
      have HBAD:Hid (¬(okK s=true∧Gb (Ql s))):=fun h=>hend (HOKI.out.1 h.1)
      go_wp2_with fail
      refine bodyPost_ret (v:= .tuple #[.slice none 0 0,.int .i64 3]) (by simp [results,Tryz.results290,go_sem]) rfl (HNO.out _ HBAD.out HB.out)
  ·have h8d:(8:Int) < (b:Int):=by omega
   have HBAD:Hid (¬(okK s=true∧Gb (Ql s))):=fun h=>by
    have:=h.1
    unfold okK at this
    rw [HB0.out] at this
    simp at this
    omega
   go_wp2_with fail
   refine bodyPost_ret (v:= .tuple #[.slice none 0 0,.int .i64 3]) (by simp [results,Tryz.results290,go_sem]) rfl (HNO.out _ HBAD.out (Below.refl _ _))
theorem Qzb {w:World} {B B' k n:Nat} {e:TypeId} {v:Value} {xs:List Value} (h:w.ownsRow B' e k v n xs) (hB:B≤B'):w.ownsRow B e k v n xs:=by
 obtain ⟨h1,h2⟩:=h
 refine ⟨h1,?_⟩
 rcases h2 with h2|⟨g,cap,cur,a1,a2,a3⟩
 ·exact .inl h2
 ·exact .inr ⟨g,cap,cur,a1,Nat.le_trans hB a2,a3⟩
set_option maxHeartbeats 4000000 in
set_option maxRecDepth 100000 in
theorem Pe (s:ByteArray) (w:World) (hs:s.size≤1000000):Calls Tryz.prog 245 #[.string s] w (RdE s w):=by
 have HX:=Ql4 (Wi w)
 have HR:=Ql4 (fun gw w1 h=>Qhd s gw w1 h hs)
 go_enter Tryz.func245,Tryz.ntmps245
 go_wp2_with fail
 with_reducible refine HX.out.mono ?_
 rintro e w1 ⟨rfl,hw,hb⟩
 have HB:=Ql4 hb
 have HE:=Ql4 (HR.out w.heap.size w1 (eWs w1 _ ⟨0,0,0,0⟩ (hw _)))
 clear hw hb
 go_wp2_with fail
 with_reducible refine HE.out.mono ?_
 rintro e w2 (⟨A,c,rfl,h1,h2,h3,h4⟩|⟨rfl,h1,h2⟩)
 ·have HQ:Hid (RdE s w (.returned (.tuple #[.slice A (Qr s).length c,.int .i64 0])) w2):= .inl ⟨A,c,rfl,h1,h2,Qzb h3 HB.out.size,HB.out.trans (h4.mono HB.out.size)⟩
  clear h1 h2 h3 h4
  go_wp2_with fail
  refine bodyPost_ret (v:= .tuple #[.slice A (Qr s).length c,.int .i64 0]) (by simp [results,Tryz.results245,go_sem]) rfl HQ.out
 ·have HQ:Hid (RdE s w (.returned (.tuple #[.slice none 0 0,.int .i64 3])) w2):= .inr ⟨rfl,h1,HB.out.trans (h2.mono HB.out.size)⟩
  clear h1 h2
  go_wp2_with fail
  refine bodyPost_ret (v:= .tuple #[.slice none 0 0,.int .i64 3]) (by simp [results,Tryz.results245,go_sem]) rfl HQ.out
set_option maxHeartbeats 4000000 in
set_option maxRecDepth 100000 in
theorem Lc (s:ByteArray) (w:World) (hs:s.size≤1000000):Calls Tryz.prog 247 #[.string s] w (RdK s w):=by
 have HX:=Ql4 (Vs w)
 have HR:=Ql4 (fun gw w1 h=>Qf7 s gw w1 h hs)
 go_enter Tryz.func247,Tryz.ntmps247
 go_wp2_with fail
 with_reducible refine HX.out.mono ?_
 rintro e w1 ⟨rfl,hw,hb⟩
 have HB:=Ql4 hb
 have HE:=Ql4 (HR.out w.heap.size w1 (kWs w1 _ ⟨0,0⟩ (hw _)))
 clear hw hb
 go_wp2_with fail
 with_reducible refine HE.out.mono ?_
 rintro e w2 (⟨A,c,rfl,h1,h2,h3,h4⟩|⟨rfl,h1,h2⟩)
 ·have HQ:Hid (RdK s w (.returned (.tuple #[.slice A (Ql s).length c,.int .i64 0])) w2):= .inl ⟨A,c,rfl,h1,h2,Qzb h3 HB.out.size,HB.out.trans (h4.mono HB.out.size)⟩
  clear h1 h2 h3 h4
  go_wp2_with fail
  refine bodyPost_ret (v:= .tuple #[.slice A (Ql s).length c,.int .i64 0]) (by simp [results,Tryz.results247,go_sem]) rfl HQ.out
 ·have HQ:Hid (RdK s w (.returned (.tuple #[.slice none 0 0,.int .i64 3])) w2):= .inr ⟨rfl,h1,HB.out.trans (h2.mono HB.out.size)⟩
  clear h1 h2
  go_wp2_with fail
  refine bodyPost_ret (v:= .tuple #[.slice none 0 0,.int .i64 3]) (by simp [results,Tryz.results247,go_sem]) rfl HQ.out
def I64 (x:Int):Prop:= -9223372036854775808≤x∧x≤9223372036854775807
def ErrAt (w:World) (v:Value):Prop:=∃b op pg t x,v= .iface 183 (.pointer (some ⟨b,0,none⟩))∧Whole w b 187 #[.string op,.int .i64 pg,.iface t x]
theorem ErrAt.below {w w':World} {v:Value} (h:ErrAt w v) (hb:Below w.heap.size w w'):ErrAt w' v:=by
 obtain ⟨b,op,pg,t,x,h1,h2⟩:=h
 exact ⟨b,op,pg,t,x,h1,h2.keep (Keep.below (F:=fun _=>False) hb) (fun h=>h)⟩
set_option maxHeartbeats 4000000 in
theorem Qgj (op:ByteArray) (pg:Int) (t:TypeId) (x:Value) (w:World):Calls Tryz.prog 57 #[.string op,.int .i64 pg,.iface t x] w fun y w'=>y= .returned (.iface 183 (.pointer (some ⟨w.heap.size,0,none⟩)))∧w'=w.alloc (.cells #[.string op,.int .i64 pg,.iface t x] 187):=by
 go_enter Tryz.func57,Tryz.ntmps57
 go_wp2_with fail
 go_ret
 exact ⟨rfl,rfl⟩
theorem Gf (op:ByteArray) (pg:Int) (t:TypeId) (x:Value) (w:World):Calls Tryz.prog 57 #[.string op,.int .i64 pg,.iface t x] w fun z w'=>∃y,z= .returned (.iface 183 y)∧ErrAt w' (.iface 183 y)∧Below w.heap.size w w':=by
 refine (Qgj op pg t x w).mono ?_
 rintro z w' ⟨rfl,rfl⟩
 exact ⟨_,rfl,⟨_,op,pg,t,x,rfl,Whole.new w _ _⟩,(Below.refl _ _).alloc (Nat.le_refl _) _⟩
def R5 (o:Option (Int×ByteArray)) (w:World) (x:Ending) (w':World):Prop:=
 match o with
 |some p=>x= .returned (.tuple #[.int .i64 p.1,.string p.2,.nilIface])∧Below w.heap.size w w'
 |none=>∃t e,x= .returned (.tuple #[.int .i64 0,.string ⟨#[]⟩,.iface t e])∧Below w.heap.size w w'
structure Gtr where
 g:Nat
 la:Array Value
 lb:Array Value
 B:Int→Option (Int×ByteArray)
 inv:World→Prop
 below:∀{w w':World},inv w→Below w.heap.size w w'→inv w'
 eg:∀args w,(callFunc g args).run Tryz.prog w= .ok (.enter g args) w
 sz:∀pg p,B pg=some p→p.2.size≤1000000
 get:∀w pg,inv w→I64 pg→Calls Tryz.prog g (la.push (.int .i64 pg)++lb) w (R5 (B pg) w)
def Yz (pg top n least:Int):Bool:=(decide (pg≠top) && decide (n < 4)) || decide (n < least)
set_option maxHeartbeats 4000000 in
set_option maxRecDepth 100000 in
theorem Mg (r:Nat) (pg top n least:Int) (w:World) (h:w.cell? ⟨r,1,none⟩=some (.int .i64 top)):
  Calls Tryz.prog 246 #[.pointer (some ⟨r,0,none⟩),.int .i64 pg,.int .i64 n,.int .i64 least] w fun x w'=>x= .returned (.bool (Yz pg top n least))∧w=w':=by
 unfold Yz
 by_cases h1:pg=top
 ·subst h1
  by_cases h3:n < least
  ·go_enter Tryz.func246,Tryz.ntmps246
   go_wp2_with fail
   go_ret
   exact ⟨by simp [h3],rfl⟩
  ·go_enter Tryz.func246,Tryz.ntmps246
   go_wp2_with fail
   go_ret
   exact ⟨by simp [h3],rfl⟩
 ·by_cases h2:n < 4
  ·go_enter Tryz.func246,Tryz.ntmps246
   go_wp2_with fail
   go_ret
   exact ⟨by simp [h1,h2],rfl⟩
  ·by_cases h3:n < least
   ·go_enter Tryz.func246,Tryz.ntmps246
    go_wp2_with fail
    go_ret
    exact ⟨by simp [h1,h2,h3],rfl⟩
   ·go_enter Tryz.func246,Tryz.ntmps246
    go_wp2_with fail
    go_ret
    exact ⟨by simp [h1,h2,h3],rfl⟩
def Ne:{h:Nat}→Nd h→Prop
 |0,n=>1≤n.l.length
 |_+1,n=>1≤n.ks.length∧∀k∈n.ks,Ne k
set_option maxHeartbeats 4000000 in
theorem Be (w:World):∀(h:Nat) (b:Nat) (F:List Nat) (n:Nd h),NdAt w F (.iface (ndT h) (.pointer (some ⟨b,0,none⟩))) n→Ne n→
  Calls Tryz.prog (fiF h) #[.pointer (some ⟨b,0,none⟩)] w fun e w'=>e= .returned (.int .i64 (Qb n))∧w=w'
 |0,b,F,n,⟨b',g,c,h1,h2,h3,h4⟩,hs=>by
  obtain rfl:=J6 h2
  clear h2
  have hs':1≤(Nd.l n).length:=hs
  have HR:Hid (Qb n=match n.l with|[]=>0|e::_=>e.fr):=by show _=_;unfold Qb;rfl
  obtain ⟨e,r,hl⟩:∃e r,Nd.l n=e::r:=by
   cases hl:Nd.l n with
   |nil=>rw [hl] at hs';simp at hs'
   |cons e r=>exact ⟨e,r,rfl⟩
  rw [HR.out,hl]
  rw [hl] at h3 h4
  have c1:=h3.cell 1
  simp at c1
  have d0:=h4.cell (Kb (e::r) 0 e rfl).1
  simp at d0
  have hp:(0:Int) < ((r.length:Int)+1):=by omega
  have hp':0 < r.length+1:=by omega
  clear h1 h4 h3 hl hs' hs HR
  obtain ⟨m,hm⟩:∃m,r.length=m:=⟨_,rfl⟩
  rw [hm] at c1 hp hp'
  clear hm
  show Calls Tryz.prog 387 _ w _
  go_enter Tryz.func387,Tryz.ntmps387
  go_wp2_with fail
  go_ret
  exact ⟨rfl,rfl⟩
 |h+1,b,F,n,⟨b',g,c,ds,h1,h2,h3,h4,h5,h6⟩,hs=>by
  obtain rfl:=J6 h2
  clear h2
  have hs':1≤(Nd.ks n).length:=hs.1
  cases ds with
  |nil=>rw [h4] at hs';simp at hs'
  |cons d ds=>
   have hd:=h6 d (by simp)
   have hkw:Ne d.2.2:=hs.2 d.2.2 (by rw [h4];simp)
   obtain ⟨kb,kF,hk1,hk2⟩:=hd.form
   have hr:Qb n=Qb d.2.2:=by show (match n.ks with|[]=>(0:Int)|k::_=>Qb k)=_;rw [h4];rfl
   rw [hr]
   rw [h4] at h3
   have c1:=h3.cell 1
   simp at c1
   have d0:=h5.cell (j:=0) (v:=d.2.1) rfl
   rw [hk2] at hd d0
   have HC:=Ql4 (Be w h kb d.1 d.2.2 hd hkw)
   have hme:=Qy1 (.pointer (some ⟨kb,0,none⟩)) w h
   have hen:=Qus #[.pointer (some ⟨kb,0,none⟩)] w h
   obtain ⟨x,hx⟩:∃x,Qb d.2.2=x:=⟨_,rfl⟩
   rw [hx] at HC ⊢
   have hp:(0:Int) < ((ds.length:Int)+1):=by omega
   have hp':0 < ds.length+1:=by omega
   obtain ⟨m,hm⟩:∃m,ds.length=m:=⟨_,rfl⟩
   rw [hm] at c1 hp hp'
   clear hm h1 h3 h4 h5 h6 hs' hs hd hkw hk1 hk2 hr hx
   show Calls Tryz.prog 373 _ w _
   go_enter Tryz.func373,Tryz.ntmps373
   go_wp2_with fail
   refine HC.out.mono ?_
   rintro e w' ⟨rfl,rfl⟩
   go_wp2_with fail
   go_ret
   exact ⟨rfl,rfl⟩
def Zz {h:Nat} (f:Int→Option (Nd h)):List Kid→Option (List (Nd h))
 |[]=>some []
 |k::r=>match f k.at_ with
  |none=>none
  |some d=>if Qb d=k.key then (Zz f r).map (fun t=>d::t) else none
open Classical in
noncomputable def Qd (B:Int→Option (Int×ByteArray)) (top:Int):(h:Nat)→Int→Option (Nd h)
 |0,pg=>match B pg with
  |none=>none
  |some p=>if p.1=2∧(okE p.2=true∧U7 (Qr p.2))∧Yz pg top (Qr p.2).length 1=false then some (mkL pg (Qr p.2)) else none
 |h+1,pg=>match B pg with
  |none=>none
  |some p=>if p.1=3∧(okK p.2=true∧Gb (Ql p.2))∧Yz pg top (Ql p.2).length 2=false then (Zz (Qd B top h) (Ql p.2)).map (fun t=>mkI pg t) else none
def Xp {h:Nat} (o:Option (Nd h)) (w:World) (x:Ending) (w':World):Prop:=
 match o with
 |some n=>∃F b,x= .returned (.tuple #[Zl h b,.nilIface])∧NdAt w' F (Zl h b) n∧F.Nodup∧(∀k∈F,w.heap.size≤k)∧Ne n∧Below w.heap.size w w'
 |none=>∃e,x= .returned (.tuple #[.nilIface,.iface 183 e])∧ErrAt w' (.iface 183 e)∧Below w.heap.size w w'
def RdAt (K:Gtr) (w:World) (r:Nat) (top:Int):Prop:=Whole w r 287 #[.func (.func K.g) K.la K.lb,.int .i64 top]∧K.inv w
theorem RdAt.below {K:Gtr} {w w':World} {r:Nat} {top:Int} (h:RdAt K w r top) (hb:Below w.heap.size w w'):RdAt K w' r top:=
 ⟨h.1.keep (Keep.below (F:=fun _=>False) hb) (fun h=>h),K.below h.2 hb⟩
def Qqx (K:Gtr) (h:Nat):Prop:=∀(w:World) (r:Nat) (top pg:Int),RdAt K w r top→I64 pg→
 Calls Tryz.prog 196 #[.pointer (some ⟨r,0,none⟩),.int .i64 pg,.int .i64 ((h:Int)+1)] w (Xp (Qd K.B top h pg) w)
theorem Qy6 {w wq:World} {l:List Ext} {A:Option Addr} {c:Nat} {pg:Int} (h1:1≤l.length) (h:wq.ownsRow w.heap.size 255 4 (.slice A l.length c) l.length (Qz l)) (hw:w.heap.size≤wq.heap.size):
  ∃F,NdAt (wq.alloc (.cells #[.int .i64 pg,.slice A l.length c] 350)) F (Zl 0 wq.heap.size) (mkL pg l)∧F.Nodup∧(∀k∈F,w.heap.size≤k)∧Ne (mkL pg l):=by
 obtain ⟨g,c2,e,hr,hg⟩:=Row.own h h1
 injection e with e1 e2 e3
 subst e1 e3
 have hgl:=hr.lt
 refine ⟨[wq.heap.size,g],P6 ⟨Whole.new _ _ _,hr.keep (Keep.below (F:=fun _=>False) ((Below.refl _ _).alloc (Nat.le_refl _) _)) (fun h=>h)⟩,?_,?_,h1⟩
 ·simp;omega
 ·intro k hk
  simp at hk
  rcases hk with rfl|rfl <;> omega
open Classical in
set_option maxHeartbeats 8000000 in
set_option maxRecDepth 100000 in
theorem Qdp (K:Gtr):Qqx K 0:=by
 intro w r top pg hr hpg
 obtain ⟨g0,la,lb,B,inv,hbel,eg,hsz,hget⟩:=K
 have c0:=hr.1.cell 0
 have c1:=hr.1.cell 1
 simp at c0 c1
 have HG:Hid (Calls Tryz.prog g0 (la.push (.int .i64 pg)++lb) w (R5 (B pg) w)):=hget w pg hr.2 hpg
 have HC1:Hid (∀wq,Below w.heap.size w wq→wq.cell? ⟨r,1,none⟩=some (.int .i64 top)):=fun wq hb=>Qq hb c1
 have HRN:Hid (Qd B top 0 pg=match B pg with|none=>none|some p=>if p.1=2∧(okE p.2=true∧U7 (Qr p.2))∧Yz pg top (Qr p.2).length 1=false then some (mkL pg (Qr p.2)) else none):=by show _=_;rfl
 have HWR:=Ql4 (fun op t x wq=>Gf op pg t x wq)
 have HERR:Hid (∀y wq,Qd B top 0 pg=none→ErrAt wq (.iface 183 y)→Below w.heap.size w wq→Xp (Qd B top 0 pg) w (.returned (.tuple #[.nilIface,.iface 183 y])) wq):=by
  intro y wq h1 h2 h3
  rw [h1]
  exact ⟨y,rfl,h2,h3⟩
 have HSM:=Ql4 (fun wq n hb=>Mg r pg top n 1 wq (HC1.out wq hb))
 show Calls Tryz.prog 196 #[.pointer (some ⟨r,0,none⟩),.int .i64 pg,.int .i64 1] w (Xp (Qd B top 0 pg) w)
 cases hgb:B pg with
 |none=>
  rw [hgb] at HG HRN
  have HNN:Hid (Qd B top 0 pg=none):=HRN.out
  clear hr hpg hgb hget hbel hsz HRN HSM HC1
  go_enter Tryz.func196,Tryz.ntmps196
  go_wp2_with fail
  with_reducible refine HG.out.mono ?_
  rintro e w1 ⟨t1,x1,rfl,hb1⟩
  have HB1:=Ql4 hb1
  clear hb1
  go_wp2_with fail
  with_reducible refine (HWR.out _ _ _ _).mono ?_
  rintro e w2 ⟨y,rfl,he2,hb2⟩
  have HE:=Ql4 (HERR.out y w2 HNN.out he2 (HB1.out.trans (hb2.mono HB1.out.size)))
  clear he2 hb2
  go_wp2_with fail
  refine bodyPost_ret (v:= .tuple #[.nilIface,.iface 183 y]) (by simp [results,Tryz.results196,go_sem]) rfl HE.out
 |some p=>
  obtain ⟨kd,s⟩:=p
  have hss:=hsz _ _ hgb
  rw [hgb] at HG HRN
  simp only at hss
  have HRL:=Ql4 (fun wq=>Pe s wq hss)
  clear hr hpg hgb hget hbel hsz HC1
  go_enter Tryz.func196,Tryz.ntmps196
  go_wp2_with fail
  with_reducible refine HG.out.mono ?_
  rintro e w1 ⟨rfl,hb1⟩
  have HB1:=Ql4 hb1
  clear hb1
  go_wp2_with fail
  with_reducible refine (HWR.out _ _ _ _).mono ?_
  rintro e w2 ⟨y,rfl,he2,hb2⟩
  have HE2:=Ql4 he2
  have HB2:=Ql4 (HB1.out.trans (hb2.mono HB1.out.size))
  have HL2:=Ql4 (HRL.out w2)
  clear he2 hb2
  go_wp2_with fail
  with_reducible refine HL2.out.mono ?_
  rintro e w3 (⟨A,c,rfl,k1,k2,k3,k4⟩|⟨rfl,k1,k2⟩)
  ·obtain ⟨n,hn⟩:∃n,(Qr s).length=n:=⟨_,rfl⟩
   have hn8:1≤n∧n≤8:=by
    unfold U7 Lr at k2
    simp at k2
    omega
   have hni:(n:Int)≤8:=by omega
   have HB3:=Ql4 (HB2.out.trans (k4.mono HB2.out.size))
   have HE3:=Ql4 (HE2.out.below k4)
   have HMK:=Ql4 (fun pg=>Qy6 (pg:=pg) (w:=w) (by omega) (Qzb k3 HB2.out.size) HB3.out.size)
   rw [hn] at HMK ⊢
   by_cases hk:kd=2
   ·subst hk
    obtain ⟨sb,hsb⟩:∃sb,Yz pg top n 1=sb:=⟨_,rfl⟩
    have HS3:=Ql4 (HSM.out w3 n HB3.out)
    rw [hsb] at HS3
    cases sb with
    |true=>
     have HNN:Hid (Qd B top 0 pg=none):=by
      show _=_
      rw [HRN.out]
      exact if_neg (by rw [hn];rintro ⟨_,_,h⟩;rw [hsb] at h;cases h)
     have HE:=Ql4 (HERR.out y w3 HNN.out HE3.out HB3.out)
     clear k1 k2 k3 k4 hn hsb
     go_wp2_with fail
     with_reducible refine HS3.out.mono ?_
     rintro e w4 ⟨rfl,rfl⟩
     go_wp2_with fail
     refine bodyPost_ret (v:= .tuple #[.nilIface,.iface 183 y]) (by simp [results,Tryz.results196,go_sem]) rfl HE.out
    |false=>
     have HSO:Hid (Qd B top 0 pg=some (mkL pg (Qr s))):=by
      show _=_
      rw [HRN.out]
      exact if_pos ⟨rfl,⟨k1,k2⟩,by rw [hn];exact hsb⟩
     have HE:Hid (Xp (Qd B top 0 pg) w (.returned (.tuple #[Zl 0 w3.heap.size,.nilIface])) (w3.alloc (.cells #[.int .i64 pg,.slice A n c] 350))):=by
      show Xp _ _ _ _
      rw [HSO.out]
      obtain ⟨F,m1,m2,m3,m4⟩:=HMK.out pg
      exact ⟨F,_,rfl,m1,m2,m3,m4,HB3.out.alloc HB3.out.size _⟩
     clear k1 k2 k3 k4 hn hsb
     go_wp2_with fail
     with_reducible refine HS3.out.mono ?_
     rintro e w4 ⟨rfl,rfl⟩
     go_wp2_with fail
     refine bodyPost_ret (v:= .tuple #[Zl 0 w3.heap.size,.nilIface]) (by simp [results,Tryz.results196,go_sem,Zl,ndT]) rfl HE.out
   ·have HNN:Hid (Qd B top 0 pg=none):=by
     show _=_
     rw [HRN.out]
     exact if_neg (by rintro ⟨h,_⟩;exact hk h)
    have HE:=Ql4 (HERR.out y w3 HNN.out HE3.out HB3.out)
    clear k1 k2 k3 k4 hn
    go_wp2_with fail
    refine bodyPost_ret (v:= .tuple #[.nilIface,.iface 183 y]) (by simp [results,Tryz.results196,go_sem]) rfl HE.out
  ·have HB3:=Ql4 (HB2.out.trans (k2.mono HB2.out.size))
   have HNN:Hid (Qd B top 0 pg=none):=by
    show _=_
    rw [HRN.out]
    exact if_neg (by rintro ⟨_,h,_⟩;exact k1 h)
   have HE:=Ql4 (HERR.out y w3 HNN.out (HE2.out.below k2) HB3.out)
   clear k1 k2
   by_cases hk:kd=2
   ·subst hk
    go_wp2_with fail
    refine bodyPost_ret (v:= .tuple #[.nilIface,.iface 183 y]) (by simp [results,Tryz.results196,go_sem]) rfl HE.out
   ·go_wp2_with fail
    refine bodyPost_ret (v:= .tuple #[.nilIface,.iface 183 y]) (by simp [results,Tryz.results196,go_sem]) rfl HE.out
structure RdW (w:World) (b:Nat) (pg:Int) {h:Nat} (ds:List (Kd h)) (A:Option Addr) (c:Nat) (wr:World):Prop where
 box:Whole wr b 300 #[.int .i64 pg,.slice A ds.length c]
 row:wr.ownsRow w.heap.size 226 1 (.slice A ds.length c) ds.length (ds.map fun d=>d.2.1)
 nds:∀d∈ds,NdAt wr d.1 d.2.1 d.2.2
 nd:(dsF ds).Nodup
 ge:∀k∈dsF ds,w.heap.size≤k∧k≠b∧(Value.slice A ds.length c).ownBlock≠some k
 ne:∀d∈ds,Ne d.2.2
 bel:Below w.heap.size w wr
theorem RdW.below {w wr wq:World} {b:Nat} {pg:Int} {h:Nat} {ds:List (Kd h)} {A:Option Addr} {c:Nat} (hr:RdW w b pg ds A c wr) (hb:Below wr.heap.size wr wq):RdW w b pg ds A c wq:=
 ⟨hr.box.keep (Keep.below (F:=fun _=>False) hb) (fun h=>h),own_below hr.row hb,O8 (Keep.below (F:=fun _=>False) hb) hr.nds (fun _ _ h=>h),hr.nd,hr.ge,hr.ne,hr.bel.trans (hb.mono hr.bel.size)⟩
theorem Qdh {w wq:World} {pg:Int} {h:Nat} (hb:Below w.heap.size w wq):RdW w wq.heap.size pg ([]:List (Kd h)) none 0 (wq.alloc (.cells #[.int .i64 pg,.slice none 0 0] 300)):=
 ⟨Whole.new _ _ _,⟨rfl,.inl ⟨rfl,rfl⟩⟩,fun d hd=>by simp at hd,by simp [dsF],fun k hk=>by simp [dsF] at hk,fun d hd=>by simp at hd,hb.alloc hb.size _⟩
theorem Qdf {w wr w6:World} {b:Nat} {pg:Int} {h:Nat} {ds:List (Kd h)} {A:Option Addr} {c:Nat} {d:Kd h} {g2 c2:Nat} (hwb:w.heap.size≤b) (hr:RdW w b pg ds A c wr) (hd:NdAt wr d.1 d.2.1 d.2.2) (hne:Ne d.2.2) (hnd:d.1.Nodup)
  (hge:∀k∈d.1,w.heap.size≤k∧k≠b∧(Value.slice A ds.length c).ownBlock≠some k∧k∉dsF ds)
  (q1:w6.ownsRow w.heap.size 226 1 (.slice (some ⟨g2,0,none⟩) (ds.length+1) c2) (ds.length+1) ((ds.map fun d=>d.2.1)++[d.2.1]))
  (q2:(wr.alloc (.cells #[d.2.1] 226)).grownBy w6 (Value.slice A ds.length c).ownBlock)
  (q3:(Value.slice A ds.length c).ownBlock=some g2∨g2=(wr.alloc (.cells #[d.2.1] 226)).heap.size):
  (w6.cell? ⟨b,1,none⟩=some (.slice A ds.length c)∧w6.frozen? ⟨b,1,none⟩=false)∧RdW w b pg (ds++[d]) (some ⟨g2,0,none⟩) c2 (w6.setCell ⟨b,1,none⟩ (.slice (some ⟨g2,0,none⟩) (ds.length+1) c2)):=by
 have b6:=(hr.box.alloc (.cells #[d.2.1] 226)).grown q2 (own_ne hr.row hr.box (by decide))
 obtain ⟨v2,hv2⟩:∃v2:Value,.slice (some ⟨g2,0,none⟩) (ds.length+1) c2=v2:=⟨_,rfl⟩
 have hl:(ds++[d]).length=ds.length+1:=by simp
 have b7:Whole (w6.setCell ⟨b,1,none⟩ v2) b 300 #[.int .i64 pg,v2]:=by simpa using b6.set 1 v2
 have hK:Keep (fun k=>k=b∨(Value.slice A ds.length c).ownBlock=some k) wr (w6.setCell ⟨b,1,none⟩ v2):=
  (((Keep.refl _ _).alloc _).grown q2 (fun j hj=>.inl (.inr hj))).setCell (p:=⟨b,1,none⟩) (.inl (.inl rfl)) _
 have hltF:=Qjh hr.nds
 have hlt1:=hd.lt
 refine ⟨⟨b6.cell 1,b6.fz 1⟩,?_,?_,?_,?_,?_,?_,?_⟩
 ·rw [hl,hv2];exact b7
 ·rw [hl,hv2,List.map_append]
  rw [hv2] at q1
  have hkS:Keep (fun j=>j=b) w6 (w6.setCell ⟨b,1,none⟩ v2):=Keep.set1 w6 b 1 _
  exact Qj q1 hkS (fun j hj e=>own_ne q1 b6 (by decide) (by rw [hj,e]))
 ·intro x hx
  rw [hv2]
  rcases List.mem_append.1 hx with hx|hx
  ·refine (hr.nds x hx).keep hK (fun k hk=>?_)
   have:=hr.ge k (Xz hx hk)
   rintro (e|e)
   ·exact this.2.1 e
   ·exact this.2.2 e
  ·obtain rfl:x=d:=by simpa using hx
   refine hd.keep hK (fun k hk=>?_)
   have:=hge k hk
   rintro (e|e)
   ·exact this.2.1 e
   ·exact this.2.2.1 e
 ·have e1:dsF (ds++[d])=dsF ds++d.1:=by simp [dsF]
  rw [e1]
  exact List.nodup_append.2 ⟨hr.nd,hnd,fun a ha b hb e=>(hge b hb).2.2.2 (e▸ha)⟩
 ·intro k hk
  have e1:dsF (ds++[d])=dsF ds++d.1:=by simp [dsF]
  rw [e1] at hk
  have hk2:w.heap.size≤k∧k≠b∧(Value.slice A ds.length c).ownBlock≠some k∧k < wr.heap.size:=by
   rcases List.mem_append.1 hk with hk|hk
   ·exact ⟨(hr.ge k hk).1,(hr.ge k hk).2.1,(hr.ge k hk).2.2,hltF k hk⟩
   ·exact ⟨(hge k hk).1,(hge k hk).2.1,(hge k hk).2.2.1,hlt1 k hk⟩
  refine ⟨hk2.1,hk2.2.1,fun e=>?_⟩
  have e2:g2=k:=by
   have:some g2=some k:=e
   injection this
  rcases q3 with q3|q3
  ·exact hk2.2.2.1 (by rw [q3,e2])
  ·simp at q3;omega
 ·intro x hx
  rcases List.mem_append.1 hx with hx|hx
  ·exact hr.ne x hx
  ·obtain rfl:x=d:=by simpa using hx
   exact hne
 ·rw [hv2]
  exact hr.bel.trans (hK.toBelow hr.bel.size (fun k hk=>by
   rcases hk with rfl|hk
   ·exact hwb
   ·exact (hr.row.lt k hk).1))
theorem Qdl {w wr:World} {b:Nat} {pg:Int} {h:Nat} {ds:List (Kd h)} {A:Option Addr} {c:Nat} (hwb:w.heap.size≤b) (hr:RdW w b pg ds A c wr) (h0:0 < ds.length):
  ∃F,NdAt wr F (Zl (h+1) b) (mkI pg (ds.map fun d=>d.2.2))∧F.Nodup∧(∀k∈F,w.heap.size≤k)∧Ne (mkI pg (ds.map fun d=>d.2.2)):=by
 obtain ⟨g,c',e,hro,hgB⟩:=Row.own hr.row h0
 injection e with e1 e2 e3
 subst e1 e3
 have hne:=own_ne hr.row hr.box (by decide)
 refine ⟨b::g::dsF ds,Vw ⟨hr.box,hro,hr.nds⟩,?_,?_,?_,?_⟩
 ·rw [List.nodup_cons,List.nodup_cons]
  refine ⟨?_,?_,hr.nd⟩
  ·rw [List.mem_cons]
   rintro (e|e)
   ·exact hne (by rw [e];rfl)
   ·exact (hr.ge b e).2.1 rfl
  ·intro e
   exact (hr.ge g e).2.2 rfl
 ·intro k hk
  simp only [List.mem_cons] at hk
  rcases hk with rfl|rfl|hk
  ·exact hwb
  ·exact hgB
  ·exact (hr.ge k hk).1
 ·show 1≤(ds.map fun d=>d.2.2).length
  simp;omega
 ·intro k hk
  obtain ⟨d,hd,rfl⟩:=List.mem_map.1 (show k∈ds.map fun d=>d.2.2 from hk)
  exact hr.ne d hd
def RdS {h:Nat} (f:Int→Option (Nd h)) (ks:List Kid) (j:Nat) (ds:List (Kd h)):Prop:=ds.length=j∧Zz f ks=(Zz f (ks.drop j)).map (fun t=>(ds.map fun d=>d.2.2)++t)
theorem Qdm {h:Nat} (f:Int→Option (Nd h)) (ks:List Kid):RdS f ks 0 []:=⟨rfl,by simp⟩
theorem Qoa {h:Nat} {f:Int→Option (Nd h)} {ks:List Kid} {j:Nat} {ds:List (Kd h)} (hs:RdS f ks j ds) {k:Kid} (hk:ks[j]? =some k):
  (f k.at_=none→Zz f ks=none)∧(∀n,f k.at_=some n→(Qb n≠k.key→Zz f ks=none)∧(Qb n=k.key→∀d:Kd h,d.2.2=n→RdS f ks (j+1) (ds++[d]))):=by
 obtain ⟨h1,h2⟩:=hs
 obtain ⟨hj,rfl⟩:=List.getElem?_eq_some_iff.1 hk
 rw [List.drop_eq_getElem_cons hj] at h2
 refine ⟨fun hn=>?_,fun n hn=>⟨fun hne=>?_,fun he d hd=>⟨by simp [h1],?_⟩⟩⟩
 ·rw [h2];simp [Zz,hn]
 ·rw [h2];simp [Zz,hn,hne]
 ·rw [h2]
  simp only [Zz,hn]
  rw [if_pos he,List.map_append]
  cases Zz f (ks.drop (j+1)) <;> simp [hd]
theorem Qdn {h:Nat} {f:Int→Option (Nd h)} {ks:List Kid} {ds:List (Kd h)} (hs:RdS f ks ks.length ds):Zz f ks=some (ds.map fun d=>d.2.2):=by
 rw [hs.2,List.drop_length];simp [Zz]
open Classical in
set_option maxHeartbeats 16000000 in
set_option maxRecDepth 100000 in
theorem Qoe (K:Gtr) {h:Nat} (hh:h≤50) (ih:Qqx K h):Qqx K (h+1):=by
 intro w r top pg hr hpg
 obtain ⟨g0,la,lb,Bg,inv,hbel,eg,hsz,hget⟩:=K
 have c0:=hr.1.cell 0
 have c1:=hr.1.cell 1
 simp at c0 c1
 have HG:Hid (Calls Tryz.prog g0 (la.push (.int .i64 pg)++lb) w (R5 (Bg pg) w)):=hget w pg hr.2 hpg
 have HC1:Hid (∀wq,Below w.heap.size w wq→wq.cell? ⟨r,1,none⟩=some (.int .i64 top)):=fun wq hb=>Qq hb c1
 have HRN:Hid (Qd Bg top (h+1) pg=match Bg pg with|none=>none|some p=>if p.1=3∧(okK p.2=true∧Gb (Ql p.2))∧Yz pg top (Ql p.2).length 2=false then (Zz (Qd Bg top h) (Ql p.2)).map (fun t=>mkI pg t) else none):=by show _=_;rfl
 have HWR:=Ql4 (fun op t x wq=>Gf op pg t x wq)
 have HERR:Hid (∀y wq,Qd Bg top (h+1) pg=none→ErrAt wq (.iface 183 y)→Below w.heap.size w wq→Xp (Qd Bg top (h+1) pg) w (.returned (.tuple #[.nilIface,.iface 183 y])) wq):=by
  intro y wq h1 h2 h3
  rw [h1]
  exact ⟨y,rfl,h2,h3⟩
 have HSM:=Ql4 (fun wq n hb=>Mg r pg top n 2 wq (HC1.out wq hb))
 obtain ⟨H,hH⟩:∃H:Int,((h+1:Nat):Int)+1=H:=⟨_,rfl⟩
 have HRD:Hid (∀wq k,Below w.heap.size w wq→I64 k→Calls Tryz.prog 196 #[.pointer (some ⟨r,0,none⟩),.int .i64 k,.int .i64 (H - 1)] wq (Xp (Qd Bg top h k) wq)):=by
  intro wq k hb hk
  have:=ih wq r top k (RdAt.below hr hb) hk
  rw [show (h:Int)+1=H - 1 by omega] at this
  exact this
 show Calls Tryz.prog _ #[.pointer (some ⟨r,0,none⟩),.int .i64 pg,.int .i64 (((h+1:Nat):Int)+1)] w (Xp (Qd Bg top (h+1) pg) w)
 rw [hH]
 have hH1:2≤H:=by omega
 have hH2:H≤100:=by omega
 have hH3:¬H=1:=by omega
 clear hH ih
 cases hgb:Bg pg with
 |none=>
  rw [hgb] at HG HRN
  have HNN:Hid (Qd Bg top (h+1) pg=none):=HRN.out
  clear hr hpg hgb hget hbel hsz HRN HSM HC1 HRD
  go_enter Tryz.func196,Tryz.ntmps196
  go_wp2_with fail
  with_reducible refine HG.out.mono ?_
  rintro e w1 ⟨t1,x1,rfl,hb1⟩
  have HB1:=Ql4 hb1
  clear hb1
  go_wp2_with fail
  with_reducible refine (HWR.out _ _ _ _).mono ?_
  rintro e w2 ⟨y,rfl,he2,hb2⟩
  have HE:=Ql4 (HERR.out y w2 HNN.out he2 (HB1.out.trans (hb2.mono HB1.out.size)))
  clear he2 hb2
  go_wp2_with fail
  refine bodyPost_ret (v:= .tuple #[.nilIface,.iface 183 y]) (by simp [results,Tryz.results196,go_sem]) rfl HE.out
 |some p=>
  obtain ⟨kd,s⟩:=p
  have hss:=hsz _ _ hgb
  rw [hgb] at HG HRN
  simp only at hss
  have HRL:=Ql4 (fun wq=>Lc s wq hss)
  clear hr hpg hgb hget hbel hsz HC1
  go_enter Tryz.func196,Tryz.ntmps196
  go_wp2_with fail
  with_reducible refine HG.out.mono ?_
  rintro e w1 ⟨rfl,hb1⟩
  have HB1:=Ql4 hb1
  clear hb1
  go_wp2_with fail
  with_reducible refine (HWR.out _ _ _ _).mono ?_
  rintro e w2 ⟨y,rfl,he2,hb2⟩
  have HE2:=Ql4 he2
  have HB2:=Ql4 (HB1.out.trans (hb2.mono HB1.out.size))
  have HL2:=Ql4 (HRL.out w2)
  clear he2 hb2
  go_wp2_with fail
  with_reducible refine HL2.out.mono ?_
  rintro e w3 (⟨A,c,rfl,k1,k2,k3,k4⟩|⟨rfl,k1,k2⟩)
  ·obtain ⟨ks,hks⟩:∃ks,Ql s=ks:=⟨_,rfl⟩
   rw [hks] at k2 k3 HRN
   obtain ⟨n,hn⟩:∃n,ks.length=n:=⟨_,rfl⟩
   have hn8:2≤n∧n≤8:=by have:=k2.1;have:=k2.2.1;omega
   have hni:(n:Int)≤8:=by omega
   have HB3:=Ql4 (HB2.out.trans (k4.mono HB2.out.size))
   have HE3:=Ql4 (HE2.out.below k4)
   have HKB:Hid (∀k∈ks,I64 k.key∧I64 k.at_):=fun k hk=>by
    have:=k2.2.2.1 k hk
    unfold Og at this
    simp at this
    unfold I64
    omega
   rw [hn] at k3
   rw [hks,hn]
   by_cases hk:kd=3
   ·subst hk
    obtain ⟨sb,hsb⟩:∃sb,Yz pg top n 2=sb:=⟨_,rfl⟩
    have HS3:=Ql4 (HSM.out w3 n HB3.out)
    rw [hsb] at HS3
    cases sb with
    |true=>
     have HNN:Hid (Qd Bg top (h+1) pg=none):=by
      show _=_
      rw [HRN.out]
      exact if_neg (by simp only;rw [hn];rintro ⟨_,_,h⟩;rw [hsb] at h;cases h)
     have HE:=Ql4 (HERR.out y w3 HNN.out HE3.out HB3.out)
     clear k1 k2 k3 k4 hn hsb hks
     go_wp2_with fail
     with_reducible refine HS3.out.mono ?_
     rintro e w4 ⟨rfl,rfl⟩
     go_wp2_with fail
     refine bodyPost_ret (v:= .tuple #[.nilIface,.iface 183 y]) (by simp [results,Tryz.results196,go_sem]) rfl HE.out
    |false=>
     have HSO:Hid (Qd Bg top (h+1) pg=(Zz (Qd Bg top h) ks).map (fun t=>mkI pg t)):=by
      show _=_
      rw [HRN.out]
      exact if_pos ⟨rfl,⟨k1,k2⟩,by rw [hn];exact hsb⟩
     obtain ⟨gk,rfl,_,hgl,hgf,hkc,_⟩:=Qo k3 (by omega)
     have HKC:Hid (∀(j:Nat) (k:Kid) wq,ks[j]? =some k→Below w3.heap.size w3 wq→wq.cell? ⟨gk,j * 2,none⟩=some (.int .i64 k.key)∧wq.cell? ⟨gk,j * 2+1,none⟩=some (.int .i64 k.at_)):=by
      intro j k wq hj hb
      obtain ⟨d0,d1⟩:=Ou ks j k hj
      exact ⟨Qq hb (hkc _ _ d0),Qq hb (hkc _ _ d1)⟩
     have HNL:=Ql4 hn
     have HNW:=Ql4 (Qdh (h:=h) (pg:=pg) (Below.refl w3.heap.size w3))
     obtain ⟨b,hb⟩:∃b,w3.heap.size=b:=⟨_,rfl⟩
     obtain ⟨w4,hw4⟩:∃w4,w3.alloc (.cells #[.int .i64 pg,.slice none 0 0] 300)=w4:=⟨_,rfl⟩
     have hb4:Below w3.heap.size w3 w4:=by rw [←hw4];exact (Below.refl _ _).alloc (Nat.le_refl _) _
     have HW4:Hid (RdW w3 b pg ([]:List (Kd h)) none 0 w4):=by
      show RdW _ _ _ _ _ _ _
      rw [←hw4,←hb]
      exact HNW.out
     have HBS:=Ql4 hb
     clear k1 k2 k3 k4 hn hsb hks hgl hgf hkc HNW hb4
     go_wp2_with fail
     with_reducible refine HS3.out.mono ?_
     rintro e w5 ⟨rfl,rfl⟩
     go_wp2_with fail
     try rw [hw4]
     try rw [hb]
     clear hw4 hb
     go_loopw [18,19,20,89] (fun s18 s19 s20 s89 wr=>∃(j:Nat) (B:Option Addr) (d:Nat) (ds:List (Kd h)),j≤n∧s89= .int .i64 j∧Hid (RdW w3 b pg ds B d wr)∧Hid (RdS (Qd Bg top h) ks j ds)) (fun _ _ _ s89 _=>n - (intOf s89).toNat)
     case atStart=>exact ⟨0,none,0,[],Nat.zero_le _,rfl,HW4,Qdm _ _⟩
     case round=>
      obtain ⟨j,B,d,ds,hj,rfl,HW,HS⟩:=hrel
      by_cases hlt:j < n
      ·have hji:(j:Int) < (n:Int):=by omega
       obtain ⟨k,hkj⟩:∃k,ks[j]? =some k:=⟨_,List.getElem?_eq_getElem (by rw [HNL.out];exact hlt)⟩
       obtain ⟨d0,d1⟩:=HKC.out j k wr hkj HW.out.bel
       have HST:=Ql4 (Qoa HS.out hkj)
       have hki:=HKB.out k (List.mem_of_getElem? hkj)
       have HRK:=Ql4 (fun wq hb=>HRD.out wq k.at_ hb hki.2)
       obtain ⟨ky,ka⟩:=k
       simp only at d0 d1 hki HRK HST
       have hk1:=hki.1
       have hk2:=hki.2
       unfold I64 at hk1 hk2
       clear hki hkj
       obtain ⟨qb,hqb⟩:∃qb,wr.heap.size=qb:=⟨_,rfl⟩
       obtain ⟨wx,hwx⟩:∃wx,wr.alloc (.cells #[.int .i64 ky,.int .i64 ka] 355)=wx:=⟨_,rfl⟩
       have HWX:Hid (Whole wx qb 355 #[.int .i64 ky,.int .i64 ka]∧Below wr.heap.size wr wx):=by
        show _∧_
        rw [←hwx,←hqb]
        exact ⟨Whole.new _ _ _,(Below.refl _ _).alloc (Nat.le_refl _) _⟩
       have HBWX:Hid (Below w.heap.size w wx):=HB3.out.trans ((HW.out.bel.mono HB3.out.size).trans (HWX.out.2.mono (Nat.le_trans HB3.out.size HW.out.bel.size)))
       have x0:wx.cell? ⟨qb,0,none⟩=some (.int .i64 ky):=by simpa using HWX.out.1.cell 0
       have x1:wx.cell? ⟨qb,1,none⟩=some (.int .i64 ka):=by simpa using HWX.out.1.cell 1
       go_wp2_with fail
       with_reducible refine (HRK.out wx HBWX.out).mono ?_
       rintro e w7 hpost
       clear hwx hqb d0 d1 x0 x1
       cases hsub:Qd Bg top h ka with
       |none=>
        rw [hsub] at hpost
        obtain ⟨y7,rfl,he7,hb7⟩:=hpost
        have HNN:Hid (Qd Bg top (h+1) pg=none):=by
         show _=_
         rw [HSO.out,HST.out.1 hsub];rfl
        have HE7:=Ql4 (HERR.out y7 w7 HNN.out he7 (HBWX.out.trans (hb7.mono HBWX.out.size)))
        clear he7 hb7 hsub
        go_wp2_with fail
        refine bodyPost_ret (v:= .tuple #[.nilIface,.iface 183 y7]) (by simp [results,Tryz.results196,go_sem]) rfl HE7.out
       |some nd=>
        rw [hsub] at hpost
        obtain ⟨F,b7,rfl,hn7,hf7,hg7,hne7,hb7⟩:=hpost
        have HN7:=Ql4 (And.intro hn7 (And.intro hf7 (And.intro hg7 (And.intro hne7 hb7))))
        have q0:w7.cell? ⟨qb,0,none⟩=some (.int .i64 ky):=by simpa using (HWX.out.1.below hb7 HWX.out.1.lt).cell 0
        have HB7:=Ql4 (HBWX.out.trans (hb7.mono HBWX.out.size))
        have HBR:Hid (Below wr.heap.size wr w7):=HWX.out.2.trans (hb7.mono HWX.out.2.size)
        have HB37:Hid (Below w3.heap.size w3 w7):=HW.out.bel.trans (HBR.out.mono HW.out.bel.size)
        have HKQ:Hid (∀w',Below w7.heap.size w7 w'→w'.cell? ⟨qb,0,none⟩=some (.int .i64 ky)):=fun w' hb=>Qq hb q0
        have hme:=fun b w=>Qy1 (.pointer (some ⟨b,0,none⟩)) w h
        have hen:=fun b w=>Qus #[.pointer (some ⟨b,0,none⟩)] w h
        obtain ⟨fx,hfx⟩:∃fx,Qb nd=fx:=⟨_,rfl⟩
        have HFI:Hid (∀wq,Below w7.heap.size w7 wq→Calls Tryz.prog (fiF h) #[.pointer (some ⟨b7,0,none⟩)] wq fun e w'=>e= .returned (.int .i64 fx)∧wq=w'):=by
         intro wq hb
         rw [←hfx]
         exact Be wq h b7 F nd (hn7.keep (Keep.below (F:=fun _=>False) hb) (fun _ _ h=>h)) hne7
        have HST2:=Ql4 (HST.out.2 nd hsub)
        rw [hfx] at HST2
        clear hn7 hf7 hg7 hne7 hb7 hsub hfx
        unfold Zl
        go_wp2_with fail
        go_region_held3 (fun w'=>w'.cell? ⟨qb,0,none⟩=some (.int .i64 ky)) (first|with_reducible exact q0|exact HKQ.out _ (by repeat (first|with_reducible exact Below.refl _ _|refine Below.drew ?_))) (((with_reducible refine (HFI.out _ (by repeat (first|with_reducible exact Below.refl _ _|refine Below.drew ?_))).mono ?_);rintro e w8 ⟨rfl,rfl⟩))
        have HBD:Hid (Below w7.heap.size w7 w7.drew):=(Below.refl _ _).drew
        obtain ⟨w8,hw8⟩:∃w8,w7.drew=w8:=⟨_,rfl⟩
        rw [hw8] at HBD ⊢
        clear hw8 q0 HKQ
        by_cases hfk:fx=ky
        ·subst hfk
         have HRW:Hid (RdW w3 b pg ds B d w8):=(HW.out.below HBR.out).below HBD.out
         have hdl:ds.length=j:=HS.out.1
         have HSN:Hid (RdS (Qd Bg top h) ks (j+1) (ds++[(F,Zl h b7,nd)])):=HST2.out.2 rfl (F,Zl h b7,nd) rfl
         obtain ⟨V,hV⟩:∃V:List Value,(ds.map fun d=>d.2.1)=V:=⟨_,rfl⟩
         have hrow:=HRW.out.row
         have hbox:=HRW.out.box.cell 1
         rw [hdl,hV] at hrow
         rw [hdl] at hbox
         simp at hbox
         have HOA:=Ql4 (hrow.alloc (.cells #[.iface (ndT h) (.pointer (some ⟨b7,0,none⟩))] 226))
         have HNW:Hid (∀(j':Nat) (u:Value),([.iface (ndT h) (.pointer (some ⟨b7,0,none⟩))]:List Value)[j']? =some u→(w8.alloc (.cells #[.iface (ndT h) (.pointer (some ⟨b7,0,none⟩))] 226)).cell? ((⟨w8.heap.size,0,none⟩:Addr).add j')=some u):=World.news_of_block (by simpa using heap_alloc_new w8 (.cells #[.iface (ndT h) (.pointer (some ⟨b7,0,none⟩))] 226))
         have hone:∀u∈([.iface (ndT h) (.pointer (some ⟨b7,0,none⟩))]:List Value),u.oneCell'=true:=by simp [Value.oneCell']
         have HONE:=Ql4 hone
         have HSZ2:Hid (w3.heap.size≤(w8.alloc (.cells #[.iface (ndT h) (.pointer (some ⟨b7,0,none⟩))] 226)).heap.size):=by
          show _≤_
          have:=HRW.out.bel.size
          simp only [World.size_alloc];omega
         have HEND:Hid (∀g2 c2 w6,w6.ownsRow w3.heap.size 226 1 (.slice (some ⟨g2,0,none⟩) (j+1) c2) (j+1) (V++[.iface (ndT h) (.pointer (some ⟨b7,0,none⟩))])→(w8.alloc (.cells #[.iface (ndT h) (.pointer (some ⟨b7,0,none⟩))] 226)).grownBy w6 (Value.slice B j d).ownBlock→((Value.slice B j d).ownBlock=some g2∨g2=(w8.alloc (.cells #[.iface (ndT h) (.pointer (some ⟨b7,0,none⟩))] 226)).heap.size)→(w6.cell? ⟨b,1,none⟩=some (.slice B j d)∧w6.frozen? ⟨b,1,none⟩=false)∧RdW w3 b pg (ds++[(F,Zl h b7,nd)]) (some ⟨g2,0,none⟩) c2 (w6.setCell ⟨b,1,none⟩ (.slice (some ⟨g2,0,none⟩) (j+1) c2))):=by
          intro g2 c2 w6 q1 q2 q3
          obtain ⟨p1,p2,p3,p4,p5⟩:=HN7.out
          have hrl:=HRW.out
          have hltB:=HW.out.box.lt
          have hltF:=Qjh HW.out.nds
          have hwx:=HWX.out.2.size
          have hltR:∀k,(Value.slice B ds.length d).ownBlock=some k→k < wr.heap.size:=fun k hk=>(HW.out.row.lt k hk).2
          rw [←hdl] at q1 q2 q3 ⊢
          rw [←hV] at q1
          refine Qdf (by rw [←HBS.out];exact Nat.le_refl _) hrl (p1.keep (Keep.below (F:=fun _=>False) HBD.out) (fun _ _ h=>h)) p4 p2 (fun k hk=>?_) q1 q2 q3
          have h1:=p3 k hk
          have h2:=HW.out.bel.size
          refine ⟨by omega,by omega,fun e=>by have:=hltR k e;omega,fun e=>by have:=hltF k e;omega⟩
         obtain ⟨i0,hi0,hz0,hz1,hz2⟩:=info_parts Qbc
         have HI0:=Ql4 hi0
         have HZ0:=Ql4 hz0
         have HZ1:=Ql4 hz1
         have HZ2:=Ql4 hz2
         have hj8:(j:Int)≤8:=by omega
         clear hi0 hz0 hz1 hz2 hone hrow hV
         go_wp2_with (at_builtin;go_must (refine wpList_append_lies _ rfl (.tmp 115) (.tmp 117) 291 rfl w3.heap.size 226 i0 _ 1 16 Tryz.underlying291 HI0.out HZ0.out HZ1.out HZ2.out rfl (by omega) (.slice B j d) j V rfl HOA.out ⟨w8.heap.size,0,none⟩ 1 1 [.iface (ndT h) (.pointer (some ⟨b7,0,none⟩))] rfl rfl HNW.out HONE.out (by omega) (by simp only [maxLen];omega) (by omega) HSZ2.out _ rfl ?_;intro g2 c2 w6 hown6 hg6 hat6 _;obtain ⟨⟨z0,z1⟩,hfin⟩:=HEND.out g2 c2 w6 hown6 hg6 hat6;have HFIN:=Ql4 hfin;clear hown6 hg6 hat6 hfin))
         have hmeas:n - (intOf (.int .i64 ((j:Int)+1))).toNat < n - (intOf (.int .i64 (j:Int))).toNat:=by simp [intOf];omega
         refine ⟨⟨j+1,_,_,_,?_,?_,HFIN,HSN⟩,hmeas⟩
         ·omega
         ·go_num
        ·have HNN:Hid (Qd Bg top (h+1) pg=none):=by
          show _=_
          rw [HSO.out,HST2.out.1 hfk];rfl
         have HEQ:=Ql4 (HERR.out y w8 HNN.out ((HE3.out.below HB37.out).below HBD.out) (HB7.out.trans (HBD.out.mono HB7.out.size)))
         go_wp2_with fail
         refine bodyPost_ret (v:= .tuple #[.nilIface,.iface 183 y]) (by simp [results,Tryz.results196,go_sem]) rfl HEQ.out
      ·obtain rfl:j=n:=by omega
       have HEQ:Hid (Xp (Qd Bg top (h+1) pg) w (.returned (.tuple #[.iface 297 (.pointer (some ⟨b,0,none⟩)),.nilIface])) wr):=by
        show Xp _ _ _ _
        have hs:=HS.out
        have hle:0 < ds.length:=by rw [hs.1];omega
        rw [←HNL.out] at hs
        rw [HSO.out,Qdn hs]
        obtain ⟨F,m1,m2,m3,m4⟩:=Qdl (by rw [←HBS.out];exact Nat.le_refl _) HW.out hle
        have h3:=HB3.out.size
        exact ⟨F,b,rfl,m1,m2,fun k hk=>by have:=m3 k hk;omega,m4,HB3.out.trans (HW.out.bel.mono h3)⟩
       go_wp2_with fail
       refine bodyPost_ret (v:= .tuple #[.iface 297 (.pointer (some ⟨b,0,none⟩)),.nilIface]) (by simp [results,Tryz.results196,go_sem]) rfl HEQ.out
   ·have HNN:Hid (Qd Bg top (h+1) pg=none):=by
     show _=_
     rw [HRN.out]
     exact if_neg (by rintro ⟨h,_⟩;exact hk h)
    have HE:=Ql4 (HERR.out y w3 HNN.out HE3.out HB3.out)
    clear k1 k2 k3 k4 hn hks
    go_wp2_with fail
    refine bodyPost_ret (v:= .tuple #[.nilIface,.iface 183 y]) (by simp [results,Tryz.results196,go_sem]) rfl HE.out
  ·have HB3:=Ql4 (HB2.out.trans (k2.mono HB2.out.size))
   have HNN:Hid (Qd Bg top (h+1) pg=none):=by
    show _=_
    rw [HRN.out]
    exact if_neg (by rintro ⟨_,h,_⟩;exact k1 h)
   have HE:=Ql4 (HERR.out y w3 HNN.out (HE2.out.below k2) HB3.out)
   clear k1 k2
   by_cases hk:kd=3
   ·subst hk
    go_wp2_with fail
    refine bodyPost_ret (v:= .tuple #[.nilIface,.iface 183 y]) (by simp [results,Tryz.results196,go_sem]) rfl HE.out
   ·go_wp2_with fail
    refine bodyPost_ret (v:= .tuple #[.nilIface,.iface 183 y]) (by simp [results,Tryz.results196,go_sem]) rfl HE.out
theorem Qb8 (K:Gtr) (h:Nat) (hh:h≤40):Qqx K h:=by
 induction h with
 |zero=>exact Qdp K
 |succ h ih=>exact Qoe K (by omega) (ih (by omega))
theorem Qbh {l:List UInt8} {i:Nat} {x:UInt8} (h:l[i]? =some x):Qn ⟨l.toArray⟩ i=(x.toNat:Int):=by
 obtain ⟨h1,h2⟩:=List.getElem?_eq_some_iff.1 h
 unfold Qn
 rw [dif_pos (by show i < l.toArray.size;simpa using h1)]
 have:(⟨l.toArray⟩:ByteArray)[i]'(by show i < l.toArray.size;simpa using h1)=x:=by
  show l.toArray[i]'_=x
  simpa using h2
 rw [this]
theorem Wy {α:Type} {R:α→List UInt8} {m:Nat}:∀(l:List α) (i:Nat) (x:α) (d:Nat),(∀y,(R y).length=m)→l[i]? =some x→d < m→(l.flatMap R)[m * i+d]? =(R x)[d]?
 |[],i,x,d,_,h,_=>by simp at h
 |y::l,0,x,d,hR,h,hd=>by
  simp at h
  subst h
  rw [List.flatMap_cons,List.getElem?_append_left (by rw [hR];omega)]
  simp
 |y::l,i+1,x,d,hR,h,hd=>by
  have ih:=Wy l i x d hR (by simpa using h) hd
  rw [List.flatMap_cons,List.getElem?_append_right (by rw [hR,Nat.mul_succ];omega),hR,←ih]
  congr 1
  rw [Nat.mul_succ];omega
def bq (n:Int) (j:Nat):UInt8:=UInt8.ofNat (n / (256 ^ j:Int) % 256).toNat
theorem Yn (n:Int) (j:Nat):((bq n j).toNat:Int)=n / 256 ^ j % 256:=Dm _ (Int.emod_nonneg _ (by decide)) (Int.emod_lt_of_pos _ (by decide))
theorem Qen (e:Ext):Km e=[bq e.fr 0,bq e.fr 1,bq e.fr 2,bq e.n 0,bq e.n 1,bq e.n 2,bq e.n 3,bq e.kind 0,bq e.at_ 0,bq e.at_ 1]:=rfl
theorem len8 {n:Nat} (h:n≤8):((UInt8.ofNat n).toNat:Int)=n:=by
 have:=Dm (n:Int) (by omega) (by omega)
 simpa using this
theorem Qx5 {α:Type} {R:α→List UInt8} {m:Nat} (l:List α) (h:∀y,(R y).length=m):(l.flatMap R).length=m * l.length:=by
 induction l with
 |nil=>simp
 |cons y l ih=>rw [List.flatMap_cons,List.length_append,h,ih,List.length_cons,Nat.mul_succ];omega
theorem Qiy {l:List Ext} (h1:1≤l.length) (h8:l.length≤8) (ho:∀e∈l,Qf e=true):okE ⟨(Ky l).toArray⟩=true∧Qr ⟨(Ky l).toArray⟩=l∧(Ky l).length≤81:=by
 have hL:∀y,(Km y).length=10:=fun y=>by rw [Qen];rfl
 have hb0:Qn ⟨(Ky l).toArray⟩ 0=(l.length:Int):=by rw [Qbh (l:=Ky l) (i:=0) (x:=UInt8.ofNat l.length) rfl,len8 h8]
 have hsz:(Ky l).length=1+10 * l.length:=by unfold Ky;rw [List.length_cons,Qx5 l hL];omega
 have hs2:(⟨(Ky l).toArray⟩:ByteArray).size=1+10 * l.length:=by show (Ky l).toArray.size=_;simpa using hsz
 refine ⟨?_,?_,by omega⟩
 ·unfold okE
  rw [hb0,hs2]
  simp
  omega
 ·have hbb:∀(j:Nat) (e:Ext) (d:Nat) (x:UInt8),l[j]? =some e→(Km e)[d]? =some x→d < 10→Qn ⟨(Ky l).toArray⟩ (1+10 * j+d)=(x.toNat:Int):=by
   intro j e d x hj hx hd
   refine Qbh ?_
   unfold Ky
   rw [show 1+10 * j+d=(10 * j+d)+1 by omega,List.getElem?_cons_succ,Wy l j e d hL hj hd]
   exact hx
  apply List.ext_getElem?
  intro i
  by_cases hi:i < l.length
  ·have hj:=List.getElem?_eq_getElem hi
   generalize l[i]=e at hj
   rw [Wo _ i (by rw [hb0];omega),hj]
   have hf:=Qjs (ho e (List.mem_of_getElem? hj))
   have k1:=Qy (ho e (List.mem_of_getElem? hj))
   have hh:=hbb i e
   have e1:leN ⟨(Ky l).toArray⟩ (1+10 * i) 3=e.fr:=F8 _ _ _ _ (by omega) (by have h2:e.end_=e.fr+e.n:=rfl;omega) (by omega) (fun d hd=>by
    match d,hd with
    |0,_=>rw [show 1+10 * i+0=1+10 * i+0 from rfl,hh 0 (bq e.fr 0) hj rfl (by omega),Yn]
    |1,_=>rw [hh 1 (bq e.fr 1) hj rfl (by omega),Yn]
    |2,_=>rw [hh 2 (bq e.fr 2) hj rfl (by omega),Yn])
   have e2:leN ⟨(Ky l).toArray⟩ (1+10 * i+3) 4=e.n:=F8 _ _ _ _ (by omega) (by have h2:e.end_=e.fr+e.n:=rfl;omega) (by omega) (fun d hd=>by
    match d,hd with
    |0,_=>rw [hh 3 (bq e.n 0) hj rfl (by omega),Yn]
    |1,_=>rw [Nat.add_assoc (1+10 * i),hh 4 (bq e.n 1) hj rfl (by omega),Yn]
    |2,_=>rw [Nat.add_assoc (1+10 * i),hh 5 (bq e.n 2) hj rfl (by omega),Yn]
    |3,_=>rw [Nat.add_assoc (1+10 * i),hh 6 (bq e.n 3) hj rfl (by omega),Yn])
   have e3:leN ⟨(Ky l).toArray⟩ (1+10 * i+7) 1=e.kind:=F8 _ _ _ _ (by omega) (by omega) (by omega) (fun d hd=>by
    match d,hd with
    |0,_=>rw [hh 7 (bq e.kind 0) hj rfl (by omega),Yn])
   have e4:leN ⟨(Ky l).toArray⟩ (1+10 * i+8) 2=e.at_:=F8 _ _ _ _ (by omega) (by omega) (by omega) (fun d hd=>by
    match d,hd with
    |0,_=>rw [hh 8 (bq e.at_ 0) hj rfl (by omega),Yn]
    |1,_=>rw [Nat.add_assoc (1+10 * i),hh 9 (bq e.at_ 1) hj rfl (by omega),Yn])
   unfold Qer
   rw [e1,e2,e3,e4]
  ·rw [List.getElem?_eq_none (by rw [Es,hb0];omega),List.getElem?_eq_none (by omega)]
def Xe (top:Bool) (n least:Int):Bool:=if top=true then decide (n < least) else decide (n < 4)
open Classical in
noncomputable def K8 (B:Int→Option (Int×ByteArray)):(h:Nat)→Bool→Int→Option (Nd h)
 |0,t,pg=>match B pg with
  |none=>none
  |some p=>if p.1=2∧(okE p.2=true∧U7 (Qr p.2))∧Xe t (Qr p.2).length 1=false then some (mkL pg (Qr p.2)) else none
 |h+1,t,pg=>match B pg with
  |none=>none
  |some p=>if p.1=3∧(okK p.2=true∧Gb (Ql p.2))∧Xe t (Ql p.2).length 2=false then (Zz (K8 B h false) (Ql p.2)).map (fun t=>mkI pg t) else none
theorem Jt {h:Nat} {f:Int→Option (Nd h)}:∀{ks:List Kid} {ns:List (Nd h)},Zz f ks=some ns→ns.length=ks.length∧∀(j:Nat) (n:Nd h),ns[j]? =some n→∃k,ks[j]? =some k∧f k.at_=some n∧Qb n=k.key
 |[],ns,hr=>by
  injection hr with hr
  subst hr
  exact ⟨rfl,fun j n hn=>by simp at hn⟩
 |k::r,ns,hr=>by
  unfold Zz at hr
  cases hf:f k.at_ with
  |none=>rw [hf] at hr;cases hr
  |some d=>
   rw [hf] at hr
   simp only at hr
   split at hr
   ·rename_i hk
    cases hrr:Zz f r with
    |none=>rw [hrr] at hr;cases hr
    |some t=>
     rw [hrr] at hr
     injection hr with hr
     subst hr
     obtain ⟨i1,i2⟩:=Jt hrr
     refine ⟨by simp [i1],fun j n hn=>?_⟩
     cases j with
     |zero=>simp at hn;subst hn;exact ⟨k,rfl,hf,hk⟩
     |succ j=>simp at hn;exact i2 j n hn
   ·cases hr
theorem Yc {h:Nat} {f g:Int→Option (Nd h)}:∀{ks:List Kid} {ns:List (Nd h)},Zz f ks=some ns→(∀(j:Nat) (k:Kid) (n:Nd h),ks[j]? =some k→f k.at_=some n→ns[j]? =some n→g k.at_=some n)→Zz g ks=some ns
 |[],ns,hr,_=>hr
 |k::r,ns,hr,hg=>by
  unfold Zz at hr ⊢
  cases hf:f k.at_ with
  |none=>rw [hf] at hr;cases hr
  |some d=>
   rw [hf] at hr
   simp only at hr
   split at hr
   ·rename_i hk
    cases hrr:Zz f r with
    |none=>rw [hrr] at hr;cases hr
    |some t=>
     rw [hrr] at hr
     injection hr with hr
     subst hr
     rw [hg 0 k d rfl hf rfl]
     simp only
     rw [if_pos hk,Yc hrr (fun j k' n h1 h2 h3=>hg (j+1) k' n (by simpa using h1) h2 (by simpa using h3))]
     rfl
   ·cases hr
theorem Im {B:Int→Option (Int×ByteArray)} {t:Bool} {pg:Int} {n:Nd 0} (hr:K8 B 0 t pg=some n):∃p,B pg=some p∧p.1=2∧okE p.2=true∧U7 (Qr p.2)∧Xe t (Qr p.2).length 1=false∧n=mkL pg (Qr p.2):=by
 unfold K8 at hr
 cases hg:B pg with
 |none=>rw [hg] at hr;cases hr
 |some p=>
  rw [hg] at hr
  simp only at hr
  split at hr
  ·rename_i hc
   injection hr with hr
   exact ⟨p,rfl,hc.1,hc.2.1.1,hc.2.1.2,hc.2.2,hr.symm⟩
  ·cases hr
open Classical in
theorem Ip {B:Int→Option (Int×ByteArray)} {h:Nat} {t:Bool} {pg:Int} {n:Nd (h+1)} (hr:K8 B (h+1) t pg=some n):∃p ns,B pg=some p∧p.1=3∧okK p.2=true∧Gb (Ql p.2)∧Xe t (Ql p.2).length 2=false∧Zz (K8 B h false) (Ql p.2)=some ns∧n=mkI pg ns:=by
 rw [show K8 B (h+1) t pg=(match B pg with|none=>none|some p=>if p.1=3∧(okK p.2=true∧Gb (Ql p.2))∧Xe t (Ql p.2).length 2=false then (Zz (K8 B h false) (Ql p.2)).map (fun t=>mkI pg t) else none) from rfl] at hr
 cases hg:B pg with
 |none=>rw [hg] at hr;cases hr
 |some p=>
  rw [hg] at hr
  simp only at hr
  split at hr
  ·rename_i hc
   cases hk:Zz (K8 B h false) (Ql p.2) with
   |none=>rw [hk] at hr;cases hr
   |some ns=>
    rw [hk] at hr
    injection hr with hr
    exact ⟨p,ns,rfl,hc.1,hc.2.1.1,hc.2.1.2,hc.2.2,hk,hr.symm⟩
  ·cases hr
theorem Dz {l:List Ext} (h:U7 l):1≤l.length∧l.length≤8:=by
 unfold U7 Lr at h
 simp only [Bool.and_eq_true,decide_eq_true_eq] at h
 exact h.1
theorem G5 {B:Int→Option (Int×ByteArray)}:∀{h:Nat} {t:Bool} {pg:Int} {n:Nd h},K8 B h t pg=some n→Zc n+1≤2 * 8 ^ h∧(flat n).length≤8 ^ (h+1)∧1≤(flat n).length
 |0,t,pg,n,hr=>by
  obtain ⟨p,_,_,_,hm,_,rfl⟩:=Im hr
  obtain ⟨h1,h2⟩:=Dz hm
  exact ⟨Nat.le_refl _,h2,h1⟩
 |h+1,t,pg,n,hr=>by
  obtain ⟨p,ns,_,_,_,hm,_,hk,rfl⟩:=Ip hr
  obtain ⟨h1,h2⟩:=Jt hk
  have h8:ns.length≤8:=by rw [h1];exact hm.2.1
  have hl2:2≤ns.length:=by rw [h1];exact hm.1
  have hall:∀x∈ns,Zc x+1≤2 * 8 ^ h∧(flat x).length≤8 ^ (h+1)∧1≤(flat x).length:=fun x hx=>by
   obtain ⟨j,hj,rfl⟩:=List.mem_iff_getElem.1 hx
   obtain ⟨k,_,hf,_⟩:=h2 j _ (List.getElem?_eq_getElem hj)
   exact G5 hf
  have hsum:∀l:List (Nd h),(∀x∈l,Zc x+1≤2 * 8 ^ h∧(flat x).length≤8 ^ (h+1)∧1≤(flat x).length)→(l.map Zc).sum+l.length≤l.length * (2 * 8 ^ h)∧(Qm l).length≤l.length * 8 ^ (h+1)∧l.length≤(Qm l).length:=by
   generalize 2 * 8 ^ h=X
   generalize 8 ^ (h+1)=Y
   intro l
   induction l with
   |nil=>intro _;exact ⟨by simp,by simp [Qm],by simp [Qm]⟩
   |cons x r ih=>
    intro hx
    have i0:=hx x (by simp)
    have i1:=ih (fun y hy=>hx y (by simp [hy]))
    rw [Q8,List.map_cons,List.sum_cons,List.length_append,List.length_cons,Nat.add_one_mul,Nat.add_one_mul]
    omega
  obtain ⟨s1,s2,s3⟩:=hsum ns hall
  have e1:Zc (mkI pg ns)=1+(ns.map Zc).sum:=rfl
  have e2:flat (mkI pg ns)=Qm ns:=rfl
  have m1:ns.length * (2 * 8 ^ h)≤8 * (2 * 8 ^ h):=Nat.mul_le_mul_right _ h8
  have m2:ns.length * 8 ^ (h+1)≤8 * 8 ^ (h+1):=Nat.mul_le_mul_right _ h8
  have p1:8 ^ (h+1)=8 * 8 ^ h:=by rw [Nat.pow_succ];omega
  have p2:8 ^ (h+1+1)=8 * 8 ^ (h+1):=by rw [Nat.pow_succ];omega
  rw [e1,e2,p2,p1]
  rw [p1] at s2 m2
  omega
theorem Uc {pg top n least:Int}:Yz pg top n least=false↔(pg=top∨4≤n)∧least≤n:=by
 unfold Yz
 by_cases h:pg=top <;> simp [h] <;> omega
theorem Ki {t:Bool} {n least:Int} (h:least≤4):Xe t n least=false↔(t=true∨4≤n)∧least≤n:=by
 unfold Xe
 cases t <;> simp <;> omega
open Classical in
theorem Jk {B:Int→Option (Int×ByteArray)} {top pg:Int} {n:Nd 0}:Qd B top 0 pg=some n↔∃p,B pg=some p∧p.1=2∧okE p.2=true∧U7 (Qr p.2)∧((pg=top∨4≤(Qr p.2).length)∧1≤(Qr p.2).length)∧n=mkL pg (Qr p.2):=by
 unfold Qd
 cases hg:B pg with
 |none=>simp
 |some p=>
  simp only
  constructor
  ·intro h
   split at h
   ·rename_i hc
    injection h with h
    have:=Uc.1 hc.2.2
    exact ⟨p,rfl,hc.1,hc.2.1.1,hc.2.1.2,⟨by omega,by omega⟩,h.symm⟩
   ·cases h
  ·rintro ⟨p',h0,h1,h2,h3,h4,rfl⟩
   injection h0 with h0
   subst h0
   exact if_pos ⟨h1,⟨h2,h3⟩,Uc.2 ⟨by omega,by omega⟩⟩
open Classical in
theorem Kk {B:Int→Option (Int×ByteArray)} {top pg:Int} {h:Nat} {n:Nd (h+1)}:Qd B top (h+1) pg=some n↔∃p ns,B pg=some p∧p.1=3∧okK p.2=true∧Gb (Ql p.2)∧((pg=top∨4≤(Ql p.2).length)∧2≤(Ql p.2).length)∧Zz (Qd B top h) (Ql p.2)=some ns∧n=mkI pg ns:=by
 rw [show Qd B top (h+1) pg=(match B pg with|none=>none|some p=>if p.1=3∧(okK p.2=true∧Gb (Ql p.2))∧Yz pg top (Ql p.2).length 2=false then (Zz (Qd B top h) (Ql p.2)).map (fun t=>mkI pg t) else none) from rfl]
 cases hg:B pg with
 |none=>simp
 |some p=>
  simp only
  constructor
  ·intro h
   split at h
   ·rename_i hc
    cases hk:Zz (Qd B top _) (Ql p.2) with
    |none=>rw [hk] at h;cases h
    |some ns=>
     rw [hk] at h
     injection h with h
     have:=Uc.1 hc.2.2
     exact ⟨p,ns,rfl,hc.1,hc.2.1.1,hc.2.1.2,⟨by omega,by omega⟩,hk,h.symm⟩
   ·cases h
  ·rintro ⟨p',ns,h0,h1,h2,h3,h4,h5,rfl⟩
   injection h0 with h0
   subst h0
   rw [if_pos ⟨h1,⟨h2,h3⟩,Uc.2 ⟨by omega,by omega⟩⟩,h5]
   rfl
open Classical in
theorem Bq {B:Int→Option (Int×ByteArray)} {t:Bool} {pg:Int} {p:Int×ByteArray} (h0:B pg=some p) (h1:p.1=2) (h2:okE p.2=true) (h3:U7 (Qr p.2)) (h4:Xe t (Qr p.2).length 1=false):K8 B 0 t pg=some (mkL pg (Qr p.2)):=by
 unfold K8
 rw [h0]
 exact if_pos ⟨h1,⟨h2,h3⟩,h4⟩
open Classical in
theorem Bz {B:Int→Option (Int×ByteArray)} {t:Bool} {pg:Int} {h:Nat} {p:Int×ByteArray} {ns:List (Nd h)} (h0:B pg=some p) (h1:p.1=3) (h2:okK p.2=true) (h3:Gb (Ql p.2)) (h4:Xe t (Ql p.2).length 2=false) (h5:Zz (K8 B h false) (Ql p.2)=some ns):K8 B (h+1) t pg=some (mkI pg ns):=by
 rw [show K8 B (h+1) t pg=(match B pg with|none=>none|some p=>if p.1=3∧(okK p.2=true∧Gb (Ql p.2))∧Xe t (Ql p.2).length 2=false then (Zz (K8 B h false) (Ql p.2)).map (fun t=>mkI pg t) else none) from rfl,h0]
 simp only
 rw [if_pos ⟨h1,⟨h2,h3⟩,h4⟩,h5]
 rfl
theorem Qju {B:Int→Option (Int×ByteArray)} {top:Int}:∀{h:Nat} {t:Bool} {pg:Int} {n:Nd h},(t=true→pg=top)→K8 B h t pg=some n→Qd B top h pg=some n
 |0,t,pg,n,ht,hr=>by
  obtain ⟨p,h0,h1,h2,h3,h4,rfl⟩:=Im hr
  have:=(Ki (by omega)).1 h4
  exact Jk.2 ⟨p,h0,h1,h2,h3,⟨this.1.imp ht (by omega),by omega⟩,rfl⟩
 |h+1,t,pg,n,ht,hr=>by
  obtain ⟨p,ns,h0,h1,h2,h3,h4,h5,rfl⟩:=Ip hr
  have:=(Ki (by omega)).1 h4
  exact Kk.2 ⟨p,ns,h0,h1,h2,h3,⟨this.1.imp ht (by omega),by omega⟩,Yc h5 (fun j k n hk hf hn=>Qju (fun h=>by cases h) hf),rfl⟩
theorem Yj {B:Int→Option (Int×ByteArray)} {top:Int}:∀{h h':Nat} {pg:Int} {n:Nd h} {n':Nd h'},Qd B top h pg=some n→Qd B top h' pg=some n'→h=h'
 |0,0,_,_,_,_,_=>rfl
 |0,h'+1,pg,n,n',hr,hr'=>by
  obtain ⟨p,h0,h1,_⟩:=Jk.1 hr
  obtain ⟨p',_,g0,g1,_⟩:=Kk.1 hr'
  rw [h0] at g0
  injection g0 with g0
  rw [←g0,h1] at g1
  omega
 |h+1,0,pg,n,n',hr,hr'=>by
  obtain ⟨p,h0,h1,_⟩:=Jk.1 hr'
  obtain ⟨p',_,g0,g1,_⟩:=Kk.1 hr
  rw [h0] at g0
  injection g0 with g0
  rw [←g0,h1] at g1
  omega
 |h+1,h'+1,pg,n,n',hr,hr'=>by
  obtain ⟨p,ns,h0,_,_,h3,_,h5,_⟩:=Kk.1 hr
  obtain ⟨p',ns',g0,_,_,_,_,g5,_⟩:=Kk.1 hr'
  rw [h0] at g0
  injection g0 with g0
  subst g0
  obtain ⟨i1,i2⟩:=Jt h5
  obtain ⟨j1,j2⟩:=Jt g5
  have hl:=h3.1
  obtain ⟨k,e1,e2,_⟩:=i2 0 _ (List.getElem?_eq_getElem (by omega))
  obtain ⟨k',f1,f2,_⟩:=j2 0 _ (List.getElem?_eq_getElem (by omega))
  rw [e1] at f1
  injection f1 with f1
  subst f1
  rw [Yj e2 f2]
theorem Mm {B:Int→Option (Int×ByteArray)} {top:Int} {H:Nat} {N:Nd H} (hN:Qd B top H top=some N):∀{h:Nat} {pg:Int} {n:Nd h},h < H→Qd B top h pg=some n→K8 B h false pg=some n
 |0,pg,n,hh,hr=>by
  have hne:pg≠top:=fun e=>by rw [e] at hr;have:=Yj hr hN;omega
  obtain ⟨p,h0,h1,h2,h3,h4,rfl⟩:=Jk.1 hr
  exact Bq h0 h1 h2 h3 ((Ki (by omega)).2 ⟨.inr (by have:=h4.1.resolve_left hne;omega),by omega⟩)
 |h+1,pg,n,hh,hr=>by
  have hne:pg≠top:=fun e=>by rw [e] at hr;have:=Yj hr hN;omega
  obtain ⟨p,ns,h0,h1,h2,h3,h4,h5,rfl⟩:=Kk.1 hr
  exact Bz h0 h1 h2 h3 ((Ki (by omega)).2 ⟨.inr (by have:=h4.1.resolve_left hne;omega),by omega⟩) (Yc h5 (fun j k n hk hf hn=>Mm hN (by omega) hf))
theorem Qdc {B:Int→Option (Int×ByteArray)} {top:Int}:∀{h:Nat} {n:Nd h},Qd B top h top=some n→K8 B h true top=some n
 |0,n,hr=>by
  obtain ⟨p,h0,h1,h2,h3,h4,rfl⟩:=Jk.1 hr
  exact Bq h0 h1 h2 h3 ((Ki (by omega)).2 ⟨.inl rfl,by omega⟩)
 |h+1,n,hr=>by
  obtain ⟨p,ns,h0,h1,h2,h3,h4,h5,rfl⟩:=Kk.1 hr
  exact Bz h0 h1 h2 h3 ((Ki (by omega)).2 ⟨.inl rfl,by omega⟩) (Yc h5 (fun j k n hk hf hn=>Mm hr (by omega) hf))
theorem Eu (B:Int→Option (Int×ByteArray)) (top:Int) (h:Nat):Qd B top h top=K8 B h true top:=by
 cases hd:K8 B h true top with
 |some n=>exact Qju (fun _=>rfl) hd
 |none=>
  cases hn:Qd B top h top with
  |none=>rfl
  |some n=>rw [Qdc hn] at hd;cases hd
theorem Ir {B:Int→Option (Int×ByteArray)}:∀{h:Nat} {t:Bool} {pg:Int} {n:Nd h},K8 B h t pg=some n→Kw n∧n.size≤8∧(t=false→4≤n.size)∧Big n∧1≤n.size∧∀e∈flat n,Qf e=true
 |0,t,pg,n,hr=>by
  obtain ⟨p,h0,h1,h2,h3,h4,rfl⟩:=Im hr
  have hs:=(Ki (by omega)).1 h4
  obtain ⟨m1,m2⟩:=Dz h3
  have h3':=h3
  unfold U7 Lr at h3'
  simp only [Bool.and_eq_true] at h3'
  exact ⟨trivial,m2,fun ht=>by have:=hs.1.resolve_left (by rw [ht];simp);show 4≤(Qr p.2).length;omega,trivial,m1,(Xj _ h3'.2).one⟩
 |h+1,t,pg,n,hr=>by
  obtain ⟨p,ns,h0,h1,h2,h3,h4,h5,rfl⟩:=Ip hr
  have hs:=(Ki (by omega)).1 h4
  obtain ⟨i1,i2⟩:=Jt h5
  have h8:=h3.2.1
  have hl2:=h3.1
  have hall:∀k∈ns,K8 B h false k.at_=some k∨∃q,K8 B h false q=some k:=fun k hk=>by
   obtain ⟨j,hj,rfl⟩:=List.mem_iff_getElem.1 hk
   obtain ⟨q,_,e2,_⟩:=i2 j _ (List.getElem?_eq_getElem hj)
   exact .inr ⟨_,e2⟩
  have hmade:∀k∈ns,Kw k∧k.size≤8∧(false=false→4≤k.size)∧Big k∧1≤k.size∧∀e∈flat k,Qf e=true:=fun k hk=>by
   rcases hall k hk with e|⟨q,e⟩ <;> exact Ir e
  refine ⟨fun k hk=>⟨⟨(hmade k hk).2.2.1 rfl,(hmade k hk).2.1⟩,(hmade k hk).1⟩,by show ns.length≤8;omega,fun ht=>by have:=hs.1.resolve_left (by rw [ht];simp);show 4≤ns.length;omega,by show 2≤ns.length;omega,by show 1≤ns.length;omega,?_⟩
  intro e he
  have hfl:∀l:List (Nd h),(∀k∈l,∀e∈flat k,Qf e=true)→∀e∈Qm l,Qf e=true:=by
   intro l
   induction l with
   |nil=>intro _ e he;simp [Qm] at he
   |cons x r ih=>
    intro hx e he
    rw [Q8] at he
    rcases List.mem_append.1 he with he|he
    ·exact hx x (by simp) e he
    ·exact ih (fun k hk=>hx k (by simp [hk])) e he
  exact hfl ns (fun k hk=>(hmade k hk).2.2.2.2.2) e he
theorem Tt {B:Int→Option (Int×ByteArray)} {h:Nat} {pg:Int} {n:Nd h} (hr:K8 B h true pg=some n):(Tree.top h n).Ok:=by
 obtain ⟨m1,m2,_,m4,m5,_⟩:=Ir hr
 cases h with
 |zero=>exact ⟨m5,m2⟩
 |succ h=>exact ⟨⟨m4,m2⟩,m1⟩
def Ua (T:Tree) (w:World) (x:Ending) (w':World):Prop:=∃p F,x= .returned (.tuple #[.pointer (some ⟨p,0,none⟩),.nilIface])∧TrAt w' F p T∧(∀k∈F,w.heap.size≤k)∧Below w.heap.size w w'
set_option maxHeartbeats 8000000 in
set_option maxRecDepth 100000 in
theorem Qgc (w:World) (g:Value):
  Calls Tryz.prog 132 #[.int .i64 (-1),.int .i64 0,g] w (Ua .no w):=by
 have HNEW:Hid (Calls Tryz.prog 71 #[] w fun x w'=>∃p,x= .returned (.pointer (some ⟨p,0,none⟩))∧Ua .no w (.returned (.tuple #[.pointer (some ⟨p,0,none⟩),.nilIface])) w'):=by
  refine (Ps w).mono ?_
  rintro x w' ⟨rfl,rfl⟩
  exact ⟨_,rfl,_,[w.heap.size],rfl,⟨rfl,Whole.new _ _ _⟩,by simp,(Below.refl _ _).alloc (Nat.le_refl _) _⟩
 go_enter Tryz.func132,Tryz.ntmps132
 go_wp2_with fail
 with_reducible refine HNEW.out.mono ?_
 rintro e w1 ⟨p,rfl,hp⟩
 have HP:=Ql4 hp
 clear hp
 go_wp2_with fail
 refine bodyPost_ret (v:= .tuple #[.pointer (some ⟨p,0,none⟩),.nilIface]) (by simp [results,Tryz.results132,go_sem]) rfl HP.out
def R7 (w:World) (x:Ending) (w':World):Prop:=∃e,x= .returned (.tuple #[.pointer none,.iface 183 e])∧ErrAt w' (.iface 183 e)∧Below w.heap.size w w'
def Iz {h:Nat} (o:Option (Nd h)) (w:World) (x:Ending) (w':World):Prop:=
 match o with
 |some n=>if Ko (flat n)=true then Ua (.top h n) w x w' else R7 w x w'
 |none=>R7 w x w'
set_option maxHeartbeats 8000000 in
set_option maxRecDepth 100000 in
theorem Qxv (K:Gtr) (w:World) (h:Nat) (top:Int) (hb:K.inv w) (ha:I64 top) (hne:top≠-1) (hh:h≤5):
  Calls Tryz.prog 132 #[.int .i64 top,.int .i64 ((h:Int)+1),.func (.func K.g) K.la K.lb] w (Iz (Qd K.B top h top) w):=by
 have HRDK:=Ql4 (Qb8 K h (by omega))
 have HBEL:=Ql4 (fun (w w':World)=>K.below (w:=w) (w':=w'))
 unfold Qqx RdAt at HRDK
 obtain ⟨g0,la,lb,B,inv,hbel,eg,hsz,hget⟩:=K
 simp only at hb HRDK HBEL ⊢
 clear hbel hget hsz
 obtain ⟨H,hH⟩:∃H:Int,(h:Int)+1=H:=⟨_,rfl⟩
 rw [hH]
 obtain ⟨p,hp⟩:∃p,w.heap.size=p:=⟨_,rfl⟩
 obtain ⟨w1,hw1⟩:∃w1,w.alloc (.cells #[.nilIface] 228)=w1:=⟨_,rfl⟩
 obtain ⟨r,hr⟩:∃r,w1.heap.size=r:=⟨_,rfl⟩
 obtain ⟨w2,hw2⟩:∃w2,w1.alloc (.cells #[.func (.func g0) la lb,.int .i64 top] 287)=w2:=⟨_,rfl⟩
 have hb1:Below w.heap.size w w1:=by rw [←hw1];exact (Below.refl _ _).alloc (Nat.le_refl _) _
 have hb2:Below w1.heap.size w1 w2:=by rw [←hw2];exact (Below.refl _ _).alloc (Nat.le_refl _) _
 have hr1:r=p+1:=by rw [←hr,←hp,←hw1];simp
 have hwp:Whole w1 p 228 #[.nilIface]:=by rw [←hw1,←hp];exact Whole.new _ _ _
 have hwr:Whole w2 r 287 #[.func (.func g0) la lb,.int .i64 top]:=by rw [←hw2,←hr];exact Whole.new _ _ _
 have HNEW:Hid (Calls Tryz.prog 71 #[] w fun x w'=>x= .returned (.pointer (some ⟨p,0,none⟩))∧w'=w1):=by
  have:=Ps w
  rw [hp,hw1] at this
  exact this
 have HRD:Hid (Calls Tryz.prog 196 #[.pointer (some ⟨r,0,none⟩),.int .i64 top,.int .i64 H] w2 fun x w3=>
   (∃(b:Nat) (F:List Nat) (n:Nd h),Qd B top h top=some n∧x= .returned (.tuple #[Zl h b,.nilIface])∧(w3.cell? ⟨p,0,none⟩=some .nilIface∧w3.frozen? ⟨p,0,none⟩=false)∧TrAt (w3.setCell ⟨p,0,none⟩ (Zl h b)) (p::F) p (.top h n)∧(∀k∈p::F,p≤k)∧Below w.heap.size w (w3.setCell ⟨p,0,none⟩ (Zl h b)))∨
   (Qd B top h top=none∧∃e,x= .returned (.tuple #[.nilIface,.iface 183 e])∧ErrAt w3 (.iface 183 e)∧Below w.heap.size w w3)):=by
  have:=HRDK.out w2 r top top ⟨hwr,HBEL.out _ _ (HBEL.out _ _ hb hb1) hb2⟩ ha
  rw [hH] at this
  refine this.mono ?_
  intro x w3 hx
  cases hn:Qd B top h top with
  |none=>
   rw [hn] at hx
   obtain ⟨e,rfl,k1,k2⟩:=hx
   exact .inr ⟨rfl,e,rfl,k1,(hb1.trans (hb2.mono hb1.size)).trans (k2.mono (by have:=hb1.size;have:=hb2.size;omega))⟩
  |some n=>
   rw [hn] at hx
   obtain ⟨F,b,rfl,k1,k2,k3,k4,k5⟩:=hx
   have hp1:=hwp.lt
   have h2s:=hb2.size
   have hwp3:=(hwp.below hb2 hwp.lt).below k5 (by omega)
   have hbk:Below w.heap.size w w3:=(hb1.trans (hb2.mono hb1.size)).trans (k5.mono (by have:=hb1.size;omega))
   have hkp:Keep (fun k=>k=p) w3 (w3.setCell ⟨p,0,none⟩ (Zl h b)):=Keep.set1 w3 p 0 _
   have hpF:p∉F:=fun hm=>by have:=k3 p hm;omega
   refine .inl ⟨b,F,n,rfl,rfl,⟨hwp3.cell 0,hwp3.fz 0⟩,⟨F,Zl h b,rfl,by simpa using hwp3.set 0 (Zl h b),⟨k1.keep hkp (fun k hk e=>hpF (e▸hk)),k2⟩,hpF⟩,?_,?_⟩
   ·intro k hk
    rcases List.mem_cons.1 hk with rfl|hk
    ·omega
    ·have:=k3 k hk;omega
   ·exact hbk.trans (hkp.toBelow hbk.size (fun k hk=>by have hk':k=p:=hk;omega))
 have HAL:Hid (∀w4 F (n:Nd h),Qd B top h top=some n→TrAt w4 F p (.top h n)→Calls Tryz.prog 165 #[.pointer (some ⟨p,0,none⟩)] w4 fun x w'=>∃A m c,m=(flat n).length∧x= .returned (.slice A m c)∧w'.ownsRow w4.heap.size 255 4 (.slice A m c) m (Qz (flat n))∧Below w4.heap.size w4 w'):=by
  intro w4 F n hn ht
  rw [Eu] at hn
  have hlen:=(G5 hn).2.1
  have e1:8 ^ (h+1)≤8 ^ 6:=Nat.pow_le_pow_right (by omega) (by omega)
  have e2:8 ^ 6=262144:=by decide
  refine (Qai w4 F p (.top h n) ht (Tt hn) (Ir hn).2.2.2.2.2 (by show (flat n).length≤_;omega)).mono ?_
  rintro x w' ⟨v',rfl,q1,q2⟩
  obtain ⟨A,c,rfl⟩:=Qk q1
  exact ⟨A,_,c,rfl,rfl,q1,q2⟩
 have HCK:Hid (∀wq v m (n:Nd h),Qd B top h top=some n→wq.ownsRow m 255 4 v (flat n).length (Qz (flat n))→Calls Tryz.prog 197 #[v] wq fun x w'=>x= .returned (.bool (Ko (flat n)))∧Below wq.heap.size wq w'):=by
  intro wq v m n hn hv
  rw [Eu] at hn
  have hlen:=(G5 hn).2.1
  have e1:8 ^ (h+1)≤8 ^ 6:=Nat.pow_le_pow_right (by omega) (by omega)
  have e2:8 ^ 6=262144:=by decide
  exact Xd _ v wq (ExtsAt.own hv).1 (by omega)
 have HP:=Ql4 hp
 have HWR:=Ql4 (fun op wq=>Gf op top 28 (.int .i64 3) wq)
 have ht0:(top == -1)=false:=by simpa using hne
 have hH0:(H == 0)=false:=by simp;omega
 have hH1:decide (H < 0)=false:=by simp;omega
 have hH6:decide (6 < H)=false:=by simp;omega
 obtain ⟨o,ho⟩:∃o,Qd B top h top=o:=⟨_,rfl⟩
 rw [ho] at HRD HAL HCK ⊢
 clear hb hb1 hb2 hwp hwr hH hr1 ho ha hne
 go_enter Tryz.func132,Tryz.ntmps132
 go_wp2_with fail
 with_reducible refine HNEW.out.mono ?_
 rintro e wx ⟨rfl,rfl⟩
 go_wp2_with fail
 with_reducible refine HRD.out.mono ?_
 rintro e w3 (⟨b,F,n,rfl,rfl,⟨z0,z1⟩,ht4,hF4,hb4⟩|⟨rfl,e3,rfl,he3,hb3⟩)
 ·obtain ⟨w4,hw4⟩:∃w4,w3.setCell ⟨p,0,none⟩ (Zl h b)=w4:=⟨_,rfl⟩
  rw [hw4] at ht4 hb4
  have HT4:=Ql4 ht4
  have HF4:=Ql4 hF4
  have HB4:=Ql4 hb4
  have HA4:=Ql4 (HAL.out w4 _ n rfl ht4)
  unfold Zl at hw4 ⊢
  clear ht4 hF4 hb4 hw1 hw2 hr hp
  go_wp2_with fail
  with_reducible refine HA4.out.mono ?_
  rintro e w5 ⟨A5,m5,c5,hm5,rfl,ho5,hb5⟩
  have HC5:=Ql4 (HCK.out w5 (.slice A5 m5 c5) _ n rfl (by rw [←hm5];exact ho5))
  have HB5:=Ql4 hb5
  obtain ⟨ck,hck⟩:∃ck,Ko (flat n)=ck:=⟨_,rfl⟩
  rw [hck] at HC5
  have HCKB:=Ql4 hck
  clear ho5 hb5 hm5 hck
  go_wp2_with fail
  with_reducible refine HC5.out.mono ?_
  rintro e w6 ⟨rfl,hb6⟩
  have hbb:Below w4.heap.size w4 w6:=HB5.out.trans (hb6.mono HB5.out.size)
  have HB6:Hid (Below w.heap.size w w6):=HB4.out.trans (hbb.mono HB4.out.size)
  cases ck with
  |true=>
   have HEND:Hid (Iz (some n) w (.returned (.tuple #[.pointer (some ⟨p,0,none⟩),.nilIface])) w6):=by
    show (if Ko (flat n)=true then Ua (.top h n) w _ w6 else R7 w _ w6)
    rw [if_pos HCKB.out]
    refine ⟨p,p::F,rfl,HT4.out.keep (Keep.below (F:=fun _=>False) hbb) (fun _ _ h=>h),fun k hk=>?_,HB6.out⟩
    rw [HP.out]
    exact HF4.out k hk
   clear hb6 hbb
   go_wp2_with fail
   refine bodyPost_ret (v:= .tuple #[.pointer (some ⟨p,0,none⟩),.nilIface]) (by simp [results,Tryz.results132,go_sem]) rfl HEND.out
  |false=>
   clear hb6 hbb
   go_wp2_with fail
   with_reducible refine (HWR.out _ _).mono ?_
   rintro e w7 ⟨y,rfl,he7,hb7⟩
   have HEND:Hid (Iz (some n) w (.returned (.tuple #[.pointer none,.iface 183 y])) w7):=by
    show (if Ko (flat n)=true then Ua (.top h n) w _ w7 else R7 w _ w7)
    rw [if_neg (by rw [HCKB.out];decide)]
    exact ⟨y,rfl,he7,HB6.out.trans (hb7.mono HB6.out.size)⟩
   clear he7 hb7
   go_wp2_with fail
   refine bodyPost_ret (v:= .tuple #[.pointer none,.iface 183 y]) (by simp [results,Tryz.results132,go_sem]) rfl HEND.out
 ·have HEND:Hid (Iz (none:Option (Nd h)) w (.returned (.tuple #[.pointer none,.iface 183 e3])) w3):=⟨e3,rfl,he3,hb3⟩
  clear he3 hb3 hw1 hw2 hr hp
  go_wp2_with fail
  refine bodyPost_ret (v:= .tuple #[.pointer none,.iface 183 e3]) (by simp [results,Tryz.results132,go_sem]) rfl HEND.out
end tr
end Go.Proofs.YtfialjmemcobjaaGreatDoor
