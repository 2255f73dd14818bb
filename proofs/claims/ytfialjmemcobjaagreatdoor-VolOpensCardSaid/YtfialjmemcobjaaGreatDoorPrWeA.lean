/- A part of the proof. -/
import Derived.Test.YtfialjmemcobjaaGreatDoorPrFlB
import Derived.Test.YtfialjmemcobjaaGreatDoorPrShA
import Derived.Deep.RegionHeld3
set_option linter.unusedVariables false
set_option linter.unusedSimpArgs false
namespace Go.Proofs.YtfialjmemcobjaaGreatDoor
namespace we
open Go.RowKit er
structure Bk where
 st:Int
 va:Int
 wo:Int
def Bk.val (b:Bk):Value:= .agg #[.int .i64 b.st,.int .i64 b.va,.int .i64 b.wo]
def Ji (l:List Bk):List Value:=l.flatMap fun b=>[.int .i64 b.st,.int .i64 b.va,.int .i64 b.wo]
theorem Lx:∀(l:List Bk) (j:Nat) (m:Bk),l[j]? =some m→
  (Ji l)[j * 3]? =some (.int .i64 m.st)∧(Ji l)[j * 3+1]? =some (.int .i64 m.va)∧(Ji l)[j * 3+2]? =some (.int .i64 m.wo)
 |[],_,_,h=>by simp at h
 |x::r,0,m,h=>by
  simp at h
  subst h
  simp [Ji]
 |x::r,j+1,m,h=>by
  have ih:=Lx r j m (by simpa using h)
  have e:Ji (x::r)= .int .i64 x.st::.int .i64 x.va::.int .i64 x.wo::Ji r:=by simp [Ji]
  rw [e,show (j+1) * 3=j * 3+3 from by omega]
  simpa using ih
theorem Rp (l:List Bk) (m:Bk):Ji (l++[m])=Ji l++[.int .i64 m.st,.int .i64 m.va,.int .i64 m.wo]:=by simp [Ji]
def Ue (b:Bk):Int:=max b.wo 0
theorem Sy (b:Bk) (w:World):
  Calls Tryz.prog 339 #[b.val] w fun e w'=>e= .returned (.int .i64 (Ue b))∧Below w.heap.size w w':=by
 obtain ⟨s,v,o⟩:=b
 show Calls Tryz.prog 339 #[.agg #[.int .i64 s,.int .i64 v,.int .i64 o]] w _
 go_enter Tryz.func339,Tryz.ntmps339
 go_wp2_with fail
 refine bodyPost_ret (v:= .int .i64 (max o 0)) (by simp [results,Tryz.results339,go_sem]) rfl ⟨rfl,(Below.refl _ _).alloc (Nat.le_refl _) _⟩
theorem Qkn (a b:Bk) (w:World):
  Calls Tryz.prog 329 #[a.val,b.val] w fun e w'=>e= .returned (.int .i64 (Lib.compareInt (Ue a) (Ue b)))∧Below w.heap.size w w':=by
 obtain ⟨s,v,o⟩:=a
 obtain ⟨t,x,p⟩:=b
 show Calls Tryz.prog 329 #[.agg #[.int .i64 s,.int .i64 v,.int .i64 o],.agg #[.int .i64 t,.int .i64 x,.int .i64 p]] w _
 have HK:Hid (∀w',Below ((w.alloc (.cells #[.int .i64 s,.int .i64 v,.int .i64 o] 92)).alloc (.cells #[.int .i64 t,.int .i64 x,.int .i64 p] 92)).heap.size ((w.alloc (.cells #[.int .i64 s,.int .i64 v,.int .i64 o] 92)).alloc (.cells #[.int .i64 t,.int .i64 x,.int .i64 p] 92)) w'→(w'.cell? ⟨w.heap.size,0,none⟩=some (.int .i64 s)∧w'.cell? ⟨w.heap.size,1,none⟩=some (.int .i64 v)∧w'.cell? ⟨w.heap.size,2,none⟩=some (.int .i64 o)∧w'.cell? ⟨w.heap.size+1,0,none⟩=some (.int .i64 t)∧w'.cell? ⟨w.heap.size+1,1,none⟩=some (.int .i64 x)∧w'.cell? ⟨w.heap.size+1,2,none⟩=some (.int .i64 p))):=by
  intro w' hb
  have h1:Whole ((w.alloc (.cells #[.int .i64 s,.int .i64 v,.int .i64 o] 92)).alloc (.cells #[.int .i64 t,.int .i64 x,.int .i64 p] 92)) w.heap.size 92 #[.int .i64 s,.int .i64 v,.int .i64 o]:=(Whole.new w _ _).alloc _
  have h2:Whole ((w.alloc (.cells #[.int .i64 s,.int .i64 v,.int .i64 o] 92)).alloc (.cells #[.int .i64 t,.int .i64 x,.int .i64 p] 92)) (w.heap.size+1) 92 #[.int .i64 t,.int .i64 x,.int .i64 p]:=Whole.new' _ _ _ _ (by simp)
  exact ⟨Qq hb (h1.cell 0),Qq hb (h1.cell 1),Qq hb (h1.cell 2),Qq hb (h2.cell 0),Qq hb (h2.cell 1),Qq hb (h2.cell 2)⟩
 have B0:=Ql4 (Below.refl ((w.alloc (.cells #[.int .i64 s,.int .i64 v,.int .i64 o] 92)).alloc (.cells #[.int .i64 t,.int .i64 x,.int .i64 p] 92)).heap.size ((w.alloc (.cells #[.int .i64 s,.int .i64 v,.int .i64 o] 92)).alloc (.cells #[.int .i64 t,.int .i64 x,.int .i64 p] 92))).drew
 have BW:=Ql4 (((Below.refl w.heap.size w).alloc (Nat.le_refl _) (.cells #[.int .i64 s,.int .i64 v,.int .i64 o] 92)).alloc (by simp) (.cells #[.int .i64 t,.int .i64 x,.int .i64 p] 92))
 have HSZ:Hid (w.heap.size≤((w.alloc (.cells #[.int .i64 s,.int .i64 v,.int .i64 o] 92)).alloc (.cells #[.int .i64 t,.int .i64 x,.int .i64 p] 92)).heap.size):=BW.out.size
 go_enter Tryz.func329,Tryz.ntmps329
 go_wp2_with fail
 go_region_held3 (fun w'=>w'.cell? ⟨w.heap.size,0,none⟩=some (.int .i64 s)∧w'.cell? ⟨w.heap.size,1,none⟩=some (.int .i64 v)∧w'.cell? ⟨w.heap.size,2,none⟩=some (.int .i64 o)∧w'.cell? ⟨w.heap.size+1,0,none⟩=some (.int .i64 t)∧w'.cell? ⟨w.heap.size+1,1,none⟩=some (.int .i64 x)∧w'.cell? ⟨w.heap.size+1,2,none⟩=some (.int .i64 p)) (first|exact HK.out _ B0.out|exact HK.out _ HB2.out|exact HK.out _ HB1.out) (first|(go_at_call 129;refine (Tryz.cmp_Compare_int _ _ _).mono ?_;rintro e w3 ⟨rfl,rfl⟩)|(go_at_call 339;have h1:=HB1;refine (Sy ⟨t,x,p⟩ _).mono ?_;rintro e w2 ⟨rfl,hb2⟩;have HB2:=Ql4 (HB1.out.trans (hb2.mono HB1.out.size));clear hb2)|(go_at_call 339;refine (Sy ⟨s,v,o⟩ _).mono ?_;rintro e w1 ⟨rfl,hb1⟩;have HB1:=Ql4 (B0.out.trans (hb1.mono B0.out.size));clear hb1))
 go_wp2_with fail
 go_ret
 exact ⟨rfl,BW.out.trans (HB2.out.mono HSZ.out)⟩
theorem Qcc (k:Int) (w:World):
  Calls Tryz.prog 328 #[.int .i64 k] w fun e w'=>∃g,e= .returned (.func (.func 338) #[] #[.pointer (some ⟨g,0,none⟩)])∧w'.cell? ⟨g,0,none⟩=some (.int .i64 k)∧w.heap.size≤g∧Below w.heap.size w w':=by
 go_enter Tryz.func328,Tryz.ntmps328
 go_wp2_with fail
 go_ret
 exact ⟨w.heap.size,rfl,by simp,Nat.le_refl _,(Below.refl _ _).alloc (Nat.le_refl _) _⟩
theorem Cz (g:Nat) (k:Int) (b:Bk) (w:World) (hg:w.cell? ⟨g,0,none⟩=some (.int .i64 k)):
  Calls Tryz.prog 338 #[b.val,.pointer (some ⟨g,0,none⟩)] w fun e w'=>e= .returned (.bool (b.st == k))∧Below w.heap.size w w':=by
 obtain ⟨s,v,o⟩:=b
 have HG:=Ql4 hg
 have hlt:=World.block_lt_of_cell? _ _ hg
 have c0:=Qq ((Below.refl w.heap.size w).alloc (Nat.le_refl _) (.cells #[.int .i64 s,.int .i64 v,.int .i64 o] 92)) hg
 show Calls Tryz.prog 338 #[.agg #[.int .i64 s,.int .i64 v,.int .i64 o],.pointer (some ⟨g,0,none⟩)] w _
 go_enter Tryz.func338,Tryz.ntmps338
 go_wp2_with fail
 go_ret
 exact ⟨rfl,(Below.refl _ _).alloc (Nat.le_refl _) _⟩
end we
end Go.Proofs.YtfialjmemcobjaaGreatDoor
