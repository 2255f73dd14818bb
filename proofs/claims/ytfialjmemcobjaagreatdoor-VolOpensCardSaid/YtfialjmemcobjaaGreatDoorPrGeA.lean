/- A part of the proof. -/
import Derived.Test.YtfialjmemcobjaaGreatDoorPrFlB
import Derived.BigQuiet
import Derived.Deep.QuietTactic
import Derived.Deep.RegionHeld3
set_option linter.unusedVariables false
set_option linter.unusedSimpArgs false
namespace Go.Proofs.YtfialjmemcobjaaGreatDoor
namespace ge
open Go.RowKit er
set_option maxHeartbeats 4000000 in
theorem Uo (B P:Int) (w:World) (h1:16≤B) (h2:B≤64) (h3:8≤P) (h4:P≤32):
  Calls Tryz.prog 100 #[.agg #[.int .i64 B,.int .i64 P]] w fun e w'=>e= .returned (.int .i64 0)∧w.alloc (.cells #[.int .i64 B,.int .i64 P] 74)=w':=by
 go_enter Tryz.func100,Tryz.ntmps100
 go_wp2
 go_ret
 exact ⟨rfl,rfl⟩
def Jo (B P:Int):Int:=P * (B - B / 8 - 4) / 16
def Qzr (B P:Int):Int:=Jo B P / 2+16
def Qjn (B P:Int):Int:=(8+P+Qzr B P+1+P - 1) / P
def Oy (B P:Int):Int:=2+B / 8+Qjn B P
theorem Pf (B P:Int) (h1:16≤B) (h2:B≤64) (h3:8≤P) (h4:P≤32):0≤B * P∧B * P≤2048:=by
 constructor
 ·exact Int.mul_nonneg (by omega) (by omega)
 ·calc B * P≤64 * P:=Int.mul_le_mul_of_nonneg_right h2 (by omega)
   _≤2048:=by omega
theorem Qak (B P:Int) (h1:16≤B) (h2:B≤64) (h3:8≤P) (h4:P≤32):0≤P * (B - B / 8 - 4)∧P * (B - B / 8 - 4)≤2048:=by
 have e:0≤B - B / 8 - 4∧B - B / 8 - 4≤64:=by omega
 constructor
 ·exact Int.mul_nonneg (by omega) (by omega)
 ·calc P * (B - B / 8 - 4)≤P * 64:=Int.mul_le_mul_of_nonneg_left e.2 (by omega)
   _≤2048:=by omega
theorem Qi4 (P n:Int) (h3:8≤P) (h5:0≤n):0≤n / P∧n / P≤n:=
 ⟨Int.ediv_nonneg h5 (by omega),Int.ediv_le_self _ h5⟩
theorem Qj6 (B P:Int) (h1:16≤B) (h2:B≤64) (h3:8≤P) (h4:P≤32):0≤Jo B P∧Jo B P≤128:=by
 have:=Qak B P h1 h2 h3 h4;unfold Jo;omega
theorem Qd8 (B P:Int) (h1:16≤B) (h2:B≤64) (h3:8≤P) (h4:P≤32):0≤Qzr B P∧Qzr B P≤128:=by
 have:=Qj6 B P h1 h2 h3 h4;unfold Qzr;omega
theorem Qic (B P:Int) (h1:16≤B) (h2:B≤64) (h3:8≤P) (h4:P≤32):0≤Qjn B P∧Qjn B P≤300:=by
 have:=Qd8 B P h1 h2 h3 h4;unfold Qjn
 have:=Qi4 P (8+P+Qzr B P+1+P - 1) h3 (by omega)
 omega
theorem Qeq (B P:Int) (h1:16≤B) (h2:B≤64) (h3:8≤P) (h4:P≤32):0≤Oy B P∧Oy B P≤400:=by
 have:=Qic B P h1 h2 h3 h4;unfold Oy;omega
theorem Qhh {W w1:World} (hb:Below W.heap.size W w1):(∀b o,b < W.heap.size→w1.cell? ⟨b,o,none⟩=W.cell? ⟨b,o,none⟩)∧(∀b o,b < W.heap.size→w1.frozen? ⟨b,o,none⟩=W.frozen? ⟨b,o,none⟩):=
 ⟨fun b o h=>hb.cell (p:=⟨b,o,none⟩) h,fun b o h=>hb.frozen (p:=⟨b,o,none⟩) h⟩
set_option maxHeartbeats 4000000 in
theorem numbers (B P:Int) (w:World) (h1:16≤B) (h2:B≤64) (h3:8≤P) (h4:P≤32):
  Calls Tryz.prog 101 #[.agg #[.int .i64 B,.int .i64 P]] w fun e w'=>
   e= .returned (.agg #[.int .i64 (B * P),.int .i64 (B / 8),.int .i64 (Jo B P),.int .i64 (Qzr B P),.int .i64 (Oy B P)])∧Below w.heap.size w w':=by
 obtain ⟨a1,a2⟩:=Pf B P h1 h2 h3 h4
 obtain ⟨b1,b2⟩:=Qak B P h1 h2 h3 h4
 have c:=Qi4 P (8+P+(P * (B - B / 8 - 4) / 16 / 2+16)+1+P - 1) h3 (by omega)
 obtain ⟨c1,c2⟩:=c
 go_enter Tryz.func101,Tryz.ntmps101
 go_wp2
 go_region
 go_wp2
 refine bodyPost_ret (v:= .agg #[.int .i64 (B * P),.int .i64 (B / 8),.int .i64 (Jo B P),.int .i64 (Qzr B P),.int .i64 (Oy B P)]) (by simp [results,Tryz.results101,go_sem];exact ⟨rfl,rfl,rfl⟩) rfl ⟨rfl,?_⟩
 exact ((((Below.refl _ _).alloc (Nat.le_refl _) _).alloc (by simp) _).alloc (by simp;omega) _).drew
set_option maxHeartbeats 4000000 in
theorem T9 (B P:Int) (w:World) (h1:16≤B) (h2:B≤64) (h3:8≤P) (h4:P≤32):
  Calls Tryz.prog 37 #[.agg #[.int .i64 B,.int .i64 P]] w fun e w'=>
   e= .returned (.tuple #[.agg #[.int .i64 (B * P),.int .i64 (B / 8),.int .i64 (Jo B P),.int .i64 (Oy B P),.int .i64 (Oy B P+1)],.int .i64 0])∧Below w.heap.size w w':=by
 obtain ⟨c1,c2⟩:=Qeq B P h1 h2 h3 h4
 go_enter Tryz.func37,Tryz.ntmps37
 go_wp2_with (first|(go_at_call 100;refine (Uo _ _ _ h1 h2 h3 h4).mono ?_;rintro e w' ⟨rfl,rfl⟩)|(go_at_call 101;refine (numbers _ _ _ h1 h2 h3 h4).mono ?_;rintro e w1 ⟨rfl,hb⟩;obtain ⟨hc,hf⟩:=Qhh hb;have hz:=hb.size;simp at hz;have hz0:w.heap.size < w1.heap.size:=(by omega);have hz1:w.heap.size+1 < w1.heap.size:=(by omega)))
 refine bodyPost_ret (v:= .tuple #[.agg #[.int .i64 (B * P),.int .i64 (B / 8),.int .i64 (Jo B P),.int .i64 (Oy B P),.int .i64 (Oy B P+1)],.int .i64 0]) (by simp [results,Tryz.results37,go_sem,hc,hz1]) rfl ⟨rfl,?_⟩
 have hb0:=((((Below.refl w.heap.size w).alloc (Nat.le_refl _) _).alloc (by simp) _).alloc (by simp;omega) _).trans (hb.mono (by simp;omega))
 exact (((((hb0.setCell (by simp) _).setCell (by simp) _).setCell (by simp) _).setCell (by simp) _).setCell (by simp) _).alloc (by simp;omega) _
set_option maxHeartbeats 4000000 in
theorem Qu4 (B P g:Int) (w:World) (h1:16≤B) (h2:B≤64) (h3:8≤P) (h4:P≤32) (h:g < 0∨B * P≤g):
  Calls Tryz.prog 200 #[.agg #[.int .i64 B,.int .i64 P],.int .i64 g] w fun e w'=>e= .returned (.int .i64 (-1))∧Below w.heap.size w w':=by
 obtain ⟨a1,a2⟩:=Pf B P h1 h2 h3 h4
 by_cases a:g < 0
 ·clear h
  go_enter Tryz.func200,Tryz.ntmps200
  go_wp2_with (go_at_call 100;refine (Uo _ _ _ h1 h2 h3 h4).mono ?_;rintro e w' ⟨rfl,rfl⟩)
  go_ret
  exact ⟨rfl,(((Below.refl w.heap.size w).alloc (Nat.le_refl _) _).alloc (by simp) _)⟩
 ·have b:B * P≤g:=by omega
  clear h
  go_enter Tryz.func200,Tryz.ntmps200
  go_wp2_with (go_at_call 100;refine (Uo _ _ _ h1 h2 h3 h4).mono ?_;rintro e w' ⟨rfl,rfl⟩)
  go_ret
  exact ⟨rfl,(((Below.refl w.heap.size w).alloc (Nat.le_refl _) _).alloc (by simp) _)⟩
set_option maxHeartbeats 4000000 in
theorem Wv (B P g:Int) (w:World) (h1:16≤B) (h2:B≤64) (h3:8≤P) (h4:P≤32) (h5:0≤g) (h6:g < B * P):
  Calls Tryz.prog 200 #[.agg #[.int .i64 B,.int .i64 P],.int .i64 g] w fun e w'=>e= .returned (.int .i64 (g / P))∧Below w.heap.size w w':=by
 obtain ⟨a1,a2⟩:=Pf B P h1 h2 h3 h4
 have nz:(P == 0)=false:=by simp;omega
 go_enter Tryz.func200,Tryz.ntmps200
 go_wp2_with (go_at_call 100;refine (Uo _ _ _ h1 h2 h3 h4).mono ?_;rintro e w' ⟨rfl,rfl⟩)
 go_ret
 exact ⟨rfl,(((Below.refl w.heap.size w).alloc (Nat.le_refl _) _).alloc (by simp) _)⟩
set_option maxHeartbeats 4000000 in
theorem Hd (B P g:Int) (w:World) (h1:16≤B) (h2:B≤64) (h3:8≤P) (h4:P≤32) (h5:0≤g) (h6:g < B):
  Calls Tryz.prog 316 #[.agg #[.int .i64 B,.int .i64 P],.int .i64 g] w fun e w'=>e= .returned (.int .i64 (g * P))∧Below w.heap.size w w':=by
 have a1:0≤g * P:=Int.mul_nonneg h5 (by omega)
 have a2:g * P≤2048:=by
  calc g * P≤64 * P:=Int.mul_le_mul_of_nonneg_right (by omega) (by omega)
   _≤2048:=by omega
 go_enter Tryz.func316,Tryz.ntmps316
 go_wp2_with (go_at_call 100;refine (Uo _ _ _ h1 h2 h3 h4).mono ?_;rintro e w' ⟨rfl,rfl⟩)
 go_ret
 exact ⟨rfl,(((Below.refl w.heap.size w).alloc (Nat.le_refl _) _).alloc (by simp) _)⟩
end ge
end Go.Proofs.YtfialjmemcobjaaGreatDoor
