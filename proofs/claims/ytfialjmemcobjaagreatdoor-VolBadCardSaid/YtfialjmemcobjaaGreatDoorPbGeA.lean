/- A part of the proof. -/
import Derived.Test.YtfialjmemcobjaaGreatDoorPbFlB
import Derived.BigQuiet
import Derived.Deep.QuietTactic
import Derived.Deep.RegionHeld3
set_option maxRecDepth 100000
set_option maxHeartbeats 16000000
set_option linter.unusedVariables false
set_option linter.unusedSimpArgs false
namespace Go.Proofs.YtfialjmemcobjaaGreatDoor
namespace ge
open Go.RowKit er
theorem Ag(B P:Int)(w:World)(h1:16<=B)(h2:B<=64)(h3:8<=P)(h4:P<=32):
  C 100 #[.agg #[I B,I P]] w λe w'=>e= .returned (I 0)/\w.alloc (.cells #[I B,I P] 74)=w':=by
 go_in
 go_wp2
 go_ret
 exact⟨rfl,rfl⟩
def Ye(B P:Int):Int:=P*(B-B/8-4)/16
def Qht(B P:Int):Int:=Ye B P/2+16
def Qnr(B P:Int):Int:=(8+P+Qht B P+1+P-1)/P
def Dm(B P:Int):Int:=2+B/8+Qnr B P
theorem Qxs(B P:Int)(h1:16<=B)(h2:B<=64)(h3:8<=P)(h4:P<=32):0<=B*P/\B*P<=2048:=by
 constructor
 ·exact Int.mul_nonneg O O
 ·calc B*P<=64*P:=QgG h2 O
   _<=2048:=O
theorem Q0h(B P:Int)(h1:16<=B)(h2:B<=64)(h3:8<=P)(h4:P<=32):0<=P*(B-B/8-4)/\P*(B-B/8-4)<=2048:=by
 have e:0<=B-B/8-4/\B-B/8-4<=64:=O;constructor
 ·exact Int.mul_nonneg O O
 ·calc P*(B-B/8-4)<=P*64:=Int.mul_le_mul_of_nonneg_left e.2 O
   _<=2048:=O
theorem Q0g(P n:Int)(h3:8<=P)(h5:0<=n):0<=n/P/\n/P<=n:=
 ⟨Int.ediv_nonneg h5 O,Int.ediv_le_self _ h5⟩
theorem Qeg(B P:Int)(h1:16<=B)(h2:B<=64)(h3:8<=P)(h4:P<=32):0<=Ye B P/\Ye B P<=128:=by
 have:=Q0h B P h1 h2 h3 h4;unfold Ye;omega
theorem Q19(B P:Int)(h1:16<=B)(h2:B<=64)(h3:8<=P)(h4:P<=32):0<=Qht B P/\Qht B P<=128:=by
 have:=Qeg B P h1 h2 h3 h4;unfold Qht;omega
theorem Qw1(B P:Int)(h1:16<=B)(h2:B<=64)(h3:8<=P)(h4:P<=32):0<=Qnr B P/\Qnr B P<=300:=by
 have:=Q19 B P h1 h2 h3 h4;unfold Qnr;have:=Q0g P (8+P+Qht B P+1+P-1) h3 O;omega
theorem Qnk(B P:Int)(h1:16<=B)(h2:B<=64)(h3:8<=P)(h4:P<=32):0<=Dm B P/\Dm B P<=400:=by
 have:=Qw1 B P h1 h2 h3 h4;unfold Dm;omega
theorem Q31{W w1:World}(hb:Below W.heap.size W w1):(∀b o,b<W.heap.size->w1.cell? ⟨b,o,none⟩=W.cell? ⟨b,o,none⟩)/\(∀b o,b<W.heap.size->w1.frozen? ⟨b,o,none⟩=W.frozen? ⟨b,o,none⟩):=
 ⟨λb o h=>hb.cell (p:=⟨b,o,none⟩) h,λb o h=>hb.frozen (p:=⟨b,o,none⟩) h⟩
theorem numbers(B P:Int)(w:World)(h1:16<=B)(h2:B<=64)(h3:8<=P)(h4:P<=32):
  C 101 #[.agg #[I B,I P]] w λe w'=>
   e= .returned (.agg #[I (B*P),I (B/8),I (Ye B P),I (Qht B P),I (Dm B P)])/\Below w w w':=by
 obtain⟨a1,a2⟩:=Qxs B P h1 h2 h3 h4;obtain⟨b1,b2⟩:=Q0h B P h1 h2 h3 h4;have c:=Q0g P (8+P+(P*(B-B/8-4)/16/2+16)+1+P-1) h3 O;obtain⟨c1,c2⟩:=c;go_in
 go_wp2
 go_region
 go_wp2
 refine QqG (v:= .agg #[I (B*P),I (B/8),I (Ye B P),I (Qht B P),I (Dm B P)]) (by simp[results,Tryz.results101,go_sem];exact⟨rfl,rfl,rfl⟩) rfl ⟨rfl,?_⟩;exact(((B0.alloc N0 _).alloc U _).alloc (by simp;omega) _).drew
theorem Pe(B P:Int)(w:World)(h1:16<=B)(h2:B<=64)(h3:8<=P)(h4:P<=32):
  C 37 #[.agg #[I B,I P]] w λe w'=>
   e= .returned (.tuple #[.agg #[I (B*P),I (B/8),I (Ye B P),I (Dm B P),I (Dm B P+1)],I 0])/\Below w w w':=by
 obtain⟨c1,c2⟩:=Qnk B P h1 h2 h3 h4;go_enter Tryz.func37,Tryz.ntmps37
 go_wp2_with (first|(go_at_call 100;refine(Ag _ _ _ h1 h2 h3 h4).mono ?_;rintro e w' ⟨rfl,rfl⟩)|(go_at_call 101;refine(numbers _ _ _ h1 h2 h3 h4).mono ?_;rintro e w1 ⟨rfl,hb⟩;obtain⟨c,f⟩:=Q31 hb;have hz:=hb.size;simp at hz;have d:w.heap.size<w1.heap.size:=O;have a:w.heap.size+1<w1.heap.size:=O))
 refine QqG (v:= .tuple #[.agg #[I (B*P),I (B/8),I (Ye B P),I (Dm B P),I (Dm B P+1)],I 0]) (by simp[results,Tryz.results37,go_sem,c,a]) rfl ⟨rfl,?_⟩;have b:=((((QqA w.heap.size w).alloc (QqB _) _).alloc U _).alloc (by simp;omega) _).trans (hb.mono (by simp;omega));exact(((((b.setCell U _).setCell U _).setCell U _).setCell U _).setCell U _).alloc (by simp;omega) _
theorem Qtq(B P g:Int)(w:World)(h1:16<=B)(h2:B<=64)(h3:8<=P)(h4:P<=32)(h:g<0\/B*P<=g):
  C 200 #[.agg #[I B,I P],I g] w λe w'=>e= .returned (I (-1))/\Below w w w':=by
 obtain⟨a1,a2⟩:=Qxs B P h1 h2 h3 h4;by_cases a:g<0
 ·clear h;go_in
  go_wp2_with (go_at_call 100;refine(Ag _ _ _ h1 h2 h3 h4).mono ?_;rintro e w' ⟨rfl,rfl⟩)
  go_ret
  exact⟨rfl,(((QqA w.heap.size w).alloc N0 _).alloc U _)⟩
 ·have b:B*P<=g:=O;clear h;go_in
  go_wp2_with (go_at_call 100;refine(Ag _ _ _ h1 h2 h3 h4).mono ?_;rintro e w' ⟨rfl,rfl⟩)
  go_ret
  exact⟨rfl,(((QqA w.heap.size w).alloc N0 _).alloc U _)⟩
theorem Qg9(B P g:Int)(w:World)(h1:16<=B)(h2:B<=64)(h3:8<=P)(h4:P<=32)(h5:0<=g)(a:g<B*P):
  C 200 #[.agg #[I B,I P],I g] w λe w'=>e= .returned (I (g/P))/\Below w w w':=by
 obtain⟨a1,a2⟩:=Qxs B P h1 h2 h3 h4;go_in
 go_wp2_with (go_at_call 100;refine(Ag _ _ _ h1 h2 h3 h4).mono ?_;rintro e w' ⟨rfl,rfl⟩)
 go_ret
 exact⟨rfl,(((QqA w.heap.size w).alloc N0 _).alloc U _)⟩
theorem Rq(B P g:Int)(w:World)(h1:16<=B)(h2:B<=64)(h3:8<=P)(h4:P<=32)(h5:0<=g)(a:g<B):
  C 316 #[.agg #[I B,I P],I g] w λe w'=>e= .returned (I (g*P))/\Below w w w':=by
 have a1:0<=g*P:=Int.mul_nonneg h5 O;have a2:g*P<=2048:=by
  calc g*P<=64*P:=QgG O O
   _<=2048:=O
 go_in
 go_wp2_with (go_at_call 100;refine(Ag _ _ _ h1 h2 h3 h4).mono ?_;rintro e w' ⟨rfl,rfl⟩)
 go_ret
 exact⟨rfl,(((QqA w.heap.size w).alloc N0 _).alloc U _)⟩
end ge
end Go.Proofs.YtfialjmemcobjaaGreatDoor
