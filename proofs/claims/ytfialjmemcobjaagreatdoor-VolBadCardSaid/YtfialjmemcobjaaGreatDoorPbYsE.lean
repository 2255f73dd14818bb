/- A part of the proof. -/
import Derived.Test.YtfialjmemcobjaaGreatDoorPbYyMa
import Derived.LoopN
import Derived.StillTailTactics
set_option maxRecDepth 100000
set_option maxHeartbeats 16000000
set_option linter.unusedVariables false
set_option linter.unusedSimpArgs false
namespace Go.Proofs.YtfialjmemcobjaaGreatDoor
namespace tr
open Go.RowKit er
theorem LfAt.see{w:World}{b g:Nat}{x:Lf}(h:LfAt w b g x)(h1:1<=x.l.length):∃c,w.cell? (b,0)=some (I x.a)/\w.cell? (b,1)=some (.slice (some (g,0)) x.l.length c)/\w.cell? (g,0)=some (I (Sm x.l)):=by
 obtain⟨c,q1,d⟩:=h;refine⟨c,q1.cell 0,q1.cell 1,?_⟩;obtain⟨a,l⟩:=x;cases l with
 |nil=>simp at h1
 |cons e l=>exact d.cell (Jo (e::l) 0 e rfl).1
theorem InAt.see{w:World}{i h b b2:Nat}{a:Int}(hi:InAt w i h b b2 a):∃k,w.cell? (i,0)=some (I a)/\w.cell? (i,1)=some (.slice (some (h,0)) 2 k)/\w.cell? (h,0)=some (lfV b)/\w.cell? (h,1)=some (lfV b2):=by
 obtain⟨k,q1,c⟩:=hi;exact⟨k,q1.cell 0,q1.cell 1,c.cell rfl,c.cell rfl⟩
theorem Q8q{w:World}{i h b b2 j:Nat}{a s:Int}{y:Lf}(hi:InAt w i h b b2 a)(d:LfAt w b2 j y)(h1:1<=y.l.length):
  C 299 #[(i,0),I s] w λe w'=>e= .returned (I (if Sm y.l<=s then 1 else 0))/\w=w':=by
 obtain⟨k,_,p,_,m⟩:=hi.see;obtain⟨c,_,q,r⟩:=d.see h1;unfold lfV at m;generalize Sm y.l=f at *;generalize o:y.l.length=n at *;clear hi d o;by_cases g:f<=s
 ·rw[QqH g];have h3:¬s<f:=O;go_in
  go_wp2
  go_rounds 1
  go_ret
  exact⟨rfl,rfl⟩
 ·rw[QqE g];have h3:s<f:=O;go_in
  go_wp2
  go_rounds 2
  go_ret
  exact⟨rfl,rfl⟩
end tr
end Go.Proofs.YtfialjmemcobjaaGreatDoor
