/- A part of the proof. -/
import Derived.Test.YtfialjmemcobjaaGreatDoorPmFlB
import Derived.Test.YtfialjmemcobjaaGreatDoorPmShA
import Derived.Deep.RegionHeld3
set_option maxRecDepth 100000
set_option maxHeartbeats 16000000
set_option linter.unusedVariables false
set_option linter.unusedSimpArgs false
namespace Go.Proofs.YtfialjmemcobjaaGreatDoor
namespace we
open Go.RowKit er
structure Bk where
 st:Int
 va:Int
 wo:Int
def Bk.val(b:Bk):Value:= .agg #[I b.st,I b.va,I b.wo]
def Uk(l:List Bk):List Value:=l.flatMap λb=>[I b.st,I b.va,I b.wo]
theorem Qoq:∀(l:List Bk) (j:Nat) (m:Bk),l[j]? =some m->
  (Uk l)[j*3]? =some (I m.st)/\(Uk l)[j*3+1]? =some (I m.va)/\(Uk l)[j*3+2]? =some (I m.wo)
 |[],_,_,h=>by simp at h
 |x::r,0,m,h=>by
  simp at h;subst h;simp[Uk]
 |x::r,j+1,m,h=>by
  have a:=Qoq r j m (by simpa using h);have e:Uk (x::r)= I x.st::I x.va::I x.wo::Uk r:=by simp[Uk]
  rw[e,show(j+1)*3=j*3+3 from by omega];simpa using a
theorem Qzf(l:List Bk)(m:Bk):Uk (l++[m])=Uk l++[I m.st,I m.va,I m.wo]:=by simp[Uk]
def Ip(b:Bk):Int:=max b.wo 0
theorem Qep(b:Bk)(w:World):
  C 339 #[b.val] w λe w'=>e= .returned (I (Ip b))/\Below w w w':=by
 obtain⟨s,v,o⟩:=b;show C 339 #[.agg #[I s,I v,I o]] w _;go_in
 go_wp2_with fail
 go_returns;exact⟨rfl,B0.alloc N0 _⟩
theorem Qg8(a b:Bk)(w:ν):
  C 329 #[a.val,b.val] w λe w'=>e=ρ (I (Lib.compareInt (Ip a) (Ip b)))/\Below w w w':=by
 obtain⟨s,v,o⟩:=a;obtain⟨t,x,p⟩:=b;show C 329 #[.agg #[I s,I v,I o],.agg #[I t,I x,I p]] w _;have i:Hid (∀w',Below ((w.alloc (.cells #[I s,I v,I o] 92)).alloc (.cells #[I t,I x,I p] 92)).heap.size ((w.alloc (.cells #[I s,I v,I o] 92)).alloc (.cells #[I t,I x,I p] 92)) w'->(w' (w,0)=I s/\w' (w,1)=I v/\w' (w,2)=I o/\w' (w,1,0)=I t/\w' (w,1,1)=I x/\w' (w,1,2)=I p)):=by
  intro w' hb;have h:Whole ((w.alloc (.cells #[I s,I v,I o] 92)).alloc (.cells #[I t,I x,I p] 92)) w.heap.size 92 #[I s,I v,I o]:=(Whole.new w _ _).alloc _;have j:Whole ((w.alloc (.cells #[I s,I v,I o] 92)).alloc (.cells #[I t,I x,I p] 92)) (w.heap.size+1) 92 #[I t,I x,I p]:=Whole.new' _ _ _ _ U;exact⟨Qq hb (h.cell 0),Qq hb (h.cell 1),Qq hb (h.cell 2),Qq hb (j.cell 0),Qq hb (j.cell 1),Qq hb (j.cell 2)⟩
 have⟨k,m⟩:=ρ2 (QqA ((w.alloc (.cells #[I s,I v,I o] 92)).alloc (.cells #[I t,I x,I p] 92)).heap.size ((w.alloc (.cells #[I s,I v,I o] 92)).alloc (.cells #[I t,I x,I p] 92))).drew (((QqA w w).alloc N0 (.cells #[I s,I v,I o] 92)).alloc U (.cells #[I t,I x,I p] 92));have l:=Q7h m.o.size;go_in
 go_wp2_with fail
 go_region_held3 (λw'=>w' (w,0)=I s/\w' (w,1)=I v/\w' (w,2)=I o/\w' (w,1,0)=I t/\w' (w,1,1)=I x/\w' (w,1,2)=I p) (first|exact i.o _ k.o|exact i.o _ d.o|exact i.o _ c.o) (first|(go_at_call 129;refine(Tryz.cmp_Compare_int _ _ _).mono ?_;rintro e n ⟨rfl,rfl⟩)|(go_at_call 339;have h:=c;refine(Qep ⟨t,x,p⟩ _).mono ?_;rintro e w2 ⟨rfl,f⟩;have d:=Q7h (c.o.trans (f.mono c.o.size));clear f)|(go_at_call 339;refine(Qep ⟨s,v,o⟩ _).mono ?_;rintro e w1 ⟨rfl,g⟩;have c:=Q7h (k.o.trans (g.mono k.o.size));clear g))
 go_wp2_with fail
 go_ret
 exact⟨rfl,m.o.trans (d.o.mono l.o)⟩
theorem Q4p(k:Int)(w:World):
  C 328 #[I k] w λe w'=>∃g,e= .returned (.func (.func 338) #[] #[(g,0)])/\w'.cell? (g,0)=some (I k)/\w.heap.size<=g/\Below w w w':=by
 go_in
 go_wp2_with fail
 go_ret
 exact⟨w.heap.size,rfl,U,QqB _,B0.alloc N0 _⟩
theorem Eo(g:Nat)(k:Int)(b:Bk)(w:World)(a:w.cell? (g,0)=some (I k)):
  C 338 #[b.val,(g,0)] w λe w'=>e= .returned (.bool (b.st==k))/\Below w w w':=by
 obtain⟨s,v,o⟩:=b;have c0:=Qq ((QqA w.heap.size w).alloc N0 (.cells #[I s,I v,I o] 92)) a;show C 338 #[.agg #[I s,I v,I o],.pointer (some ⟨g,0,none⟩)] w _;go_in
 go_wp2_with fail
 go_ret
 exact⟨rfl,B0.alloc N0 _⟩
end we
end Go.Proofs.YtfialjmemcobjaaGreatDoor
