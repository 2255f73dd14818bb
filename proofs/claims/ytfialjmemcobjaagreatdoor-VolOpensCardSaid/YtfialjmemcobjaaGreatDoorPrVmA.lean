/- A part of the proof. -/
import Derived.Test.YtfialjmemcobjaaGreatDoorPrFlL
import Derived.Maps.RangeWalk
set_option linter.unusedVariables false
set_option linter.unusedSimpArgs false
namespace Go.Proofs.YtfialjmemcobjaaGreatDoor
namespace vo
open Go.RowKit Go.Maps er
def Qye:Value→Option (DataW Unit×List MemPlace)
 |.pointer none=>some (.lit (.int .i64 (-1)),[])
 |.pointer (some ⟨b,0,none⟩)=>some (.lit (.int .i64 b),[])
 |_=>none
theorem Fg {v:Value} {b:Nat} {ps:List MemPlace} (h:Qye v=some (.lit (.int .i64 b),ps)):v= .pointer (some ⟨b,0,none⟩):=by
 unfold Qye at h
 split at h
 ·simp at h
 ·rename_i b'
  simp at h
  have:b'=b:=by omega
  rw [this]
 ·cases h
theorem Mw {v:Value} {ps:List MemPlace} (h:Qye v=some (.lit (.int .i64 (-1)),ps)):v= .pointer none:=by
 unfold Qye at h
 split at h
 ·rfl
 ·simp at h
 ·cases h
def ent (l:List (Int×Nat)):List (Lit×DataW Unit):=l.map fun x=>(.int .i64 x.1,.lit (.int .i64 x.2))
def I64 (x:Int):Prop:= -9223372036854775808≤x∧x≤9223372036854775807
theorem I64.wf {x:Int} (h:I64 x):(Lit.int .i64 x).wf=true:=by
 simp [Lit.wf,IntKind.min,IntKind.max,IntKind.signed,IntKind.bits]
 exact h
theorem Quu {x:Int} (h:(Lit.int .i64 x).wf=true):I64 x:=by
 simp [Lit.wf,IntKind.min,IntKind.max,IntKind.signed,IntKind.bits] at h
 exact h
def MapAt (w:World) (b:Nat) (l:List (Int×Nat)):Prop:=w.ownsMap Tryz.prog 3 Qye b l.length (.map (ent l))∧l.Pairwise fun x y=>x.1 < y.1
theorem keyed:Keyed Tryz.prog 3:=int_keyed Tryz.underlying3
theorem Vt {x:Int} (h:I64 x):keyOf Tryz.prog 3 (.int .i64 x)=some (.int .i64 x):=keyOf_int_mk Tryz.underlying3 h.wf
theorem C9 (a x:Int):(Lit.int .i64 a).sameKey (.int .i64 x)=decide (a=x):=by simp [Lit.sameKey]
def K9 (l:List (Int×Nat)) (x:Int):Option Nat:=(l.find? fun y=>decide (y.1=x)).map (·.2)
theorem Ru (x:Int) (z:DataW Unit):∀l:List (Int×Nat),(DataW.map (ent l)).atKey (.int .i64 x) z=match K9 l x with|some p=>.lit (.int .i64 p)|none=>z
 |[]=>rfl
 |y::r=>by
  have ih:=Ru x z r
  by_cases e:y.1=x
  ·simp [DataW.atKey,ent,K9,List.find?_cons,C9,e]
  ·have h1:(DataW.map (ent (y::r))).atKey (.int .i64 x) z=(DataW.map (ent r)).atKey (.int .i64 x) z:=by simp [DataW.atKey,ent,List.find?_cons,C9,e]
   have h2:K9 (y::r) x=K9 r x:=by simp [K9,List.find?_cons,e]
   rw [h1,h2,ih]
theorem Cj (l:List (Int×Nat)) (x:Int):Maps.has (DataW.map (ent l)) (.int .i64 x)=(K9 l x).isSome:=by
 induction l with
 |nil=>rfl
 |cons y r ih=>
  unfold K9
  show ((Lit.int .i64 y.1).sameKey _ || Maps.has (DataW.map (ent r)) _)=_
  rw [List.find?_cons,C9,ih]
  by_cases e:y.1=x
  ·simp [e]
  ·simp only [e,decide_false]
   rfl
def Iw (l:List (Int×Nat)) (x:Int) (p:Nat):List (Int×Nat):=l.filter (fun y=>decide (y.1 < x))++(x,p)::l.filter fun y=>decide (x < y.1)
def F3 (l:List (Int×Nat)) (x:Int):List (Int×Nat):=l.filter fun y=>decide (y.1≠x)
theorem Qj0 (l:List (Int×Nat)) (x:Int):(DataW.map (ent l)).del (.int .i64 x)= .map (ent (F3 l x)):=by
 show DataW.map ((ent l).filter _)=_
 unfold ent F3
 rw [List.filter_map]
 congr 3
 funext y
 simp [Lit.sameKey]
theorem Qjl (x:Int) (p:Nat):∀l:List (Int×Nat),l.Pairwise (fun x y=>x.1 < y.1)→DataW.insert (.int .i64 x,.lit (.int .i64 p)) (ent (F3 l x))=ent (Iw l x p)
 |[],_=>rfl
 |y::r,h=>by
  obtain ⟨h1,h2⟩:=List.pairwise_cons.1 h
  have ih:=Qjl x p r h2
  unfold F3 Iw
  by_cases e:y.1=x
  ·have hr:r.filter (fun y=>decide (y.1 < x))=[]:=by
    rw [List.filter_eq_nil_iff];intro a ha;have:=h1 a ha;simp;omega
   unfold F3 Iw at ih
   rw [List.filter_cons,List.filter_cons,List.filter_cons]
   simp only [e,ne_eq,not_true,decide_false,Bool.false_eq_true,if_false,Int.lt_irrefl]
   exact ih
  ·by_cases hlt:y.1 < x
   ·unfold F3 Iw at ih
    rw [List.filter_cons,if_pos (by simpa using e),List.filter_cons,if_pos (by simpa using hlt),List.filter_cons,if_neg (by simp;omega)]
    show (if (Lit.int .i64 x).before (.int .i64 y.1) then _ else _)=_
    rw [if_neg (by simp [Lit.before];omega)]
    exact congrArg (_::·) ih
   ·have hr:r.filter (fun y=>decide (y.1 < x))=[]:=by
     rw [List.filter_eq_nil_iff];intro a ha;have:=h1 a ha;simp;omega
    have hr2:r.filter (fun y=>decide (x < y.1))=r:=by
     rw [List.filter_eq_self];intro a ha;have:=h1 a ha;simp;omega
    have hr3:r.filter (fun y=>decide (y.1≠x))=r:=by
     rw [List.filter_eq_self];intro a ha;have:=h1 a ha;simp;omega
    rw [List.filter_cons,if_pos (by simpa using e),List.filter_cons,if_neg (by simpa using hlt),List.filter_cons,if_pos (by simp;omega),hr,hr2,hr3]
    show (if (Lit.int .i64 x).before (.int .i64 y.1) then _ else _)=_
    rw [if_pos (by simp [Lit.before];omega)]
    rfl
theorem Qes (l:List (Int×Nat)) (x:Int) (p:Nat) (h:l.Pairwise (fun x y=>x.1 < y.1)):(DataW.map (ent l)).put (.int .i64 x) (.lit (.int .i64 p))= .map (ent (Iw l x p)):=by
 have:=Qjl x p l h
 have hd:=Qj0 l x
 show DataW.map (DataW.insert _ ((ent l).filter _))=_
 have hd2:(ent l).filter (fun p=>!p.1.sameKey (.int .i64 x))=ent (F3 l x):=by
  injection hd
 rw [hd2,this]
theorem Ve {l:List (Int×Nat)} (x:Int) (p:Nat) (h:l.Pairwise (fun x y=>x.1 < y.1)):(Iw l x p).Pairwise fun x y=>x.1 < y.1:=by
 unfold Iw
 rw [List.pairwise_append]
 refine ⟨h.filter _,List.pairwise_cons.2 ⟨fun a ha=>by simpa using (List.mem_filter.1 ha).2,h.filter _⟩,fun a ha b hb=>?_⟩
 have h1:a.1 < x:=by simpa using (List.mem_filter.1 ha).2
 rcases List.mem_cons.1 hb with rfl|hb
 ·exact h1
 ·have h2:x < b.1:=by simpa using (List.mem_filter.1 hb).2
  show a.1 < b.1
  omega
theorem tight {w:World} {k:TypeId} {R:Value→Option (DataW Unit×List MemPlace)} {b n:Nat} {l:List (Lit×DataW Unit)} (h:w.ownsMap Tryz.prog k R b n (.map l)):w.ownsMap Tryz.prog k R b l.length (.map l):=by
 obtain ⟨es,clock,hb,F,hs,hD⟩:=h
 refine ⟨es,clock,hb,F,?_,hD⟩
 injection hD with hD
 rw [hD,length_sorted]
 simp
theorem Ck (l:List (Int×Nat)):(ent l).length=l.length:=by simp [ent]
theorem MapAt.made (w:World):MapAt (w.alloc (.map #[] 0)) w.heap.size []:=⟨World.ownsMap_made _ _ _ _,List.Pairwise.nil⟩
theorem MapAt.lt {w:World} {b:Nat} {l:List (Int×Nat)} (h:MapAt w b l):b < w.heap.size:=h.1.lt
theorem MapAt.keep {F:Nat→Prop} {w w':World} {b:Nat} {l:List (Int×Nat)} (h:MapAt w b l) (hk:Keep F w w') (hF:¬F b):MapAt w' b l:=by
 have hlt:=h.lt
 obtain ⟨⟨es,clock,hb,r⟩,h2⟩:=h
 exact ⟨⟨es,clock,(hk.block b hlt hF).trans hb,r⟩,h2⟩
theorem MapAt.below {w w':World} {b:Nat} {l:List (Int×Nat)} (h:MapAt w b l) (hb:Below w.heap.size w w'):MapAt w' b l:=h.keep (F:=fun _=>False) (Keep.below hb) (fun h=>h)
section
variable {t e:TypeId} {w:World} {b:Nat} {l:List (Int×Nat)}
theorem MapAt.look (h:MapAt w b l) (ht:Tryz.prog.underlying t=some (.map 3 e)) (hz:∀w,(zeroValue e).run Tryz.prog w= .ok (.pointer none) w) {x:Int} (hx:I64 x) {p:Nat} (hp:K9 l x=some p):
  (Instr.lookup t (.map (some b)) (.int .i64 x) false).run Tryz.prog w= .ok (.pointer (some ⟨p,0,none⟩)) w∧(Instr.lookup t (.map (some b)) (.int .i64 x) true).run Tryz.prog w= .ok (.tuple #[.pointer (some ⟨p,0,none⟩),.bool true]) w:=by
 obtain ⟨v,ps,h1,h2⟩:=h.1.lookup keyed ht (hz w) (zd:= .lit (.int .i64 (-1))) (zp:=[]) rfl (Vt hx)
 obtain ⟨v',ps',h3,h4⟩:=h.1.look_ok keyed ht (hz w) (zd:= .lit (.int .i64 (-1))) (zp:=[]) rfl (Vt hx)
 rw [Ru _ _ l,hp] at h2 h4
 rw [Cj,hp] at h3
 rw [Fg h2] at h1
 rw [Fg h4] at h3
 exact ⟨h1,h3⟩
theorem MapAt.look0 (h:MapAt w b l) (ht:Tryz.prog.underlying t=some (.map 3 e)) (hz:∀w,(zeroValue e).run Tryz.prog w= .ok (.pointer none) w) {x:Int} (hx:I64 x) (hp:K9 l x=none):
  (Instr.lookup t (.map (some b)) (.int .i64 x) false).run Tryz.prog w= .ok (.pointer none) w∧(Instr.lookup t (.map (some b)) (.int .i64 x) true).run Tryz.prog w= .ok (.tuple #[.pointer none,.bool false]) w:=by
 obtain ⟨v,ps,h1,h2⟩:=h.1.lookup keyed ht (hz w) (zd:= .lit (.int .i64 (-1))) (zp:=[]) rfl (Vt hx)
 obtain ⟨v',ps',h3,h4⟩:=h.1.look_ok keyed ht (hz w) (zd:= .lit (.int .i64 (-1))) (zp:=[]) rfl (Vt hx)
 rw [Ru _ _ l,hp] at h2 h4
 rw [Cj,hp] at h3
 rw [Mw h2] at h1
 rw [Mw h4] at h3
 exact ⟨h1,h3⟩
theorem MapAt.len (h:MapAt w b l) (ht:Tryz.prog.underlying t=some (.map 3 e)) (ty:TypeId):(Builtin.len_ #[t] ty #[.map (some b)]).run Tryz.prog w= .ok (.int .i64 l.length) w:=by
 have:=h.1.len ht ty
 rw [Maps.size_eq,Ck] at this
 exact this
theorem Sc {w':World} (h:w.mapTurned w' b):Keep (fun k=>k=b) w w':=by
 obtain ⟨es,c,es',c',h1,rfl⟩:=h
 exact ⟨rfl,rfl,rfl,by simp [ChangeMaps.setBlock],fun k hk hF=>ChangeMaps.heap_setBlock_other h1 _ hF⟩
theorem MapAt.store (h:MapAt w b l) (ht:Tryz.prog.underlying t=some (.map 3 e)) (hl:l.length≤1000000) {x:Int} (hx:I64 x) (p:Nat):
  ∃w',(Instr.mapUpdate t (.map (some b)) (.int .i64 x) (.pointer (some ⟨p,0,none⟩))).run Tryz.prog w= .ok () w'∧MapAt w' b (Iw l x p)∧Keep (fun k=>k=b) w w'∧w'.heap.size=w.heap.size:=by
 obtain ⟨w',h1,h2,h3⟩:=h.1.store keyed ht (show l.length < maxLen by simp only [maxLen];omega) (Vt hx) (val:= .pointer (some ⟨p,0,none⟩)) (d:= .lit (.int .i64 p)) (ps:=[]) rfl
 rw [Qes l x p h.2] at h2
 have h4:=tight h2
 rw [Ck] at h4
 refine ⟨w',h1,⟨h4,Ve x p h.2⟩,Sc h3,?_⟩
 obtain ⟨es,c,es',c',_,rfl⟩:=h3
 simp [ChangeMaps.setBlock]
end
end vo
namespace vo
open Go.RowKit Go.Maps er
def RngAt (w:World) (b r:Nat) (l rem:List (Int×Nat)):Prop:=
 (∃cnt,w.ranges Tryz.prog 3 Qye b r l.length (.map (ent l)) (Maps.has (.map (ent rem))) cnt)∧l.Pairwise (fun x y=>x.1 < y.1)∧rem.Pairwise (fun x y=>x.1 < y.1)∧∀x∈rem,x∈l
theorem RngAt.keep {F:Nat→Prop} {w w':World} {b r:Nat} {l rem:List (Int×Nat)} (h:RngAt w b r l rem) (hk:Keep F w w') (h1:¬F b) (h2:¬F r):RngAt w' b r l rem:=by
 obtain ⟨⟨cnt,hr⟩,h3⟩:=h
 have l1:=hr.owns.lt
 have l2:=hr.lt
 obtain ⟨es,clock,since,seen,c0,q1,q2,q3,q4,q5,q6⟩:=hr
 exact ⟨⟨cnt,es,clock,since,seen,c0,(hk.block b l1 h1).trans q1,q2,q3,q4,(hk.block r l2 h2).trans q5,q6⟩,h3⟩
theorem RngAt.left_keep {F:Nat→Prop} {w w':World} {b r:Nat} {l rem:List (Int×Nat)} (h:RngAt w b r l rem) (hk:Keep F w w') (h1:¬F b) (h2:¬F r):w'.rangeLeft b r=w.rangeLeft b r:=by
 obtain ⟨⟨cnt,hr⟩,h3⟩:=h
 have l1:=hr.owns.lt
 have l2:=hr.lt
 have he:=hr.left_eq
 obtain ⟨es,clock,since,seen,c0,q1,q2,q3,q4,q5,q6⟩:=hr
 rw [he]
 exact World.ranges.left_eq ⟨es,clock,since,seen,c0,(hk.block b l1 h1).trans q1,q2,q3,q4,(hk.block r l2 h2).trans q5,q6⟩
theorem RngAt.start {w:World} {b:Nat} {l:List (Int×Nat)} {t e:TypeId} (h:MapAt w b l) (ht:Tryz.prog.underlying t=some (.map 3 e)):
  ∃w',(Instr.range t (.map (some b))).run Tryz.prog w= .ok (.pointer (some ⟨w.heap.size,0,none⟩)) w'∧RngAt w' b w.heap.size l l∧Below w.heap.size w w'∧w'.heap.size=w.heap.size+1:=by
 obtain ⟨w',h1,h2,h3,h4⟩:=h.1.range keyed ht
 exact ⟨w',h1,⟨⟨_,h2⟩,h.2,h.2,fun _ h=>h⟩,⟨h3.os,h3.tape,h3.output,h3.size,fun k hk=>h3.block k hk (by simp)⟩,h4⟩
theorem Qz8 (l:List (Lit×DataW Unit)) (kl k:Lit):(Maps.has (.map l) k && !k.sameKey kl)=Maps.has ((DataW.map l).del kl) k:=by
 show (l.any _ && _)=(l.filter _).any _
 induction l with
 |nil=>rfl
 |cons y r ih=>
  rw [List.any_cons,List.filter_cons]
  cases h1:y.1.sameKey k
  ·rw [Bool.false_or]
   cases h2:y.1.sameKey kl
   ·simp only [Bool.not_false,if_true,List.any_cons,h1,Bool.false_or];exact ih
   ·simp only [Bool.not_true,Bool.false_eq_true,if_false];exact ih
  ·have e:=WideAt.sameKey_eq h1
   rw [←e]
   cases h2:y.1.sameKey kl
   ·rw [←e] at h1;simp [h1]
   ·simp only [Bool.not_true,Bool.and_false,Bool.false_eq_true,if_false]
    rw [eq_comm,List.any_eq_false]
    intro z hz hz2
    have hz3:z.1=y.1:=WideAt.sameKey_eq hz2
    have:=(List.mem_filter.1 hz).2
    rw [hz3,h2] at this
    cases this
theorem Nl {l:List (Int×Nat)} {x:Int} {p:Nat} (h:K9 l x=some p):(x,p)∈l:=by
 unfold K9 at h
 cases hf:l.find? (fun y=>decide (y.1=x)) with
 |none=>rw [hf] at h;cases h
 |some y=>
  rw [hf] at h
  have h1:=List.mem_of_find?_eq_some hf
  have h2:=List.find?_some hf
  simp at h h2
  rw [←h,←h2]
  exact h1
theorem Dq {x:Int} {p:Nat}:∀{l:List (Int×Nat)},l.Pairwise (fun x y=>x.1 < y.1)→(x,p)∈l→K9 l x=some p
 |[],_,h=>by cases h
 |y::r,hs,h=>by
  obtain ⟨h1,h2⟩:=List.pairwise_cons.1 hs
  unfold K9
  rw [List.find?_cons]
  rcases List.mem_cons.1 h with e|h
  ·rw [←e];simp
  ·have:=h1 _ h
   have hne:y.1≠x:=by have:y.1 < x:=this;omega
   simp only [hne,decide_false]
   exact Dq h2 h
theorem RngAt.next {w:World} {b r:Nat} {l rem:List (Int×Nat)} (h:RngAt w b r l rem):
  (rem=[]∧∀ty,(Instr.next (.pointer (some ⟨r,0,none⟩)) false ty).run Tryz.prog w= .ok (.tuple #[.bool false]) w)∨
  ∃x p w',(x,p)∈rem∧I64 x∧(∀ty,(Instr.next (.pointer (some ⟨r,0,none⟩)) false ty).run Tryz.prog w= .ok (.tuple #[.bool true,.int .i64 x,.pointer (some ⟨p,0,none⟩)]) w')∧
   RngAt w' b r l (F3 rem x)∧Keep (fun k=>k=r) w w'∧w'.heap.size=w.heap.size∧(Instr.entry (.pointer (some ⟨r,0,none⟩))).run Tryz.prog w'= .ok (.tuple #[.int .i64 x,.pointer (some ⟨p,0,none⟩)]) w'∧w'.rangeLeft b r < w.rangeLeft b r:=by
 obtain ⟨⟨cnt,h1⟩,h2,h3,h4⟩:=h
 have hty:∀ty ty':TypeId,(Instr.next (.pointer (some ⟨r,0,none⟩)) false ty).run Tryz.prog w=(Instr.next (.pointer (some ⟨r,0,none⟩)) false ty').run Tryz.prog w:=fun _ _=>rfl
 rcases h1.next keyed 0 with ⟨_,q2,q3⟩|⟨key,v,kl,y,w',cnt',k1,k2,k3,k4,k5,k6,k7,k8,k9,k10⟩
 ·refine .inl ⟨?_,fun ty=>(hty ty 0).trans q3⟩
  cases rem with
  |nil=>rfl
  |cons y r=>
   have:=q2 (.int .i64 y.1)
   rw [Cj] at this
   simp [K9] at this
 ·obtain ⟨x,rfl,rfl,hwf⟩:=Maps.keyOf_int_inv Tryz.underlying3 k1
  rw [Cj] at k2
  obtain ⟨p,hp⟩:=Option.isSome_iff_exists.1 k2
  have hm:=Nl hp
  have hl:=Dq h2 (h4 _ hm)
  have k4':=k4 (.lit (.int .i64 (-1)))
  rw [Ru _ _ l,hl] at k4'
  obtain ⟨y1,y2⟩:=y
  have hv:v= .pointer (some ⟨p,0,none⟩):=Fg (ps:=y2) (by rw [k3];simp only at k4';rw [←k4'])
  subst hv
  refine .inr ⟨x,p,w',hm,Quu hwf,fun ty=>(hty ty 0).trans k5,⟨⟨cnt',?_⟩,h2,h3.filter _,fun z hz=>h4 z (List.mem_filter.1 hz).1⟩,⟨k8.os,k8.tape,k8.output,k8.size,fun k hk hF=>k8.block k hk (fun e=>hF (by injection e))⟩,k9,k10,by rw [k6.left_eq,h1.left_eq];exact k7⟩
  have:(fun z=>Maps.has (DataW.map (ent rem)) z && !z.sameKey (.int .i64 x))=Maps.has (.map (ent (F3 rem x))):=by
   funext z
   rw [Qz8,Qj0]
  rw [←this]
  exact k6
structure Acc where
 id:Int
 size:Int
 used:Int
def Qy3 (l:List Acc) (a:Acc):List Acc:=l.filter (fun b=>decide (b.id < a.id))++a::l.filter fun b=>decide (a.id < b.id)
def Pw (l:List Acc) (id:Int) (f:Acc→Acc):List Acc:=l.map fun a=>if a.id=id then f a else a
def tot (l:List Acc):Int:=(l.map (·.used)).sum
structure LOk (cap:Int) (l:List Acc):Prop where
 c0:0≤cap
 c1:cap≤1000000
 len:l.length≤8
 ids:∀a∈l,1≤a.id∧a.id≤65535∧0≤a.size∧a.size≤16777216∧0≤a.used
 sum:tot l≤cap
 up:l.Pairwise fun a b=>a.id < b.id
abbrev LL:=List (Acc×Nat)
def key (L:LL):List (Int×Nat):=L.map fun y=>(y.1.id,y.2)
def Zu (L:LL):List Acc:=L.map (·.1)
structure LedIn (w:World) (lb mb:Nat) (cap:Int) (L:LL):Prop where
 obj:Whole w lb 214 #[.int .i64 cap,.map (some mb)]
 map:MapAt w mb (key L)
 acc:∀y∈L,Whole w y.2 223 #[.int .i64 y.1.size,.int .i64 y.1.used]
 nd:(L.map (·.2)).Nodup
 ok:LOk cap (Zu L)
def Qf4 (lb mb:Nat) (L:LL):Nat→Prop:=fun k=>k=lb∨k=mb∨∃y∈L,y.2=k
theorem LedIn.keep {F:Nat→Prop} {w w':World} {lb mb:Nat} {cap:Int} {L:LL} (h:LedIn w lb mb cap L) (hk:Keep F w w') (hF:∀k,Qf4 lb mb L k→¬F k):LedIn w' lb mb cap L:=
 ⟨h.obj.keep hk (hF _ (.inl rfl)),h.map.keep hk (hF _ (.inr (.inl rfl))),fun y hy=>(h.acc y hy).keep hk (hF _ (.inr (.inr ⟨y,hy,rfl⟩))),h.nd,h.ok⟩
theorem LedIn.below {w w':World} {lb mb:Nat} {cap:Int} {L:LL} (h:LedIn w lb mb cap L) (hb:Below w.heap.size w w'):LedIn w' lb mb cap L:=h.keep (F:=fun _=>False) (Keep.below hb) (fun _ _ h=>h)
theorem Qii {L:LL} {id:Int} {p:Nat} (h:K9 (key L) id=some p):∃y∈L,y.1.id=id∧y.2=p:=by
 have:=Nl h
 obtain ⟨y,hy,e⟩:=List.mem_map.1 this
 injection e with e1 e2
 exact ⟨y,hy,e1,e2⟩
theorem LedIn.i64 {w:World} {lb mb:Nat} {cap:Int} {L:LL} (h:LedIn w lb mb cap L):∀y∈L,I64 y.1.id:=fun y hy=>by
 have:=h.ok.ids y.1 (List.mem_map.2 ⟨y,hy,rfl⟩)
 unfold I64
 omega
theorem Jq (a:Acc) (l:List Acc):tot (a::l)=a.used+tot l:=by simp [tot]
theorem Py {l:List Acc} (h:∀a∈l,0≤a.used):0≤tot l:=by
 induction l with
 |nil=>simp [tot]
 |cons a r ih=>
  rw [Jq]
  have:=h a (by simp)
  have:=ih (fun b hb=>h b (by simp [hb]))
  omega
theorem Qk1 {l:List Acc} (h:∀a∈l,0≤a.used):∀a∈l,a.used≤tot l:=by
 induction l with
 |nil=>simp
 |cons b r ih=>
  intro a ha
  rw [Jq]
  have h0:=h b (by simp)
  have h1:=Py (l:=r) (fun b hb=>h b (by simp [hb]))
  rcases List.mem_cons.1 ha with rfl|ha
  ·omega
  ·have:=ih (fun b hb=>h b (by simp [hb])) a ha
   omega
def Jn (L:LL) (id:Int) (f:Acc→Acc):LL:=L.map fun y=>if y.1.id=id then (f y.1,y.2) else y
theorem Qad (L:LL) (id:Int) (f:Acc→Acc):Zu (Jn L id f)=Pw (Zu L) id f:=by
 unfold Zu Jn Pw
 rw [List.map_map,List.map_map]
 congr 1
 funext y
 simp only [Function.comp]
 split <;> rfl
theorem Qey (L:LL) (id:Int) (f:Acc→Acc) (hf:∀a,(f a).id=a.id):key (Jn L id f)=key L:=by
 unfold key Jn
 rw [List.map_map]
 congr 1
 funext y
 simp only [Function.comp]
 split
 ·simp [hf]
 ·rfl
theorem Qe5 (L:LL) (id:Int) (f:Acc→Acc):(Jn L id f).map (·.2)=L.map (·.2):=by
 unfold Jn
 rw [List.map_map]
 congr 1
 funext y
 simp only [Function.comp]
 split <;> rfl
theorem Qa3 {L:LL} (hs:(Zu L).Pairwise fun a b=>a.id < b.id) {y z:Acc×Nat} (hy:y∈L) (hz:z∈L) (e:y.1.id=z.1.id):y=z:=by
 induction L with
 |nil=>cases hy
 |cons x r ih=>
  obtain ⟨h1,h2⟩:=List.pairwise_cons.1 (show (x.1::Zu r).Pairwise _ from hs)
  rcases List.mem_cons.1 hy with rfl|hy' <;> rcases List.mem_cons.1 hz with rfl|hz'
  ·rfl
  ·have:=h1 z.1 (List.mem_map.2 ⟨z,hz',rfl⟩);omega
  ·have:=h1 y.1 (List.mem_map.2 ⟨y,hy',rfl⟩);omega
  ·exact ih h2 hy' hz'
theorem Qga {L:LL} (hs:(L.map (·.2)).Nodup) {y z:Acc×Nat} (hy:y∈L) (hz:z∈L) (e:y.2=z.2):y=z:=by
 induction L with
 |nil=>cases hy
 |cons x r ih=>
  obtain ⟨h1,h2⟩:=List.nodup_cons.1 (show (x.2::r.map (·.2)).Nodup from hs)
  rcases List.mem_cons.1 hy with rfl|hy' <;> rcases List.mem_cons.1 hz with rfl|hz'
  ·rfl
  ·exact absurd (List.mem_map.2 ⟨z,hz',e.symm⟩) h1
  ·exact absurd (List.mem_map.2 ⟨y,hy',e⟩) h1
  ·exact ih h2 hy' hz'
theorem LedIn.turn {w w':World} {lb mb:Nat} {cap:Int} {L:LL} (h:LedIn w lb mb cap L) {y:Acc×Nat} (hy:y∈L) {f:Acc→Acc} (hid:∀a,(f a).id=a.id) (hk:Keep (fun k=>k=y.2) w w')
  (hw:Whole w' y.2 223 #[.int .i64 (f y.1).size,.int .i64 (f y.1).used]) (hok:LOk cap (Pw (Zu L) y.1.id f)):LedIn w' lb mb cap (Jn L y.1.id f):=by
 have ha:=h.acc y hy
 refine ⟨h.obj.keep hk (Xb h.obj ha (by decide)),?_,fun z hz=>?_,by rw [Qe5];exact h.nd,by rw [Qad];exact hok⟩
 ·rw [Qey _ _ _ hid]
  refine h.map.keep hk (fun e=>?_)
  obtain ⟨es,c,hb,_⟩:=h.map.1
  unfold Whole at ha
  rw [←e,hb] at ha
  cases ha
 ·obtain ⟨x,hx,rfl⟩:=List.mem_map.1 hz
  by_cases e:x.1.id=y.1.id
  ·obtain rfl:=Qa3 h.ok.up hx hy e
   rw [if_pos rfl]
   exact hw
  ·rw [if_neg e]
   exact (h.acc x hx).keep hk (fun e2=>e (by rw [Qga h.nd hx hy e2]))
end vo
end Go.Proofs.YtfialjmemcobjaaGreatDoor
