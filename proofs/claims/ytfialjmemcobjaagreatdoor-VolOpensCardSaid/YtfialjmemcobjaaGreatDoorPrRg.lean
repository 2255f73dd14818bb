/- A part of the proof. -/
import Derived.Deep.RegionHeld
import Derived.Test.YtfialjmemcobjaaGreatDoorRows
set_option linter.unusedVariables false
set_option linter.unusedSimpArgs false
namespace Go.Proofs.YtfialjmemcobjaaGreatDoor
namespace rg
open Go
def dn (i n:Nat):Array Bool:=(List.replicate i true++List.replicate (n - i) false).toArray
theorem qa {α:Type _} {l:List α} {i:Nat} {a:α}:l.toArray.setIfInBounds i a=(l.set i a).toArray:=by simp
theorem qb {α:Type _} {x y:α} {l:List α}:(x::l).set 0 y=y::l:=rfl
theorem qc {α:Type _} {x y:α} {l:List α} {i:Nat}:(x::l).set (i+1) y=x::l.set i y:=rfl
theorem Ro {i n:Nat} (h:i < n):(dn i n).setIfInBounds i true=dn (i+1) n:=by
 unfold dn
 rw [List.setIfInBounds_toArray,List.set_append_right _ _ (by simp)]
 obtain ⟨k,hk⟩:∃k,n - i=k+1:=⟨n - i - 1,by omega⟩
 rw [hk,show n - (i+1)=k by omega,List.length_replicate,Nat.sub_self,List.replicate_succ,List.set_cons_zero,List.replicate_succ']
 simp
variable {P:Program} {ops:Array Oper} {Q:Exit→Act→World→Prop} {S:World→Prop} {a:Act} {w:World} {fuel i:Nat}
def rk (ops:Array Oper) (i:Nat):Bool:=Region.noSelect ops && Region.free .any ops (dn i ops.size) i && (Region.ready .any ops (dn i ops.size)).contains i
theorem Qbd (h:rk ops i=true):Region.noSelect ops=true∧Region.free .any ops (dn i ops.size) i=true∧(Region.ready .any ops (dn i ops.size)).contains i=true:=by
 unfold rk at h
 simp only [Bool.and_eq_true] at h
 exact ⟨h.1.1,h.1.2,h.2⟩
theorem rgB {id:Nat} (S:World→Prop) (hS:S w.drew) (h:S w.drew→wpAnyH P .any ops Q S ops.size (dn 0 ops.size) a w.drew) (hm:P.follows .mixedOrders=true:=by kernel_rfl):(Code.region id ops true).wp P Q a w:=
 wp_region_held_drew hm hS (fun h'=>by
  have e:Array.replicate ops.size false=dn 0 ops.size:=by simp [dn]
  rw [e]
  exact h h')
theorem rgT {x1 x2 x3 x4 x5 x6} (v:Value) (hy:∀w,S w→(execOp a.eval {dst:=x1,op:=x2,type:=x3,pos:=x4,after:=x5,guard:=x6}).run P w= .ok (.value v) w) (h:wpAnyH P .any ops Q S fuel (dn (i+1) ops.size) (a.put x1 v) w) (hi:ops[i]? =some {dst:=x1,op:=x2,type:=x3,pos:=x4,after:=x5,guard:=x6}:=by exact rfl) (hk:rk ops i=true:=by kernel_rfl) (hQ:∀c a w,Q (.panic c) (a.put x1 v) w→Q (.panic c) a w:=by exact fun _ _ _ h=>h)
  (hw:Region.wanted {dst:=x1,op:=x2,type:=x3,pos:=x4,after:=x5,guard:=x6} (yielded ops a.tmps)=true:=by rfl) (hS:S w:=by assumption):wpAnyH P .any ops Q S (fuel+1) (dn i ops.size) a w:=by
 obtain ⟨k1,k2,k3⟩:=Qbd hk
 refine wpAnyH_take hi k1 k2 k3 hQ (.inl ⟨hw,hy⟩) hS ?_
 rw [Ro (Array.getElem?_eq_some_iff.1 hi).1]
 exact h
theorem rgS {x1 x2 x3 x4 x5 x6} (h:wpAnyH P .any ops Q S fuel (dn (i+1) ops.size) (a.put x1 undef) w) (hi:ops[i]? =some {dst:=x1,op:=x2,type:=x3,pos:=x4,after:=x5,guard:=x6}:=by exact rfl) (hk:rk ops i=true:=by kernel_rfl) (hQ:∀c a w,Q (.panic c) (a.put x1 undef) w→Q (.panic c) a w:=by exact fun _ _ _ h=>h)
  (hw:Region.wanted {dst:=x1,op:=x2,type:=x3,pos:=x4,after:=x5,guard:=x6} (yielded ops a.tmps)=false:=by rfl) (hS:S w:=by assumption):wpAnyH P .any ops Q S (fuel+1) (dn i ops.size) a w:=by
 obtain ⟨k1,k2,k3⟩:=Qbd hk
 refine wpAnyH_take hi k1 k2 k3 hQ (.inr ⟨hw,rfl⟩) hS ?_
 rw [Ro (Array.getElem?_eq_some_iff.1 hi).1]
 exact h
theorem rgC {x1 x2 x3 x4 x5 x6} (h:∀K':Act→World→Prop,Shut (∀a w,S w→(S w→wpAnyH P .any ops Q S fuel (dn (i+1) ops.size) a w)→K' a w)→if Region.wanted {dst:=x1,op:=x2,type:=x3,pos:=x4,after:=x5,guard:=x6} (yielded ops a.tmps)=true then Oper.wp P {dst:=x1,op:=x2,type:=x3,pos:=x4,after:=x5,guard:=x6} a w K' Q else K' (a.put x1 undef) w) (hi:ops[i]? =some {dst:=x1,op:=x2,type:=x3,pos:=x4,after:=x5,guard:=x6}:=by exact rfl) (hr:Region.ready .any ops (dn i ops.size)=[i]:=by kernel_rfl):wpAnyH P .any ops Q S (fuel+1) (dn i ops.size) a w:=
 wpAnyH_ready hr (by simp) (AllReadyH.cons hi (by rw [Ro (Array.getElem?_eq_some_iff.1 hi).1];exact h) AllReadyH.nil)
theorem rgD (h:Q .normal a w) (hr:Region.ready .any ops (dn i ops.size)=[]:=by kernel_rfl):wpAnyH P .any ops Q S fuel (dn i ops.size) a w:=wpAnyH_done hr h fuel
end rg
end Go.Proofs.YtfialjmemcobjaaGreatDoor
