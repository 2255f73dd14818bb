/- A part of the proof. -/
import Derived.Test.YtfialjmemcobjaaGreatDoorPoFlB
import Derived.ChangeOld
import Derived.ChangeSame
import Derived.ChangeVars
import Derived.Deep.Fields
import Derived.Deep.RegionHeld
import Derived.Deep.Slices
import Derived.JoinedOf
import Derived.LaidHandle
import Derived.LaidLaws
import Derived.Lib.SmallJoins
import Derived.OpenShut
import Derived.ProofKit
import Derived.RowKit
import Derived.ShutString
import Derived.Stop.Joined
set_option linter.unusedSimpArgs false
set_option linter.unusedVariables false
namespace Go.Proofs.YtfialjmemcobjaaGreatDoor.er
open Go.ChangeShapes Go.WideShapes Go.ChangeAt Go.RowKit Go.Joins Go.Deep
set_option linter.unusedVariables false
section
variable {H:Type} {enc:TypeId×Value→H} {P:Program} {w:World} {base:Nat} {spare:Nat→Bool} {held:Bool}
end
theorem own:ownKnob Tryz.prog.godebug=none:=by kernel_rfl
theorem laidOut:laidOutB Tryz.prog=true:=by kernel_rfl
theorem gl_et : Tryz.prog.globalNamed "errors.errorType" = some 0 := by kernel_rfl
theorem gl_rt : (Tryz.prog.cutTypes.find? (·.1 == "internal/reflectlite.rtype")).map (·.2) = some 310 := by kernel_rfl
theorem gl_one:((List.range 467).filter fun t=>Tryz.prog.rowNamed t [101,114,114,111,114])=[34]:=by kernel_rfl
theorem gl_size:Tryz.prog.types.size=467:=by kernel_rfl
end Go.Proofs.YtfialjmemcobjaaGreatDoor.er
set_option linter.unusedSimpArgs false
set_option linter.unusedVariables false
namespace Go.Proofs.YtfialjmemcobjaaGreatDoor.rg
open Go
def dn (i n:Nat):Array Bool:=(List.replicate i true++List.replicate (n - i) false).toArray
theorem dn_succ {i n:Nat} (h:i < n):(dn i n).setIfInBounds i true=dn (i+1) n:=by
 unfold dn
 rw [List.setIfInBounds_toArray,List.set_append_right _ _ (by simp)]
 obtain ⟨k,hk⟩:∃k,n - i=k+1:=⟨n - i - 1,by omega⟩
 rw [hk,show n - (i+1)=k by omega,List.length_replicate,Nat.sub_self,List.replicate_succ,List.set_cons_zero,List.replicate_succ']
 simp
variable {P:Program} {ops:Array Oper} {Q:Exit→Act→World→Prop} {S:World→Prop} {a:Act} {w:World} {fuel i:Nat} {oi:Oper}
def rk (ops:Array Oper) (i:Nat):Bool:=Region.noSelect ops && Region.free .any ops (dn i ops.size) i && (Region.ready .any ops (dn i ops.size)).contains i
theorem rk_of (h:rk ops i=true):Region.noSelect ops=true∧Region.free .any ops (dn i ops.size) i=true∧(Region.ready .any ops (dn i ops.size)).contains i=true:=by
 unfold rk at h
 simp only [Bool.and_eq_true] at h
 exact ⟨h.1.1,h.1.2,h.2⟩
theorem rgB {id:Nat} (S:World→Prop) (hm:P.follows .mixedOrders=true) (hS:S w.drew) (h:S w.drew→wpAnyH P .any ops Q S ops.size (dn 0 ops.size) a w.drew):(Code.region id ops true).wp P Q a w:=
 wp_region_held_drew hm hS (fun h'=>by
  have e:Array.replicate ops.size false=dn 0 ops.size:=by simp [dn]
  rw [e]
  exact h h')
theorem rgT (v:Value) (hi:ops[i]? =some oi) (hk:rk ops i=true) (hQ:∀c a w,Q (.panic c) (a.put oi.dst v) w→Q (.panic c) a w)
  (hw:Region.wanted oi (yielded ops a.tmps)=true) (hy:∀w,S w→(execOp a.eval oi).run P w= .ok (.value v) w) (hS:S w) (h:wpAnyH P .any ops Q S fuel (dn (i+1) ops.size) (a.put oi.dst v) w):wpAnyH P .any ops Q S (fuel+1) (dn i ops.size) a w:=by
 obtain ⟨k1,k2,k3⟩:=rk_of hk
 refine wpAnyH_take hi k1 k2 k3 hQ (.inl ⟨hw,hy⟩) hS ?_
 rw [dn_succ (Array.getElem?_eq_some_iff.1 hi).1]
 exact h
theorem rgS (hi:ops[i]? =some oi) (hk:rk ops i=true) (hQ:∀c a w,Q (.panic c) (a.put oi.dst undef) w→Q (.panic c) a w)
  (hw:Region.wanted oi (yielded ops a.tmps)=false) (hS:S w) (h:wpAnyH P .any ops Q S fuel (dn (i+1) ops.size) (a.put oi.dst undef) w):wpAnyH P .any ops Q S (fuel+1) (dn i ops.size) a w:=by
 obtain ⟨k1,k2,k3⟩:=rk_of hk
 refine wpAnyH_take hi k1 k2 k3 hQ (.inr ⟨hw,rfl⟩) hS ?_
 rw [dn_succ (Array.getElem?_eq_some_iff.1 hi).1]
 exact h
theorem rgC (hi:ops[i]? =some oi) (hr:Region.ready .any ops (dn i ops.size)=[i])
  (h:∀K':Act→World→Prop,Shut (∀a w,S w→(S w→wpAnyH P .any ops Q S fuel (dn (i+1) ops.size) a w)→K' a w)→if Region.wanted oi (yielded ops a.tmps)=true then Oper.wp P oi a w K' Q else K' (a.put oi.dst undef) w):wpAnyH P .any ops Q S (fuel+1) (dn i ops.size) a w:=
 wpAnyH_ready hr (by simp) (AllReadyH.cons hi (by rw [dn_succ (Array.getElem?_eq_some_iff.1 hi).1];exact h) AllReadyH.nil)
theorem rgD (hr:Region.ready .any ops (dn i ops.size)=[]) (h:Q .normal a w):wpAnyH P .any ops Q S fuel (dn i ops.size) a w:=wpAnyH_done hr h fuel
end Go.Proofs.YtfialjmemcobjaaGreatDoor.rg
