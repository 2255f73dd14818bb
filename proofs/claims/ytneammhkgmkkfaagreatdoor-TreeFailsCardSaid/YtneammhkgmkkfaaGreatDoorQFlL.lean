/- A part of the proof. -/
import Derived.Test.YtneammhkgmkkfaaGreatDoorQFlC
import Derived.ChangeOld
import Derived.ChangeSame
import Derived.ChangeVars
import Derived.Deep.Fields
import Derived.Deep.Slices
import Derived.JoinedOf
import Derived.LaidHandle
import Derived.LaidLaws
import Derived.Lib.SmallJoins
import Derived.OpenShut
import Derived.ProofKit
import Derived.RowKit
import Derived.ShutString
import Derived.Stop.Joined
namespace Go.Proofs.YtneammhkgmkkfaaGreatDoor.er
open Go.ChangeShapes Go.WideShapes Go.ChangeAt Go.RowKit Go.Joins Go.Deep
set_option linter.unusedVariables false
section
variable {H : Type} {enc : TypeId × Value → H} {P : Program} {w : World} {base : Nat} {spare : Nat → Bool} {held : Bool}
end
theorem own : ownKnob Tryz.prog.godebug = none := by kernel_rfl
theorem laidOut : laidOutB Tryz.prog = true := by kernel_rfl
theorem gl_et : Tryz.prog.globalNamed "errors.errorType" = some 0 := by kernel_rfl
theorem gl_rt : (Tryz.prog.cutTypes.find? (·.1 == "internal/reflectlite.rtype")).map (·.2) = some 167 := by kernel_rfl
theorem gl_one : ((List.range 300).filter fun t => Tryz.prog.rowNamed t [101,114,114,111,114]) = [31] := by kernel_rfl
theorem gl_size : Tryz.prog.types.size = 300 := by kernel_rfl
theorem addr_spot {w : World} {b off : Nat} {s : Option Nat} {v : Value} (h : w.cell? ((⟨b,off,s⟩ : Addr).add 0) = some v) : s = none := by
  have h1 := World.cell?_spot h
  simpa [Addr.add] using h1
theorem addr_add (b off j : Nat) : (⟨b,off,none⟩ : Addr).add j = ⟨b,off + j,none⟩ := by unfold Addr.add; split <;> simp_all
theorem exists_list {α : Type} (P : Nat → α → Prop) : ∀ n : Nat,(∀ i,i < n → ∃ s,P i s) → ∃ l : List α,l.length = n ∧ ∀ (i : Nat) (s : α),l[i]? = some s → P i s
  | 0,_ => ⟨[],rfl,fun i s h => by simp at h⟩
  | n + 1,h => by
    obtain ⟨l,hl,hp⟩ := exists_list P n (fun i hi => h i (by omega))
    obtain ⟨s,hs⟩ := h n (by omega)
    refine ⟨l ++ [s],by simp [hl],fun i u hu => ?_⟩
    rcases Nat.lt_or_ge i n with hi | hi
    · rw [List.getElem?_append_left (by omega)] at hu
      exact hp i u hu
    · have e : i = n := by
        have := (List.getElem?_eq_some_iff.1 hu).1
        simp [hl] at this
        omega
      subst e
      rw [← hl] at hu
      simp at hu
      subst hu
      exact hs
end Go.Proofs.YtneammhkgmkkfaaGreatDoor.er
