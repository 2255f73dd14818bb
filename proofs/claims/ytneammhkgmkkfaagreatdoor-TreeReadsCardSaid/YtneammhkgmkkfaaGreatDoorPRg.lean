/- A part of the proof. -/
import Derived.Deep.RegionHeld
import Derived.Test.YtneammhkgmkkfaaGreatDoorRows
namespace Go.Proofs.YtneammhkgmkkfaaGreatDoor.rg
open Go
def dn (i n : Nat) : Array Bool := (List.replicate i true ++ List.replicate (n - i) false).toArray
theorem dn_succ {i n : Nat} (h : i < n) : (dn i n).setIfInBounds i true = dn (i + 1) n := by
  unfold dn
  rw [List.setIfInBounds_toArray,List.set_append_right _ _ (by simp)]
  obtain ⟨k,hk⟩ : ∃ k,n - i = k + 1 := ⟨n - i - 1,by omega⟩
  rw [hk,show n - (i + 1) = k by omega,List.length_replicate,Nat.sub_self,List.replicate_succ,List.set_cons_zero,List.replicate_succ']
  simp
variable {P : Program} {ops : Array Oper} {Q : Exit → Act → World → Prop} {S : World → Prop} {a : Act} {w : World} {fuel i : Nat} {oi : Oper}
def rk (ops : Array Oper) (i : Nat) : Bool := Region.noSelect ops && Region.free .any ops (dn i ops.size) i && (Region.ready .any ops (dn i ops.size)).contains i
theorem rk_of (h : rk ops i = true) : Region.noSelect ops = true ∧ Region.free .any ops (dn i ops.size) i = true ∧ (Region.ready .any ops (dn i ops.size)).contains i = true := by
  unfold rk at h
  simp only [Bool.and_eq_true] at h
  exact ⟨h.1.1,h.1.2,h.2⟩
theorem rgB {id : Nat} (S : World → Prop) (hm : P.follows .mixedOrders = true) (hS : S w.drew) (h : S w.drew → wpAnyH P .any ops Q S ops.size (dn 0 ops.size) a w.drew) : (Code.region id ops true).wp P Q a w :=
  wp_region_held_drew hm hS (fun h' => by
    have e : Array.replicate ops.size false = dn 0 ops.size := by simp [dn]
    rw [e]
    exact h h')
theorem rgT (v : Value) (hi : ops[i]? = some oi) (hk : rk ops i = true) (hQ : ∀ c a w,Q (.panic c) (a.put oi.dst v) w → Q (.panic c) a w)
    (hw : Region.wanted oi (yielded ops a.tmps) = true) (hy : ∀ w,S w → (execOp a.eval oi).run P w = .ok (.value v) w) (hS : S w) (h : wpAnyH P .any ops Q S fuel (dn (i + 1) ops.size) (a.put oi.dst v) w) : wpAnyH P .any ops Q S (fuel + 1) (dn i ops.size) a w := by
  obtain ⟨k1,k2,k3⟩ := rk_of hk
  refine wpAnyH_take hi k1 k2 k3 hQ (.inl ⟨hw,hy⟩) hS ?_
  rw [dn_succ (Array.getElem?_eq_some_iff.1 hi).1]
  exact h
theorem rgS (hi : ops[i]? = some oi) (hk : rk ops i = true) (hQ : ∀ c a w,Q (.panic c) (a.put oi.dst undef) w → Q (.panic c) a w)
    (hw : Region.wanted oi (yielded ops a.tmps) = false) (hS : S w) (h : wpAnyH P .any ops Q S fuel (dn (i + 1) ops.size) (a.put oi.dst undef) w) : wpAnyH P .any ops Q S (fuel + 1) (dn i ops.size) a w := by
  obtain ⟨k1,k2,k3⟩ := rk_of hk
  refine wpAnyH_take hi k1 k2 k3 hQ (.inr ⟨hw,rfl⟩) hS ?_
  rw [dn_succ (Array.getElem?_eq_some_iff.1 hi).1]
  exact h
theorem rgD (hr : Region.ready .any ops (dn i ops.size) = []) (h : Q .normal a w) : wpAnyH P .any ops Q S fuel (dn i ops.size) a w := wpAnyH_done hr h fuel
end Go.Proofs.YtneammhkgmkkfaaGreatDoor.rg
