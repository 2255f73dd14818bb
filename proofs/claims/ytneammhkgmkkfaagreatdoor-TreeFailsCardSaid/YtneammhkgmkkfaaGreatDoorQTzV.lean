/- A part of the proof. -/
import Derived.Test.YtneammhkgmkkfaaGreatDoorQTzMg
import Derived.ChangeShapes
namespace Go.Proofs.YtneammhkgmkkfaaGreatDoor.tr
open Go.RowKit Go.Proofs.YtneammhkgmkkfaaGreatDoor.er Go.ChangeShapes Go.WideShapes Go.Deep Go.Joins
set_option linter.unusedVariables false
set_option linter.unusedSimpArgs false
theorem addr_spot {w : World} {b off : Nat} {s : Option Nat} {v : Value} (h : w.cell? ((⟨b,off,s⟩ : Addr).add 0) = some v) : s = none := by
  have h1 := World.cell?_spot h
  simpa [Addr.add] using h1
theorem addr_add (b off j : Nat) : (⟨b,off,none⟩ : Addr).add j = ⟨b,off + j,none⟩ := by unfold Addr.add; split <;> simp_all
theorem addr_add2 (b off j : Nat) (s : Option Nat) (k : Nat) : ((⟨b,off,s⟩ : Addr).add j).add k = (⟨b,off,s⟩ : Addr).add (j + k) := by unfold Addr.add; by_cases hj : j = 0 <;> by_cases hk : k = 0 <;> simp [hj,hk,Nat.add_assoc] <;> omega
theorem exists_list {α : Type} (P : Nat → α → Prop) : ∀ n : Nat,(∀ i,i < n → ∃ s,P i s) → ∃ l : List α,l.length = n ∧ ∀ (i : Nat) (s : α),l[i]? = some s → P i s
  | 0,_ => ⟨[],rfl,fun i s h => by simp at h⟩
  | n + 1,h => by
    obtain ⟨l,hl,hp⟩ := exists_list P n (fun i hi => h i (by omega))
    obtain ⟨s,hs⟩ := h n (by omega)
    refine ⟨l ++ [s],by simp [hl],fun i u hu => ?_⟩
    rcases Nat.lt_or_ge i n with hi | hi
    · rw [List.getElem?_append_left (by omega)] at hu
      exact hp i u hu
    · have e : i = n := by
        have := (List.getElem?_eq_some_iff.1 hu).1
        simp [hl] at this
        omega
      subst e
      rw [List.getElem?_append_right (by omega)] at hu
      simp [hl] at hu
      subst hu
      exact hs
theorem list7 {α : Type} {cs : List α} (h : cs.length = 7) : ∃ x0 x1 x2 x3 x4 x5 x6,cs = [x0,x1,x2,x3,x4,x5,x6] := by
  match cs,h with
  | [x0,x1,x2,x3,x4,x5,x6],_ => exact ⟨x0,x1,x2,x3,x4,x5,x6,rfl⟩
theorem cells7 : Tryz.prog.cellsOf 101 = 7 := by kernel_rfl
theorem cells4 : Tryz.prog.cellsOf 59 = 4 := by kernel_rfl
theorem cells1 : Tryz.prog.cellsOf 3 = 1 := by kernel_rfl
set_option maxHeartbeats 1000000 in
set_option maxRecDepth 20000 in
theorem open_acts {H : Type} {enc : TypeId × Value → H} {W : World} {base : Nat} {spare : Nat → Bool} {held : Bool} {fuel : Nat} {A : Option Addr} {len cap : Nat} {y : DataW H × List MemPlace}
    (h : DataW.trod enc Tryz.prog W base spare held fuel 47 [.slice A len cap] = some y) : ∃ L,ActsAt W (.slice A len cap) L := by
  rcases open_slice Tryz.underlying47 h with ⟨hcs,_⟩ | ⟨a,l,c,m,n,D,Pl,hcs,_,hl,hm,hmm,_,hi⟩
  · simp at hcs
    obtain ⟨rfl,rfl,rfl⟩ := hcs
    exact ⟨[],none,0,rfl,by simp,by simp⟩
  · simp at hcs
    obtain ⟨rfl,rfl,rfl⟩ := hcs
    obtain ⟨b,off,spot⟩ := a
    have hml : len ≤ m := by rw [hmm]; split <;> omega
    rcases Nat.eq_zero_or_pos len with h00 | h00
    · subst h00
      exact ⟨[],_,cap,rfl,by simp,by simp⟩
    have hspot : spot = none := by
      obtain ⟨cs,h1,h2⟩ := hi 0 (by omega)
      rw [cells7] at h1
      obtain ⟨_,hlen,hc⟩ := World.cells?_some h1
      obtain ⟨x0,x1,x2,x3,x4,x5,x6,rfl⟩ := list7 hlen
      have e0 := hc 0 (by omega)
      rw [addr_add2] at e0
      exact addr_spot (v := x0) (by simpa using e0)
    subst hspot
    have hcell : ∀ i,i < len → ∃ a : Act,ActAt W b (off + i * 7) a := by
      intro i hil
      obtain ⟨cs,h1,h2⟩ := hi i (by omega)
      rw [cells7] at h1
      obtain ⟨_,hlen,hc⟩ := World.cells?_some h1
      obtain ⟨y0,y1,y2,y3,n',_,_,g0,g1,g2,g3⟩ := trod_struct4 Tryz.underlying101 h2
      obtain ⟨z0,z1,z2,z3,n'',_,_,k0,k1,k2,k3⟩ := trod_struct4 Tryz.underlying59 g1
      obtain ⟨x0,x1,x2,x3,x4,x5,x6,rfl⟩ := list7 hlen
      simp only [cells1,cells4,List.drop_zero,List.drop_succ_cons,List.take_succ_cons,List.take_zero] at g0 g2 g3 k0 k1 k2 k3
      obtain ⟨a0,u0,-,_⟩ := DataW.trod_int Tryz.underlying3 g0
      obtain ⟨a1,u1,-,_⟩ := DataW.trod_int Tryz.underlying3 k0
      obtain ⟨a2,u2,-,_⟩ := DataW.trod_int Tryz.underlying3 k1
      obtain ⟨a3,u3,-,_⟩ := DataW.trod_int Tryz.underlying3 k2
      obtain ⟨a4,u4,-,_⟩ := DataW.trod_int Tryz.underlying3 k3
      obtain ⟨a5,u5,-,_⟩ := DataW.trod_int Tryz.underlying3 g2
      obtain ⟨a6,u6,-,_⟩ := DataW.trod_int Tryz.underlying3 g3
      simp at u0 u1 u2 u3 u4 u5 u6
      subst u0 u1 u2 u3 u4 u5 u6
      have e0 := hc 0 (by omega)
      have e1 := hc 1 (by omega)
      have e2 := hc 2 (by omega)
      have e3 := hc 3 (by omega)
      have e4 := hc 4 (by omega)
      have e5 := hc 5 (by omega)
      have e6 := hc 6 (by omega)
      rw [addr_add2] at e0 e1 e2 e3 e4 e5 e6
      rw [addr_add] at e0 e1 e2 e3 e4 e5 e6
      refine ⟨⟨a0,⟨a1,a2,a3,a4⟩,a5,a6⟩,?_⟩
      exact ⟨by simpa using e0,by simpa [Nat.add_assoc] using e1,by simpa [Nat.add_assoc] using e2,by simpa [Nat.add_assoc] using e3,by simpa [Nat.add_assoc] using e4,by simpa [Nat.add_assoc] using e5,by simpa [Nat.add_assoc] using e6⟩
    obtain ⟨L,hL,hst⟩ := exists_list _ len hcell
    exact ⟨L,some ⟨b,off,none⟩,cap,by rw [hL],by rw [hL]; unfold maxLen at hm; omega,fun h0 => ⟨b,off,rfl,hst⟩⟩
end Go.Proofs.YtneammhkgmkkfaaGreatDoor.tr
