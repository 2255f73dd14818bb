/- A part of the proof. -/
import Derived.Test.YtneammhkgmkkfaaGreatDoorPTqF
namespace Go.Proofs.YtneammhkgmkkfaaGreatDoor.tr
open Go.RowKit Go.Proofs.YtneammhkgmkkfaaGreatDoor.er
set_option linter.unusedVariables false
set_option linter.unusedSimpArgs false
theorem rd_any (h : Nat) (hh : h ≤ 40) : RdCtr h := by
  induction h with
  | zero => exact rd_leaf
  | succ h ih => exact rd_inner (by omega) (ih (by omega))
theorem byteL {l : List UInt8} {i : Nat} {x : UInt8} (h : l[i]? = some x) : byteAt ⟨l.toArray⟩ i = (x.toNat : Int) := by
  obtain ⟨h1,h2⟩ := List.getElem?_eq_some_iff.1 h
  unfold byteAt
  rw [dif_pos (by show i < l.toArray.size; simpa using h1)]
  have : (⟨l.toArray⟩ : ByteArray)[i]'(by show i < l.toArray.size; simpa using h1) = x := by
    show l.toArray[i]'_ = x
    simpa using h2
  rw [this]
theorem flatR_at {α : Type} {R : α → List UInt8} {m : Nat} : ∀ (l : List α) (i : Nat) (x : α) (d : Nat),(∀ y,(R y).length = m) → l[i]? = some x → d < m → (l.flatMap R)[m * i + d]? = (R x)[d]?
  | [],i,x,d,_,h,_ => by simp at h
  | y :: l,0,x,d,hR,h,hd => by
    simp at h
    subst h
    rw [List.flatMap_cons,List.getElem?_append_left (by rw [hR]; omega)]
    simp
  | y :: l,i + 1,x,d,hR,h,hd => by
    have ih := flatR_at l i x d hR (by simpa using h) hd
    rw [List.flatMap_cons,List.getElem?_append_right (by rw [hR,Nat.mul_succ]; omega),hR,← ih]
    congr 1
    rw [Nat.mul_succ]; omega
def bq (n : Int) (j : Nat) : UInt8 := UInt8.ofNat (n / (256 ^ j : Int) % 256).toNat
theorem bq_nat (n : Int) (j : Nat) : ((bq n j).toNat : Int) = n / 256 ^ j % 256 := byte_mod _ (Int.emod_nonneg _ (by decide)) (Int.emod_lt_of_pos _ (by decide))
theorem ext_row (e : Ext) : extRow e = [bq e.fr 0,bq e.fr 1,bq e.fr 2,bq e.n 0,bq e.n 1,bq e.n 2,bq e.n 3,bq e.kind 0,bq e.at_ 0,bq e.at_ 1] := rfl
theorem kid_row (k : Kid) : kidRow k = [bq k.key 0,bq k.key 1,bq k.key 2,bq k.at_ 0,bq k.at_ 1] := rfl
theorem len8 {n : Nat} (h : n ≤ 8) : ((UInt8.ofNat n).toNat : Int) = n := by
  have := byte_mod (n : Int) (by omega) (by omega)
  simpa using this
theorem size_flat {α : Type} {R : α → List UInt8} {m : Nat} (l : List α) (h : ∀ y,(R y).length = m) : (l.flatMap R).length = m * l.length := by
  induction l with
  | nil => simp
  | cons y l ih => rw [List.flatMap_cons,List.length_append,h,ih,List.length_cons,Nat.mul_succ]; omega
theorem leaf_dec {l : List Ext} (h1 : 1 ≤ l.length) (h8 : l.length ≤ 8) (ho : ∀ e ∈ l,oneB e = true) : okE ⟨(leafL l).toArray⟩ = true ∧ extsD ⟨(leafL l).toArray⟩ = l ∧ (leafL l).length ≤ 81 := by
  have hL : ∀ y,(extRow y).length = 10 := fun y => by rw [ext_row]; rfl
  have hb0 : byteAt ⟨(leafL l).toArray⟩ 0 = (l.length : Int) := by rw [byteL (l := leafL l) (i := 0) (x := UInt8.ofNat l.length) rfl,len8 h8]
  have hsz : (leafL l).length = 1 + 10 * l.length := by unfold leafL; rw [List.length_cons,size_flat l hL]; omega
  have hs2 : (⟨(leafL l).toArray⟩ : ByteArray).size = 1 + 10 * l.length := by show (leafL l).toArray.size = _; simpa using hsz
  refine ⟨?_,?_,by omega⟩
  · unfold okE
    rw [hb0,hs2]
    simp
    omega
  · have hbb : ∀ (j : Nat) (e : Ext) (d : Nat) (x : UInt8),l[j]? = some e → (extRow e)[d]? = some x → d < 10 → byteAt ⟨(leafL l).toArray⟩ (1 + 10 * j + d) = (x.toNat : Int) := by
      intro j e d x hj hx hd
      refine byteL ?_
      unfold leafL
      rw [show 1 + 10 * j + d = (10 * j + d) + 1 by omega,List.getElem?_cons_succ,flatR_at l j e d hL hj hd]
      exact hx
    apply List.ext_getElem?
    intro i
    by_cases hi : i < l.length
    · have hj := List.getElem?_eq_getElem hi
      generalize l[i] = e at hj
      rw [extsD_at _ i (by rw [hb0]; omega),hj]
      have hf := ext_fit (ho e (List.mem_of_getElem? hj))
      have k1 := one_spec (ho e (List.mem_of_getElem? hj))
      have hh := hbb i e
      have e1 : leN ⟨(leafL l).toArray⟩ (1 + 10 * i) 3 = e.fr := leN_of _ _ _ _ (by omega) (by have h2 : e.end_ = e.fr + e.n := rfl; omega) (by omega) (fun d hd => by
        match d,hd with
        | 0,_ => rw [show 1 + 10 * i + 0 = 1 + 10 * i + 0 from rfl,hh 0 (bq e.fr 0) hj rfl (by omega),bq_nat]
        | 1,_ => rw [hh 1 (bq e.fr 1) hj rfl (by omega),bq_nat]
        | 2,_ => rw [hh 2 (bq e.fr 2) hj rfl (by omega),bq_nat])
      have e2 : leN ⟨(leafL l).toArray⟩ (1 + 10 * i + 3) 4 = e.n := leN_of _ _ _ _ (by omega) (by have h2 : e.end_ = e.fr + e.n := rfl; omega) (by omega) (fun d hd => by
        match d,hd with
        | 0,_ => rw [hh 3 (bq e.n 0) hj rfl (by omega),bq_nat]
        | 1,_ => rw [Nat.add_assoc (1 + 10 * i),hh 4 (bq e.n 1) hj rfl (by omega),bq_nat]
        | 2,_ => rw [Nat.add_assoc (1 + 10 * i),hh 5 (bq e.n 2) hj rfl (by omega),bq_nat]
        | 3,_ => rw [Nat.add_assoc (1 + 10 * i),hh 6 (bq e.n 3) hj rfl (by omega),bq_nat])
      have e3 : leN ⟨(leafL l).toArray⟩ (1 + 10 * i + 7) 1 = e.kind := leN_of _ _ _ _ (by omega) (by omega) (by omega) (fun d hd => by
        match d,hd with
        | 0,_ => rw [hh 7 (bq e.kind 0) hj rfl (by omega),bq_nat])
      have e4 : leN ⟨(leafL l).toArray⟩ (1 + 10 * i + 8) 2 = e.at_ := leN_of _ _ _ _ (by omega) (by omega) (by omega) (fun d hd => by
        match d,hd with
        | 0,_ => rw [hh 8 (bq e.at_ 0) hj rfl (by omega),bq_nat]
        | 1,_ => rw [Nat.add_assoc (1 + 10 * i),hh 9 (bq e.at_ 1) hj rfl (by omega),bq_nat])
      unfold extD
      rw [e1,e2,e3,e4]
    · rw [List.getElem?_eq_none (by rw [extsD_len,hb0]; omega),List.getElem?_eq_none (by omega)]
theorem inner_dec {l : List Kid} (h1 : 1 ≤ l.length) (h8 : l.length ≤ 8) (ho : ∀ k ∈ l,kidB k = true) : okK ⟨(innerL l).toArray⟩ = true ∧ kidsD ⟨(innerL l).toArray⟩ = l ∧ (innerL l).length ≤ 81 := by
  have hL : ∀ y,(kidRow y).length = 5 := fun y => by rw [kid_row]; rfl
  have hb0 : byteAt ⟨(innerL l).toArray⟩ 0 = (l.length : Int) := by rw [byteL (l := innerL l) (i := 0) (x := UInt8.ofNat l.length) rfl,len8 h8]
  have hsz : (innerL l).length = 1 + 5 * l.length := by unfold innerL; rw [List.length_cons,size_flat l hL]; omega
  have hs2 : (⟨(innerL l).toArray⟩ : ByteArray).size = 1 + 5 * l.length := by show (innerL l).toArray.size = _; simpa using hsz
  refine ⟨?_,?_,by omega⟩
  · unfold okK
    rw [hb0,hs2]
    simp
    omega
  · have hbb : ∀ (j : Nat) (e : Kid) (d : Nat) (x : UInt8),l[j]? = some e → (kidRow e)[d]? = some x → d < 5 → byteAt ⟨(innerL l).toArray⟩ (1 + 5 * j + d) = (x.toNat : Int) := by
      intro j e d x hj hx hd
      refine byteL ?_
      unfold innerL
      rw [show 1 + 5 * j + d = (5 * j + d) + 1 by omega,List.getElem?_cons_succ,flatR_at l j e d hL hj hd]
      exact hx
    apply List.ext_getElem?
    intro i
    by_cases hi : i < l.length
    · have hj := List.getElem?_eq_getElem hi
      generalize l[i] = e at hj
      rw [kidsD_at _ i (by rw [hb0]; omega),hj]
      have k1 := ho e (List.mem_of_getElem? hj)
      unfold kidB at k1
      simp at k1
      have hh := hbb i e
      have e1 : leN ⟨(innerL l).toArray⟩ (1 + 5 * i) 3 = e.key := leN_of _ _ _ _ (by omega) (by omega) (by omega) (fun d hd => by
        match d,hd with
        | 0,_ => rw [hh 0 (bq e.key 0) hj rfl (by omega),bq_nat]
        | 1,_ => rw [hh 1 (bq e.key 1) hj rfl (by omega),bq_nat]
        | 2,_ => rw [hh 2 (bq e.key 2) hj rfl (by omega),bq_nat])
      have e2 : leN ⟨(innerL l).toArray⟩ (1 + 5 * i + 3) 2 = e.at_ := leN_of _ _ _ _ (by omega) (by omega) (by omega) (fun d hd => by
        match d,hd with
        | 0,_ => rw [hh 3 (bq e.at_ 0) hj rfl (by omega),bq_nat]
        | 1,_ => rw [Nat.add_assoc (1 + 5 * i),hh 4 (bq e.at_ 1) hj rfl (by omega),bq_nat])
      unfold kidD
      rw [e1,e2]
    · rw [List.getElem?_eq_none (by rw [kidsD_len,hb0]; omega),List.getElem?_eq_none (by omega)]
end Go.Proofs.YtneammhkgmkkfaaGreatDoor.tr
