/- A part of the proof. -/
import Derived.Test.YtneammhkgmkkfaaGreatPTqG
import Derived.Test.YtneammhkgmkkfaaGreatPTuB
namespace Go.Proofs.YtneammhkgmkkfaaGreat.tr
open Go.RowKit Go.Proofs.YtneammhkgmkkfaaGreat.er
set_option linter.unusedVariables false
set_option linter.unusedSimpArgs false
def LieZ (L : Bk) {h : Nat} (n : Nd h) : Prop := ∀ x ∈ (ats n).zip (pgs n),getB L x.1 = some (pgKind x.2,pgStr x.2)
theorem zip_flat {h : Nat} : ∀ (ks : List (Nd h)),(ks.flatMap ats).zip (ks.flatMap pgs) = ks.flatMap fun k => (ats k).zip (pgs k)
  | [] => rfl
  | k :: r => by
    rw [List.flatMap_cons,List.flatMap_cons,List.flatMap_cons,List.zip_append (by rw [ats_len,pgs_len]),zip_flat r]
theorem pgs_in {h : Nat} (n : Nd (h + 1)) : pgs n = n.ks.flatMap pgs ++ [pgN n] := rfl
theorem apl_len {h : Nat} (ks : List (Nd h)) : (ks.flatMap ats).length = (ks.flatMap pgs).length := by
  induction ks with
  | nil => rfl
  | cons k r ih => rw [List.flatMap_cons,List.flatMap_cons,List.length_append,List.length_append,ih,ats_len,pgs_len]
theorem zip_in {h : Nat} (n : Nd (h + 1)) : (ats n).zip (pgs n) = (n.ks.flatMap fun k => (ats k).zip (pgs k)) ++ [(n.at_,pgN n)] := by
  rw [ats_in,pgs_in,List.zip_append (apl_len _),zip_flat]
  rfl
theorem lie_kids {L : Bk} {h : Nat} {n : Nd (h + 1)} (hl : LieZ L n) : ∀ k ∈ n.ks,LieZ L k := fun k hk x hx => hl x (by
  rw [zip_in]
  exact List.mem_append_left _ (List.mem_flatMap.2 ⟨k,hk,hx⟩))
theorem lie_top {L : Bk} : ∀ {h : Nat} {n : Nd h},LieZ L n → getB L n.at_ = some (pgKind (pgN n),pgStr (pgN n))
  | 0,n,hl => hl (n.at_,pgN n) (by show _ ∈ [n.at_].zip [pgN n]; simp)
  | h + 1,n,hl => hl (n.at_,pgN n) (by rw [zip_in]; simp)
theorem at_mem : ∀ {h : Nat} (n : Nd h),n.at_ ∈ ats n
  | 0,n => by show n.at_ ∈ [n.at_]; simp
  | h + 1,n => by rw [ats_in]; simp
theorem nodup_kid {h : Nat} {ks : List (Nd h)} (hn : (ks.flatMap ats).Nodup) : ∀ k ∈ ks,(ats k).Nodup := fun k hk => by
  obtain ⟨P,Q,rfl⟩ := List.append_of_mem hk
  rw [List.flatMap_append,List.flatMap_cons] at hn
  exact (List.nodup_append.1 (List.nodup_append.1 hn).2.1).1
theorem getB_pre {L M : Bk} {a : Nat} {p : Int × ByteArray} (h : L[a]? = some p) : getB (L ++ M) (a : Int) = some p := by
  unfold getB
  rw [if_neg (by omega),Int.toNat_natCast,List.getElem?_append_left (List.getElem?_eq_some_iff.1 h).1]
  exact h
theorem zip_idx {α β : Type} {l : List α} {m : List β} {x : α × β} (h : x ∈ l.zip m) : ∃ i : Nat,l[i]? = some x.1 ∧ m[i]? = some x.2 := by
  obtain ⟨i,hi,rfl⟩ := List.mem_iff_getElem.1 h
  rw [List.length_zip] at hi
  refine ⟨i,?_,?_⟩
  · rw [List.getElem_zip]; exact List.getElem?_eq_getElem (by omega)
  · rw [List.getElem_zip]; exact List.getElem?_eq_getElem (by omega)
theorem leafL_len (l : List Ext) : (leafL l).length = 1 + 10 * l.length := by
  have hL : ∀ y,(extRow y).length = 10 := fun y => by rw [ext_row]; rfl
  unfold leafL
  rw [List.length_cons,size_flat l hL]; omega
theorem innerL_len (l : List Kid) : (innerL l).length = 1 + 5 * l.length := by
  have hL : ∀ y,(kidRow y).length = 5 := fun y => by rw [kid_row]; rfl
  unfold innerL
  rw [List.length_cons,size_flat l hL]; omega
end Go.Proofs.YtneammhkgmkkfaaGreat.tr
