/- A part of the proof. -/
import Derived.Test.YtneammhkgmkkfaaGreatDoorQTsMg
import Derived.Test.YtneammhkgmkkfaaGreatDoorQTwA
namespace Go.Proofs.YtneammhkgmkkfaaGreatDoor.tr
open Go.RowKit Go.Proofs.YtneammhkgmkkfaaGreatDoor.er
set_option linter.unusedVariables false
set_option linter.unusedSimpArgs false
theorem parts_two : ∀ (l : List Ext) (a b : Int),Chk l → a ≤ b → (parts l 0 a).length + (parts l b 16777216).length ≤ l.length + 1
  | [],a,b,_,_ => by simp [parts]
  | x :: r,a,b,hc,hab => by
    have ih := parts_two r a b hc.tail hab
    have e1 : ∀ (u v : Int),(parts (x :: r) u v).length = (parts r u v).length + (match partOf x u v with | some _ => 1 | none => 0) := by
      intro u v
      unfold parts
      rw [List.filterMap_cons]
      cases partOf x u v <;> simp
    rw [e1,e1,List.length_cons]
    by_cases hs : x.fr < a ∧ b < x.end_
    · have hn : parts r 0 a = [] := parts_no (fun y hy => part_none (.inr (.inl (by
        have := (List.pairwise_cons.1 hc.ord).1 y hy
        omega))))
      rw [hn]
      have := parts_len r b 16777216
      simp only [List.length_nil]
      split <;> split <;> omega
    · by_cases h1 : x.fr < a
      · have : partOf x b 16777216 = none := part_none (.inl (by omega))
        rw [this]
        simp only
        split <;> omega
      · have : partOf x 0 a = none := part_none (.inr (.inl (by omega)))
        rw [this]
        simp only
        split <;> omega
theorem over_len {l : List Ext} {e : Ext} (hc : Chk l) (he : oneB e = true) : (overL l e).length ≤ l.length + 2 := by
  have k := one_spec he
  have h2 : e.end_ = e.fr + e.n := rfl
  have h := parts_two l e.fr e.end_ hc (by omega)
  have hf := fold_len (parts l 0 e.fr ++ [e] ++ parts l e.end_ 16777216) []
  unfold overL tidy
  simp only [List.length_append,List.length_cons,List.length_nil] at hf
  omega
theorem cut_len {l : List Ext} {fr n : Int} (hc : Chk l) (h1 : 0 ≤ n) : (cutL l fr n).length ≤ l.length + 2 := by
  have h := parts_two l fr (fr + n) hc (by omega)
  have hf := fold_len (parts l 0 fr ++ parts l (fr + n) 16777216) []
  unfold cutL tidy
  simp only [List.length_append,List.length_nil] at hf
  omega
theorem act_len {l : List Ext} (a : Act) (hc : Chk l) : (a.list l).length ≤ l.length + 2 := by
  unfold Act.list
  split
  · split
    · rename_i h; exact over_len hc h
    · omega
  · split
    · split
      · rename_i h; exact cut_len hc (span_spec h).2.1
      · omega
    · omega
theorem her_true : Her (fun {h} (_ : Nd h) => True) := ⟨fun _ => trivial,fun _ _ => trivial,fun _ _ _ _ => trivial⟩
theorem act_kept {P : {h : Nat} → Nd h → Prop} (H : Her @P) {T : Tree} (a : Act) (ho : T.Ok) (hc : Chk T.flat) : (T.All @P → (a.tree T).All @P) ∧ ((a.tree T).nfs).Sublist T.nfs := by
  unfold Act.tree
  split
  · split
    · rename_i h
      have k := over_kept H ho hc h
      exact ⟨k.her,k.nf⟩
    · exact ⟨id,List.Sublist.refl _⟩
  · split
    · split
      · rename_i h
        obtain ⟨s1,s2,s3⟩ := span_spec h
        have k := cut_kept H ho hc s1 s2 s3
        exact ⟨k.her,k.nf⟩
      · exact ⟨id,List.Sublist.refl _⟩
    · exact ⟨id,List.Sublist.refl _⟩
theorem fr_le (T : Tree) : T.fr ≤ T.cnt := by
  cases T with
  | no => exact Nat.le_refl _
  | top h n =>
    show ((ats n).filter _).length ≤ cntN n
    rw [← ats_len]
    exact List.length_filter_le _ _
theorem cnt_le {T : Tree} (h : T.Ok) : T.cnt ≤ 1 + T.flat.length / 3 := by
  by_cases he : T.flat = []
  · rw [((tree_high h).1 he).2]; omega
  · exact ((tree_high h).2 he).2.2.2
theorem ok_strip {h : Nat} {n n' : Nd h} (hs : strip n' = strip n) (ho : (Tree.top h n).Ok) : (Tree.top h n').Ok := by
  have h1 : n'.size = n.size := by rw [← strip_size,hs,strip_size]
  have h2 : Kw n' ↔ Kw n := by rw [← strip_kw,hs,strip_kw]
  cases h with
  | zero => exact (show 1 ≤ n'.size ∧ n'.size ≤ 8 by rw [h1]; exact ho)
  | succ h => exact (show (2 ≤ n'.size ∧ n'.size ≤ 8) ∧ Kw n' by rw [h1,h2]; exact ho)
theorem flat_strip {h : Nat} {n n' : Nd h} (hs : strip n' = strip n) : flat n' = flat n := by rw [← strip_flat,hs,strip_flat]
end Go.Proofs.YtneammhkgmkkfaaGreatDoor.tr
