/- A part of the proof. -/
import Derived.Test.YtneammhkgmkkfaaGreatPTsMg
import Derived.Test.YtneammhkgmkkfaaGreatPTwA
namespace Go.Proofs.YtneammhkgmkkfaaGreat.tr
open Go.RowKit Go.Proofs.YtneammhkgmkkfaaGreat.er
set_option linter.unusedVariables false
set_option linter.unusedSimpArgs false
theorem parts_two : ∀ (l : List Ext) (a b : Int),Chk l → a ≤ b → (parts l 0 a).length + (parts l b 16777216).length ≤ l.length + 1
  | [],a,b,_,_ => by simp [parts]
  | x :: r,a,b,hc,hab => by
    have ih := parts_two r a b hc.tail hab
    have e1 : ∀ (u v : Int),(parts (x :: r) u v).length = (parts r u v).length + (match partOf x u v with | some _ => 1 | none => 0) := by
      intro u v
      unfold parts
      rw [List.filterMap_cons]
      cases partOf x u v <;> simp
    rw [e1,e1,List.length_cons]
    by_cases hs : x.fr < a ∧ b < x.end_
    · have hn : parts r 0 a = [] := parts_no (fun y hy => part_none (.inr (.inl (by
        have := (List.pairwise_cons.1 hc.ord).1 y hy
        omega))))
      rw [hn]
      have := parts_len r b 16777216
      simp only [List.length_nil]
      split <;> split <;> omega
    · by_cases h1 : x.fr < a
      · have : partOf x b 16777216 = none := part_none (.inl (by omega))
        rw [this]
        simp only
        split <;> omega
      · have : partOf x 0 a = none := part_none (.inr (.inl (by omega)))
        rw [this]
        simp only
        split <;> omega
theorem over_len {l : List Ext} {e : Ext} (hc : Chk l) (he : oneB e = true) : (overL l e).length ≤ l.length + 2 := by
  have k := one_spec he
  have h2 : e.end_ = e.fr + e.n := rfl
  have h := parts_two l e.fr e.end_ hc (by omega)
  have hf := fold_len (parts l 0 e.fr ++ [e] ++ parts l e.end_ 16777216) []
  unfold overL tidy
  simp only [List.length_append,List.length_cons,List.length_nil] at hf
  omega
theorem cut_len {l : List Ext} {fr n : Int} (hc : Chk l) (h1 : 0 ≤ n) : (cutL l fr n).length ≤ l.length + 2 := by
  have h := parts_two l fr (fr + n) hc (by omega)
  have hf := fold_len (parts l 0 fr ++ parts l (fr + n) 16777216) []
  unfold cutL tidy
  simp only [List.length_append,List.length_nil] at hf
  omega
theorem act_len {l : List Ext} (a : Act) (hc : Chk l) : (a.list l).length ≤ l.length + 2 := by
  unfold Act.list
  split
  · split
    · rename_i h; exact over_len hc h
    · omega
  · split
    · split
      · rename_i h; exact cut_len hc (span_spec h).2.1
      · omega
    · omega
theorem her_true : Her (fun {h} (_ : Nd h) => True) := ⟨fun _ => trivial,fun _ _ => trivial,fun _ _ _ _ => trivial⟩
theorem act_kept {P : {h : Nat} → Nd h → Prop} (H : Her @P) {T : Tree} (a : Act) (ho : T.Ok) (hc : Chk T.flat) : (T.All @P → (a.tree T).All @P) ∧ ((a.tree T).nfs).Sublist T.nfs := by
  unfold Act.tree
  split
  · split
    · rename_i h
      have k := over_kept H ho hc h
      exact ⟨k.her,k.nf⟩
    · exact ⟨id,List.Sublist.refl _⟩
  · split
    · split
      · rename_i h
        obtain ⟨s1,s2,s3⟩ := span_spec h
        have k := cut_kept H ho hc s1 s2 s3
        exact ⟨k.her,k.nf⟩
      · exact ⟨id,List.Sublist.refl _⟩
    · exact ⟨id,List.Sublist.refl _⟩
theorem cnt_le {T : Tree} (h : T.Ok) : T.cnt ≤ 1 + T.flat.length / 3 := by
  by_cases he : T.flat = []
  · rw [((tree_high h).1 he).2]; omega
  · exact ((tree_high h).2 he).2.2.2
theorem ok_strip {h : Nat} {n n' : Nd h} (hs : strip n' = strip n) (ho : (Tree.top h n).Ok) : (Tree.top h n').Ok := by
  have h1 : n'.size = n.size := by rw [← strip_size,hs,strip_size]
  have h2 : Kw n' ↔ Kw n := by rw [← strip_kw,hs,strip_kw]
  cases h with
  | zero => exact (show 1 ≤ n'.size ∧ n'.size ≤ 8 by rw [h1]; exact ho)
  | succ h => exact (show (2 ≤ n'.size ∧ n'.size ≤ 8) ∧ Kw n' by rw [h1,h2]; exact ho)
theorem flat_strip {h : Nat} {n n' : Nd h} (hs : strip n' = strip n) : flat n' = flat n := by rw [← strip_flat,hs,strip_flat]
theorem wrote_of {T T' : Tree} {L L' : Bk} (h : Wrote T L T' L') (ho : T.Ok) : T'.Ok ∧ T'.flat = T.flat ∧ L'.length = L.length + T.fr ∧ (∃ M,L' = L ++ M) ∧ ((T.nfs.Nodup ∧ ∀ a ∈ T.nfs,0 ≤ a ∧ a < L.length) → T'.nfs.Nodup ∧ ∀ a ∈ T'.nfs,0 ≤ a ∧ a < L'.length) ∧ T'.fr = 0 ∧ T'.cnt = T.cnt ∧ T'.high = T.high := by
  cases T with
  | no =>
    obtain ⟨rfl,rfl⟩ := h
    exact ⟨ho,rfl,rfl,⟨[],by simp⟩,id,rfl,rfl,rfl⟩
  | top hh n =>
    obtain ⟨n',rfl,hw⟩ := h
    refine ⟨ok_strip hw.strip ho,flat_strip hw.strip,?_,hw.pre,fun _ => ⟨hw.nd,hw.rng⟩,?_,?_,rfl⟩
    · rw [hw.cnt,List.take_length]; rfl
    · show ((ats n').filter _).length = 0
      rw [List.length_eq_zero_iff,List.filter_eq_nil_iff]
      intro a ha
      obtain ⟨i,hi,rfl⟩ := List.mem_iff_getElem.1 ha
      have hl : (ats n').length = (ats n).length := by rw [ats_len,ats_len,← strip_cnt,hw.strip,strip_cnt]
      have := hw.low i _ (by omega) (List.getElem?_eq_getElem hi)
      simpa using this
    · show cntN n' = cntN n
      rw [← strip_cnt,hw.strip,strip_cnt]
def PlI (w0 wr : World) (p bb : Nat) (T : Tree) (rv : Value) (L : Bk) : Prop :=
  Keep (fun _ => False) w0 wr ∧ T.Ok ∧ Chk T.flat ∧ (T.nfs.Nodup ∧ ∀ a ∈ T.nfs,0 ≤ a ∧ a < L.length) ∧ ∃ (F : List Nat) (G : Nat → Prop),TrAt wr F p T ∧ (∀ k ∈ F,w0.heap.size ≤ k) ∧ BkAt wr G bb L ∧ (∀ k,G k → w0.heap.size ≤ k) ∧ (∀ k ∈ F,¬ G k) ∧ (∃ B,RL wr B rv T.flat) ∧ ∀ g,rv.ownBlock = some g → g ∉ F
theorem PlI.below {w0 wr wq : World} {p bb : Nat} {T : Tree} {rv : Value} {L : Bk} (h : PlI w0 wr p bb T rv L) (hb : Below wr.heap.size wr wq) : PlI w0 wq p bb T rv L := by
  obtain ⟨h1,h2,h3,h4,F,G,f1,f2,f3,f4,f5,⟨B,f6⟩,f7⟩ := h
  exact ⟨h1.transBelow hb,h2,h3,h4,F,G,f1.keep (Keep.below (F := fun _ => False) hb) (fun _ _ h => h),f2,f3.below hb,f4,f5,⟨B,f6.below hb⟩,f7⟩
theorem PlI.st {w0 wr : World} {p bb : Nat} {T : Tree} {rv : Value} {L : Bk} (h : PlI w0 wr p bb T rv L) : St w0 wr p T rv T.flat := by
  obtain ⟨h1,h2,h3,h4,F,G,f1,f2,f3,f4,f5,f6,f7⟩ := h
  exact ⟨h1,h2,h3,h3,F,f1,f2,f6,f7⟩
theorem PlI.book {w0 wr : World} {p bb : Nat} {T : Tree} {rv : Value} {L : Bk} (h : PlI w0 wr p bb T rv L) : ∃ A c,wr.cell? ⟨bb,0,none⟩ = some (.slice A L.length c) := by
  obtain ⟨h1,h2,h3,h4,F,G,f1,f2,f3,f4,f5,f6,f7⟩ := h
  exact f3.cell
theorem pl_write {w0 wr : World} {p bb : Nat} {T : Tree} {rv : Value} {L : Bk} (h : PlI w0 wr p bb T rv L) (hl : L.length + T.fr ≤ 2000) (hN : T.cnt ≤ 16777216) :
    Calls Tryz.prog 29 #[.pointer (some ⟨p,0,none⟩),.func (.func 30) #[.pointer (some ⟨bb,0,none⟩)] #[]] wr fun x w' => ∃ T' L',x = .returned (.tuple #[.int .i64 T'.topAt,.nilIface]) ∧ Wrote T L T' L' ∧ PlI w0 w' p bb T' rv L' := by
  obtain ⟨h1,h2,h3,h4,F,G,f1,f2,f3,f4,f5,⟨B,f6⟩,f7⟩ := h
  refine (write_any wr F p T G bb L f1 h2 h3 f3 f5 h4.1 h4.2 hl hN).mono ?_
  rintro x w' ⟨T',L',G',rfl,k1,k2,k3,k4,k5⟩
  obtain ⟨q1,q2,q3,q4,q5,q6,q7,q8⟩ := wrote_of k1 h2
  have hlt := f1.lt
  refine ⟨T',L',rfl,k1,h1.trans k5 (fun k hk => .inr ?_),q1,by rw [q2]; exact h3,q5 h4,F,G',k2,f2,k3,fun k hk => ?_,fun k hk hg => ?_,⟨B,?_⟩,f7⟩
  · rcases hk with hk | hk
    · exact f2 k hk
    · exact f4 k hk
  · rcases k4 k hk with hk | hk
    · exact f4 k hk
    · have := h1.size; omega
  · rcases k4 k hg with hg | hg
    · exact f5 k hk hg
    · have := hlt k hk; omega
  · rw [q2]
    refine ⟨own_keep f6.own k5 (fun g hg hk => ?_),f6.one⟩
    rcases hk with hk | hk
    · exact f7 g hg hk
    · exact f3.apart f6.own (by decide) (by decide) hg hk
end Go.Proofs.YtneammhkgmkkfaaGreat.tr
