/- What stores into an array's blocks make of the array (plain). -/
import Derived.Test.YtfacgeappbgldaaGreatDoorNdD
namespace Go.Proofs.YtfacgeappbgldaaGreatDoor.nd
open Go.RowKit Go.Proofs.YtfacgeappbgldaaGreatDoor.er
set_option linter.unusedVariables false

theorem blkSet_page : ∀ (vs : List Value) (bs : List Blk) (i : Nat) (v : Value) (b b' : Blk), vs.length = bs.length → bs[i]? = some b → b'.worn = b.worn → b'.bad = b.bad →
    (blkCells vs bs).set (i * 3) v = blkCells (vs.set i v) (bs.set i b')
  | _, [], _, _, _, _, _, h, _, _ => by simp at h
  | [], _ :: _, _, _, _, _, h, _, _, _ => by simp at h
  | x :: vs, y :: bs, 0, v, b, b', h, h', hw, hb => by
    simp at h'
    subst h'
    simp [blkCells, hw, hb]
  | x :: vs, y :: bs, i + 1, v, b, b', h, h', hw, hb => by
    have ih := blkSet_page vs bs i v b b' (by simpa using h) (by simpa using h') hw hb
    simp only [List.set_cons_succ, blkCells, ← ih]
    rw [show (i + 1) * 3 = i * 3 + 3 from by omega]
    simp [List.set_cons_succ]
theorem blkSet_worn : ∀ (vs : List Value) (bs : List Blk) (i : Nat) (b : Blk) (x : Int), vs.length = bs.length → bs[i]? = some b →
    (blkCells vs bs).set (i * 3 + 1) (.int .i64 x) = blkCells vs (bs.set i { b with worn := x })
  | _, [], _, _, _, _, h => by simp at h
  | [], _ :: _, _, _, _, h, _ => by simp at h
  | z :: vs, y :: bs, 0, b, x, h, h' => by
    simp at h'
    subst h'
    simp [blkCells]
  | z :: vs, y :: bs, i + 1, b, x, h, h' => by
    have ih := blkSet_worn vs bs i b x (by simpa using h) (by simpa using h')
    simp only [List.set_cons_succ, blkCells, ← ih]
    rw [show (i + 1) * 3 = (i * 3 + 1) + 2 from by omega]
    simp [List.set_cons_succ]
theorem blkSet_bad : ∀ (vs : List Value) (bs : List Blk) (i : Nat) (b : Blk) (x : Bool), vs.length = bs.length → bs[i]? = some b →
    (blkCells vs bs).set (i * 3 + 2) (.bool x) = blkCells vs (bs.set i { b with bad := x })
  | _, [], _, _, _, _, h => by simp at h
  | [], _ :: _, _, _, _, h, _ => by simp at h
  | z :: vs, y :: bs, 0, b, x, h, h' => by
    simp at h'
    subst h'
    simp [blkCells]
  | z :: vs, y :: bs, i + 1, b, x, h, h' => by
    have ih := blkSet_bad vs bs i b x (by simpa using h) (by simpa using h')
    simp only [List.set_cons_succ, blkCells, ← ih]
    rw [show (i + 1) * 3 = (i * 3 + 2) + 1 from by omega]
    simp [List.set_cons_succ]

theorem Nand.blk_at {s : Nand} (h : s.Ok) {i : Nat} (hi : i < s.blocks) : s.b[i]? = some (s.blk i) := by
  have : i < s.b.length := by rw [h.bl]; exact hi
  unfold Nand.blk
  rw [List.getD_eq_getElem?_getD, List.getElem?_eq_getElem this]
  rfl
theorem Nand.setB_Ok {s : Nand} (h : s.Ok) {i : Nat} {b : Blk} (hl : b.pages.length ≤ s.per) (h0 : 0 ≤ b.worn) (h1 : b.worn ≤ s.ops) : (s.setB i b).Ok :=
  ⟨h.b0, h.b1, h.p0, h.p1, by simp [Nand.setB, h.bl], fun j c hj => by
    simp only [Nand.setB, List.getElem?_set] at hj
    split at hj
    · split at hj
      · injection hj with hj
        subst hj
        exact ⟨hl, h0, h1⟩
      · simp at hj
    · exact h.pl j c hj, h.o0, h.jk⟩

/-- A store into a block's count or mark. -/
theorem NandIn.setBlk {w : World} {F : Nat → Prop} {p : Nat} {s : Nand} {pb : Nat} {pv : Value} {vs : List Value} (h : NandIn w F p s pb pv vs) {i : Nat} {b b' : Blk} (hb : s.b[i]? = some b) (hp : b'.pages = b.pages) (k : Nat) (u : Value)
    (he : (blkCells vs s.b).set (i * 3 + k) u = blkCells vs (s.b.set i b')) (hok : (s.setB i b').Ok) : NandIn (w.setCell ⟨pb, i * 3 + k, none⟩ u) F p (s.setB i b') pb pv vs ∧ Keep (fun k => k = pb) w (w.setCell ⟨pb, i * 3 + k, none⟩ u) := by
  have hpb : p ≠ pb := whole_apart h.obj h.blk (by decide)
  have hk : Keep (fun k => k = pb) w (w.setCell ⟨pb, i * 3 + k, none⟩ u) := Keep.set1 _ _ _ _
  refine ⟨⟨hok, h.obj.keep hk hpb, ?_, by simpa [Nand.setB] using h.len, ?_, h.sep, ?_, h.fp, h.fb, h.fr, h.fl, fun g hg => by rw [size_set]; exact h.lt g hg⟩, hk⟩
  · have := h.blk.set (i * 3 + k) u
    rw [List.setIfInBounds_toArray, he] at this
    exact this
  · intro j c v hj hv
    have key : ∀ (c : Blk) (v : Value), s.b[j]? = some c → vs[j]? = some v → (w.setCell ⟨pb, i * 3 + k, none⟩ u).ownsRow 0 9 1 v c.pages.length (c.pages.map .string) := fun c v hj hv =>
      own_keep (h.row j c v hj hv) hk (fun g hg => by
        rintro rfl
        obtain ⟨cs, h1⟩ := own_type (h.row j c v hj hv) hg
        have h2 := h.blk
        unfold Whole at h2
        rw [h1] at h2
        injection h2 with h2
        injection h2 with _ h2
        exact absurd h2 (by decide))
    simp only [Nand.setB, List.getElem?_set] at hj
    split at hj
    · rename_i hij
      subst hij
      split at hj
      · injection hj with hj
        subst hj
        rw [hp]
        exact key b v hb hv
      · simp at hj
    · exact key c v hj hv
  · refine own_keep h.plan hk (fun g hg => ?_)
    rintro rfl
    obtain ⟨cs, h1⟩ := own_type h.plan hg
    have h2 := h.blk
    unfold Whole at h2
    rw [h1] at h2
    injection h2 with h2
    injection h2 with _ h2
    exact absurd h2 (by decide)

/-- A block has another row of pages. -/
theorem NandIn.newRow {w w2 : World} {F : Nat → Prop} {p : Nat} {s : Nand} {pb : Nat} {pv : Value} {vs : List Value} (h : NandIn w F p s pb pv vs) {i : Nat} {b b' : Blk} {v v' : Value} (hb : s.b[i]? = some b) (hv : vs[i]? = some v)
    (hw : b'.worn = b.worn) (hbad : b'.bad = b.bad) (hk : Keep (fun k => v.ownBlock = some k) w w2) (hrow : w2.ownsRow 0 9 1 v' b'.pages.length (b'.pages.map .string))
    (hnew : v'.ownBlock = v.ownBlock ∨ ∀ g, v'.ownBlock = some g → w.heap.size ≤ g) (hok : (s.setB i b').Ok) :
    NandIn (w2.setCell ⟨pb, i * 3, none⟩ v') (fun k => F k ∨ v'.ownBlock = some k) p (s.setB i b') pb pv (vs.set i v') ∧ Mv F w (fun k => F k ∨ v'.ownBlock = some k) (w2.setCell ⟨pb, i * 3, none⟩ v') := by
  have hpp : p ≠ pb := whole_apart h.obj h.blk (by decide)
  have hFv : ∀ g, v.ownBlock = some g → F g := fun g hg => h.fr i v g hv hg
  have tst : ∀ {g : Nat} {cs : Array Value} {t : TypeId}, Whole w g t cs → t ≠ 9 → ¬ (v.ownBlock = some g) := by
    intro g cs t hg ht hvg
    obtain ⟨cs', h1⟩ := own_type (h.row i b v hb hv) hvg
    unfold Whole at hg
    rw [h1] at hg
    injection hg with h2
    injection h2 with _ h2
    exact ht h2.symm
  have obj2 := h.obj.keep hk (tst h.obj (by decide))
  have blk2 := h.blk.keep hk (tst h.blk (by decide))
  have hs : Keep (fun k => k = pb) w2 (w2.setCell ⟨pb, i * 3, none⟩ v') := Keep.set1 _ _ _ _
  have strne : ∀ {g : Nat} {cs : Array Value}, w2.heap[g]? = some (.cells cs 9 (0, 0)) → ¬ (g = pb) := by
    rintro g cs h1 rfl
    have h2 := blk2
    unfold Whole at h2
    rw [h1] at h2
    injection h2 with h2
    injection h2 with _ h2
    exact absurd h2 (by decide)
  have hvlen : i < vs.length := (List.getElem?_eq_some_iff.1 hv).1
  have hMv : Mv F w (fun k => F k ∨ v'.ownBlock = some k) (w2.setCell ⟨pb, i * 3, none⟩ v') := by
    refine ⟨(hk.mono (fun g _ hg => hFv g hg)).trans hs (fun x hx => .inl (hx ▸ h.fb)), fun g hg => ?_⟩
    rcases hg with hg | hg
    · exact .inl hg
    · rcases hnew with hn | hn
      · rw [hn] at hg
        exact .inl (hFv g hg)
      · exact .inr (hn g hg)
  refine ⟨⟨hok, obj2.keep hs hpp, ?_, by simp [Nand.setB, h.len], ?_, ?_, ?_, .inl h.fp, .inl h.fb, ?_, fun g hg => .inl (h.fl g hg), ?_⟩, hMv⟩
  · have := blk2.set (i * 3) v'
    rw [List.setIfInBounds_toArray, blkSet_page vs s.b i v' b b' h.len hb hw hbad] at this
    exact this
  · intro j c u hj hu
    rcases Nat.lt_trichotomy i j with hij | hij | hij
    · have hj' : s.b[j]? = some c := by simpa [Nand.setB, List.getElem?_set_ne (Nat.ne_of_lt hij)] using hj
      have hu' : vs[j]? = some u := by simpa [List.getElem?_set_ne (Nat.ne_of_lt hij)] using hu
      have h1 := own_keep (h.row j c u hj' hu') hk (fun g hg hvg => h.sep i j v u g (by omega) hv hu' hvg hg)
      exact own_keep h1 hs (fun g hg => by obtain ⟨cs, h2⟩ := own_type h1 hg; exact strne h2)
    · subst hij
      have hj' : b' = c := by
        have hi2 : i < s.b.length := by rw [← h.len]; exact hvlen
        simpa [Nand.setB, hi2] using hj
      have hu' : v' = u := by simpa [hvlen] using hu
      subst hj' hu'
      exact own_keep hrow hs (fun g hg => by obtain ⟨cs, h2⟩ := own_type hrow hg; exact strne h2)
    · have hj' : s.b[j]? = some c := by simpa [Nand.setB, List.getElem?_set_ne (Nat.ne_of_gt hij)] using hj
      have hu' : vs[j]? = some u := by simpa [List.getElem?_set_ne (Nat.ne_of_gt hij)] using hu
      have h1 := own_keep (h.row j c u hj' hu') hk (fun g hg hvg => h.sep i j v u g (by omega) hv hu' hvg hg)
      exact own_keep h1 hs (fun g hg => by obtain ⟨cs, h2⟩ := own_type h1 hg; exact strne h2)
  · -- no two rows share a block
    have lt1 : ∀ (j : Nat) (u : Value) (g : Nat), vs[j]? = some u → u.ownBlock = some g → g < w.heap.size := fun j u g hu hg => h.lt g (h.fr j u g hu hg)
    intro j j' u u' g hne hu hu' hg hg'
    by_cases h1 : i = j
    · subst h1
      have e : v' = u := by simpa [hvlen] using hu
      subst e
      have hu2 : vs[j']? = some u' := by simpa [List.getElem?_set_ne hne] using hu'
      rcases hnew with hn | hn
      · rw [hn] at hg
        exact h.sep i j' v u' g hne hv hu2 hg hg'
      · have := hn g hg
        have := lt1 j' u' g hu2 hg'
        omega
    · have hu1 : vs[j]? = some u := by simpa [List.getElem?_set_ne h1] using hu
      by_cases h2 : i = j'
      · subst h2
        have e : v' = u' := by simpa [hvlen] using hu'
        subst e
        rcases hnew with hn | hn
        · rw [hn] at hg'
          exact h.sep j i u v g hne hu1 hv hg hg'
        · have := hn g hg'
          have := lt1 j u g hu1 hg
          omega
      · have hu2 : vs[j']? = some u' := by simpa [List.getElem?_set_ne h2] using hu'
        exact h.sep j j' u u' g hne hu1 hu2 hg hg'
  · have h1 := own_keep h.plan hk (fun g hg hvg => own_apart h.plan (h.row i b v hb hv) (by decide) hg hvg)
    exact own_keep h1 hs (fun g hg => by
      rintro rfl
      obtain ⟨cs, h3⟩ := own_type h1 hg
      have h2 := blk2
      unfold Whole at h2
      rw [h3] at h2
      injection h2 with h2
      injection h2 with _ h2
      exact absurd h2 (by decide))
  · intro j u g hu hg
    by_cases h1 : i = j
    · subst h1
      have e : v' = u := by simpa [hvlen] using hu
      subst e
      exact .inr hg
    · exact .inl (h.fr j u g (by simpa [List.getElem?_set_ne h1] using hu) hg)
  · intro g hg
    rw [size_set]
    rcases hg with hg | hg
    · exact Nat.lt_of_lt_of_le (h.lt g hg) hk.size
    · exact (hrow.lt g hg).2
end Go.Proofs.YtfacgeappbgldaaGreatDoor.nd
