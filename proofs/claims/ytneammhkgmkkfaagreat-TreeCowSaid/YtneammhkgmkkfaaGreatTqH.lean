/- What Write wrote, read reads (plain). -/
import Derived.Test.YtneammhkgmkkfaaGreatTqG
import Derived.Test.YtneammhkgmkkfaaGreatTuB
namespace Go.Proofs.YtneammhkgmkkfaaGreat.tr
open Go.RowKit Go.Proofs.YtneammhkgmkkfaaGreat.er
set_option linter.unusedVariables false
set_option linter.unusedSimpArgs false

/-- Each node's page lies in the book, at the node's place. -/
def LieZ (L : Bk) {h : Nat} (n : Nd h) : Prop := ∀ x ∈ (ats n).zip (pgs n), getB L x.1 = some (pgKind x.2, pgStr x.2)
theorem zip_flat {h : Nat} : ∀ (ks : List (Nd h)), (ks.flatMap ats).zip (ks.flatMap pgs) = ks.flatMap fun k => (ats k).zip (pgs k)
  | [] => rfl
  | k :: r => by
    rw [List.flatMap_cons, List.flatMap_cons, List.flatMap_cons, List.zip_append (by rw [ats_len, pgs_len]), zip_flat r]
theorem pgs_in {h : Nat} (n : Nd (h + 1)) : pgs n = n.ks.flatMap pgs ++ [pgN n] := rfl
theorem apl_len {h : Nat} (ks : List (Nd h)) : (ks.flatMap ats).length = (ks.flatMap pgs).length := by
  induction ks with
  | nil => rfl
  | cons k r ih => rw [List.flatMap_cons, List.flatMap_cons, List.length_append, List.length_append, ih, ats_len, pgs_len]
theorem zip_in {h : Nat} (n : Nd (h + 1)) : (ats n).zip (pgs n) = (n.ks.flatMap fun k => (ats k).zip (pgs k)) ++ [(n.at_, pgN n)] := by
  rw [ats_in, pgs_in, List.zip_append (apl_len _), zip_flat]
  rfl
theorem lie_kids {L : Bk} {h : Nat} {n : Nd (h + 1)} (hl : LieZ L n) : ∀ k ∈ n.ks, LieZ L k := fun k hk x hx => hl x (by
  rw [zip_in]
  exact List.mem_append_left _ (List.mem_flatMap.2 ⟨k, hk, hx⟩))
theorem lie_top {L : Bk} : ∀ {h : Nat} {n : Nd h}, LieZ L n → getB L n.at_ = some (pgKind (pgN n), pgStr (pgN n))
  | 0, n, hl => hl (n.at_, pgN n) (by show _ ∈ [n.at_].zip [pgN n]; simp)
  | h + 1, n, hl => hl (n.at_, pgN n) (by rw [zip_in]; simp)
theorem rdKids_all {h : Nat} {f : Int → Option (Nd h)} : ∀ (ks : List (Nd h)), (∀ k ∈ ks, f k.at_ = some k) → rdKids f (ks.map fun k => (⟨firstN k, k.at_⟩ : Kid)) = some ks
  | [], _ => rfl
  | k :: r, hf => by
    have ih := rdKids_all r (fun x hx => hf x (by simp [hx]))
    rw [List.map_cons]
    unfold rdKids
    rw [show ({ key := firstN k, at_ := k.at_ } : Kid).at_ = k.at_ from rfl, hf k (by simp)]
    simp only
    rw [if_pos trivial, ih]
    rfl
theorem small_no {pg top : Int} {n least : Nat} (h : pg = top ∨ 4 ≤ n) (h2 : least ≤ n) (h4 : least ≤ 4) : smallB pg top (n : Int) (least : Int) = false := by
  unfold smallB
  rcases h with h | h
  · simp [h]; omega
  · have : ¬ (n : Int) < 4 := by omega
    simp [this]; omega
theorem at_mem : ∀ {h : Nat} (n : Nd h), n.at_ ∈ ats n
  | 0, n => by show n.at_ ∈ [n.at_]; simp
  | h + 1, n => by rw [ats_in]; simp
theorem nodup_kid {h : Nat} {ks : List (Nd h)} (hn : (ks.flatMap ats).Nodup) : ∀ k ∈ ks, (ats k).Nodup := fun k hk => by
  obtain ⟨P, Q, rfl⟩ := List.append_of_mem hk
  rw [List.flatMap_append, List.flatMap_cons] at hn
  exact (List.nodup_append.1 (List.nodup_append.1 hn).2.1).1
theorem read_lies {L : Bk} {top : Int} : ∀ {h : Nat} (n : Nd h), LieZ L n → (ats n).Nodup → (∀ a ∈ ats n, 0 ≤ a ∧ a < 2048) → Kw n → Chk (flat n) → Big n → 1 ≤ n.size → n.size ≤ 8 → (n.at_ = top ∨ 4 ≤ n.size) → readN L top h n.at_ = some n
  | 0, n, hl, hn, hr, hk, hc, hb, h1, h8, ht => by
    have hc' : Chk n.l := hc
    obtain ⟨d1, d2, d3⟩ := leaf_dec (l := n.l) h1 h8 hc'.one
    have hg : getB L n.at_ = some (2, ⟨(leafL n.l).toArray⟩) := lie_top hl
    unfold readN
    rw [hg]
    simp only
    rw [d2]
    refine if_pos ⟨rfl, ⟨d1, ?_⟩, small_no (least := 1) ht h1 (by omega)⟩
    have h1' : 1 ≤ n.l.length := h1
    have h8' : n.l.length ≤ 8 := h8
    unfold MayE extB
    rw [chk_chkB _ hc']
    simp [h1', h8']
  | h + 1, n, hl, hn, hr, hk, hc, hb, h1, h8, ht => by
    have hb' : 2 ≤ n.ks.length := hb
    have h8' : n.ks.length ≤ 8 := h8
    have hat := ats_in n
    have hsub : (n.ks.map Nd.at_).Sublist (ats n) := by
      rw [hat]
      exact (kids_sub n.ks).trans (List.sublist_append_left _ _)
    have hko := kids_ok hk hc (fun a ha => hr a (hsub.subset ha)) (hn.sublist hsub)
    have hkl : (kidsN n).length = n.ks.length := by unfold kidsN; simp
    obtain ⟨d1, d2, d3⟩ := inner_dec (l := kidsN n) (by omega) (by omega) hko.each
    have hg : getB L n.at_ = some (3, ⟨(innerL (kidsN n)).toArray⟩) := lie_top hl
    have hks : ∀ k ∈ n.ks, readN L top h k.at_ = some k := fun k hm => by
      have hw := hk k hm
      have hck : Chk (flat k) := by
        obtain ⟨P, Q, e⟩ := List.append_of_mem hm
        have : Chk (flats n.ks) := hc
        rw [e, flats_append, flats_cons] at this
        exact this.right.left
      refine read_lies k (lie_kids hl k hm) (nodup_kid (by rw [hat] at hn; exact (List.nodup_append.1 hn).1) k hm) (fun a ha => hr a ?_) hw.2 hck ?_ (by omega) hw.1.2 (.inr hw.1.1)
      · rw [hat]
        exact List.mem_append_left _ (List.mem_flatMap.2 ⟨k, hm, ha⟩)
      · cases h with
        | zero => trivial
        | succ h => show 2 ≤ k.ks.length; have : 4 ≤ k.ks.length := hw.1.1; omega
    unfold readN
    rw [hg]
    simp only
    rw [d2, if_pos ⟨rfl, ⟨d1, by rw [hkl]; exact hb', by rw [hkl]; exact h8', hko⟩, by rw [hkl]; exact small_no (least := 2) ht hb' (by omega)⟩]
    have := rdKids_all n.ks hks
    unfold kidsN
    rw [this]
    rfl
theorem getB_pre {L M : Bk} {a : Nat} {p : Int × ByteArray} (h : L[a]? = some p) : getB (L ++ M) (a : Int) = some p := by
  unfold getB
  rw [if_neg (by omega), Int.toNat_natCast, List.getElem?_append_left (List.getElem?_eq_some_iff.1 h).1]
  exact h
theorem zip_idx {α β : Type} {l : List α} {m : List β} {x : α × β} (h : x ∈ l.zip m) : ∃ i : Nat, l[i]? = some x.1 ∧ m[i]? = some x.2 := by
  obtain ⟨i, hi, rfl⟩ := List.mem_iff_getElem.1 h
  rw [List.length_zip] at hi
  refine ⟨i, ?_, ?_⟩
  · rw [List.getElem_zip]; exact List.getElem?_eq_getElem (by omega)
  · rw [List.getElem_zip]; exact List.getElem?_eq_getElem (by omega)
/-- What Write wrote of a tree that was never written, read reads, whatever was written behind it. -/
theorem wrote_read {h : Nat} {n : Nd h} {T' : Tree} {L' : Bk} (hw : Wrote (.top h n) [] T' L') (hn : (Tree.top h n).nfs = []) (ho : (Tree.top h n).Ok) (hc : Chk (flat n)) (hl : L'.length ≤ 2000) :
    ∃ n' : Nd h, T' = .top h n' ∧ 0 ≤ n'.at_ ∧ n'.at_ < 2048 ∧ ∀ M, readN (L' ++ M) n'.at_ h n'.at_ = some n' := by
  obtain ⟨n', rfl, hws⟩ := hw
  have ho' : (Tree.top h n').Ok := ok_strip hws.strip ho
  have hla : (ats n').length = (ats n).length := by rw [ats_len, ats_len, ← strip_cnt, hws.strip, strip_cnt]
  have hall : ats n = List.replicate (cntN n) (-1) := all_fresh hn
  have hneg : ∀ i, i < (ats n).length → (ats n)[i]? = some (-1) := fun i hi => by
    rw [hall, List.getElem?_replicate, if_pos (by rw [ats_len] at hi; exact hi)]
  have hlow : ∀ a ∈ ats n', a ≠ -1 := fun a ha => by
    obtain ⟨i, hi, rfl⟩ := List.mem_iff_getElem.1 ha
    exact hws.low i _ (by omega) (List.getElem?_eq_getElem hi)
  have hnf : nfs n' = ats n' := List.filter_eq_self.2 (fun a ha => by have := hlow a ha; simpa using this)
  have hnd : (ats n').Nodup := by have := hws.nd; rw [hnf] at this; exact this
  have hrg : ∀ a ∈ ats n', 0 ≤ a ∧ a < 2048 := fun a ha => by
    have := hws.rng a (by rw [hnf]; exact ha)
    omega
  have hlie : ∀ M, LieZ (L' ++ M) n' := fun M x hx => by
    obtain ⟨i, h1, h2⟩ := zip_idx hx
    have hi : i < (ats n).length := by rw [← hla]; exact (List.getElem?_eq_some_iff.1 h1).1
    obtain ⟨a, pg, q1, q2, q3, q4⟩ := hws.new i hi (hneg i hi)
    rw [h1] at q1
    rw [h2] at q3
    injection q1 with q1
    injection q3 with q3
    rw [q1, q3]
    exact getB_pre q4
  have hcf : Chk (flat n') := by
    have := strip_flat n'
    rw [hws.strip, strip_flat] at this
    rw [← this]; exact hc
  have hat := hrg _ (at_mem n')
  refine ⟨n', rfl, hat.1, hat.2, fun M => ?_⟩
  cases h with
  | zero => exact read_lies n' (hlie M) hnd hrg trivial hcf trivial ho'.1 ho'.2 (.inl rfl)
  | succ h => exact read_lies n' (hlie M) hnd hrg ho'.2 hcf ho'.1.1 (by have := ho'.1.1; omega) ho'.1.2 (.inl rfl)
/-- No page is long. -/
def SzOk (L : Bk) : Prop := ∀ p ∈ L, p.2.size ≤ 1000000
theorem leafL_len (l : List Ext) : (leafL l).length = 1 + 10 * l.length := by
  have hL : ∀ y, (extRow y).length = 10 := fun y => by rw [ext_row]; rfl
  unfold leafL
  rw [List.length_cons, size_flat l hL]; omega
theorem innerL_len (l : List Kid) : (innerL l).length = 1 + 5 * l.length := by
  have hL : ∀ y, (kidRow y).length = 5 := fun y => by rw [kid_row]; rfl
  unfold innerL
  rw [List.length_cons, size_flat l hL]; omega
theorem pgs_size : ∀ {h : Nat} (n : Nd h), Kw n → n.size ≤ 8 → ∀ pg ∈ pgs n, (pgStr pg).size ≤ 81
  | 0, n, hk, h8, pg, hp => by
    obtain rfl : pg = .leaf n.l := by simpa [pgs, pgN] using hp
    have h8' : n.l.length ≤ 8 := h8
    show (leafL n.l).toArray.size ≤ 81
    have := leafL_len n.l
    simp; omega
  | h + 1, n, hk, h8, pg, hp => by
    rw [pgs_in] at hp
    rcases List.mem_append.1 hp with hp | hp
    · obtain ⟨k, hm, hp⟩ := List.mem_flatMap.1 hp
      exact pgs_size k (hk k hm).2 (hk k hm).1.2 pg hp
    · obtain rfl : pg = .inner (kidsN n) := by simpa [pgN] using hp
      have h8' : n.ks.length ≤ 8 := h8
      have hkl : (kidsN n).length = n.ks.length := by unfold kidsN; simp
      show (innerL (kidsN n)).toArray.size ≤ 81
      have := innerL_len (kidsN n)
      simp; omega
theorem rank_hit {α : Type} {p : α → Bool} : ∀ (l : List α) (r : Nat), r < (l.filter p).length → ∃ i x, l[i]? = some x ∧ p x = true ∧ ((l.take i).filter p).length = r
  | [], r, h => by simp at h
  | y :: l, r, h => by
    by_cases hy : p y = true
    · rw [List.filter_cons, if_pos hy, List.length_cons] at h
      cases r with
      | zero => exact ⟨0, y, rfl, hy, rfl⟩
      | succ r =>
        obtain ⟨i, x, h1, h2, h3⟩ := rank_hit (p := p) l r (by omega)
        exact ⟨i + 1, x, by simpa using h1, h2, by rw [List.take_succ_cons, List.filter_cons, if_pos hy, List.length_cons, h3]⟩
    · rw [List.filter_cons, if_neg hy] at h
      obtain ⟨i, x, h1, h2, h3⟩ := rank_hit l r h
      exact ⟨i + 1, x, by simpa using h1, h2, by rw [List.take_succ_cons, List.filter_cons, if_neg hy, h3]⟩
theorem wrote_size {T T' : Tree} {L L' : Bk} (hw : Wrote T L T' L') (ho : T.Ok) (hs : SzOk L) : SzOk L' := by
  cases T with
  | no => obtain ⟨rfl, rfl⟩ := hw; exact hs
  | top h n =>
    obtain ⟨n', rfl, hws⟩ := hw
    have ho' : (Tree.top h n').Ok := ok_strip hws.strip ho
    have hk : Kw n' ∧ n'.size ≤ 8 := by
      cases h with
      | zero => exact ⟨trivial, ho'.2⟩
      | succ h => exact ⟨ho'.2, ho'.1.2⟩
    intro p hp
    obtain ⟨a, ha, rfl⟩ := List.mem_iff_getElem.1 hp
    have hga := List.getElem?_eq_getElem ha
    obtain ⟨M, hM⟩ := hws.pre
    by_cases hla : a < L.length
    · have : (L ++ M)[a]? = L[a]? := List.getElem?_append_left hla
      rw [← hM, hga, List.getElem?_eq_getElem hla] at this
      injection this with this
      rw [this]
      exact hs _ (List.getElem_mem hla)
    · have hcnt := hws.cnt
      rw [List.take_length] at hcnt
      obtain ⟨i, x, h1, h2, h3⟩ := rank_hit (p := fun a => decide (a = -1)) (ats n) (a - L.length) (by omega)
      have hx : x = -1 := by simpa using h2
      rw [hx] at h1
      have hi := (List.getElem?_eq_some_iff.1 h1).1
      obtain ⟨a', pg, q1, q2, q3, q4⟩ := hws.new i hi h1
      have haa : a' = a := by omega
      rw [haa, hga] at q4
      injection q4 with q4
      rw [q4]
      have := pgs_size n' hk.1 hk.2 pg (List.mem_of_getElem? q3)
      show (pgStr pg).size ≤ 1000000
      omega
end Go.Proofs.YtneammhkgmkkfaaGreat.tr
