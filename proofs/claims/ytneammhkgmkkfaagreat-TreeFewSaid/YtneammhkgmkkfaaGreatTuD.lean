/- What is laid over what is there already turns nothing; how few nodes become fresh (plain). -/
import Derived.Test.YtneammhkgmkkfaaGreatTvF
namespace Go.Proofs.YtneammhkgmkkfaaGreat.tr
open Go.RowKit Go.Proofs.YtneammhkgmkkfaaGreat.er
set_option linter.unusedVariables false
set_option linter.unusedSimpArgs false

theorem over_same {l : List Ext} {e : Ext} (hc : Chk l) (he : e ∈ l) : overL l e = l := by
  obtain ⟨P, Q, rfl⟩ := List.append_of_mem he
  obtain ⟨o1, o2, o3⟩ := List.pairwise_append.1 hc.ord
  have o4 := (List.pairwise_cons.1 o2).1
  have hone := hc.one
  have hef := one_spec (hone e (by simp))
  have hee : e.end_ = e.fr + e.n := rfl
  have a1 : parts P 0 e.fr = P := parts_all fun x hx => part_whole (hone x (by simp [hx])) (by have := one_spec (hone x (by simp [hx])); omega) (by have := o3 x hx e (by simp); omega)
  have a2 : parts (e :: Q) 0 e.fr = [] := parts_no fun x hx => part_none (.inr (.inl (by
    rcases List.mem_cons.1 hx with rfl | hx
    · omega
    · have := o4 x hx; omega)))
  have b1 : parts (P ++ [e]) e.end_ 16777216 = [] := parts_no fun x hx => part_none (.inl (by
    rcases List.mem_append.1 hx with hx | hx
    · have := o3 x hx e (by simp); omega
    · rw [List.mem_singleton.1 hx]; omega))
  have b2 : parts Q e.end_ 16777216 = Q := parts_all fun x hx => part_whole (hone x (by simp [hx])) (by have := o4 x hx; omega) (by
    have := one_spec (hone x (by simp [hx]))
    have h2 : x.end_ = x.fr + x.n := rfl
    omega)
  unfold overL
  rw [parts_append, a1, a2, show P ++ e :: Q = (P ++ [e]) ++ Q by simp, parts_append, b1, b2]
  have := tidy_chk (P ++ e :: Q) hc
  simpa using this
theorem tree_same {T : Tree} {e : Ext} (hc : Chk T.flat) (he : e ∈ T.flat) (h1 : oneB e = true) : T.over e = T := by
  have k := one_spec h1
  have h2 : e.end_ = e.fr + e.n := rfl
  have hn : e ∈ nearL T.flat e.fr e.end_ := List.mem_filter.2 ⟨he, by unfold nearB; simp; omega⟩
  have ho := over_same (near_chk hc e.fr e.end_) hn
  unfold Tree.over
  rw [ho]
  have hf : (nearL T.flat e.fr e.end_).filter (fun x => decide (x ∉ nearL T.flat e.fr e.end_)) = [] := by
    rw [List.filter_eq_nil_iff]
    intro x hx
    simp [hx]
  unfold Tree.change
  rw [hf]
  rfl
theorem part_split {x : Ext} {f : Int} (hx : oneB x = true) (h1 : x.fr < f) (h2 : f < x.end_) : ∃ a b, partOf x 0 f = some a ∧ partOf x f 16777216 = some b ∧ tog a b = true ∧ { a with n := a.n + b.n } = x ∧ a.fr = x.fr ∧ a.kind = x.kind ∧ a.at_ = x.at_ := by
  obtain ⟨q1, q2, q3, q4⟩ := one_spec hx
  have he : x.end_ = x.fr + x.n := rfl
  obtain ⟨f0, n, k, t⟩ := x
  simp only at q1 q2 q3 q4 h1 he
  have e1 : partOf ⟨f0, n, k, t⟩ 0 f = some ⟨f0, f - f0, k, if k = 2 then t + f0 - f0 else 0⟩ := by
    unfold partOf
    rw [if_neg (by simp only; omega)]
    simp only [show max f0 0 = f0 by omega, show min (Ext.end_ ⟨f0, n, k, t⟩) f = f by omega]
  have e2 : partOf ⟨f0, n, k, t⟩ f 16777216 = some ⟨f, f0 + n - f, k, if k = 2 then t + f - f0 else 0⟩ := by
    unfold partOf
    rw [if_neg (by simp only; omega)]
    simp only [show max f0 f = f by omega, show min (Ext.end_ ⟨f0, n, k, t⟩) 16777216 = f0 + n by omega]
  refine ⟨_, _, e1, e2, ?_, ?_, rfl, rfl, ?_⟩
  · rw [tog_iff]
    refine ⟨?_, rfl, ?_⟩
    · show f = f0 + (f - f0); omega
    · simp only
      rcases q4 with ⟨rfl, rfl⟩ | ⟨rfl, _⟩
      · first | (simp; done) | (simp; omega)
      · first | (simp; done) | (simp; omega)
  · rcases q4 with ⟨rfl, rfl⟩ | ⟨rfl, _⟩
    · first | (simp; done) | (simp; omega)
    · first | (simp; done) | (simp; omega)
  · rcases q4 with ⟨rfl, rfl⟩ | ⟨rfl, _⟩
    · first | (simp; done) | (simp; omega)
    · first | (simp; done) | (simp; omega)
theorem cut_zero {l : List Ext} {f : Int} (hc : Chk l) (h0 : 0 ≤ f) (hf : f ≤ 16777216) : cutL l f 0 = l := by
  have hone := hc.one
  have hrng : ∀ x ∈ l, 0 ≤ x.fr ∧ x.end_ ≤ 16777216 ∧ x.fr < x.end_ := fun x hx => by
    have := one_spec (hone x hx)
    have h2 : x.end_ = x.fr + x.n := rfl
    omega
  unfold cutL
  rw [Int.add_zero]
  by_cases hs : ∃ x ∈ l, x.fr < f ∧ f < x.end_
  · obtain ⟨x, hx, h1, h2⟩ := hs
    obtain ⟨P, Q, rfl⟩ := List.append_of_mem hx
    obtain ⟨o1, o2, o3⟩ := List.pairwise_append.1 hc.ord
    have o4 := (List.pairwise_cons.1 o2).1
    obtain ⟨a, b, p1, p2, p3, p4, p5, p6, p7⟩ := part_split (hone x hx) h1 h2
    have a1 : parts P 0 f = P := parts_all fun y hy => part_whole (hone y (by simp [hy])) (by have := hrng y (by simp [hy]); omega) (by have := o3 y hy x (by simp); omega)
    have a2 : parts Q 0 f = [] := parts_no fun y hy => part_none (.inr (.inl (by have := o4 y hy; omega)))
    have b1 : parts P f 16777216 = [] := parts_no fun y hy => part_none (.inl (by have := o3 y hy x (by simp); omega))
    have b2 : parts Q f 16777216 = Q := parts_all fun y hy => part_whole (hone y (by simp [hy])) (by have := o4 y hy; omega) (by have := hrng y (by simp [hy]); omega)
    have e1 : parts (P ++ x :: Q) 0 f = P ++ [a] := by
      rw [parts_append, a1, show x :: Q = [x] ++ Q from rfl, parts_append, a2]
      simp [parts, p1]
    have e2 : parts (P ++ x :: Q) f 16777216 = b :: Q := by
      rw [parts_append, b1, show x :: Q = [x] ++ Q from rfl, parts_append, b2]
      simp [parts, p2]
    rw [e1, e2]
    have htog : ∀ y, tog y a = tog y x := fun y => tog_same p5 p6 p7
    have hfold : tidy (P ++ [a]) = P ++ [a] := by
      rw [tidy, List.foldl_append]
      have hP : P.foldl push [] = P := tidy_chk P hc.left
      rw [hP]
      refine push_apart P a (fun y hy => ?_)
      rw [htog]
      obtain ⟨P', rfl⟩ : ∃ P', P = P' ++ [y] := by
        have := List.getLast?_eq_some_iff.1 hy
        exact this
      have hi1 : (P' ++ [y] ++ x :: Q)[P'.length]? = some y := by simp
      have hi2 : (P' ++ [y] ++ x :: Q)[P'.length + 1]? = some x := by simp
      exact (chk_next hc hi1 hi2).2.2.2
    have : tidy (P ++ [a] ++ b :: Q) = tidy (P ++ x :: Q) := by
      show (P ++ [a] ++ b :: Q).foldl push [] = (P ++ x :: Q).foldl push []
      rw [List.foldl_append, show (P ++ [a]).foldl push [] = P ++ [a] from hfold, List.foldl_cons, push_snoc, if_pos p3, p4, List.foldl_append, show P.foldl push [] = P from tidy_chk P hc.left, List.foldl_cons]
      congr 1
      refine (push_apart P x (fun y hy => ?_)).symm
      obtain ⟨P', rfl⟩ : ∃ P', P = P' ++ [y] := List.getLast?_eq_some_iff.1 hy
      have hi1 : (P' ++ [y] ++ x :: Q)[P'.length]? = some y := by simp
      have hi2 : (P' ++ [y] ++ x :: Q)[P'.length + 1]? = some x := by simp
      exact (chk_next hc hi1 hi2).2.2.2
    rw [this]
    exact tidy_chk _ hc
  · have hns : ∀ x ∈ l, x.end_ ≤ f ∨ f ≤ x.fr := fun x hx => by
      by_cases h1 : x.fr < f
      · by_cases h2 : f < x.end_
        · exact absurd ⟨x, hx, h1, h2⟩ hs
        · exact .inl (by omega)
      · exact .inr (by omega)
    have key : ∀ m : List Ext, Chk m → (∀ x ∈ m, x.end_ ≤ f ∨ f ≤ x.fr) → parts m 0 f ++ parts m f 16777216 = m := by
      intro m
      induction m with
      | nil => intro _ _; rfl
      | cons y r ih =>
        intro hm hn
        have hy := one_spec (hm.one y (by simp))
        have h2 : y.end_ = y.fr + y.n := rfl
        have ihr := ih hm.tail (fun x hx => hn x (by simp [hx]))
        rcases hn y (by simp) with h | h
        · have w1 : partOf y 0 f = some y := part_whole (hm.one y (by simp)) (by omega) h
          have w2 : partOf y f 16777216 = none := part_none (.inl h)
          have e1 : parts (y :: r) 0 f = y :: parts r 0 f := by simp [parts, w1]
          have e2 : parts (y :: r) f 16777216 = parts r f 16777216 := by simp [parts, w2]
          rw [e1, e2, List.cons_append, ihr]
        · have w1 : partOf y 0 f = none := part_none (.inr (.inl h))
          have w2 : partOf y f 16777216 = some y := part_whole (hm.one y (by simp)) h (by omega)
          have hr0 : parts r 0 f = [] := parts_no fun x hx => part_none (.inr (.inl (by have := (List.pairwise_cons.1 hm.ord).1 x hx; omega)))
          rw [hr0, List.nil_append] at ihr
          have e1 : parts (y :: r) 0 f = [] := by
            have : parts (y :: r) 0 f = parts r 0 f := by simp [parts, w1]
            rw [this, hr0]
          have e2 : parts (y :: r) f 16777216 = y :: parts r f 16777216 := by simp [parts, w2]
          rw [e1, e2, ihr]; rfl
    rw [key l hc hns]
    exact tidy_chk l hc
theorem tree_cut0 {T : Tree} {f : Int} (hc : Chk T.flat) (h0 : 0 ≤ f) (hf : f ≤ 16777216) : T.cut f 0 = T := by
  have ho := cut_zero (near_chk hc f (f + 0)) h0 hf
  unfold Tree.cut
  rw [Int.add_zero] at ho ⊢
  rw [ho]
  have hff : (nearL T.flat f f).filter (fun x => decide (x ∉ nearL T.flat f f)) = [] := by
    rw [List.filter_eq_nil_iff]
    intro x hx
    simp [hx]
  unfold Tree.change
  rw [hff]
  rfl
theorem inc_len : ∀ (l : List Ext) (a b : Int), Inc l → (∀ x ∈ l, a ≤ x.fr ∧ x.fr ≤ b) → a ≤ b + 1 → (l.length : Int) ≤ b + 1 - a
  | [], a, b, _, _, h => by simp; omega
  | x :: r, a, b, hi, hr, h => by
    have hx := hr x (by simp)
    have h1 := (List.pairwise_cons.1 hi).1
    have ih := inc_len r (x.fr + 1) b (List.pairwise_cons.1 hi).2 (fun y hy => ⟨by have := h1 y hy; omega, (hr y (by simp [hy])).2⟩) (by omega)
    rw [List.length_cons]
    omega
theorem one_of_ord : ∀ (l : List Ext) (p : Ext → Bool), Chk l → (∀ x y, p x = true → p y = true → x ∈ l → y ∈ l → x.end_ ≤ y.fr → False) → (l.filter p).length ≤ 1
  | [], p, _, _ => by simp
  | x :: r, p, hc, hp => by
    by_cases hx : p x = true
    · have : r.filter p = [] := by
        rw [List.filter_eq_nil_iff]
        intro y hy hyp
        exact hp x y hx hyp (by simp) (by simp [hy]) ((List.pairwise_cons.1 hc.ord).1 y hy).1
      rw [List.filter_cons, if_pos hx, this]
      simp
    · rw [List.filter_cons, if_neg hx]
      exact one_of_ord r p hc.tail (fun a b h1 h2 h3 h4 h5 => hp a b h1 h2 (by simp [h3]) (by simp [h4]) h5)
theorem near_few {l : List Ext} {e : Ext} (hc : Chk l) (he : oneB e = true) (h3 : e.n ≤ 3) : (nearL l e.fr e.end_).length ≤ 5 := by
  have k := one_spec he
  have h2 : e.end_ = e.fr + e.n := rfl
  have hn := near_chk hc e.fr e.end_
  have hm : ∀ x ∈ nearL l e.fr e.end_, x.fr ≤ e.end_ ∧ e.fr ≤ x.end_ := fun x hx => by
    have := (List.mem_filter.1 hx).2
    unfold nearB at this
    simp at this
    exact this
  generalize nearL l e.fr e.end_ = m at hn hm
  have l1 : (m.filter fun x => decide (x.fr < e.fr)).length ≤ 1 := one_of_ord m _ hn (fun x y hx hy mx my ho => by
    simp at hx hy
    have := hm x mx
    omega)
  have l2 : ((m.filter fun x => !decide (x.fr < e.fr)).length : Int) ≤ e.end_ + 1 - e.fr := inc_len _ _ _ ((chk_fr hn).filter _) (fun x hx => by
    obtain ⟨q1, q2⟩ := List.mem_filter.1 hx
    have := hm x q1
    simp at q2
    omega) (by omega)
  have l3 : m.length = (m.filter fun x => decide (x.fr < e.fr)).length + (m.filter fun x => !decide (x.fr < e.fr)).length := by
    clear l1 l2 hm hn
    induction m with
    | nil => rfl
    | cons x r ih =>
      rw [List.filter_cons, List.filter_cons, List.length_cons]
      cases decide (x.fr < e.fr) <;> simp <;> omega
  omega
theorem parts_cnt : ∀ (l : List Ext) (a b : Int), (parts l a b).length ≤ (l.filter fun x => (partOf x a b).isSome).length
  | [], a, b => by simp [parts]
  | x :: r, a, b => by
    have ih := parts_cnt r a b
    unfold parts at ih ⊢
    rw [List.filterMap_cons, List.filter_cons]
    cases h : partOf x a b <;> simp [h] <;> omega
theorem over_few {l : List Ext} {e : Ext} (hc : Chk l) (he : oneB e = true) : (overL (nearL l e.fr e.end_) e).length ≤ 3 := by
  have k := one_spec he
  have h2 : e.end_ = e.fr + e.n := rfl
  have hn := near_chk hc e.fr e.end_
  have hm : ∀ x ∈ nearL l e.fr e.end_, x.fr ≤ e.end_ ∧ e.fr ≤ x.end_ := fun x hx => by
    have := (List.mem_filter.1 hx).2
    unfold nearB at this
    simp at this
    exact this
  generalize nearL l e.fr e.end_ = m at hn hm
  have some_of : ∀ (x : Ext) (a b : Int), (partOf x a b).isSome = true → x.fr < b ∧ a < x.end_ := fun x a b h => by
    by_cases h1 : b ≤ x.fr
    · rw [part_none (.inr (.inl h1))] at h; cases h
    · by_cases h3 : x.end_ ≤ a
      · rw [part_none (.inl h3)] at h; cases h
      · omega
  have l1 : (parts m 0 e.fr).length ≤ 1 := Nat.le_trans (parts_cnt _ _ _) (one_of_ord m _ hn (fun x y hx hy mx my ho => by
    have := some_of x _ _ hx
    have := some_of y _ _ hy
    have := hm x mx
    omega))
  have l2 : (parts m e.end_ 16777216).length ≤ 1 := Nat.le_trans (parts_cnt _ _ _) (one_of_ord m _ hn (fun x y hx hy mx my ho => by
    have := some_of x _ _ hx
    have := some_of y _ _ hy
    have := hm y my
    omega))
  have hf := fold_len (parts m 0 e.fr ++ [e] ++ parts m e.end_ 16777216) []
  unfold overL tidy
  simp only [List.length_append, List.length_cons, List.length_nil] at hf
  omega
theorem over_fresh {T : Tree} {e : Ext} (ho : T.Ok) (hc : Chk T.flat) (he : oneB e = true) (h3 : e.n ≤ 3) : (T.over e).fr ≤ T.fr + (16 * T.high + 9) := by
  have k := (over_kept her_true ho hc he).fr
  have w := Nat.le_trans (List.length_filter_le (fun x => decide (x ∉ overL (nearL T.flat e.fr e.end_) e)) (nearL T.flat e.fr e.end_)) (near_few hc he h3)
  have v := Nat.le_trans (List.length_filter_le (fun x => decide (x ∉ nearL T.flat e.fr e.end_)) (overL (nearL T.flat e.fr e.end_) e)) (over_few hc he)
  unfold chgN at k
  have m1 := Nat.mul_le_mul_right (2 * T.high) w
  have m2 := Nat.mul_le_mul v (Nat.add_le_add_left v (2 * T.high))
  omega
end Go.Proofs.YtneammhkgmkkfaaGreat.tr
