/- A part of the proof. -/
import Derived.RowKit
namespace Go.Proofs.YtneammhkgmkkfaaGreatDoor.tr
set_option linter.unusedVariables false
set_option linter.unusedSimpArgs false
structure Ext where
  fr : Int
  n : Int
  kind : Int
  at_ : Int
deriving DecidableEq
def Ext.end_ (e : Ext) : Int := e.fr + e.n
def spanB (fr n : Int) : Bool := decide (0 ≤ fr) && decide (0 ≤ n) && decide (fr ≤ 16777216) && decide (n ≤ 16777216 - fr)
def oneB (e : Ext) : Bool := spanB e.fr e.n && decide (1 ≤ e.n) && (if e.kind = 1 then decide (e.at_ = 0) else decide (e.kind = 2) && decide (0 ≤ e.at_) && decide (e.at_ ≤ 2048) && decide (e.n ≤ 2048 - e.at_))
def nextOf (a : Ext) (n : Int) : Ext := ⟨a.end_,n,a.kind,if a.kind = 2 then a.at_ + a.n else 0⟩
def tog (a b : Ext) : Bool := decide (nextOf a b.n = b)
theorem tog_iff (a b : Ext) : tog a b = true ↔ b.fr = a.end_ ∧ b.kind = a.kind ∧ b.at_ = if a.kind = 2 then a.at_ + a.n else 0 := by
  obtain ⟨f,n,k,t⟩ := b
  simp only [tog,nextOf,decide_eq_true_eq,Ext.mk.injEq,true_and]
  constructor
  · rintro ⟨h1,h2,h3⟩; exact ⟨h1.symm,h2.symm,h3.symm⟩
  · rintro ⟨h1,h2,h3⟩; exact ⟨h1.symm,h2.symm,h3.symm⟩
def partOf (e : Ext) (a b : Int) : Option Ext :=
  if min e.end_ b ≤ max e.fr a then none else some ⟨max e.fr a,min e.end_ b - max e.fr a,e.kind,if e.kind = 2 then e.at_ + max e.fr a - e.fr else 0⟩
def parts (l : List Ext) (a b : Int) : List Ext := l.filterMap fun e => partOf e a b
def push (out : List Ext) (e : Ext) : List Ext :=
  match out.getLast? with
  | some a => if tog a e = true then out.dropLast ++ [{ a with n := a.n + e.n }] else out ++ [e]
  | none => [e]
def tidy (l : List Ext) : List Ext := l.foldl push []
structure Chk (l : List Ext) : Prop where
  one : ∀ e ∈ l,oneB e = true
  ord : l.Pairwise fun a b => a.end_ ≤ b.fr ∧ tog a b = false
def overL (l : List Ext) (e : Ext) : List Ext := tidy (parts l 0 e.fr ++ [e] ++ parts l e.end_ 16777216)
def cutL (l : List Ext) (fr n : Int) : List Ext := tidy (parts l 0 fr ++ parts l (fr + n) 16777216)
theorem push_snoc (out : List Ext) (a e : Ext) : push (out ++ [a]) e = if tog a e = true then out ++ [{ a with n := a.n + e.n }] else out ++ [a] ++ [e] := by
  simp [push]
theorem push_apart (out : List Ext) (e : Ext) (h : ∀ a,out.getLast? = some a → tog a e = false) : push out e = out ++ [e] := by
  unfold push
  cases hl : out.getLast? with
  | none => rw [List.getLast?_eq_none_iff.1 hl]; rfl
  | some a => simp [h a hl]
structure Like (a b : Ext) : Prop where
  e : a.end_ = b.end_
  k : a.kind = b.kind
  t : (if a.kind = 2 then a.at_ + a.n else 0) = (if b.kind = 2 then b.at_ + b.n else 0)
theorem Like.refl (a : Ext) : Like a a := ⟨rfl,rfl,rfl⟩
theorem Like.tog {a b : Ext} (h : Like a b) (c : Ext) : tog a c = tog b c := by
  unfold tr.tog nextOf
  rw [h.e,h.t,h.k]
theorem tog_like {a e : Ext} (h : tog a e = true) : Like { a with n := a.n + e.n } e := by
  obtain ⟨h1,h2,h3⟩ := (tog_iff a e).1 h
  have h1' : e.fr = a.fr + a.n := h1
  refine ⟨?_,h2.symm,?_⟩
  · show a.fr + (a.n + e.n) = e.fr + e.n; omega
  · show (if a.kind = 2 then a.at_ + (a.n + e.n) else 0) = (if e.kind = 2 then e.at_ + e.n else 0)
    rw [h2,h3]
    split <;> omega
theorem push_last (out : List Ext) (e : Ext) : ∃ a,(push out e).getLast? = some a ∧ Like a e := by
  unfold push
  split
  · rename_i a hl
    split
    · rename_i ht
      exact ⟨_,by simp,tog_like ht⟩
    · exact ⟨e,by simp,Like.refl e⟩
  · exact ⟨e,rfl,Like.refl e⟩
theorem push_ne (out : List Ext) (e : Ext) : push out e ≠ [] := by
  obtain ⟨a,h,_⟩ := push_last out e
  intro h2; rw [h2] at h; simp at h
theorem push_append (L out : List Ext) (e : Ext) (h : out ≠ []) : push (L ++ out) e = L ++ push out e := by
  obtain ⟨o,a,rfl⟩ : ∃ o a,out = o ++ [a] := ⟨out.dropLast,out.getLast h,(List.dropLast_concat_getLast h).symm⟩
  rw [← List.append_assoc,push_snoc,push_snoc]
  split <;> simp
theorem fold_append (L : List Ext) : ∀ (l out : List Ext),out ≠ [] → l.foldl push (L ++ out) = L ++ l.foldl push out
  | [],_,_ => rfl
  | e :: l,out,h => by
    rw [List.foldl_cons,List.foldl_cons,push_append L out e h,fold_append L l _ (push_ne out e)]
theorem fold_last : ∀ (l out : List Ext) (e : Ext),(l ++ [e]).foldl push out ≠ [] ∧ ∃ a,((l ++ [e]).foldl push out).getLast? = some a ∧ Like a e := by
  intro l out e
  rw [List.foldl_append,List.foldl_cons,List.foldl_nil]
  exact ⟨push_ne _ _,push_last _ _⟩
theorem tidy_append (l r : List Ext) (h : ∀ a b,l.getLast? = some a → r.head? = some b → tog a b = false) : tidy (l ++ r) = tidy l ++ tidy r := by
  unfold tidy
  rw [List.foldl_append]
  cases r with
  | nil => simp
  | cons b r =>
    rw [List.foldl_cons,List.foldl_cons]
    have h1 : push (l.foldl push []) b = l.foldl push [] ++ [b] := by
      apply push_apart
      intro a ha
      rcases List.eq_nil_or_concat l with rfl | ⟨l',c,rfl⟩
      · simp at ha
      · rw [List.concat_eq_append] at ha h
        obtain ⟨_,a',ha',hlk⟩ := fold_last l' [] c
        rw [ha] at ha'
        injection ha' with ha'
        subst ha'
        rw [hlk.tog]
        exact h c b (by simp) rfl
    rw [h1,show push [] b = [b] from rfl]
    exact fold_append _ r [b] (by simp)
theorem tidy_one (e : Ext) : tidy [e] = [e] := rfl
theorem Chk.tail {a : Ext} {l : List Ext} (h : Chk (a :: l)) : Chk l := ⟨fun e he => h.one e (List.mem_cons_of_mem _ he),(List.pairwise_cons.1 h.ord).2⟩
theorem Chk.left {l r : List Ext} (h : Chk (l ++ r)) : Chk l := ⟨fun e he => h.one e (List.mem_append_left _ he),(List.pairwise_append.1 h.ord).1⟩
theorem Chk.right {l r : List Ext} (h : Chk (l ++ r)) : Chk r := ⟨fun e he => h.one e (List.mem_append_right _ he),(List.pairwise_append.1 h.ord).2.1⟩
theorem tidy_chk : ∀ (l : List Ext),Chk l → tidy l = l
  | [],_ => rfl
  | [e],_ => rfl
  | a :: b :: r,h => by
    have := tidy_append [a] (b :: r) (fun x y hx hy => by
      simp at hx hy
      subst hx hy
      exact ((List.pairwise_cons.1 h.ord).1 b (by simp)).2)
    rw [show [a] ++ (b :: r) = a :: b :: r from rfl,tidy_chk (b :: r) h.tail,tidy_one] at this
    exact this
theorem one_spec {e : Ext} (h : oneB e = true) : 0 ≤ e.fr ∧ 1 ≤ e.n ∧ e.fr + e.n ≤ 16777216 ∧ ((e.kind = 1 ∧ e.at_ = 0) ∨ (e.kind = 2 ∧ 0 ≤ e.at_ ∧ e.at_ + e.n ≤ 2048)) := by
  unfold oneB spanB at h
  simp only [Bool.and_eq_true,decide_eq_true_eq] at h
  obtain ⟨⟨⟨⟨⟨h1,h2⟩,h3⟩,h4⟩,h5⟩,h6⟩ := h
  split at h6
  · rename_i hk
    simp only [decide_eq_true_eq] at h6
    exact ⟨h1,h5,by omega,.inl ⟨hk,h6⟩⟩
  · simp only [Bool.and_eq_true,decide_eq_true_eq] at h6
    obtain ⟨⟨⟨k1,k2⟩,k3⟩,k4⟩ := h6
    exact ⟨h1,h5,by omega,.inr ⟨k1,k2,by omega⟩⟩
theorem one_of {e : Ext} (h1 : 0 ≤ e.fr) (h2 : 1 ≤ e.n) (h3 : e.fr + e.n ≤ 16777216) (h4 : (e.kind = 1 ∧ e.at_ = 0) ∨ (e.kind = 2 ∧ 0 ≤ e.at_ ∧ e.at_ + e.n ≤ 2048)) : oneB e = true := by
  unfold oneB spanB
  simp only [Bool.and_eq_true,decide_eq_true_eq]
  refine ⟨⟨⟨⟨⟨h1,by omega⟩,by omega⟩,by omega⟩,h2⟩,?_⟩
  rcases h4 with ⟨k,a⟩ | ⟨k,a,b⟩
  · rw [if_pos k]; simpa using a
  · rw [if_neg (by omega)]
    simp only [Bool.and_eq_true,decide_eq_true_eq]
    exact ⟨⟨⟨k,a⟩,by omega⟩,by omega⟩
theorem one_join {a e : Ext} (ha : oneB a = true) (he : oneB e = true) (ht : tog a e = true) : oneB { a with n := a.n + e.n } = true := by
  obtain ⟨a1,a2,a3,a4⟩ := one_spec ha
  obtain ⟨e1,e2,e3,e4⟩ := one_spec he
  obtain ⟨t1,t2,t3⟩ := (tog_iff a e).1 ht
  have t1' : e.fr = a.fr + a.n := t1
  refine one_of a1 (by show 1 ≤ a.n + e.n; omega) (by show a.fr + (a.n + e.n) ≤ _; omega) ?_
  rcases a4 with h | ⟨k,h1,h2⟩
  · exact .inl h
  · refine .inr ⟨k,h1,?_⟩
    rw [if_pos k] at t3
    rcases e4 with ⟨k2,_⟩ | ⟨_,_,h3⟩
    · omega
    · show a.at_ + (a.n + e.n) ≤ 2048; omega
theorem tog_same {a b c : Ext} (h1 : b.fr = c.fr) (h2 : b.kind = c.kind) (h3 : b.at_ = c.at_) : tog a b = tog a c := by
  have : tog a b = true ↔ tog a c = true := by rw [tog_iff,tog_iff,h1,h2,h3]
  cases h : tog a b <;> cases h' : tog a c <;> simp_all
theorem tog_far {a b : Ext} (h : b.fr ≠ a.end_) : tog a b = false := by
  cases ht : tog a b
  · rfl
  · exact absurd ((tog_iff a b).1 ht).1 h
theorem push_chk {out : List Ext} {e : Ext} (h : Chk out) (he : oneB e = true) (ho : ∀ a ∈ out,a.end_ ≤ e.fr) : Chk (push out e) ∧ ∀ x ∈ push out e,x.end_ ≤ e.end_ := by
  have hee := one_spec he
  rcases List.eq_nil_or_concat out with rfl | ⟨o,a,rfl⟩
  · exact ⟨⟨fun x hx => by simp [push] at hx; rw [hx]; exact he,by simp [push]⟩,fun x hx => by simp [push] at hx; rw [hx]; exact Int.le_refl _⟩
  · rw [List.concat_eq_append] at h ho ⊢
    rw [push_snoc]
    have hp := List.pairwise_append.1 h.ord
    have ha := h.one a (by simp)
    have hae := ho a (by simp)
    split
    · rename_i ht
      have h1 : a.end_ = a.fr + a.n := rfl
      have h2 : e.end_ = e.fr + e.n := rfl
      have h3 : ({ a with n := a.n + e.n } : Ext).end_ = e.end_ := by
        have := ((tog_iff a e).1 ht).1
        show a.fr + (a.n + e.n) = _
        omega
      refine ⟨⟨fun x hx => ?_,List.pairwise_append.2 ⟨hp.1,by simp,fun x hx y hy => ?_⟩⟩,fun x hx => ?_⟩
      · rcases List.mem_append.1 hx with hx | hx
        · exact h.one x (List.mem_append_left _ hx)
        · rw [List.mem_singleton.1 hx]; exact one_join ha he ht
      · rw [List.mem_singleton.1 hy]
        have := hp.2.2 x hx a (by simp)
        exact ⟨this.1,(tog_same (b := { a with n := a.n + e.n }) (c := a) rfl rfl rfl).trans this.2⟩
      · rcases List.mem_append.1 hx with hx | hx
        · have := (hp.2.2 x hx a (by simp)).1
          have := (one_spec ha).2.1
          omega
        · rw [List.mem_singleton.1 hx,h3]; exact Int.le_refl _
    · rename_i ht
      refine ⟨⟨fun x hx => ?_,List.pairwise_append.2 ⟨h.ord,by simp,fun x hx y hy => ?_⟩⟩,fun x hx => ?_⟩
      · rcases List.mem_append.1 hx with hx | hx
        · exact h.one x hx
        · rw [List.mem_singleton.1 hx]; exact he
      · rw [List.mem_singleton.1 hy]
        refine ⟨ho x hx,?_⟩
        rcases List.mem_append.1 hx with hx | hx
        · apply tog_far
          have h4 := (hp.2.2 x hx a (by simp)).1
          have h5 := (one_spec ha).2.1
          have h6 : a.end_ = a.fr + a.n := rfl
          omega
        · rw [List.mem_singleton.1 hx]; simpa using ht
      · have h2 : e.end_ = e.fr + e.n := rfl
        rcases List.mem_append.1 hx with hx | hx
        · have := ho x hx; omega
        · rw [List.mem_singleton.1 hx]; exact Int.le_refl _
theorem fold_chk : ∀ (l out : List Ext),Chk out → (∀ e ∈ l,oneB e = true) → l.Pairwise (fun a b => a.end_ ≤ b.fr) → (∀ a ∈ out,∀ e ∈ l,a.end_ ≤ e.fr) → Chk (l.foldl push out)
  | [],_,h,_,_,_ => h
  | e :: l,out,h,h1,h2,h3 => by
    rw [List.foldl_cons]
    obtain ⟨k1,k2⟩ := push_chk h (h1 e (by simp)) (fun a ha => h3 a ha e (by simp))
    have hp := List.pairwise_cons.1 h2
    exact fold_chk l _ k1 (fun x hx => h1 x (by simp [hx])) hp.2 (fun a ha x hx => by
      have := k2 a ha
      have := hp.1 x hx
      omega)
theorem chk_nil : Chk [] := ⟨by simp,by simp⟩
theorem tidy_is {l : List Ext} (h1 : ∀ e ∈ l,oneB e = true) (h2 : l.Pairwise fun a b => a.end_ ≤ b.fr) : Chk (tidy l) := fold_chk l [] chk_nil h1 h2 (by simp)
theorem part_spec {e x : Ext} {a b : Int} (h : partOf e a b = some x) (he : oneB e = true) (ha : 0 ≤ a) (hb : b ≤ 16777216) : oneB x = true ∧ x.fr = max e.fr a ∧ x.end_ = min e.end_ b ∧ x.kind = e.kind ∧ (x.at_ = if e.kind = 2 then e.at_ + x.fr - e.fr else 0) := by
  unfold partOf at h
  split at h
  · exact absurd h (by simp)
  · rename_i hlt
    injection h with h
    obtain ⟨e1,e2,e3,e4⟩ := one_spec he
    have h2 : e.end_ = e.fr + e.n := rfl
    subst h
    refine ⟨one_of (by show 0 ≤ max e.fr a; omega) (by show 1 ≤ min e.end_ b - max e.fr a; omega) (by show max e.fr a + (min e.end_ b - max e.fr a) ≤ _; omega) ?_,rfl,by show max e.fr a + (min e.end_ b - max e.fr a) = _; omega,rfl,rfl⟩
    rcases e4 with ⟨k,h3⟩ | ⟨k,h3,h4⟩
    · exact .inl ⟨k,by show (if e.kind = 2 then _ else (0 : Int)) = 0; rw [if_neg (by omega)]⟩
    · refine .inr ⟨k,?_,?_⟩
      · show 0 ≤ (if e.kind = 2 then e.at_ + max e.fr a - e.fr else 0); rw [if_pos k]; omega
      · show (if e.kind = 2 then e.at_ + max e.fr a - e.fr else 0) + (min e.end_ b - max e.fr a) ≤ 2048; rw [if_pos k]; omega
theorem part_whole {e : Ext} {a b : Int} (he : oneB e = true) (ha : a ≤ e.fr) (hb : e.end_ ≤ b) : partOf e a b = some e := by
  obtain ⟨e1,e2,e3,e4⟩ := one_spec he
  have h2 : e.end_ = e.fr + e.n := rfl
  unfold partOf
  rw [if_neg (by omega)]
  obtain ⟨f,n,k,t⟩ := e
  simp only [Option.some.injEq,Ext.mk.injEq]
  simp only at ha e4
  have hb' : f + n ≤ b := hb
  refine ⟨by omega,by show min (f + n) b - max f a = n; omega,trivial,?_⟩
  rcases e4 with ⟨k1,h3⟩ | ⟨k1,h3,h4⟩
  · rw [if_neg (by omega)]; exact h3.symm
  · rw [if_pos k1]; omega
theorem part_none {e : Ext} {a b : Int} (h : e.end_ ≤ a ∨ b ≤ e.fr ∨ b ≤ a) : partOf e a b = none := by
  unfold partOf
  rw [if_pos (by rcases h with h | h | h <;> omega)]
theorem parts_mem {l : List Ext} {a b : Int} {x : Ext} (h : x ∈ parts l a b) : ∃ e ∈ l,partOf e a b = some x := by
  unfold parts at h
  obtain ⟨e,he,hx⟩ := List.mem_filterMap.1 h
  exact ⟨e,he,hx⟩
theorem parts_append (l r : List Ext) (a b : Int) : parts (l ++ r) a b = parts l a b ++ parts r a b := by simp [parts]
theorem parts_all {l : List Ext} {a b : Int} (h : ∀ e ∈ l,partOf e a b = some e) : parts l a b = l := by
  induction l with
  | nil => rfl
  | cons e l ih =>
    unfold parts at ih ⊢
    rw [List.filterMap_cons,h e (by simp),ih (fun x hx => h x (by simp [hx]))]
theorem parts_no {l : List Ext} {a b : Int} (h : ∀ e ∈ l,partOf e a b = none) : parts l a b = [] := by
  induction l with
  | nil => rfl
  | cons e l ih =>
    unfold parts at ih ⊢
    rw [List.filterMap_cons,h e (by simp),ih (fun x hx => h x (by simp [hx]))]
theorem parts_ord {l : List Ext} {a b : Int} (h : Chk l) (ha : 0 ≤ a) (hb : b ≤ 16777216) : (parts l a b).Pairwise fun x y => x.end_ ≤ y.fr := by
  unfold parts
  refine List.Pairwise.filterMap _ ?_ (List.Pairwise.and_mem.1 h.ord)
  intro x y ⟨hx,hy,ho,_⟩ x' hx' y' hy'
  have k1 := part_spec hx' (h.one x hx) ha hb
  have k2 := part_spec hy' (h.one y hy) ha hb
  omega
theorem over_chk {l : List Ext} {e : Ext} (h : Chk l) (he : oneB e = true) : Chk (overL l e) := by
  obtain ⟨e1,e2,e3,e4⟩ := one_spec he
  have h2 : e.end_ = e.fr + e.n := rfl
  have hL : ∀ x ∈ parts l 0 e.fr,oneB x = true ∧ x.end_ ≤ e.fr := fun x hx => by
    obtain ⟨y,hy,hp⟩ := parts_mem hx
    have k := part_spec hp (h.one y hy) (Int.le_refl 0) (by omega)
    exact ⟨k.1,by omega⟩
  have hR : ∀ x ∈ parts l e.end_ 16777216,oneB x = true ∧ e.end_ ≤ x.fr := fun x hx => by
    obtain ⟨y,hy,hp⟩ := parts_mem hx
    have k := part_spec hp (h.one y hy) (by omega) (Int.le_refl _)
    exact ⟨k.1,by omega⟩
  unfold overL
  refine tidy_is (fun x hx => ?_) ?_
  · simp only [List.mem_append,List.mem_singleton] at hx
    rcases hx with (hx | hx) | hx
    · exact (hL x hx).1
    · rw [hx]; exact he
    · exact (hR x hx).1
  · refine List.pairwise_append.2 ⟨List.pairwise_append.2 ⟨parts_ord h (Int.le_refl 0) (by omega),by simp,fun x hx y hy => ?_⟩,parts_ord h (by omega) (Int.le_refl _),fun x hx y hy => ?_⟩
    · rw [List.mem_singleton.1 hy]; exact (hL x hx).2
    · have := (hR y hy).2
      rcases List.mem_append.1 hx with hx | hx
      · have := (hL x hx).2; omega
      · rw [List.mem_singleton.1 hx]; exact this
theorem cut_chk {l : List Ext} {fr n : Int} (h : Chk l) (h1 : 0 ≤ fr) (h2 : 0 ≤ n) (h3 : fr + n ≤ 16777216) : Chk (cutL l fr n) := by
  have hL : ∀ x ∈ parts l 0 fr,oneB x = true ∧ x.end_ ≤ fr := fun x hx => by
    obtain ⟨y,hy,hp⟩ := parts_mem hx
    have k := part_spec hp (h.one y hy) (Int.le_refl 0) (by omega)
    exact ⟨k.1,by omega⟩
  have hR : ∀ x ∈ parts l (fr + n) 16777216,oneB x = true ∧ fr + n ≤ x.fr := fun x hx => by
    obtain ⟨y,hy,hp⟩ := parts_mem hx
    have k := part_spec hp (h.one y hy) (by omega) (Int.le_refl _)
    exact ⟨k.1,by omega⟩
  unfold cutL
  refine tidy_is (fun x hx => ?_) ?_
  · rcases List.mem_append.1 hx with hx | hx
    · exact (hL x hx).1
    · exact (hR x hx).1
  · refine List.pairwise_append.2 ⟨parts_ord h (Int.le_refl 0) (by omega),parts_ord h (by omega) (Int.le_refl _),fun x hx y hy => ?_⟩
    have := (hL x hx).2
    have := (hR y hy).2
    omega
end Go.Proofs.YtneammhkgmkkfaaGreatDoor.tr
namespace Go.Proofs.YtneammhkgmkkfaaGreatDoor.tr
set_option linter.unusedVariables false
set_option linter.unusedSimpArgs false
def nearB (lo hi : Int) (x : Ext) : Bool := decide (x.fr ≤ hi) && decide (lo ≤ x.end_)
def nearL (l : List Ext) (lo hi : Int) : List Ext := l.filter (nearB lo hi)
def leftL (l : List Ext) (lo : Int) : List Ext := l.filter fun x => decide (x.end_ < lo)
def rightL (l : List Ext) (hi : Int) : List Ext := l.filter fun x => decide (hi < x.fr)
theorem chk_fr {l : List Ext} (h : Chk l) : l.Pairwise fun a b => a.fr < b.fr := by
  refine List.Pairwise.imp ?_ (List.Pairwise.and_mem.1 h.ord)
  intro a b ⟨ha,_,ho,_⟩
  have := (one_spec (h.one a ha)).2.1
  have h2 : a.end_ = a.fr + a.n := rfl
  omega
theorem filter_no {p : Ext → Bool} {l : List Ext} (h : ∀ x ∈ l,p x = false) : l.filter p = [] := by
  rw [List.filter_eq_nil_iff]
  intro x hx
  rw [h x hx]
  decide
theorem filter_all {p : Ext → Bool} {l : List Ext} (h : ∀ x ∈ l,p x = true) : l.filter p = l := List.filter_eq_self.2 h
theorem three : ∀ {l : List Ext} {lo hi : Int},Chk l → lo ≤ hi → l = leftL l lo ++ nearL l lo hi ++ rightL l hi
  | [],_,_,_,_ => rfl
  | a :: l,lo,hi,h,hh => by
    have ih := three (lo := lo) (hi := hi) h.tail hh
    have hp := (List.pairwise_cons.1 h.ord).1
    have hn := (one_spec (h.one a (by simp))).2.1
    have he : a.end_ = a.fr + a.n := rfl
    have hlt : ∀ x ∈ l,x.fr < x.end_ := fun x hx => by
      have := (one_spec (h.one x (by simp [hx]))).2.1
      have h2 : x.end_ = x.fr + x.n := rfl
      omega
    unfold leftL nearL rightL at ih ⊢
    by_cases h1 : a.end_ < lo
    · have e1 : decide (a.end_ < lo) = true := by simpa using h1
      have e2 : nearB lo hi a = false := by unfold nearB; simp; omega
      have e3 : decide (hi < a.fr) = false := by simp; omega
      simp only [List.filter_cons,e1,e2,e3,Bool.false_eq_true,if_true,if_false,List.cons_append]
      rw [← ih]
    · have hL : l.filter (fun x => decide (x.end_ < lo)) = [] := filter_no (fun x hx => by
        have := (hp x hx).1
        have := hlt x hx
        simp; omega)
      have e1 : decide (a.end_ < lo) = false := by simpa using h1
      by_cases h2 : a.fr ≤ hi
      · have e2 : nearB lo hi a = true := by unfold nearB; simp; omega
        have e3 : decide (hi < a.fr) = false := by simp; omega
        simp only [List.filter_cons,e1,e2,e3,Bool.false_eq_true,if_true,if_false]
        rw [hL] at ih ⊢
        simp only [List.nil_append,List.cons_append] at ih ⊢
        rw [← ih]
      · have e2 : nearB lo hi a = false := by unfold nearB; simp; omega
        have e3 : decide (hi < a.fr) = true := by simp; omega
        have hN : l.filter (nearB lo hi) = [] := filter_no (fun x hx => by
          have := (hp x hx).1
          unfold nearB; simp; omega)
        simp only [List.filter_cons,e1,e2,e3,Bool.false_eq_true,if_true,if_false]
        rw [hL,hN] at ih ⊢
        simp only [List.nil_append] at ih ⊢
        rw [← ih]
theorem chk_end {l : List Ext} (h : Chk l) {x : Ext} (hx : x ∈ l) : 0 ≤ x.fr ∧ x.fr < x.end_ ∧ x.end_ ≤ 16777216 := by
  have := one_spec (h.one x hx)
  have h2 : x.end_ = x.fr + x.n := rfl
  omega
theorem local_mid {l : List Ext} {lo hi : Int} (h : Chk l) (h0 : 0 ≤ lo) (hh : lo ≤ hi) (hm : hi ≤ 16777216) (e : List Ext) (he : ∀ x ∈ e,oneB x = true ∧ x.fr = lo ∧ x.end_ = hi) :
    tidy (parts l 0 lo ++ e ++ parts l hi 16777216) = leftL l lo ++ tidy (parts (nearL l lo hi) 0 lo ++ e ++ parts (nearL l lo hi) hi 16777216) ++ rightL l hi := by
  have h3 := three h hh
  obtain ⟨L,hL⟩ : ∃ L,leftL l lo = L := ⟨_,rfl⟩
  obtain ⟨N,hN⟩ : ∃ N,nearL l lo hi = N := ⟨_,rfl⟩
  obtain ⟨R,hR⟩ : ∃ R,rightL l hi = R := ⟨_,rfl⟩
  rw [hL,hN,hR] at h3 ⊢
  have hl1 : ∀ x ∈ L,x.end_ < lo := fun x hx => by
    rw [← hL] at hx
    simpa using (List.mem_filter.1 hx).2
  have hr1 : ∀ x ∈ R,hi < x.fr := fun x hx => by
    rw [← hR] at hx
    simpa using (List.mem_filter.1 hx).2
  have hl := h
  rw [h3] at hl
  have hC := hl
  have hCL := hl.left.left
  have hCN := hl.left.right
  have hCR := hl.right
  have hord := List.pairwise_append.1 hl.ord
  have hordL := List.pairwise_append.1 hord.1
  have p1 : parts l 0 lo = L ++ parts N 0 lo := by
    rw [h3,parts_append,parts_append,parts_all (l := L) (fun x hx => part_whole (hCL.one x hx) (chk_end hCL hx).1 (by have := hl1 x hx; omega)),parts_no (l := R) (fun x hx => part_none (by have := hr1 x hx; omega)),List.append_nil]
  have p2 : parts l hi 16777216 = parts N hi 16777216 ++ R := by
    rw [h3,parts_append,parts_append,parts_no (l := L) (fun x hx => part_none (by have := hl1 x hx; omega)),parts_all (l := R) (fun x hx => part_whole (hCR.one x hx) (by have := hr1 x hx; omega) (chk_end hCR hx).2.2),List.nil_append]
  rw [p1,p2]
  have hX1 : ∀ y ∈ parts N 0 lo,∃ x ∈ N,y.fr = x.fr ∧ y.kind = x.kind ∧ y.at_ = x.at_ ∧ y.end_ ≤ lo := fun y hy => by
    obtain ⟨x,hx,hp⟩ := parts_mem hy
    have k := part_spec hp (hCN.one x hx) (Int.le_refl 0) (by omega)
    have k1 := one_spec (hCN.one x hx)
    refine ⟨x,hx,by omega,k.2.2.2.1,?_,by omega⟩
    rw [k.2.2.2.2]
    rcases k1.2.2.2 with ⟨q,q2⟩ | ⟨q,_⟩
    · rw [if_neg (by omega)]; exact q2.symm
    · rw [if_pos q]; omega
  have hX2 : ∀ y ∈ parts N hi 16777216,hi ≤ y.fr ∧ ∃ x ∈ N,Like y x := fun y hy => by
    obtain ⟨x,hx,hp⟩ := parts_mem hy
    have k := part_spec hp (hCN.one x hx) (by omega) (Int.le_refl _)
    have k1 := one_spec (hCN.one x hx)
    have k2 : x.end_ = x.fr + x.n := rfl
    have k3 : y.end_ = y.fr + y.n := rfl
    refine ⟨by omega,x,hx,by omega,k.2.2.2.1,?_⟩
    rw [k.2.2.2.1]
    rcases k1.2.2.2 with ⟨q,q2⟩ | ⟨q,_⟩
    · rw [if_neg (by omega),if_neg (by omega)]
    · rw [if_pos q,if_pos q,k.2.2.2.2,if_pos q]; omega
  have hLX : ∀ a ∈ L,∀ b ∈ parts N 0 lo ++ e ++ parts N hi 16777216,tog a b = false := fun a ha b hb => by
    simp only [List.mem_append] at hb
    rcases hb with (hb | hb) | hb
    · obtain ⟨x,hx,q1,q2,q3,_⟩ := hX1 b hb
      rw [tog_same q1 q2 q3]
      exact (hordL.2.2 a ha x hx).2
    · exact tog_far (by have := (he b hb).2.1; have := hl1 a ha; omega)
    · exact tog_far (by have := (hX2 b hb).1; have := hl1 a ha; omega)
  have hXR : ∀ a ∈ parts N 0 lo ++ e ++ parts N hi 16777216,∀ b ∈ R,tog a b = false := fun a ha b hb => by
    simp only [List.mem_append] at ha
    rcases ha with (ha | ha) | ha
    · obtain ⟨x,hx,_,_,_,q⟩ := hX1 a ha
      exact tog_far (by have := hr1 b hb; omega)
    · exact tog_far (by have := (he a ha).2.2; have := hr1 b hb; omega)
    · obtain ⟨_,x,hx,q⟩ := hX2 a ha
      rw [q.tog]
      exact (hord.2.2 x (List.mem_append_right _ hx) b hb).2
  have hLR : ∀ a ∈ L,∀ b ∈ R,tog a b = false := fun a ha b hb => (hord.2.2 a (List.mem_append_left _ ha) b hb).2
  obtain ⟨X,hXd⟩ : ∃ X,parts N 0 lo ++ e ++ parts N hi 16777216 = X := ⟨_,rfl⟩
  rw [hXd] at hLX hXR ⊢
  rw [show L ++ parts N 0 lo ++ e ++ (parts N hi 16777216 ++ R) = L ++ (X ++ R) from by rw [← hXd]; simp [List.append_assoc]]
  rw [tidy_append L (X ++ R) (fun a b ha hb => by
    have ha' := List.mem_of_getLast? ha
    have hb' := List.mem_of_mem_head? hb
    rcases List.mem_append.1 hb' with hb' | hb'
    · exact hLX a ha' b hb'
    · exact hLR a ha' b hb')]
  rw [tidy_append X R (fun a b ha hb => hXR a (List.mem_of_getLast? ha) b (List.mem_of_mem_head? hb)),tidy_chk L hCL,tidy_chk R hCR,List.append_assoc]
theorem over_local {l : List Ext} {e : Ext} (h : Chk l) (he : oneB e = true) : overL l e = leftL l e.fr ++ overL (nearL l e.fr e.end_) e ++ rightL l e.end_ := by
  have k := one_spec he
  have k2 : e.end_ = e.fr + e.n := rfl
  exact local_mid h k.1 (by omega) (by omega) [e] (fun x hx => by rw [List.mem_singleton.1 hx]; exact ⟨he,rfl,rfl⟩)
theorem cut_local {l : List Ext} {fr n : Int} (h : Chk l) (h1 : 0 ≤ fr) (h2 : 0 ≤ n) (h3 : fr + n ≤ 16777216) : cutL l fr n = leftL l fr ++ cutL (nearL l fr (fr + n)) fr n ++ rightL l (fr + n) := by
  have := local_mid h h1 (show fr ≤ fr + n by omega) h3 [] (fun x hx => by simp at hx)
  simpa [cutL] using this
theorem near_chk {l : List Ext} (h : Chk l) (lo hi : Int) : Chk (nearL l lo hi) := ⟨fun e he => h.one e (List.mem_filter.1 he).1,h.ord.filter _⟩
def Inc (l : List Ext) : Prop := l.Pairwise fun a b => a.fr < b.fr
theorem inc_ext : ∀ {l r : List Ext},Inc l → Inc r → (∀ x,x ∈ l ↔ x ∈ r) → l = r
  | [],[],_,_,_ => rfl
  | [],b :: r,_,_,h => absurd ((h b).2 (by simp)) (by simp)
  | a :: l,[],_,_,h => absurd ((h a).1 (by simp)) (by simp)
  | a :: l,b :: r,h1,h2,h => by
    have p1 := List.pairwise_cons.1 h1
    have p2 := List.pairwise_cons.1 h2
    have hab : a = b := by
      rcases List.mem_cons.1 ((h a).1 (by simp)) with e | e
      · exact e
      · rcases List.mem_cons.1 ((h b).2 (by simp)) with e2 | e2
        · exact e2.symm
        · have := p1.1 b e2
          have := p2.1 a e
          omega
    subst hab
    congr 1
    refine inc_ext p1.2 p2.2 (fun x => ⟨fun hx => ?_,fun hx => ?_⟩)
    · rcases List.mem_cons.1 ((h x).1 (by simp [hx])) with e | e
      · subst e; have := p1.1 x hx; omega
      · exact e
    · rcases List.mem_cons.1 ((h x).2 (by simp [hx])) with e | e
      · subst e; have := p2.1 x hx; omega
      · exact e
def ins (l : List Ext) (e : Ext) : List Ext := l.filter (fun x => decide (x.fr < e.fr)) ++ e :: l.filter (fun x => decide (e.fr ≤ x.fr))
def del (l : List Ext) (s : Int) : List Ext := l.filter fun x => decide (x.fr ≠ s)
theorem ins_mem (l : List Ext) (e x : Ext) : x ∈ ins l e ↔ x = e ∨ x ∈ l := by
  unfold ins
  simp only [List.mem_append,List.mem_cons,List.mem_filter,decide_eq_true_eq]
  constructor
  · rintro (⟨h,_⟩ | h | ⟨h,_⟩)
    · exact .inr h
    · exact .inl h
    · exact .inr h
  · rintro (h | h)
    · exact .inr (.inl h)
    · rcases Int.lt_or_le x.fr e.fr with h2 | h2
      · exact .inl ⟨h,h2⟩
      · exact .inr (.inr ⟨h,h2⟩)
theorem ins_inc {l : List Ext} {e : Ext} (h : Inc l) (he : ∀ x ∈ l,x.fr ≠ e.fr) : Inc (ins l e) := by
  unfold ins Inc
  refine List.pairwise_append.2 ⟨h.filter _,List.pairwise_cons.2 ⟨fun x hx => ?_,h.filter _⟩,fun x hx y hy => ?_⟩
  · have := List.mem_filter.1 hx
    have h1 := he x this.1
    have h2 : e.fr ≤ x.fr := by simpa using this.2
    omega
  · have h1 : x.fr < e.fr := by simpa using (List.mem_filter.1 hx).2
    rcases List.mem_cons.1 hy with rfl | hy
    · exact h1
    · have h2 : e.fr ≤ y.fr := by simpa using (List.mem_filter.1 hy).2
      omega
theorem del_mem (l : List Ext) (s : Int) (x : Ext) : x ∈ del l s ↔ x ∈ l ∧ x.fr ≠ s := by simp [del]
theorem del_inc {l : List Ext} (h : Inc l) (s : Int) : Inc (del l s) := h.filter _
def takes (l was is : List Ext) : List Ext := (was.filter fun e => decide (e ∉ is)).foldl (fun l e => del l e.fr) l
def changeL (l was is : List Ext) : List Ext := (is.filter fun e => decide (e ∉ was)).foldl ins (takes l was is)
theorem dels_mem : ∀ (d l : List Ext) (x : Ext),x ∈ d.foldl (fun l e => del l e.fr) l ↔ x ∈ l ∧ ∀ e ∈ d,x.fr ≠ e.fr
  | [],l,x => by simp
  | e :: d,l,x => by
    rw [List.foldl_cons,dels_mem d,del_mem]
    simp only [List.mem_cons,forall_eq_or_imp,and_assoc]
theorem dels_inc : ∀ (d l : List Ext),Inc l → Inc (d.foldl (fun l e => del l e.fr) l)
  | [],l,h => h
  | e :: d,l,h => dels_inc d _ (del_inc h _)
theorem inss_mem : ∀ (d l : List Ext) (x : Ext),x ∈ d.foldl ins l ↔ x ∈ l ∨ x ∈ d
  | [],l,x => by simp
  | e :: d,l,x => by
    rw [List.foldl_cons,inss_mem d,ins_mem,List.mem_cons]
    constructor
    · rintro ((h | h) | h)
      · exact .inr (.inl h)
      · exact .inl h
      · exact .inr (.inr h)
    · rintro (h | h | h)
      · exact .inl (.inr h)
      · exact .inl (.inl h)
      · exact .inr h
theorem inss_inc : ∀ (d l : List Ext),Inc l → Inc d → (∀ x ∈ l,∀ e ∈ d,x.fr ≠ e.fr) → Inc (d.foldl ins l)
  | [],l,h,_,_ => h
  | e :: d,l,h,hd,hn => by
    rw [List.foldl_cons]
    have p := List.pairwise_cons.1 hd
    refine inss_inc d _ (ins_inc h (fun x hx => hn x hx e (by simp))) p.2 (fun x hx y hy => ?_)
    rcases (ins_mem l e x).1 hx with rfl | hx
    · have := p.1 y hy; omega
    · exact hn x hx y (by simp [hy])
theorem change_is {L W R V : List Ext} (h1 : Inc (L ++ W ++ R)) (h2 : Inc (L ++ V ++ R)) : changeL (L ++ W ++ R) W V = L ++ V ++ R := by
  have hWn : ∀ x ∈ L ++ W ++ R,∀ y ∈ L ++ W ++ R,x.fr = y.fr → x = y := by
    intro x hx y hy he
    obtain ⟨i,hi,rfl⟩ := List.mem_iff_getElem.1 hx
    obtain ⟨j,hj,rfl⟩ := List.mem_iff_getElem.1 hy
    rcases Nat.lt_trichotomy i j with h | h | h
    · have := List.pairwise_iff_getElem.1 h1 i j hi hj h; omega
    · subst h; rfl
    · have := List.pairwise_iff_getElem.1 h1 j i hj hi h; omega
  have hVn : ∀ x ∈ L ++ V ++ R,∀ y ∈ L ++ V ++ R,x.fr = y.fr → x = y := by
    intro x hx y hy he
    obtain ⟨i,hi,rfl⟩ := List.mem_iff_getElem.1 hx
    obtain ⟨j,hj,rfl⟩ := List.mem_iff_getElem.1 hy
    rcases Nat.lt_trichotomy i j with h | h | h
    · have := List.pairwise_iff_getElem.1 h2 i j hi hj h; omega
    · subst h; rfl
    · have := List.pairwise_iff_getElem.1 h2 j i hj hi h; omega
  have hT : ∀ x,x ∈ takes (L ++ W ++ R) W V ↔ x ∈ L ∨ (x ∈ W ∧ x ∈ V) ∨ x ∈ R := by
    intro x
    unfold takes
    rw [dels_mem]
    constructor
    · rintro ⟨hx,hn⟩
      simp only [List.mem_append] at hx
      rcases hx with (hx | hx) | hx
      · exact .inl hx
      · refine .inr (.inl ⟨hx,?_⟩)
        by_cases hv : x ∈ V
        · exact hv
        · exact absurd rfl (hn x (List.mem_filter.2 ⟨hx,by simpa using hv⟩))
      · exact .inr (.inr hx)
    · intro hx
      have hm : x ∈ L ++ W ++ R := by
        simp only [List.mem_append]
        rcases hx with h | h | h
        · exact .inl (.inl h)
        · exact .inl (.inr h.1)
        · exact .inr h
      have hv : x ∈ L ++ V ++ R := by
        simp only [List.mem_append]
        rcases hx with h | h | h
        · exact .inl (.inl h)
        · exact .inl (.inr h.2)
        · exact .inr h
      refine ⟨hm,fun e he hfe => ?_⟩
      obtain ⟨heW,heV⟩ := List.mem_filter.1 he
      have := hWn x hm e (by simp [heW]) hfe
      subst this
      rcases hx with h | h | h
      · have h3 := List.pairwise_append.1 (List.pairwise_append.1 h1).1
        have := h3.2.2 x h x heW; omega
      · simp at heV; exact heV h.2
      · have h3 := (List.pairwise_append.1 h1).2.2 x (by simp [heW]) x h; omega
  have hTi : Inc (takes (L ++ W ++ R) W V) := dels_inc _ _ h1
  unfold changeL
  have hVi : Inc V := (List.pairwise_append.1 (List.pairwise_append.1 h2).1).2.1
  refine inc_ext (inss_inc _ _ hTi (hVi.filter _) ?_) h2 ?_
  · intro x hx e he hfe
    obtain ⟨heV,heW⟩ := List.mem_filter.1 he
    have heW' : e ∉ W := by simpa using heW
    have hxv : x ∈ L ++ V ++ R := by
      simp only [List.mem_append]
      rcases (hT x).1 hx with h | h | h
      · exact .inl (.inl h)
      · exact .inl (.inr h.2)
      · exact .inr h
    have := hVn x hxv e (by simp [heV]) hfe
    subst this
    rcases (hT x).1 hx with h | h | h
    · have h3 := List.pairwise_append.1 (List.pairwise_append.1 h2).1
      have := h3.2.2 x h x heV; omega
    · exact heW' h.1
    · have h3 := (List.pairwise_append.1 h2).2.2 x (by simp [heV]) x h; omega
  · intro x
    rw [inss_mem,hT]
    simp only [List.mem_append,List.mem_filter]
    constructor
    · rintro ((h | h | h) | h)
      · exact .inl (.inl h)
      · exact .inl (.inr h.2)
      · exact .inr h
      · exact .inl (.inr h.1)
    · rintro ((h | h) | h)
      · exact .inl (.inl h)
      · by_cases hw : x ∈ W
        · exact .inl (.inr (.inl ⟨hw,h⟩))
        · exact .inr ⟨h,by simpa using hw⟩
      · exact .inl (.inr (.inr h))
end Go.Proofs.YtneammhkgmkkfaaGreatDoor.tr
namespace Go.Proofs.YtneammhkgmkkfaaGreatDoor.tr
set_option linter.unusedVariables false
set_option linter.unusedSimpArgs false
structure Lf where
  a : Int
  l : List Ext
structure In (α : Type) where
  a : Int
  ks : List α
def Nd : Nat → Type
  | 0 => Lf
  | h + 1 => In (Nd h)
def mkL (a : Int) (l : List Ext) : Nd 0 := (⟨a,l⟩ : Lf)
def mkI {h : Nat} (a : Int) (ks : List (Nd h)) : Nd (h + 1) := (⟨a,ks⟩ : In (Nd h))
def Nd.l (n : Nd 0) : List Ext := Lf.l n
def Nd.ks {h : Nat} (n : Nd (h + 1)) : List (Nd h) := In.ks n
def Nd.at_ : {h : Nat} → Nd h → Int
  | 0,n => Lf.a n
  | _ + 1,n => In.a n
def dft : (h : Nat) → Nd h
  | 0 => mkL 0 []
  | h + 1 => mkI 0 []
@[simp] theorem ks_mk {h : Nat} (a : Int) (ks : List (Nd h)) : (mkI a ks).ks = ks := rfl
def Nd.size : {h : Nat} → Nd h → Nat
  | 0,n => n.l.length
  | _ + 1,n => n.ks.length
def flat : {h : Nat} → Nd h → List Ext
  | 0,n => n.l
  | _ + 1,n => n.ks.flatMap flat
def flats {h : Nat} (ks : List (Nd h)) : List Ext := ks.flatMap flat
theorem flat_in {h : Nat} (n : Nd (h + 1)) : flat n = flats n.ks := rfl
@[simp] theorem flat_mkI {h : Nat} (a : Int) (ks : List (Nd h)) : flat (mkI a ks) = flats ks := rfl
@[simp] theorem flat_mkL (a : Int) (l : List Ext) : flat (mkL a l) = l := rfl
@[simp] theorem flats_append {h : Nat} (p q : List (Nd h)) : flats (p ++ q) = flats p ++ flats q := by simp [flats]
@[simp] theorem flats_cons {h : Nat} (k : Nd h) (q : List (Nd h)) : flats (k :: q) = flat k ++ flats q := by simp [flats]
@[simp] theorem flats_nil {h : Nat} : flats ([] : List (Nd h)) = [] := rfl
def firstN : {h : Nat} → Nd h → Int
  | 0,n => match n.l with | [] => 0 | e :: _ => e.fr
  | _ + 1,n => match n.ks with | [] => 0 | k :: _ => firstN k
def undN {h : Nat} (ks : List (Nd h)) (s : Int) : Nat → Nat
  | 0 => 0
  | i + 1 => if firstN (ks.getD (i + 1) (dft h)) ≤ s then i + 1 else undN ks s i
def under {h : Nat} (ks : List (Nd h)) (s : Int) : Nat := undN ks s (ks.length - 1)
def Kw : {h : Nat} → Nd h → Prop
  | 0,_ => True
  | _ + 1,n => ∀ k ∈ n.ks,(4 ≤ k.size ∧ k.size ≤ 8) ∧ Kw k
def Wf {h : Nat} (n : Nd h) : Prop := (4 ≤ n.size ∧ n.size ≤ 8) ∧ Kw n
def splitI {h : Nat} (ks : List (Nd h)) : Nd (h + 1) × Option (Nd (h + 1)) :=
  if 8 < ks.length then (mkI (-1) (ks.take (ks.length / 2)),some (mkI (-1) (ks.drop (ks.length / 2)))) else (mkI (-1) ks,none)
def insN : {h : Nat} → Nd h → Ext → Nd h × Option (Nd h)
  | 0,n,e => if 8 < (ins n.l e).length then (mkL (-1) ((ins n.l e).take ((ins n.l e).length / 2)),some (mkL (-1) ((ins n.l e).drop ((ins n.l e).length / 2)))) else (mkL (-1) (ins n.l e),none)
  | h + 1,n,e =>
    let i := under n.ks e.fr
    let r := insN (n.ks.getD i (dft h)) e
    match r.2 with
    | none => (mkI (-1) (n.ks.set i r.1),none)
    | some s => splitI ((n.ks.set i r.1).take (i + 1) ++ s :: (n.ks.set i r.1).drop (i + 1))
def shiftN : {h : Nat} → Nd h → Nd h → Nat → Nd h × Nd h
  | 0,x,y,k => (mkL (-1) ((x.l ++ y.l).take k),mkL (-1) ((x.l ++ y.l).drop k))
  | _ + 1,x,y,k => (mkI (-1) ((x.ks ++ y.ks).take k),mkI (-1) ((x.ks ++ y.ks).drop k))
def shiftL {h : Nat} (ks : List (Nd h)) (i k : Nat) : List (Nd h) :=
  let r := shiftN (ks.getD i (dft h)) (ks.getD (i + 1) (dft h)) k
  (ks.set i r.1).set (i + 1) r.2
def szAt {h : Nat} (ks : List (Nd h)) (i : Nat) : Nat := (ks.getD i (dft h)).size
def mergeL {h : Nat} (ks : List (Nd h)) (i : Nat) : List (Nd h) := (shiftL ks i (szAt ks i + szAt ks (i + 1))).eraseIdx (i + 1)
def mendL {h : Nat} (ks : List (Nd h)) (i : Nat) : List (Nd h) :=
  if 0 < i ∧ 4 < szAt ks (i - 1) then shiftL ks (i - 1) (szAt ks (i - 1) - 1)
  else if i + 1 < ks.length ∧ 4 < szAt ks (i + 1) then shiftL ks i (szAt ks i + 1)
  else if 0 < i then mergeL ks (i - 1)
  else if i + 1 < ks.length then mergeL ks i
  else ks
def remN : {h : Nat} → Nd h → Int → Nd h
  | 0,n,s => mkL (-1) (del n.l s)
  | h + 1,n,s =>
    let i := under n.ks s
    let k := remN (n.ks.getD i (dft h)) s
    if k.size < 4 then mkI (-1) (mendL (n.ks.set i k) i) else mkI (-1) (n.ks.set i k)
inductive Tree where
  | no
  | top (h : Nat) (n : Nd h)
def Tree.flat : Tree → List Ext
  | .no => []
  | .top _ n => tr.flat n
def Tree.put : Tree → Ext → Tree
  | .no,e => .top 0 (mkL (-1) [e])
  | .top h n,e => match (insN n e).2 with
    | none => .top h (insN n e).1
    | some s => .top (h + 1) (mkI (-1) [(insN n e).1,s])
def Tree.low : {h : Nat} → Nd h → Tree
  | 0,n => if n.l = [] then .no else .top 0 n
  | h + 1,n => match n.ks with
    | [k] => .top h k
    | _ => .top (h + 1) n
def Tree.take : Tree → Int → Tree
  | .no,_ => .no
  | .top _ n,s => Tree.low (remN n s)
def Tree.Ok : Tree → Prop
  | .no => True
  | .top 0 n => 1 ≤ n.size ∧ n.size ≤ 8
  | .top (_ + 1) n => (2 ≤ n.size ∧ n.size ≤ 8) ∧ Kw n
theorem und_spec {h : Nat} (ks : List (Nd h)) (s : Int) : ∀ m,undN ks s m ≤ m ∧ (undN ks s m = 0 ∨ firstN (ks.getD (undN ks s m) (dft h)) ≤ s) ∧ ∀ j,undN ks s m < j → j ≤ m → s < firstN (ks.getD j (dft h))
  | 0 => ⟨Nat.le_refl _,.inl rfl,fun j h1 h2 => by rw [undN] at h1; omega⟩
  | m + 1 => by
    obtain ⟨k1,k2,k3⟩ := und_spec ks s m
    rw [undN]
    split
    · rename_i hf
      exact ⟨Nat.le_refl _,.inr hf,fun j h1 h2 => by omega⟩
    · rename_i hf
      refine ⟨by omega,k2,fun j h1 h2 => ?_⟩
      by_cases hj : j ≤ m
      · exact k3 j h1 hj
      · obtain rfl : j = m + 1 := by omega
        omega
theorem at_place {α : Type} {l : List α} {i : Nat} (d : α) (h : i < l.length) : ∃ P Q,l = P ++ l.getD i d :: Q ∧ P.length = i := by
  refine ⟨l.take i,l.drop (i + 1),?_,by simp; omega⟩
  rw [List.getD,List.getElem?_eq_getElem h]
  simp
theorem Kw.mem {h : Nat} {n : Nd (h + 1)} (hk : Kw n) {k : Nd h} (hm : k ∈ n.ks) : Wf k := hk k hm
theorem kw_mk {h : Nat} {a : Int} {ks : List (Nd h)} : Kw (mkI a ks) ↔ ∀ k ∈ ks,Wf k := Iff.rfl
theorem flat_ne : ∀ {h : Nat} (n : Nd h),Kw n → 1 ≤ n.size → ∃ e r,flat n = e :: r ∧ firstN n = e.fr
  | 0,n,_,hs => by
    have hs' : 1 ≤ n.l.length := hs
    cases hl : n.l with
    | nil => rw [hl] at hs'; simp at hs'
    | cons e r =>
      refine ⟨e,r,hl,?_⟩
      unfold firstN
      rw [hl]
  | h + 1,n,hk,hs => by
    have hs' : 1 ≤ n.ks.length := hs
    cases hl : n.ks with
    | nil => rw [hl] at hs'; simp at hs'
    | cons k r =>
      have hkw := hk.mem (show k ∈ n.ks by rw [hl]; simp)
      obtain ⟨e,r',h1,h2⟩ := flat_ne k hkw.2 (by have := hkw.1.1; omega)
      refine ⟨e,r' ++ flats r,?_,?_⟩
      · rw [flat_in,hl,flats_cons,h1]; rfl
      · unfold firstN
        rw [hl]
        exact h2
theorem ins_mid {P M Q : List Ext} {e : Ext} (hP : ∀ x ∈ P,x.fr < e.fr) (hQ : ∀ x ∈ Q,e.fr < x.fr) : ins (P ++ M ++ Q) e = P ++ ins M e ++ Q := by
  unfold ins
  simp only [List.filter_append]
  rw [filter_all (l := P) (fun x hx => by simpa using hP x hx),filter_no (l := Q) (fun x hx => by have := hQ x hx; simp; omega),filter_no (l := P) (fun x hx => by have := hP x hx; simp; omega),filter_all (l := Q) (fun x hx => by have := hQ x hx; simp; omega)]
  simp [List.append_assoc]
theorem del_mid {P M Q : List Ext} {s : Int} (hP : ∀ x ∈ P,x.fr < s) (hQ : ∀ x ∈ Q,s < x.fr) : del (P ++ M ++ Q) s = P ++ del M s ++ Q := by
  unfold del
  simp only [List.filter_append]
  rw [filter_all (l := P) (fun x hx => by have := hP x hx; simp; omega),filter_all (l := Q) (fun x hx => by have := hQ x hx; simp; omega)]
theorem sides {h : Nat} {ks P Q : List (Nd h)} {k : Nd h} {s : Int} (hk : ∀ k ∈ ks,Wf k) (hi : Inc (flats ks)) (he : ks = P ++ k :: Q) (hp : P.length = under ks s) :
    (P ≠ [] → ∀ x ∈ flats P,x.fr < s) ∧ (∀ x ∈ flats Q,s < x.fr) := by
  obtain ⟨k1,k2,k3⟩ := und_spec ks s (ks.length - 1)
  have hu : undN ks s (ks.length - 1) = P.length := hp.symm
  rw [hu] at k1 k2 k3
  have hin : Inc (flats P ++ (flat k ++ flats Q)) := by rw [he] at hi; simpa using hi
  have hpw := List.pairwise_append.1 hin
  have hgk : ks.getD P.length (dft h) = k := by rw [he]; simp [List.getD]
  constructor
  · intro hne x hx
    have hP0 : P.length ≠ 0 := fun e => hne (List.length_eq_zero_iff.1 e)
    rcases k2 with k2 | k2
    · exact absurd k2 hP0
    · rw [hgk] at k2
      have hw : Wf k := hk k (by rw [he]; simp)
      obtain ⟨e,r,h1,h2⟩ := flat_ne k hw.2 (by have := hw.1.1; omega)
      have := hpw.2.2 x hx e (by rw [h1]; simp)
      omega
  · cases Q with
    | nil => intro x hx; simp at hx
    | cons q Q =>
      have hw : Wf q := hk q (by rw [he]; simp)
      obtain ⟨e,r,h1,h2⟩ := flat_ne q hw.2 (by have := hw.1.1; omega)
      have hq := k3 (P.length + 1) (by omega) (by rw [he]; simp)
      have hgq : ks.getD (P.length + 1) (dft h) = q := by rw [he]; simp [List.getD]
      rw [hgq,h2] at hq
      intro x hx
      have hQ := (List.pairwise_append.1 hpw.2.1).2.1
      rw [flats_cons,h1] at hQ hx
      rcases List.mem_cons.1 hx with rfl | hx
      · exact hq
      · have := (List.pairwise_cons.1 hQ).1 x hx; omega
end Go.Proofs.YtneammhkgmkkfaaGreatDoor.tr
namespace Go.Proofs.YtneammhkgmkkfaaGreatDoor.tr
set_option linter.unusedVariables false
set_option linter.unusedSimpArgs false
theorem set_mid {α : Type} (P Q : List α) (k k' : α) : (P ++ k :: Q).set P.length k' = P ++ k' :: Q := by
  rw [List.set_append_right _ _ (Nat.le_refl _)]
  simp
theorem take_mid {α : Type} (P Q : List α) (k : α) : (P ++ k :: Q).take (P.length + 1) = P ++ [k] := by
  rw [List.take_append,List.take_of_length_le (by omega)]
  simp
theorem drop_mid {α : Type} (P Q : List α) (k : α) : (P ++ k :: Q).drop (P.length + 1) = Q := by
  rw [List.drop_append]
  simp
theorem ins_len (l : List Ext) (e : Ext) : (ins l e).length = l.length + 1 := by
  unfold ins
  rw [List.length_append,List.length_cons]
  have h : ∀ l : List Ext,(l.filter fun x => decide (x.fr < e.fr)).length + (l.filter fun x => decide (e.fr ≤ x.fr)).length = l.length := by
    intro l
    induction l with
    | nil => rfl
    | cons a l ih =>
      simp only [List.filter_cons]
      by_cases h1 : a.fr < e.fr
      · have h2 : ¬ e.fr ≤ a.fr := by omega
        simp [h1,h2]; omega
      · have h2 : e.fr ≤ a.fr := by omega
        simp [h1,h2]; omega
  have := h l
  omega
def sib {h : Nat} : Option (Nd h) → List Ext
  | none => []
  | some s => flat s
structure InsOk {h : Nat} (n : Nd h) (e : Ext) (r : Nd h × Option (Nd h)) : Prop where
  fl : flat r.1 ++ sib r.2 = ins (flat n) e
  kw : Kw r.1
  one : r.2 = none → n.size ≤ r.1.size ∧ r.1.size ≤ 8
  two : ∀ s,r.2 = some s → (r.1.size = 4 ∧ s.size = 5) ∧ Kw s
theorem split_ok {h : Nat} (ks : List (Nd h)) (hk : ∀ k ∈ ks,Wf k) (hl : ks.length ≤ 9) : flat (splitI ks).1 ++ sib (splitI ks).2 = flats ks ∧ Kw (splitI ks).1 ∧ ((splitI ks).2 = none → (splitI ks).1.size = ks.length ∧ ks.length ≤ 8) ∧ ∀ s,(splitI ks).2 = some s → ((splitI ks).1.size = 4 ∧ s.size = 5) ∧ Kw s := by
  unfold splitI
  by_cases h8 : 8 < ks.length
  · have h9 : ks.length = 9 := by omega
    rw [if_pos h8]
    refine ⟨?_,kw_mk.2 (fun k hm => hk k (List.mem_of_mem_take hm)),fun h => by simp at h,fun s hs => ?_⟩
    · simp only [flat_mkI,sib]
      rw [← flats_append,List.take_append_drop]
    · injection hs with hs
      subst hs
      refine ⟨⟨?_,?_⟩,kw_mk.2 (fun k hm => hk k (List.mem_of_mem_drop hm))⟩
      · show (ks.take (ks.length / 2)).length = 4
        rw [List.length_take,h9]; rfl
      · show (ks.drop (ks.length / 2)).length = 5
        rw [List.length_drop,h9]
  · rw [if_neg h8]
    exact ⟨by simp [sib],kw_mk.2 hk,fun _ => ⟨rfl,by omega⟩,fun s hs => by simp at hs⟩
theorem ins_ok : ∀ {h : Nat} (n : Nd h) (e : Ext),Kw n → 1 ≤ n.size → n.size ≤ 8 → Inc (flat n) → InsOk n e (insN n e)
  | 0,n,e,hk,h1,h8,hi => by
    have hl := ins_len n.l e
    have h8' : n.l.length ≤ 8 := h8
    unfold insN
    by_cases h : 8 < (ins n.l e).length
    · have h9 : (ins n.l e).length = 9 := by omega
      rw [if_pos h]
      refine ⟨?_,trivial,fun h => by simp at h,fun s hs => ?_⟩
      · simp only [flat_mkL,sib]
        exact List.take_append_drop _ _
      · injection hs with hs
        subst hs
        refine ⟨⟨?_,?_⟩,trivial⟩
        · show ((ins n.l e).take _).length = 4
          rw [List.length_take,h9]; rfl
        · show ((ins n.l e).drop _).length = 5
          rw [List.length_drop,h9]
    · rw [if_neg h]
      refine ⟨by simp [sib]; rfl,trivial,fun _ => ⟨?_,?_⟩,fun s hs => by simp at hs⟩
      · show n.l.length ≤ (ins n.l e).length; omega
      · show (ins n.l e).length ≤ 8; omega
  | h + 1,n,e,hk,h1,h8,hi => by
    have h1' : 1 ≤ n.ks.length := h1
    have h8' : n.ks.length ≤ 8 := h8
    obtain ⟨k1,k2,k3⟩ := und_spec n.ks e.fr (n.ks.length - 1)
    have hu : under n.ks e.fr < n.ks.length := by unfold under; omega
    obtain ⟨P,Q,he,hp⟩ := at_place (dft h) hu
    obtain ⟨k,hkd⟩ : ∃ k,n.ks.getD (under n.ks e.fr) (dft h) = k := ⟨_,rfl⟩
    rw [hkd] at he
    have hks : ∀ k ∈ n.ks,Wf k := fun k hm => hk.mem hm
    obtain ⟨hL,hR⟩ := sides hks hi he hp
    have hw : Wf k := hks k (by rw [he]; simp)
    have hin : Inc (flats P ++ (flat k ++ flats Q)) := by
      have : Inc (flats n.ks) := hi
      rw [he] at this; simpa using this
    have hik : Inc (flat k) := (List.pairwise_append.1 (List.pairwise_append.1 hin).2.1).1
    have ih := ins_ok k e hw.2 (by have := hw.1.1; omega) hw.1.2 hik
    have hins : ins (flat n) e = flats P ++ ins (flat k) e ++ flats Q := by
      rw [flat_in,he,flats_append,flats_cons,← List.append_assoc]
      refine ins_mid (fun x hx => ?_) hR
      cases P with
      | nil => simp at hx
      | cons p P => exact hL (by simp) x hx
    have hPw : ∀ x ∈ P,Wf x := fun x hx => hks x (by rw [he]; simp [hx])
    have hQw : ∀ x ∈ Q,Wf x := fun x hx => hks x (by rw [he]; simp [hx])
    have hset : ∀ k',n.ks.set (under n.ks e.fr) k' = P ++ k' :: Q := fun k' => by
      rw [← hp]
      conv => lhs; rw [he]
      exact set_mid P Q k k'
    have hlen : n.ks.length = P.length + 1 + Q.length := by rw [he]; simp; omega
    unfold insN
    simp only [hkd]
    cases hr : (insN k e).2 with
    | none =>
      have hone := ih.one hr
      have hfl := ih.fl
      rw [hr] at hfl
      simp only [sib,List.append_nil] at hfl
      simp only [hset]
      refine ⟨?_,kw_mk.2 (fun x hx => ?_),fun _ => ⟨?_,?_⟩,fun s hs => by simp at hs⟩
      · rw [hins,← hfl]
        simp [sib,List.append_assoc]
      · rcases List.mem_append.1 hx with hx | hx
        · exact hPw x hx
        · rcases List.mem_cons.1 hx with rfl | hx
          · exact ⟨⟨by have := hw.1.1; omega,hone.2⟩,ih.kw⟩
          · exact hQw x hx
      · show n.ks.length ≤ (P ++ (insN k e).1 :: Q).length
        rw [hlen]; simp; omega
      · show (P ++ (insN k e).1 :: Q).length ≤ 8
        rw [hlen] at h8'; simp; omega
    | some s =>
      obtain ⟨⟨s1,s2⟩,s3⟩ := ih.two s hr
      have hfl := ih.fl
      rw [hr] at hfl
      simp only [sib] at hfl
      have hpl : under n.ks e.fr + 1 = P.length + 1 := by rw [hp]
      simp only [hset,hpl,take_mid,drop_mid]
      obtain ⟨q1,q2,q3,q4⟩ := split_ok (P ++ [(insN k e).1] ++ s :: Q) (fun x hx => by
        simp only [List.mem_append,List.mem_cons,List.not_mem_nil,or_false] at hx
        rcases hx with (hx | hx) | hx | hx
        · exact hPw x hx
        · rw [hx]; exact ⟨⟨by omega,by omega⟩,ih.kw⟩
        · rw [hx]; exact ⟨⟨by omega,by omega⟩,s3⟩
        · exact hQw x hx) (by rw [hlen] at h8'; simp; omega)
      refine ⟨?_,q2,fun hn => ⟨?_,?_⟩,q4⟩
      · rw [q1,hins,← hfl]
        simp [List.append_assoc]
      · rw [(q3 hn).1]
        show n.ks.length ≤ _
        rw [hlen]; simp; omega
      · rw [(q3 hn).1]; exact (q3 hn).2
theorem shift_fl {h : Nat} (x y : Nd h) (k : Nat) : flat (shiftN x y k).1 ++ flat (shiftN x y k).2 = flat x ++ flat y := by
  cases h with
  | zero => simp only [shiftN,flat_mkL]; rw [List.take_append_drop]; rfl
  | succ h => simp only [shiftN,flat_mkI]; rw [← flats_append,List.take_append_drop,flats_append]; rfl
theorem shift_kw {h : Nat} {x y : Nd h} (k : Nat) (hx : Kw x) (hy : Kw y) : Kw (shiftN x y k).1 ∧ Kw (shiftN x y k).2 := by
  cases h with
  | zero => exact ⟨trivial,trivial⟩
  | succ h =>
    refine ⟨kw_mk.2 (fun z hz => ?_),kw_mk.2 (fun z hz => ?_)⟩
    · rcases List.mem_append.1 (List.mem_of_mem_take hz) with h | h
      · exact hx.mem h
      · exact hy.mem h
    · rcases List.mem_append.1 (List.mem_of_mem_drop hz) with h | h
      · exact hx.mem h
      · exact hy.mem h
theorem shift_sz {h : Nat} (x y : Nd h) (k : Nat) (hk : k ≤ x.size + y.size) : (shiftN x y k).1.size = k ∧ (shiftN x y k).2.size = x.size + y.size - k := by
  cases h with
  | zero =>
    have hk' : k ≤ x.l.length + y.l.length := hk
    constructor
    · show ((x.l ++ y.l).take k).length = k; simp; omega
    · show ((x.l ++ y.l).drop k).length = _; simp; rfl
  | succ h =>
    have hk' : k ≤ x.ks.length + y.ks.length := hk
    constructor
    · show ((x.ks ++ y.ks).take k).length = k; simp; omega
    · show ((x.ks ++ y.ks).drop k).length = _; simp; rfl
theorem getD_mid {h : Nat} (P Q : List (Nd h)) (x : Nd h) : (P ++ x :: Q).getD P.length (dft h) = x := by simp [List.getD]
theorem getD_mid1 {h : Nat} (P Q : List (Nd h)) (x y : Nd h) : (P ++ x :: y :: Q).getD (P.length + 1) (dft h) = y := by simp [List.getD]
theorem shiftL_mid {h : Nat} (P Q : List (Nd h)) (x y : Nd h) (k : Nat) : shiftL (P ++ x :: y :: Q) P.length k = P ++ (shiftN x y k).1 :: (shiftN x y k).2 :: Q := by
  unfold shiftL
  rw [getD_mid,getD_mid1]
  simp only
  rw [set_mid]
  have h0 := set_mid (P ++ [(shiftN x y k).1]) Q y (shiftN x y k).2
  simp only [List.append_assoc,List.cons_append,List.nil_append,List.length_append,List.length_cons,List.length_nil] at h0
  exact h0
theorem mergeL_mid {h : Nat} (P Q : List (Nd h)) (x y : Nd h) : mergeL (P ++ x :: y :: Q) P.length = P ++ (shiftN x y (x.size + y.size)).1 :: Q := by
  unfold mergeL szAt
  rw [getD_mid,getD_mid1,shiftL_mid]
  rw [List.eraseIdx_append_of_length_le (by omega)]
  simp
theorem mend_ok {h : Nat} {P Q : List (Nd h)} {k : Nd h} (hP : ∀ x ∈ P,Wf x) (hQ : ∀ x ∈ Q,Wf x) (hk : Kw k) (h3 : k.size = 3) (hn : P ≠ [] ∨ Q ≠ []) :
    flats (mendL (P ++ k :: Q) P.length) = flats (P ++ k :: Q) ∧ (∀ x ∈ mendL (P ++ k :: Q) P.length,Wf x) ∧ P.length + Q.length ≤ (mendL (P ++ k :: Q) P.length).length ∧ (mendL (P ++ k :: Q) P.length).length ≤ P.length + Q.length + 1 := by
  have hleft : ∀ (P' : List (Nd h)) (p : Nd h),P = P' ++ [p] → szAt (P ++ k :: Q) (P.length - 1) = p.size := fun P' p e => by
    unfold szAt
    rw [e]
    simp [List.getD]
  have hright : ∀ (q : Nd h) (Q' : List (Nd h)),Q = q :: Q' → szAt (P ++ k :: Q) (P.length + 1) = q.size := fun q Q' e => by
    unfold szAt
    rw [e,getD_mid1]
  have hself : szAt (P ++ k :: Q) P.length = k.size := by unfold szAt; rw [getD_mid]
  unfold mendL
  by_cases c1 : 0 < P.length ∧ 4 < szAt (P ++ k :: Q) (P.length - 1)
  · rw [if_pos c1]
    obtain ⟨P',p,rfl⟩ : ∃ P' p,P = P' ++ [p] := by
      rcases List.eq_nil_or_concat P with e | ⟨P',p,e⟩
      · rw [e] at c1; simp at c1
      · exact ⟨P',p,by rw [e,List.concat_eq_append]⟩
    have hsz := hleft P' p rfl
    rw [hsz] at c1 ⊢
    have hw : Wf p := hP p (by simp)
    have hs := shift_sz p k (p.size - 1) (by omega)
    have hkw := shift_kw (p.size - 1) hw.2 hk
    have e1 : (P' ++ [p] ++ k :: Q : List (Nd h)) = P' ++ p :: k :: Q := by simp
    have e2 : (P' ++ [p]).length - 1 = P'.length := by simp
    rw [e2,e1,shiftL_mid]
    refine ⟨?_,fun x hx => ?_,?_,?_⟩
    · have := shift_fl p k (p.size - 1)
      simp only [flats_append,flats_cons]
      rw [← List.append_assoc (flat _) (flat _),this,List.append_assoc]
    · simp only [List.mem_append,List.mem_cons] at hx
      rcases hx with hx | hx | hx | hx
      · exact hP x (by simp [hx])
      · rw [hx]; exact ⟨⟨by have := c1.2; omega,by have := hw.1.2; omega⟩,hkw.1⟩
      · rw [hx]; exact ⟨⟨by omega,by omega⟩,hkw.2⟩
      · exact hQ x hx
    · simp <;> omega
    · simp <;> omega
  · rw [if_neg c1]
    by_cases c2 : P.length + 1 < (P ++ k :: Q).length ∧ 4 < szAt (P ++ k :: Q) (P.length + 1)
    · rw [if_pos c2]
      obtain ⟨q,Q',rfl⟩ : ∃ q Q',Q = q :: Q' := by
        cases Q with
        | nil => simp at c2
        | cons q Q' => exact ⟨q,Q',rfl⟩
      have hsz := hright q Q' rfl
      rw [hsz] at c2
      rw [hself]
      have hw : Wf q := hQ q (by simp)
      have hs := shift_sz k q (k.size + 1) (by omega)
      have hkw := shift_kw (k.size + 1) hk hw.2
      rw [shiftL_mid]
      refine ⟨?_,fun x hx => ?_,?_,?_⟩
      · have := shift_fl k q (k.size + 1)
        simp only [flats_append,flats_cons]
        rw [← List.append_assoc (flat _) (flat _),this,List.append_assoc]
      · simp only [List.mem_append,List.mem_cons] at hx
        rcases hx with hx | hx | hx | hx
        · exact hP x hx
        · rw [hx]; exact ⟨⟨by omega,by omega⟩,hkw.1⟩
        · rw [hx]; exact ⟨⟨by have := c2.2; omega,by have := hw.1.2; omega⟩,hkw.2⟩
        · exact hQ x (by simp [hx])
      · simp <;> omega
      · simp <;> omega
    · rw [if_neg c2]
      by_cases c3 : 0 < P.length
      · rw [if_pos c3]
        obtain ⟨P',p,rfl⟩ : ∃ P' p,P = P' ++ [p] := by
          rcases List.eq_nil_or_concat P with e | ⟨P',p,e⟩
          · rw [e] at c3; simp at c3
          · exact ⟨P',p,by rw [e,List.concat_eq_append]⟩
        have hsz := hleft P' p rfl
        rw [hsz] at c1
        have hw : Wf p := hP p (by simp)
        have hp4 : p.size = 4 := by have := hw.1.1; omega
        have hs := shift_sz p k (p.size + k.size) (Nat.le_refl _)
        have hkw := shift_kw (p.size + k.size) hw.2 hk
        have e1 : (P' ++ [p] ++ k :: Q : List (Nd h)) = P' ++ p :: k :: Q := by simp
        have e2 : (P' ++ [p]).length - 1 = P'.length := by simp
        rw [e2,e1,mergeL_mid]
        refine ⟨?_,fun x hx => ?_,?_,?_⟩
        · have h1 := shift_fl p k (p.size + k.size)
          have h0 : flat (shiftN p k (p.size + k.size)).2 = [] := by
            cases h with
            | zero => simp only [shiftN,flat_mkL]; exact List.drop_eq_nil_of_le (by rw [List.length_append]; exact Nat.le_refl _)
            | succ h => simp only [shiftN,flat_mkI]; rw [List.drop_eq_nil_of_le (by rw [List.length_append]; exact Nat.le_refl _)]; rfl
          rw [h0,List.append_nil] at h1
          simp only [flats_append,flats_cons]
          rw [h1,List.append_assoc]
        · simp only [List.mem_append,List.mem_cons] at hx
          rcases hx with hx | hx | hx
          · exact hP x (by simp [hx])
          · rw [hx]; exact ⟨⟨by omega,by omega⟩,hkw.1⟩
          · exact hQ x hx
        · simp <;> omega
        · simp <;> omega
      · rw [if_neg c3]
        have hP0 : P = [] := List.length_eq_zero_iff.1 (by omega)
        subst hP0
        obtain ⟨q,Q',rfl⟩ : ∃ q Q',Q = q :: Q' := by
          cases Q with
          | nil => simp at hn
          | cons q Q' => exact ⟨q,Q',rfl⟩
        rw [if_pos (by simp)]
        have hsz := hright q Q' rfl
        rw [hsz] at c2
        have hw : Wf q := hQ q (by simp)
        have hq4 : q.size = 4 := by
          have := hw.1.1
          simp at c2
          omega
        have hs := shift_sz k q (k.size + q.size) (Nat.le_refl _)
        have hkw := shift_kw (k.size + q.size) hk hw.2
        have hm := mergeL_mid ([] : List (Nd h)) Q' k q
        simp only [List.nil_append,List.length_nil] at hm ⊢
        rw [hm]
        refine ⟨?_,fun x hx => ?_,?_,?_⟩
        · have h1 := shift_fl k q (k.size + q.size)
          have h0 : flat (shiftN k q (k.size + q.size)).2 = [] := by
            cases h with
            | zero => simp only [shiftN,flat_mkL]; exact List.drop_eq_nil_of_le (by rw [List.length_append]; exact Nat.le_refl _)
            | succ h => simp only [shiftN,flat_mkI]; rw [List.drop_eq_nil_of_le (by rw [List.length_append]; exact Nat.le_refl _)]; rfl
          rw [h0,List.append_nil] at h1
          simp only [flats_cons]
          rw [h1,List.append_assoc]
        · simp only [List.mem_cons] at hx
          rcases hx with hx | hx
          · rw [hx]; exact ⟨⟨by omega,by omega⟩,hkw.1⟩
          · exact hQ x (by simp [hx])
        · simp <;> omega
        · simp <;> omega
end Go.Proofs.YtneammhkgmkkfaaGreatDoor.tr
namespace Go.Proofs.YtneammhkgmkkfaaGreatDoor.tr
set_option linter.unusedVariables false
set_option linter.unusedSimpArgs false
def Big : {h : Nat} → Nd h → Prop
  | 0,_ => True
  | _ + 1,n => 2 ≤ n.ks.length
theorem del_len {l : List Ext} (h : Inc l) (s : Int) : (del l s).length ≤ l.length ∧ l.length ≤ (del l s).length + 1 := by
  refine ⟨List.length_filter_le _ _,?_⟩
  unfold del
  induction l with
  | nil => simp
  | cons a l ih =>
    have hp := List.pairwise_cons.1 h
    rw [List.filter_cons]
    by_cases ha : a.fr = s
    · have hl : l.filter (fun x => decide (x.fr ≠ s)) = l := filter_all (fun x hx => by have := hp.1 x hx; simp; omega)
      rw [hl]
      simp [ha]
    · have := ih hp.2
      simp only [ne_eq,ha,not_false_eq_true,decide_true,if_true,List.length_cons] at this ⊢
      omega
structure RemOk {h : Nat} (n : Nd h) (s : Int) (r : Nd h) : Prop where
  fl : flat r = del (flat n) s
  kw : Kw r
  lo : n.size ≤ r.size + 1
  up : r.size ≤ n.size
theorem rem_ok : ∀ {h : Nat} (n : Nd h) (s : Int),Kw n → Big n → 1 ≤ n.size → Inc (flat n) → RemOk n s (remN n s)
  | 0,n,s,hk,hb,h1,hi => by
    have hd := del_len (l := n.l) hi s
    exact ⟨rfl,trivial,by show n.l.length ≤ (del n.l s).length + 1; omega,by show (del n.l s).length ≤ n.l.length; omega⟩
  | h + 1,n,s,hk,hb,h1,hi => by
    have hb' : 2 ≤ n.ks.length := hb
    obtain ⟨k1,k2,k3⟩ := und_spec n.ks s (n.ks.length - 1)
    have hu : under n.ks s < n.ks.length := by unfold under; omega
    obtain ⟨P,Q,he,hp⟩ := at_place (dft h) hu
    obtain ⟨k,hkd⟩ : ∃ k,n.ks.getD (under n.ks s) (dft h) = k := ⟨_,rfl⟩
    rw [hkd] at he
    have hks : ∀ k ∈ n.ks,Wf k := fun k hm => hk.mem hm
    obtain ⟨hL,hR⟩ := sides hks hi he hp
    have hw : Wf k := hks k (by rw [he]; simp)
    have hin : Inc (flats P ++ (flat k ++ flats Q)) := by
      have : Inc (flats n.ks) := hi
      rw [he] at this; simpa using this
    have hik : Inc (flat k) := (List.pairwise_append.1 (List.pairwise_append.1 hin).2.1).1
    have hbk : Big k := by
      cases h with
      | zero => trivial
      | succ h => have := hw.1.1; show 2 ≤ k.ks.length; have e : k.size = k.ks.length := rfl; omega
    have ih := rem_ok k s hw.2 hbk (by have := hw.1.1; omega) hik
    have hdel : del (flat n) s = flats P ++ del (flat k) s ++ flats Q := by
      rw [flat_in,he,flats_append,flats_cons,← List.append_assoc]
      refine del_mid (fun x hx => ?_) hR
      cases P with
      | nil => simp at hx
      | cons p P => exact hL (by simp) x hx
    have hPw : ∀ x ∈ P,Wf x := fun x hx => hks x (by rw [he]; simp [hx])
    have hQw : ∀ x ∈ Q,Wf x := fun x hx => hks x (by rw [he]; simp [hx])
    have hset : ∀ k',n.ks.set (under n.ks s) k' = P ++ k' :: Q := fun k' => by
      rw [← hp]
      conv => lhs; rw [he]
      exact set_mid P Q k k'
    have hlen : n.ks.length = P.length + 1 + Q.length := by rw [he]; simp; omega
    unfold remN
    simp only [hkd]
    by_cases h4 : (remN k s).size < 4
    · rw [if_pos h4]
      have h3 : (remN k s).size = 3 := by have := ih.lo; have := hw.1.1; omega
      rw [hset,← hp]
      obtain ⟨m1,m2,m3,m4⟩ := mend_ok (P := P) (Q := Q) hPw hQw ih.kw h3 (by
        cases P with
        | nil => cases Q with
          | nil => simp at hlen; omega
          | cons q Q => exact .inr (by simp)
        | cons p P => exact .inl (by simp))
      refine ⟨?_,kw_mk.2 m2,?_,?_⟩
      · rw [flat_mkI,m1,hdel,← ih.fl]
        simp [List.append_assoc]
      · show n.ks.length ≤ _ + 1
        have : (mkI (-1) (mendL (P ++ remN k s :: Q) P.length)).size = (mendL (P ++ remN k s :: Q) P.length).length := rfl
        omega
      · show _ ≤ n.ks.length
        have : (mkI (-1) (mendL (P ++ remN k s :: Q) P.length)).size = (mendL (P ++ remN k s :: Q) P.length).length := rfl
        omega
    · rw [if_neg h4,hset]
      refine ⟨?_,kw_mk.2 (fun x hx => ?_),?_,?_⟩
      · rw [flat_mkI,hdel,← ih.fl]
        simp [List.append_assoc]
      · rcases List.mem_append.1 hx with hx | hx
        · exact hPw x hx
        · rcases List.mem_cons.1 hx with rfl | hx
          · exact ⟨⟨by omega,by have := ih.up; have := hw.1.2; omega⟩,ih.kw⟩
          · exact hQw x hx
      · show n.ks.length ≤ (P ++ remN k s :: Q).length + 1
        rw [hlen]; simp; omega
      · show (P ++ remN k s :: Q).length ≤ n.ks.length
        rw [hlen]; simp; omega
theorem Tree.Ok.parts : ∀ {h : Nat} {n : Nd h},(Tree.top h n).Ok → Kw n ∧ Big n ∧ 1 ≤ n.size ∧ n.size ≤ 8
  | 0,n,h => ⟨trivial,trivial,h⟩
  | h + 1,n,hh => ⟨hh.2,hh.1.1,by have := hh.1.1; omega,hh.1.2⟩
theorem put_none {h : Nat} {n : Nd h} {e : Ext} (hs : (insN n e).2 = none) : (Tree.top h n).put e = .top h (insN n e).1 := by
  show (match (insN n e).2 with | none => Tree.top h (insN n e).1 | some s => Tree.top (h + 1) (mkI (-1) [(insN n e).1,s])) = _
  rw [hs]
theorem put_some {h : Nat} {n s : Nd h} {e : Ext} (hs : (insN n e).2 = some s) : (Tree.top h n).put e = .top (h + 1) (mkI (-1) [(insN n e).1,s]) := by
  show (match (insN n e).2 with | none => Tree.top h (insN n e).1 | some s => Tree.top (h + 1) (mkI (-1) [(insN n e).1,s])) = _
  rw [hs]
theorem put_ok {t : Tree} {e : Ext} (h : t.Ok) (hi : Inc t.flat) : (t.put e).flat = ins t.flat e ∧ (t.put e).Ok := by
  cases t with
  | no => exact ⟨rfl,by show 1 ≤ 1 ∧ 1 ≤ 8; omega⟩
  | top hh n =>
    obtain ⟨p1,p2,p3,p4⟩ := h.parts
    have hr := ins_ok n e p1 p3 p4 hi
    cases hs : (insN n e).2 with
    | none =>
      rw [put_none hs]
      have hf := hr.fl
      rw [hs] at hf
      simp only [sib,List.append_nil] at hf
      obtain ⟨o1,o2⟩ := hr.one hs
      refine ⟨hf,?_⟩
      cases hh with
      | zero => exact ⟨by omega,o2⟩
      | succ hh =>
        have hb : 2 ≤ n.ks.length := p2
        have e1 : n.size = n.ks.length := rfl
        exact ⟨⟨by omega,o2⟩,hr.kw⟩
    | some s =>
      rw [put_some hs]
      have hf := hr.fl
      rw [hs] at hf
      obtain ⟨⟨o1,o2⟩,o3⟩ := hr.two s hs
      refine ⟨?_,⟨by show 2 ≤ 2; omega,by show 2 ≤ 8; omega⟩,kw_mk.2 (fun x hx => ?_)⟩
      · show tr.flat (mkI (-1) [(insN n e).1,s]) = _
        simp only [flat_mkI,flats_cons,flats_nil,List.append_nil]
        exact hf
      · simp only [List.mem_cons,List.not_mem_nil,or_false] at hx
        rcases hx with rfl | rfl
        · exact ⟨⟨by omega,by omega⟩,hr.kw⟩
        · exact ⟨⟨by omega,by omega⟩,o3⟩
theorem low_ok : ∀ {h : Nat} {n : Nd h},Kw n → n.size ≤ 8 → (h ≠ 0 → 1 ≤ n.size) → (Tree.low n).flat = flat n ∧ (Tree.low n).Ok
  | 0,n,_,h8,_ => by
    have e0 : Tree.low n = if n.l = [] then .no else .top 0 n := rfl
    rw [e0]
    by_cases hl : n.l = []
    · rw [if_pos hl]; exact ⟨hl.symm,trivial⟩
    · rw [if_neg hl]
      refine ⟨rfl,?_,h8⟩
      have : n.size = n.l.length := rfl
      have := List.length_pos_iff.2 hl
      omega
  | h + 1,n,hk,h8,h1 => by
    have h1' : 1 ≤ n.ks.length := h1 (by omega)
    have e0 : Tree.low n = match n.ks with | [k] => .top h k | _ => .top (h + 1) n := rfl
    rw [e0]
    have e : n.size = n.ks.length := rfl
    cases hks : n.ks with
    | nil => rw [hks] at h1'; simp at h1'
    | cons a r => cases r with
      | nil =>
        have hw : Wf a := hk.mem (by rw [hks]; simp)
        refine ⟨?_,?_⟩
        · show flat a = _
          rw [flat_in,hks]; simp
        · cases h with
          | zero => exact ⟨by have := hw.1.1; omega,hw.1.2⟩
          | succ h => exact ⟨⟨by have := hw.1.1; omega,hw.1.2⟩,hw.2⟩
      | cons b r =>
        refine ⟨rfl,⟨?_,h8⟩,hk⟩
        rw [e,hks]; simp
theorem take_ok {t : Tree} {s : Int} (h : t.Ok) (hi : Inc t.flat) : (t.take s).flat = del t.flat s ∧ (t.take s).Ok := by
  cases t with
  | no => exact ⟨rfl,trivial⟩
  | top hh n =>
    obtain ⟨p1,p2,p3,p4⟩ := h.parts
    have hr := rem_ok n s p1 p2 p3 hi
    obtain ⟨l1,l2⟩ := low_ok hr.kw (by have := hr.up; omega) (fun hne => by
      cases hh with
      | zero => exact absurd rfl hne
      | succ hh =>
        have hb : 2 ≤ n.ks.length := p2
        have e1 : n.size = n.ks.length := rfl
        have := hr.lo
        omega)
    exact ⟨l1.trans hr.fl,l2⟩
def Tree.takes (t : Tree) (d : List Ext) : Tree := d.foldl (fun t e => t.take e.fr) t
def Tree.puts (t : Tree) (d : List Ext) : Tree := d.foldl Tree.put t
def Tree.change (t : Tree) (was is : List Ext) : Tree := (t.takes (was.filter fun e => decide (e ∉ is))).puts (is.filter fun e => decide (e ∉ was))
theorem takes_ok : ∀ (d : List Ext) (t : Tree),t.Ok → Inc t.flat → (t.takes d).flat = d.foldl (fun l e => del l e.fr) t.flat ∧ (t.takes d).Ok
  | [],t,h,_ => ⟨rfl,h⟩
  | e :: d,t,h,hi => by
    obtain ⟨h1,h2⟩ := take_ok (s := e.fr) h hi
    have := takes_ok d (t.take e.fr) h2 (by rw [h1]; exact del_inc hi _)
    rw [h1] at this
    exact this
theorem puts_ok : ∀ (d : List Ext) (t : Tree),t.Ok → Inc t.flat → Inc d → (∀ x ∈ t.flat,∀ e ∈ d,x.fr ≠ e.fr) → (t.puts d).flat = d.foldl ins t.flat ∧ (t.puts d).Ok
  | [],t,h,_,_,_ => ⟨rfl,h⟩
  | e :: d,t,h,hi,hd,hn => by
    obtain ⟨h1,h2⟩ := put_ok (e := e) h hi
    have p := List.pairwise_cons.1 hd
    have := puts_ok d (t.put e) h2 (by rw [h1]; exact ins_inc hi (fun x hx => hn x hx e (by simp))) p.2 (fun x hx y hy => by
      rw [h1] at hx
      rcases (ins_mem _ _ _).1 hx with rfl | hx
      · have := p.1 y hy; omega
      · exact hn x hx y (by simp [hy]))
    rw [h1] at this
    exact this
theorem tree_change {t : Tree} {L W R V : List Ext} (h : t.Ok) (hf : t.flat = L ++ W ++ R) (h1 : Inc (L ++ W ++ R)) (h2 : Inc (L ++ V ++ R)) : (t.change W V).flat = L ++ V ++ R ∧ (t.change W V).Ok := by
  have hi : Inc t.flat := by rw [hf]; exact h1
  obtain ⟨k1,k2⟩ := takes_ok (W.filter fun e => decide (e ∉ V)) t h hi
  have hti : Inc (t.takes (W.filter fun e => decide (e ∉ V))).flat := by rw [k1]; exact dels_inc _ _ hi
  have hVi : Inc V := (List.pairwise_append.1 (List.pairwise_append.1 h2).1).2.1
  obtain ⟨q1,q2⟩ := puts_ok (V.filter fun e => decide (e ∉ W)) _ k2 hti (hVi.filter _) (fun x hx e he hfe => by
    rw [k1,hf] at hx
    obtain ⟨heV,heW⟩ := List.mem_filter.1 he
    have hx' := (dels_mem _ _ x).1 hx
    obtain ⟨hxm,hxn⟩ := hx'
    have hWn : ∀ x ∈ L ++ V ++ R,∀ y ∈ L ++ V ++ R,x.fr = y.fr → x = y := by
      intro x hx y hy he
      obtain ⟨i,hi,rfl⟩ := List.mem_iff_getElem.1 hx
      obtain ⟨j,hj,rfl⟩ := List.mem_iff_getElem.1 hy
      rcases Nat.lt_trichotomy i j with h | h | h
      · have := List.pairwise_iff_getElem.1 h2 i j hi hj h; omega
      · subst h; rfl
      · have := List.pairwise_iff_getElem.1 h2 j i hj hi h; omega
    simp only [List.mem_append] at hxm
    rcases hxm with (hxm | hxm) | hxm
    · have h3 := List.pairwise_append.1 (List.pairwise_append.1 h2).1
      have := h3.2.2 x hxm e heV; omega
    · by_cases hv : x ∈ V
      · have := hWn x (by simp [hv]) e (by simp [heV]) hfe
        subst this
        simp at heW
        exact heW hxm
      · exact hxn x (List.mem_filter.2 ⟨hxm,by simpa using hv⟩) rfl
    · have h3 := (List.pairwise_append.1 h2).2.2 e (by simp [heV]) x hxm; omega)
  have hc := change_is h1 h2
  unfold changeL tr.takes at hc
  refine ⟨?_,q2⟩
  show (Tree.puts _ _).flat = _
  rw [q1,k1,hf]
  exact hc
def Tree.over (t : Tree) (e : Ext) : Tree := t.change (nearL t.flat e.fr e.end_) (overL (nearL t.flat e.fr e.end_) e)
def Tree.cut (t : Tree) (fr n : Int) : Tree := t.change (nearL t.flat fr (fr + n)) (cutL (nearL t.flat fr (fr + n)) fr n)
theorem tree_over {t : Tree} {e : Ext} (h : t.Ok) (hc : Chk t.flat) (he : oneB e = true) : (t.over e).flat = overL t.flat e ∧ (t.over e).Ok ∧ Chk (t.over e).flat := by
  have k := one_spec he
  have k2 : e.end_ = e.fr + e.n := rfl
  have h3 := three (lo := e.fr) (hi := e.end_) hc (by omega)
  have hl := over_local hc he
  have hco := over_chk hc he
  obtain ⟨r1,r2⟩ := tree_change (V := overL (nearL t.flat e.fr e.end_) e) h h3 (by rw [← h3]; exact chk_fr hc) (by rw [← hl]; exact chk_fr hco)
  rw [← hl] at r1
  exact ⟨r1,r2,by unfold Tree.over; rw [r1]; exact hco⟩
theorem tree_cut {t : Tree} {fr n : Int} (h : t.Ok) (hc : Chk t.flat) (h1 : 0 ≤ fr) (h2 : 0 ≤ n) (h3' : fr + n ≤ 16777216) : (t.cut fr n).flat = cutL t.flat fr n ∧ (t.cut fr n).Ok ∧ Chk (t.cut fr n).flat := by
  have h3 := three (lo := fr) (hi := fr + n) hc (by omega)
  have hl := cut_local hc h1 h2 h3'
  have hco := cut_chk hc h1 h2 h3'
  obtain ⟨r1,r2⟩ := tree_change (V := cutL (nearL t.flat fr (fr + n)) fr n) h h3 (by rw [← h3]; exact chk_fr hc) (by rw [← hl]; exact chk_fr hco)
  rw [← hl] at r1
  exact ⟨r1,r2,by unfold Tree.cut; rw [r1]; exact hco⟩
def cntN : {h : Nat} → Nd h → Nat
  | 0,_ => 1
  | _ + 1,n => 1 + (n.ks.map cntN).sum
def Tree.high : Tree → Nat
  | .no => 0
  | .top h _ => h + 1
def Tree.cnt : Tree → Nat
  | .no => 0
  | .top _ n => cntN n
theorem flats_len {h : Nat} : ∀ (ks : List (Nd h)) (a b : Nat),(∀ k ∈ ks,a ≤ (flat k).length ∧ (flat k).length ≤ b) → ks.length * a ≤ (flats ks).length ∧ (flats ks).length ≤ ks.length * b
  | [],a,b,_ => by simp
  | k :: r,a,b,hh => by
    have h1 := hh k (by simp)
    have h2 := flats_len r a b (fun x hx => hh x (by simp [hx]))
    rw [flats_cons,List.length_append,List.length_cons,Nat.add_mul,Nat.add_mul,Nat.one_mul,Nat.one_mul]
    omega
theorem wf_len : ∀ {h : Nat} (n : Nd h),Wf n → 4 ^ (h + 1) ≤ (flat n).length ∧ (flat n).length ≤ 8 ^ (h + 1)
  | 0,n,hw => by
    have e : n.size = (flat n).length := rfl
    have := hw.1
    omega
  | h + 1,n,hw => by
    have hk := flats_len n.ks (4 ^ (h + 1)) (8 ^ (h + 1)) (fun k hm => wf_len k (hw.2.mem hm))
    have e : n.size = n.ks.length := rfl
    have h1 := hw.1
    rw [e] at h1
    have h2 := Nat.mul_le_mul_right (4 ^ (h + 1)) h1.1
    have h3 := Nat.mul_le_mul_right (8 ^ (h + 1)) h1.2
    rw [flat_in,Nat.pow_succ 4,Nat.pow_succ 8,Nat.mul_comm (4 ^ (h + 1)) 4,Nat.mul_comm (8 ^ (h + 1)) 8]
    omega
theorem cnt_sum {h : Nat} : ∀ (ks : List (Nd h)),(∀ k ∈ ks,3 * cntN k + 1 ≤ (flat k).length) → 3 * (ks.map cntN).sum + ks.length ≤ (flats ks).length
  | [],_ => by simp
  | k :: r,hh => by
    have h1 := hh k (by simp)
    have h2 := cnt_sum r (fun x hx => hh x (by simp [hx]))
    rw [flats_cons,List.length_append,List.map_cons,List.sum_cons,List.length_cons]
    omega
theorem wf_cnt : ∀ {h : Nat} (n : Nd h),Wf n → 3 * cntN n + 1 ≤ (flat n).length
  | 0,n,hw => by
    have e : n.size = (flat n).length := rfl
    have := hw.1
    show 3 * 1 + 1 ≤ _
    omega
  | h + 1,n,hw => by
    have hk := cnt_sum n.ks (fun k hm => wf_cnt k (hw.2.mem hm))
    have e : n.size = n.ks.length := rfl
    have h1 := hw.1
    rw [flat_in]
    show 3 * (1 + (n.ks.map cntN).sum) + 1 ≤ _
    omega
theorem tree_high {t : Tree} (h : t.Ok) : (t.flat = [] → t.high = 0 ∧ t.cnt = 0) ∧ (t.flat ≠ [] → 1 ≤ t.high ∧ t.flat.length ≤ 8 ^ t.high ∧ (t.high = 1 ∨ 2 * 4 ^ (t.high - 1) ≤ t.flat.length) ∧ t.cnt ≤ 1 + t.flat.length / 3) := by
  cases t with
  | no => exact ⟨fun _ => ⟨rfl,rfl⟩,fun h => absurd rfl h⟩
  | top hh n =>
    cases hh with
    | zero =>
      have h1 : 1 ≤ n.size ∧ n.size ≤ 8 := h
      have e : n.size = (Tree.flat (.top 0 n)).length := rfl
      refine ⟨fun hf => ?_,fun _ => ⟨Nat.le_refl _,?_,.inl rfl,?_⟩⟩
      · rw [hf] at e; simp at e; omega
      · show _ ≤ 8 ^ 1; omega
      · show 1 ≤ _; omega
    | succ hh =>
      have h1 : (2 ≤ n.ks.length ∧ n.ks.length ≤ 8) ∧ Kw n := h
      have hk := flats_len n.ks (4 ^ (hh + 1)) (8 ^ (hh + 1)) (fun k hm => wf_len k (h1.2.mem hm))
      have hc := cnt_sum n.ks (fun k hm => wf_cnt k (h1.2.mem hm))
      have h2 := Nat.mul_le_mul_right (4 ^ (hh + 1)) h1.1.1
      have h3 := Nat.mul_le_mul_right (8 ^ (hh + 1)) h1.1.2
      have hpos : 0 < 4 ^ (hh + 1) := Nat.pow_pos (by decide)
      have ef : Tree.flat (.top (hh + 1) n) = flats n.ks := rfl
      refine ⟨fun hf => ?_,fun _ => ⟨by show 1 ≤ hh + 1 + 1; omega,?_,.inr ?_,?_⟩⟩
      · rw [ef] at hf
        rw [hf] at hk
        simp only [List.length_nil] at hk
        omega
      · rw [ef]; show _ ≤ 8 ^ (hh + 1 + 1); rw [Nat.pow_succ 8 (hh + 1),Nat.mul_comm]; omega
      · rw [ef]; show 2 * 4 ^ (hh + 1) ≤ _; omega
      · rw [ef]; show 1 + (n.ks.map cntN).sum ≤ _; omega
end Go.Proofs.YtneammhkgmkkfaaGreatDoor.tr
namespace Go.Proofs.YtneammhkgmkkfaaGreatDoor.tr
set_option linter.unusedVariables false
set_option linter.unusedSimpArgs false
def rTog (a b : Ext) : Bool := decide (b.fr = a.fr + a.n) && decide (a.kind = b.kind) && (decide (a.kind = 1) || decide (b.at_ = a.at_ + a.n))
theorem rTog_eq {a b : Ext} (ha : oneB a = true) (hb : oneB b = true) : rTog a b = tog a b := by
  have k1 := (one_spec ha).2.2.2
  have k2 := (one_spec hb).2.2.2
  have : rTog a b = true ↔ tog a b = true := by
    rw [tog_iff]
    unfold rTog
    simp only [Bool.and_eq_true,Bool.or_eq_true,decide_eq_true_eq]
    have e : a.end_ = a.fr + a.n := rfl
    constructor
    · rintro ⟨⟨h1,h2⟩,h3⟩
      refine ⟨h1,h2.symm,?_⟩
      split
      · rcases h3 with h3 | h3
        · omega
        · exact h3
      · rcases k2 with ⟨_,h⟩ | ⟨h,_⟩
        · exact h
        · omega
    · rintro ⟨h1,h2,h3⟩
      refine ⟨⟨h1,h2.symm⟩,?_⟩
      rcases k1 with ⟨h,_⟩ | ⟨h,_⟩
      · exact .inl h
      · rw [if_pos h] at h3; exact .inr h3
  cases h : rTog a b <;> cases h' : tog a b <;> simp_all
def rPart (e : Ext) (a b : Int) : Ext := ⟨max e.fr a,min e.end_ b - max e.fr a,e.kind,if e.kind = 2 then e.at_ + max e.fr a - e.fr else 0⟩
theorem push_one {out : List Ext} {e : Ext} (h : ∀ x ∈ out,oneB x = true) (he : oneB e = true) : ∀ x ∈ push out e,oneB x = true := by
  intro x hx
  rcases List.eq_nil_or_concat out with rfl | ⟨o,a,rfl⟩
  · simp [push] at hx; rw [hx]; exact he
  · rw [List.concat_eq_append] at h hx
    rw [push_snoc] at hx
    split at hx
    · rename_i ht
      rcases List.mem_append.1 hx with hx | hx
      · exact h x (by simp [hx])
      · rw [List.mem_singleton.1 hx]; exact one_join (h a (by simp)) he ht
    · rcases List.mem_append.1 hx with hx | hx
      · exact h x hx
      · rw [List.mem_singleton.1 hx]; exact he
end Go.Proofs.YtneammhkgmkkfaaGreatDoor.tr
namespace Go.Proofs.YtneammhkgmkkfaaGreatDoor.tr
set_option linter.unusedVariables false
set_option linter.unusedSimpArgs false
def chkB : List Ext → Bool
  | [] => true
  | [e] => oneB e
  | a :: b :: r => oneB a && decide (a.end_ ≤ b.fr) && !tog a b && chkB (b :: r)
theorem chkB_chk : ∀ (l : List Ext),chkB l = true → Chk l
  | [],_ => chk_nil
  | [e],h => ⟨fun x hx => by rw [List.mem_singleton.1 hx]; exact h,by simp⟩
  | a :: b :: r,h => by
    simp only [chkB,Bool.and_eq_true,decide_eq_true_eq,Bool.not_eq_true'] at h
    obtain ⟨⟨⟨h1,h2⟩,h3⟩,h4⟩ := h
    have ih := chkB_chk (b :: r) h4
    have hp := List.pairwise_cons.1 ih.ord
    have hb := one_spec (ih.one b (by simp))
    have hbe : b.end_ = b.fr + b.n := rfl
    refine ⟨fun x hx => ?_,List.pairwise_cons.2 ⟨fun x hx => ?_,ih.ord⟩⟩
    · rcases List.mem_cons.1 hx with rfl | hx
      · exact h1
      · exact ih.one x hx
    · rcases List.mem_cons.1 hx with rfl | hx
      · exact ⟨h2,h3⟩
      · have := (hp.1 x hx).1
        exact ⟨by omega,tog_far (by omega)⟩
theorem chk_chkB : ∀ (l : List Ext),Chk l → chkB l = true
  | [],_ => rfl
  | [e],h => h.one e (by simp)
  | a :: b :: r,h => by
    have hp := (List.pairwise_cons.1 h.ord).1 b (by simp)
    simp only [chkB,Bool.and_eq_true,decide_eq_true_eq,Bool.not_eq_true']
    exact ⟨⟨⟨h.one a (by simp),hp.1⟩,hp.2⟩,chk_chkB (b :: r) h.tail⟩
end Go.Proofs.YtneammhkgmkkfaaGreatDoor.tr
namespace Go.Proofs.YtneammhkgmkkfaaGreatDoor.tr
set_option linter.unusedVariables false
set_option linter.unusedSimpArgs false
def handed (g : Ext → Bool) : List Ext → List Ext
  | [] => []
  | e :: r => if g e = true then e :: handed g r else [e]
theorem handed_app (g : Ext → Bool) : ∀ (l r : List Ext),handed g (l ++ r) = if l.all g = true then l ++ handed g r else handed g l
  | [],r => by simp
  | e :: l,r => by
    have ih := handed_app g l r
    have e1 : ∀ (x : Ext) (q : List Ext),handed g (x :: q) = if g x = true then x :: handed g q else [x] := fun _ _ => rfl
    rw [List.cons_append,e1,e1,List.all_cons]
    by_cases h : g e = true
    · rw [if_pos h,ih,if_pos h,h,Bool.true_and]
      split <;> rfl
    · rw [if_neg h,if_neg h,if_neg (by simp [h])]
theorem handed_all {g : Ext → Bool} : ∀ {l : List Ext},l.all g = true → handed g l = l
  | [],_ => rfl
  | e :: l,h => by
    simp only [List.all_cons,Bool.and_eq_true] at h
    unfold handed
    rw [if_pos h.1,handed_all h.2]
theorem handed_filter (g : Ext → Bool) : ∀ (l : List Ext),(handed g l).filter g = l.takeWhile g
  | [] => rfl
  | e :: l => by
    unfold handed
    by_cases h : g e = true
    · rw [if_pos h,List.filter_cons,if_pos h,handed_filter g l,List.takeWhile_cons,if_pos h]
    · rw [if_neg h,List.takeWhile_cons,if_neg h]
      simp [h]
theorem while_filter {hi : Int} : ∀ {l : List Ext},Inc l → l.takeWhile (fun x => decide (x.fr ≤ hi)) = l.filter fun x => decide (x.fr ≤ hi)
  | [],_ => rfl
  | e :: l,h => by
    have hp := List.pairwise_cons.1 h
    rw [List.takeWhile_cons,List.filter_cons]
    by_cases he : e.fr ≤ hi
    · rw [if_pos (by simpa using he),if_pos (by simpa using he),while_filter hp.2]
    · rw [if_neg (by simpa using he),if_neg (by simpa using he),List.filter_eq_nil_iff.2]
      intro x hx
      have := hp.1 x hx
      simp; omega
def pastL (l : List Ext) (s : Int) : List Ext := l.filter fun e => decide (s < e.end_)
theorem past_append (l r : List Ext) (s : Int) : pastL (l ++ r) s = pastL l s ++ pastL r s := by simp [pastL]
theorem past_inc {l : List Ext} (h : Inc l) (s : Int) : Inc (pastL l s) := h.filter _
theorem past_all {l : List Ext} (h : Chk l) : pastL l (-1) = l := by
  unfold pastL
  rw [List.filter_eq_self]
  intro e he
  have := chk_end h he
  simp; omega
theorem past_none {l : List Ext} {s : Int} (h : ∀ x ∈ l,x.end_ ≤ s) : pastL l s = [] := by
  unfold pastL
  rw [List.filter_eq_nil_iff]
  intro x hx
  have := h x hx
  simp; omega
theorem near_past {l : List Ext} (h : Chk l) (lo hi : Int) : (handed (fun x => decide (x.fr ≤ hi)) (pastL l (lo - 1))).filter (fun x => decide (x.fr ≤ hi)) = nearL l lo hi := by
  rw [handed_filter,while_filter (past_inc (chk_fr h) _)]
  unfold pastL nearL nearB
  rw [List.filter_filter]
  refine List.filter_congr fun x _ => ?_
  congr 1
  exact decide_eq_decide.2 (by omega)
theorem past_under {h : Nat} {ks : List (Nd h)} {s : Int} (hk : ∀ k ∈ ks,Wf k) (hc : Chk (flats ks)) : pastL (flats ks) s = pastL (flats (ks.drop (under ks s))) s := by
  obtain ⟨k1,k2,k3⟩ := und_spec ks s (ks.length - 1)
  have hu : under ks s = undN ks s (ks.length - 1) := rfl
  rw [hu]
  obtain ⟨u,hu2⟩ : ∃ u,undN ks s (ks.length - 1) = u := ⟨_,rfl⟩
  rw [hu2] at k1 k2 k3 ⊢
  clear hu hu2
  rcases k2 with rfl | k2
  · rfl
  · by_cases h0 : ks = []
    · subst h0; simp
    · have hul : u < ks.length := by
        have : 0 < ks.length := List.length_pos_iff.2 h0
        omega
      conv => lhs; rw [← List.take_append_drop u ks]
      rw [flats_append,past_append,past_none (l := flats (ks.take u)),List.nil_append]
      intro x hx
      have hd : ks.drop u = ks[u] :: ks.drop (u + 1) := List.drop_eq_getElem_cons hul
      have hg : ks.getD u (dft h) = ks[u] := by simp [List.getD,hul]
      rw [hg] at k2
      have hw : Wf ks[u] := hk _ (List.getElem_mem _)
      obtain ⟨e,r,h1,h2⟩ := flat_ne ks[u] hw.2 (by have := hw.1.1; omega)
      have ho := hc.ord
      rw [← List.take_append_drop u ks,flats_append,hd,flats_cons,h1] at ho
      have := ((List.pairwise_append.1 ho).2.2 x hx e (by simp)).1
      omega
theorem ins_at {l : List Ext} {e : Ext} : ∀ {i : Nat},i ≤ l.length → (∀ j x,j < i → l[j]? = some x → x.fr < e.fr) → (∀ j x,i ≤ j → l[j]? = some x → e.fr ≤ x.fr) → ins l e = l.take i ++ e :: l.drop i := by
  intro i hi h1 h2
  unfold ins
  have hl : l = l.take i ++ l.drop i := (List.take_append_drop i l).symm
  have hT : ∀ x ∈ l.take i,x.fr < e.fr := fun x hx => by
    obtain ⟨j,hj,rfl⟩ := List.mem_iff_getElem.1 hx
    rw [List.length_take] at hj
    rw [List.getElem_take]
    exact h1 j _ (by omega) (List.getElem?_eq_getElem (by omega))
  have hD : ∀ x ∈ l.drop i,e.fr ≤ x.fr := fun x hx => by
    obtain ⟨j,hj,rfl⟩ := List.mem_iff_getElem.1 hx
    rw [List.length_drop] at hj
    rw [List.getElem_drop]
    exact h2 (i + j) _ (by omega) (List.getElem?_eq_getElem (by omega))
  have f1 : l.filter (fun x => decide (x.fr < e.fr)) = l.take i := by
    conv => lhs; rw [hl]
    rw [List.filter_append,filter_all (fun x hx => by simpa using hT x hx),filter_no (fun x hx => by have := hD x hx; simp; omega),List.append_nil]
  have f2 : l.filter (fun x => decide (e.fr ≤ x.fr)) = l.drop i := by
    conv => lhs; rw [hl]
    rw [List.filter_append,filter_no (fun x hx => by have := hT x hx; simp; omega),filter_all (fun x hx => by simpa using hD x hx),List.nil_append]
  rw [f1,f2]
end Go.Proofs.YtneammhkgmkkfaaGreatDoor.tr
namespace Go.Proofs.YtneammhkgmkkfaaGreatDoor.tr
set_option linter.unusedVariables false
set_option linter.unusedSimpArgs false
theorem chg_sep {t : Tree} {L W R V : List Ext} (h : t.Ok) (hf : t.flat = L ++ W ++ R) (h1 : Inc (L ++ W ++ R)) (h2 : Inc (L ++ V ++ R)) :
    ∀ x ∈ (t.takes (W.filter fun e => decide (e ∉ V))).flat,∀ e ∈ V.filter (fun e => decide (e ∉ W)),x.fr ≠ e.fr := by
  have hi : Inc t.flat := by rw [hf]; exact h1
  obtain ⟨k1,k2⟩ := takes_ok (W.filter fun e => decide (e ∉ V)) t h hi
  intro x hx e he hfe
  rw [k1,hf] at hx
  obtain ⟨heV,heW⟩ := List.mem_filter.1 he
  have hx' := (dels_mem _ _ x).1 hx
  obtain ⟨hxm,hxn⟩ := hx'
  have hWn : ∀ x ∈ L ++ V ++ R,∀ y ∈ L ++ V ++ R,x.fr = y.fr → x = y := by
    intro x hx y hy he
    obtain ⟨i,hi,rfl⟩ := List.mem_iff_getElem.1 hx
    obtain ⟨j,hj,rfl⟩ := List.mem_iff_getElem.1 hy
    rcases Nat.lt_trichotomy i j with h | h | h
    · have := List.pairwise_iff_getElem.1 h2 i j hi hj h; omega
    · subst h; rfl
    · have := List.pairwise_iff_getElem.1 h2 j i hj hi h; omega
  simp only [List.mem_append] at hxm
  rcases hxm with (hxm | hxm) | hxm
  · have h3 := List.pairwise_append.1 (List.pairwise_append.1 h2).1
    have := h3.2.2 x hxm e heV; omega
  · by_cases hv : x ∈ V
    · have := hWn x (by simp [hv]) e (by simp [heV]) hfe
      subst this
      simp at heW
      exact heW hxm
    · exact hxn x (List.mem_filter.2 ⟨hxm,by simpa using hv⟩) rfl
  · have h3 := (List.pairwise_append.1 h2).2.2 e (by simp [heV]) x hxm; omega
theorem chg_takes {t : Tree} {L W R V : List Ext} (h : t.Ok) (hf : t.flat = L ++ W ++ R) (h1 : Inc (L ++ W ++ R)) (j : Nat) :
    (t.takes ((W.take j).filter fun e => decide (e ∉ V))).Ok ∧ Inc (t.takes ((W.take j).filter fun e => decide (e ∉ V))).flat ∧ ∀ e,W[j]? = some e → e ∉ V → (t.takes ((W.take j).filter fun e => decide (e ∉ V))).flat ≠ [] := by
  have hi : Inc t.flat := by rw [hf]; exact h1
  obtain ⟨k1,k2⟩ := takes_ok ((W.take j).filter fun e => decide (e ∉ V)) t h hi
  refine ⟨k2,by rw [k1]; exact dels_inc _ _ hi,fun e he hev hn => ?_⟩
  have hm : e ∈ (t.takes ((W.take j).filter fun e => decide (e ∉ V))).flat := by
    rw [k1,dels_mem]
    refine ⟨by rw [hf]; simp [List.mem_of_getElem? he],fun d hd => ?_⟩
    have hd2 := (List.mem_filter.1 hd).1
    obtain ⟨i,hi2,rfl⟩ := List.mem_iff_getElem.1 hd2
    rw [List.length_take] at hi2
    have hWi : Inc W := (List.pairwise_append.1 (List.pairwise_append.1 h1).1).2.1
    obtain ⟨jl,rfl⟩ := List.getElem?_eq_some_iff.1 he
    have := List.pairwise_iff_getElem.1 hWi i j (by omega) jl (by omega)
    rw [List.getElem_take]
    omega
  rw [hn] at hm
  simp at hm
theorem chg_puts {t : Tree} {L W R V : List Ext} (h : t.Ok) (hf : t.flat = L ++ W ++ R) (h1 : Inc (L ++ W ++ R)) (h2 : Inc (L ++ V ++ R)) (ho : ∀ x ∈ t.flat,oneB x = true) (hv : ∀ x ∈ V,oneB x = true) (j : Nat) :
    ((t.takes (W.filter fun e => decide (e ∉ V))).puts ((V.take j).filter fun e => decide (e ∉ W))).Ok ∧ Inc ((t.takes (W.filter fun e => decide (e ∉ V))).puts ((V.take j).filter fun e => decide (e ∉ W))).flat ∧
      ∀ x ∈ ((t.takes (W.filter fun e => decide (e ∉ V))).puts ((V.take j).filter fun e => decide (e ∉ W))).flat,oneB x = true := by
  have hi : Inc t.flat := by rw [hf]; exact h1
  obtain ⟨k1,k2⟩ := takes_ok (W.filter fun e => decide (e ∉ V)) t h hi
  have hti : Inc (t.takes (W.filter fun e => decide (e ∉ V))).flat := by rw [k1]; exact dels_inc _ _ hi
  have hVi : Inc V := (List.pairwise_append.1 (List.pairwise_append.1 h2).1).2.1
  have hsep := chg_sep h hf h1 h2
  have hsub : ∀ e ∈ (V.take j).filter (fun e => decide (e ∉ W)),e ∈ V.filter (fun e => decide (e ∉ W)) := fun e he => by
    obtain ⟨a,b⟩ := List.mem_filter.1 he
    exact List.mem_filter.2 ⟨List.mem_of_mem_take a,b⟩
  have hdi : Inc ((V.take j).filter fun e => decide (e ∉ W)) := (hVi.sublist (List.take_sublist _ _)).filter _
  obtain ⟨q1,q2⟩ := puts_ok ((V.take j).filter fun e => decide (e ∉ W)) _ k2 hti hdi (fun x hx e he => hsep x hx e (hsub e he))
  refine ⟨q2,by rw [q1]; exact inss_inc _ _ hti hdi (fun x hx e he => hsep x hx e (hsub e he)),fun x hx => ?_⟩
  rw [q1] at hx
  rcases (inss_mem _ _ x).1 hx with hx | hx
  · rw [k1] at hx
    exact ho x ((dels_mem _ _ x).1 hx).1
  · exact hv x (List.mem_of_mem_take (List.mem_filter.1 hx).1)
theorem filt_take {l : List Ext} {p : Ext → Bool} {j : Nat} {e : Ext} (he : l[j]? = some e) : (l.take (j + 1)).filter p = (l.take j).filter p ++ (if p e = true then [e] else []) := by
  obtain ⟨hj,rfl⟩ := List.getElem?_eq_some_iff.1 he
  rw [List.take_succ_eq_append_getElem hj,List.filter_append]
  congr 1
  by_cases h : p l[j] = true <;> simp [h]
theorem takes_snoc (t : Tree) (d : List Ext) (e : Ext) : t.takes (d ++ [e]) = (t.takes d).take e.fr := by simp [Tree.takes]
theorem puts_snoc (t : Tree) (d : List Ext) (e : Ext) : t.puts (d ++ [e]) = (t.puts d).put e := by simp [Tree.puts]
end Go.Proofs.YtneammhkgmkkfaaGreatDoor.tr
