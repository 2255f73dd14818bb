/- NandOrder and NandKept, plain: what each call does to the counts of pages, and to the first block. -/
import Derived.Test.YtfnoojhnhkodaaaDoorNdQ
namespace Go.Proofs.YtfnoojhnhkodaaaDoor.nd
open Go.RowKit Go.Proofs.YtfnoojhnhkodaaaDoor.er
set_option linter.unusedVariables false

def nextOf (s : Nand) : List Nat := s.b.map fun b => b.pages.length
theorem nextOf_set (s : Nand) (i : Nat) (b : Blk) : nextOf (s.setB i b) = (nextOf s).set i b.pages.length := by
  unfold nextOf Nand.setB
  rw [List.map_set]
theorem nextOf_at {s : Nand} {i : Nat} {b : Blk} (h : s.b[i]? = some b) : (nextOf s)[i]? = some b.pages.length := by
  unfold nextOf
  rw [List.getElem?_map, h]
  rfl
theorem set_at_same {l : List Nat} {i x : Nat} (h : l[i]? = some x) : l.set i x = l := by
  apply List.ext_getElem?
  intro j
  rw [List.getElem?_set]
  split
  · rename_i e
    subst e
    rw [if_pos (List.getElem?_eq_some_iff.1 h).1, h]
  · rfl
/-- What Program does to the counts. -/
theorem program_next {s : Nand} (h : s.Ok) (q : Int) (t : ByteArray) :
    ((s.program q t).2 = s ∧ (s.program q t).1 ≠ 0) ∨
    ((s.program q t).2.ops = s.ops + 1 ∧ (s.program q t).2.blocks = s.blocks ∧ (s.program q t).2.per = s.per ∧ (s.program q t).2.plan = s.plan ∧
      ∃ n : Nat, q = n ∧ n < s.blocks * s.per ∧ (nextOf s)[n / s.per]? = some (n % s.per) ∧ nextOf (s.program q t).2 = (nextOf s).set (n / s.per) (n % s.per + 1) ∧
      (∀ i, i ≠ n / s.per → (s.program q t).2.b[i]? = s.b[i]?)) := by
  unfold Nand.program
  by_cases h1 : s.down = true
  · rw [if_pos h1]
    exact .inl ⟨rfl, by simp⟩
  rw [if_neg h1]
  by_cases h2 : ¬ (0 ≤ q ∧ q < s.blocks * s.per ∧ t.size ≤ 128)
  · rw [if_pos h2]
    exact .inl ⟨rfl, by simp⟩
  rw [if_neg h2]
  have h2' : 0 ≤ q ∧ q < s.blocks * s.per ∧ t.size ≤ 128 := Decidable.byContradiction h2
  obtain ⟨n, rfl⟩ := Int.eq_ofNat_of_zero_le h2'.1
  have hn : n < s.blocks * s.per := by have := h2'.2.1; exact_mod_cast this
  have hdiv : n / s.per < s.blocks := Nat.div_lt_of_lt_mul (by rw [Nat.mul_comm]; exact hn)
  have hb := Nand.blk_at h hdiv
  simp only [Int.toNat_natCast]
  generalize s.blk (n / s.per) = b at *
  by_cases h3 : b.bad = true
  · rw [if_pos h3]
    exact .inl ⟨rfl, by simp⟩
  rw [if_neg h3]
  by_cases h4 : n % s.per ≠ b.pages.length
  · rw [if_pos h4]
    exact .inl ⟨rfl, by simp⟩
  rw [if_neg h4]
  have h4' : n % s.per = b.pages.length := Decidable.byContradiction h4
  have hat := nextOf_at hb
  have key : ∀ (b' : Blk), b'.pages.length = b.pages.length + 1 → nextOf (s.count.setB (n / s.per) b') = (nextOf s).set (n / s.per) (n % s.per + 1) := fun b' hl => by
    rw [nextOf_set, hl, h4']
    rfl
  have far : ∀ (b' : Blk) (i : Nat), i ≠ n / s.per → (s.count.setB (n / s.per) b').b[i]? = s.b[i]? := fun b' i hi => by
    show (s.b.set (n / s.per) b')[i]? = _
    rw [List.getElem?_set_ne (Ne.symm hi)]
  refine .inr ?_
  by_cases h5 : (waits s.plan (s.ops + 1)).kind = 1
  · rw [if_pos h5]
    exact ⟨rfl, rfl, rfl, rfl, n, rfl, hn, by rw [hat, h4'], key { b with pages := b.pages ++ [spoilt (waits s.plan (s.ops + 1)) t] } (by simp), far _⟩
  rw [if_neg h5]
  by_cases h6 : (waits s.plan (s.ops + 1)).kind = 2
  · rw [if_pos h6]
    exact ⟨rfl, rfl, rfl, rfl, n, rfl, hn, by rw [hat, h4'], key { b with pages := b.pages ++ [spoilt (waits s.plan (s.ops + 1)) t], bad := true } (by simp), far _⟩
  rw [if_neg h6]
  exact ⟨rfl, rfl, rfl, rfl, n, rfl, hn, by rw [hat, h4'], key { b with pages := b.pages ++ [t] } (by simp), far _⟩
/-- What Erase does to the counts. -/
theorem erase_next {s : Nand} (h : s.Ok) (q : Int) :
    (s.erase q).2.blocks = s.blocks ∧ (s.erase q).2.per = s.per ∧ (s.erase q).2.plan = s.plan ∧ s.ops ≤ (s.erase q).2.ops ∧ (s.erase q).2.ops ≤ s.ops + 1 ∧ (∀ i : Nat, (i : Int) ≠ q → (s.erase q).2.b[i]? = s.b[i]?) ∧
    (((s.erase q).1 ≠ 0 ∧ ¬ (0 ≤ q ∧ q < s.blocks) ∧ nextOf (s.erase q).2 = nextOf s) ∨
     (∃ n : Nat, q = n ∧ n < s.blocks ∧ ∃ x : Nat, nextOf (s.erase q).2 = (nextOf s).set n x ∧ ((s.erase q).1 = 0 → x = 0) ∧ (nextOf (s.erase q).2)[n]? = some x)) := by
  have nolen : ∀ {n x : Nat}, n < s.blocks → ((nextOf s).set n x)[n]? = some x := fun {n x} hn => by
    rw [List.getElem?_set_self (by unfold nextOf; rw [List.length_map, h.bl]; exact hn)]
  unfold Nand.erase
  by_cases h1 : s.down = true
  · rw [if_pos h1]
    refine ⟨rfl, rfl, rfl, Int.le_refl _, by show s.ops ≤ s.ops + 1; omega, fun _ _ => rfl, ?_⟩
    by_cases h2 : 0 ≤ q ∧ q < s.blocks
    · obtain ⟨n, rfl⟩ := Int.eq_ofNat_of_zero_le h2.1
      have hn : n < s.blocks := by omega
      have hat := nextOf_at (Nand.blk_at h hn)
      exact .inr ⟨n, rfl, hn, _, (set_at_same hat).symm, fun h => by simp at h, hat⟩
    · exact .inl ⟨by simp, h2, rfl⟩
  rw [if_neg h1]
  by_cases h2 : ¬ (0 ≤ q ∧ q < s.blocks)
  · rw [if_pos h2]
    exact ⟨rfl, rfl, rfl, Int.le_refl _, by show s.ops ≤ s.ops + 1; omega, fun _ _ => rfl, .inl ⟨by simp, h2, rfl⟩⟩
  rw [if_neg h2]
  have h2' : 0 ≤ q ∧ q < s.blocks := Decidable.byContradiction h2
  obtain ⟨n, rfl⟩ := Int.eq_ofNat_of_zero_le h2'.1
  have hn : n < s.blocks := by omega
  have hb := Nand.blk_at h hn
  have hat := nextOf_at hb
  simp only [Int.toNat_natCast]
  generalize s.blk n = b at *
  by_cases h3 : b.bad = true
  · rw [if_pos h3]
    exact ⟨rfl, rfl, rfl, Int.le_refl _, by show s.ops ≤ s.ops + 1; omega, fun _ _ => rfl, .inr ⟨n, rfl, hn, _, (set_at_same hat).symm, fun h => by simp at h, hat⟩⟩
  rw [if_neg h3]
  have far : ∀ (b' : Blk) (i : Nat), (i : Int) ≠ (n : Int) → (s.count.setB n b').b[i]? = s.b[i]? := fun b' i hi => by
    show (s.b.set n b')[i]? = _
    rw [List.getElem?_set_ne (by omega)]
  have key : ∀ (b' : Blk), nextOf (s.count.setB n b') = (nextOf s).set n b'.pages.length := fun b' => by
    rw [nextOf_set]
    rfl
  by_cases h5 : (waits s.plan (s.ops + 1)).kind = 1
  · rw [if_pos h5]
    refine ⟨rfl, rfl, rfl, by show s.ops ≤ s.ops + 1; omega, Int.le_refl _, far _, .inr ⟨n, rfl, hn, _, key { b with pages := if 0 < (waits s.plan (s.ops + 1)).keep then List.replicate s.per (spoilt (waits s.plan (s.ops + 1)) ⟨#[]⟩) else b.pages }, fun h => by simp at h, ?_⟩⟩
    exact (congrArg (·[n]?) (key _)).trans (nolen hn)
  rw [if_neg h5]
  by_cases h6 : (waits s.plan (s.ops + 1)).kind = 3
  · rw [if_pos h6]
    refine ⟨rfl, rfl, rfl, by show s.ops ≤ s.ops + 1; omega, Int.le_refl _, far _, .inr ⟨n, rfl, hn, _, key { b with bad := true }, fun h => by simp at h, ?_⟩⟩
    exact (congrArg (·[n]?) (key _)).trans (nolen hn)
  rw [if_neg h6]
  refine ⟨rfl, rfl, rfl, by show s.ops ≤ s.ops + 1; omega, Int.le_refl _, far _, .inr ⟨n, rfl, hn, _, key { b with pages := [], worn := b.worn + 1 }, fun _ => rfl, ?_⟩⟩
  exact (congrArg (·[n]?) (key _)).trans (nolen hn)
end Go.Proofs.YtfnoojhnhkodaaaDoor.nd
