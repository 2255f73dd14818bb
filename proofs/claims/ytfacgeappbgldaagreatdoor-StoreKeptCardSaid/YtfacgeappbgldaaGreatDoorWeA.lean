/- wear: worn, byWorn, is, Count. -/
import Derived.Test.YtfacgeappbgldaaGreatDoorFlB
import Derived.Test.YtfacgeappbgldaaGreatDoorShA
import Derived.Deep.RegionHeld3
namespace Go.Proofs.YtfacgeappbgldaaGreatDoor.we
open Go.RowKit Go.Proofs.YtfacgeappbgldaaGreatDoor.er
set_option linter.unusedVariables false

structure Bk where
  st : Int
  va : Int
  wo : Int
def Bk.val (b : Bk) : Value := .agg #[.int .i64 b.st, .int .i64 b.va, .int .i64 b.wo]
def bkCells (l : List Bk) : List Value := l.flatMap fun b => [.int .i64 b.st, .int .i64 b.va, .int .i64 b.wo]
theorem bkCells_at : ∀ (l : List Bk) (j : Nat) (m : Bk), l[j]? = some m →
    (bkCells l)[j * 3]? = some (.int .i64 m.st) ∧ (bkCells l)[j * 3 + 1]? = some (.int .i64 m.va) ∧ (bkCells l)[j * 3 + 2]? = some (.int .i64 m.wo)
  | [], _, _, h => by simp at h
  | x :: r, 0, m, h => by
    simp at h
    subst h
    simp [bkCells]
  | x :: r, j + 1, m, h => by
    have ih := bkCells_at r j m (by simpa using h)
    have e : bkCells (x :: r) = .int .i64 x.st :: .int .i64 x.va :: .int .i64 x.wo :: bkCells r := by simp [bkCells]
    rw [e, show (j + 1) * 3 = j * 3 + 3 from by omega]
    simpa using ih
theorem bkCells_snoc (l : List Bk) (m : Bk) : bkCells (l ++ [m]) = bkCells l ++ [.int .i64 m.st, .int .i64 m.va, .int .i64 m.wo] := by simp [bkCells]
def wornOf (b : Bk) : Int := max b.wo 0
theorem worn_any (b : Bk) (w : World) :
    Calls Tryz.prog 108 #[b.val] w fun e w' => e = .returned (.int .i64 (wornOf b)) ∧ Below w.heap.size w w' := by
  obtain ⟨s, v, o⟩ := b
  show Calls Tryz.prog 108 #[.agg #[.int .i64 s, .int .i64 v, .int .i64 o]] w _
  go_enter Tryz.func108, Tryz.ntmps108
  go_wp2_with fail
  refine bodyPost_ret (v := .int .i64 (max o 0)) (by simp [results, Tryz.results108, go_sem]) rfl ⟨rfl, (Below.refl _ _).alloc (Nat.le_refl _) _⟩
theorem byWorn_any (a b : Bk) (w : World) :
    Calls Tryz.prog 102 #[a.val, b.val] w fun e w' => e = .returned (.int .i64 (Lib.compareInt (wornOf a) (wornOf b))) ∧ Below w.heap.size w w' := by
  obtain ⟨s, v, o⟩ := a
  obtain ⟨t, x, p⟩ := b
  show Calls Tryz.prog 102 #[.agg #[.int .i64 s, .int .i64 v, .int .i64 o], .agg #[.int .i64 t, .int .i64 x, .int .i64 p]] w _
  have HK : Hid (∀ w', Below ((w.alloc (.cells #[.int .i64 s, .int .i64 v, .int .i64 o] 63)).alloc (.cells #[.int .i64 t, .int .i64 x, .int .i64 p] 63)).heap.size ((w.alloc (.cells #[.int .i64 s, .int .i64 v, .int .i64 o] 63)).alloc (.cells #[.int .i64 t, .int .i64 x, .int .i64 p] 63)) w' → (w'.cell? ⟨w.heap.size, 0, none⟩ = some (.int .i64 s) ∧ w'.cell? ⟨w.heap.size, 1, none⟩ = some (.int .i64 v) ∧ w'.cell? ⟨w.heap.size, 2, none⟩ = some (.int .i64 o) ∧ w'.cell? ⟨w.heap.size + 1, 0, none⟩ = some (.int .i64 t) ∧ w'.cell? ⟨w.heap.size + 1, 1, none⟩ = some (.int .i64 x) ∧ w'.cell? ⟨w.heap.size + 1, 2, none⟩ = some (.int .i64 p))) := by
    intro w' hb
    have h1 : Whole ((w.alloc (.cells #[.int .i64 s, .int .i64 v, .int .i64 o] 63)).alloc (.cells #[.int .i64 t, .int .i64 x, .int .i64 p] 63)) w.heap.size 63 #[.int .i64 s, .int .i64 v, .int .i64 o] := (Whole.new w _ _).alloc _
    have h2 : Whole ((w.alloc (.cells #[.int .i64 s, .int .i64 v, .int .i64 o] 63)).alloc (.cells #[.int .i64 t, .int .i64 x, .int .i64 p] 63)) (w.heap.size + 1) 63 #[.int .i64 t, .int .i64 x, .int .i64 p] := Whole.new' _ _ _ _ (by simp)
    exact ⟨below_c hb (h1.cell 0), below_c hb (h1.cell 1), below_c hb (h1.cell 2), below_c hb (h2.cell 0), below_c hb (h2.cell 1), below_c hb (h2.cell 2)⟩
  have B0 := Lib.hid (Below.refl ((w.alloc (.cells #[.int .i64 s, .int .i64 v, .int .i64 o] 63)).alloc (.cells #[.int .i64 t, .int .i64 x, .int .i64 p] 63)).heap.size ((w.alloc (.cells #[.int .i64 s, .int .i64 v, .int .i64 o] 63)).alloc (.cells #[.int .i64 t, .int .i64 x, .int .i64 p] 63))).drew
  have BW := Lib.hid (((Below.refl w.heap.size w).alloc (Nat.le_refl _) (.cells #[.int .i64 s, .int .i64 v, .int .i64 o] 63)).alloc (by simp) (.cells #[.int .i64 t, .int .i64 x, .int .i64 p] 63))
  have HSZ : Hid (w.heap.size ≤ ((w.alloc (.cells #[.int .i64 s, .int .i64 v, .int .i64 o] 63)).alloc (.cells #[.int .i64 t, .int .i64 x, .int .i64 p] 63)).heap.size) := BW.out.size
  go_enter Tryz.func102, Tryz.ntmps102
  go_wp2_with fail
  go_region_held3 (fun w' => w'.cell? ⟨w.heap.size, 0, none⟩ = some (.int .i64 s) ∧ w'.cell? ⟨w.heap.size, 1, none⟩ = some (.int .i64 v) ∧ w'.cell? ⟨w.heap.size, 2, none⟩ = some (.int .i64 o) ∧ w'.cell? ⟨w.heap.size + 1, 0, none⟩ = some (.int .i64 t) ∧ w'.cell? ⟨w.heap.size + 1, 1, none⟩ = some (.int .i64 x) ∧ w'.cell? ⟨w.heap.size + 1, 2, none⟩ = some (.int .i64 p)) (first | exact HK.out _ B0.out | exact HK.out _ HB2.out | exact HK.out _ HB1.out) (first | (go_at_call 107; refine (Tryz.cmp_Compare_int _ _ _).mono ?_; rintro e w3 ⟨rfl, rfl⟩) | (go_at_call 108; have h1 := HB1; refine (worn_any ⟨t, x, p⟩ _).mono ?_; rintro e w2 ⟨rfl, hb2⟩; have HB2 := Lib.hid (HB1.out.trans (hb2.mono HB1.out.size)); clear hb2) | (go_at_call 108; refine (worn_any ⟨s, v, o⟩ _).mono ?_; rintro e w1 ⟨rfl, hb1⟩; have HB1 := Lib.hid (B0.out.trans (hb1.mono B0.out.size)); clear hb1))
  go_wp2_with fail
  go_ret
  exact ⟨rfl, BW.out.trans (HB2.out.mono HSZ.out)⟩
theorem is_any (k : Int) (w : World) :
    Calls Tryz.prog 101 #[.int .i64 k] w fun e w' => ∃ g, e = .returned (.func (.func 106) #[] #[.pointer (some ⟨g, 0, none⟩)]) ∧ w'.cell? ⟨g, 0, none⟩ = some (.int .i64 k) ∧ w.heap.size ≤ g ∧ Below w.heap.size w w' := by
  go_enter Tryz.func101, Tryz.ntmps101
  go_wp2_with fail
  go_ret
  exact ⟨w.heap.size, rfl, by simp, Nat.le_refl _, (Below.refl _ _).alloc (Nat.le_refl _) _⟩
theorem is1_any (g : Nat) (k : Int) (b : Bk) (w : World) (hg : w.cell? ⟨g, 0, none⟩ = some (.int .i64 k)) :
    Calls Tryz.prog 106 #[b.val, .pointer (some ⟨g, 0, none⟩)] w fun e w' => e = .returned (.bool (b.st == k)) ∧ Below w.heap.size w w' := by
  obtain ⟨s, v, o⟩ := b
  have HG := Lib.hid hg
  have hlt := World.block_lt_of_cell? _ _ hg
  have c0 := below_c ((Below.refl w.heap.size w).alloc (Nat.le_refl _) (.cells #[.int .i64 s, .int .i64 v, .int .i64 o] 63)) hg
  show Calls Tryz.prog 106 #[.agg #[.int .i64 s, .int .i64 v, .int .i64 o], .pointer (some ⟨g, 0, none⟩)] w _
  go_enter Tryz.func106, Tryz.ntmps106
  go_wp2_with fail
  go_ret
  exact ⟨rfl, (Below.refl _ _).alloc (Nat.le_refl _) _⟩
end Go.Proofs.YtfacgeappbgldaaGreatDoor.we
