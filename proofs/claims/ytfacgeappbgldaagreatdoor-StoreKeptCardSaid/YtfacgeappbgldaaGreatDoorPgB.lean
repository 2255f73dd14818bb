/- page: widths, Write. -/
import Derived.Test.YtfacgeappbgldaaGreatDoorPgA
import Derived.Test.YtfacgeappbgldaaGreatDoorFdF
import Derived.Deep.RegionHeld3
namespace Go.Proofs.YtfacgeappbgldaaGreatDoor.pg
open Go.RowKit Go.Proofs.YtfacgeappbgldaaGreatDoor.er Go.Proofs.YtfacgeappbgldaaGreatDoor.fd Go.Proofs.YtfacgeappbgldaaGreatDoor.ck
set_option linter.unusedVariables false

theorem widths_any (w : World) :
    Calls Tryz.prog 69 #[] w fun e w' => ∃ g, e = .returned (.slice (some ⟨g, 0, none⟩) 5 5) ∧ WidthsAt w' g ∧ w.heap.size ≤ g ∧ Below w.heap.size w w' := by
  go_enter Tryz.func69, Tryz.ntmps69
  go_wp2_with fail
  go_ret
  exact ⟨w.heap.size, rfl, Whole.new _ _ _, Nat.le_refl _, (Below.refl _ _).alloc (Nat.le_refl _) _⟩
def numsOf (p : Page) : Nat → Int
  | 0 => p.kind
  | 1 => p.space
  | 2 => p.key
  | 3 => p.seq
  | _ => p.body.size
theorem mayB_yes {p : Page} (h : mayB p = true) : 1 ≤ p.kind ∧ p.kind ≤ 4 ∧ 0 ≤ p.space ∧ p.space ≤ 65535 ∧ 0 ≤ p.key ∧ p.key ≤ 4294967295 ∧ 0 ≤ p.seq ∧ p.seq ≤ 281474976710655 ∧ p.body.size ≤ 100 := by
  simp only [mayB, inB, Bool.and_eq_true, decide_eq_true_eq] at h
  omega
theorem numsOf_lo {p : Page} (h : mayB p = true) : ∀ j, j < 5 → 0 ≤ numsOf p j := by
  obtain ⟨h1, h2, h3, h4, h5, h6, h7, h8, h9⟩ := mayB_yes h
  intro j hj
  match j, hj with
  | 0, _ => show 0 ≤ p.kind; omega
  | 1, _ => exact h3
  | 2, _ => exact h5
  | 3, _ => exact h7
  | 4, _ => show 0 ≤ (p.body.size : Int); omega
theorem numsOf_hi {p : Page} (h : mayB p = true) : ∀ j, j < 5 → numsOf p j < 256 ^ widN j := by
  obtain ⟨h1, h2, h3, h4, h5, h6, h7, h8, h9⟩ := mayB_yes h
  intro j hj
  match j, hj with
  | 0, _ => show p.kind < 256 ^ 1; omega
  | 1, _ => show p.space < 256 ^ 2; omega
  | 2, _ => show p.key < 256 ^ 4; omega
  | 3, _ => show p.seq < 256 ^ 6; omega
  | 4, _ => show (p.body.size : Int) < 256 ^ 1; omega
theorem wrap_u64 {n : Int} (h0 : 0 ≤ n) (h1 : n < 18446744073709551616) : IntKind.u64.wrap n = n := by
  show n % 18446744073709551616 = n
  omega
theorem nums_cells {w : World} {g : Nat} {p : Page} (h : Whole w g 126 #[.int .u64 p.kind, .int .u64 p.space, .int .u64 p.key, .int .u64 p.seq, .int .u64 p.body.size]) : ∀ j, j < 5 → w.cell? ⟨g, j, none⟩ = some (.int .u64 (numsOf p j)) := by
  intro j hj
  rw [h.cell j]
  match j, hj with
  | 0, _ => rfl
  | 1, _ => rfl
  | 2, _ => rfl
  | 3, _ => rfl
  | 4, _ => rfl
def headF (p : Page) : ByteArray := (⟨#[83, 99]⟩ : ByteArray) ++ ⟨(rowL (numsOf p) 5).toArray⟩
def writeF (p : Page) : ByteArray := sealF (headF p ++ p.body)
theorem rowL_five (n : Nat → Int) : (rowL n 5).length = 14 := by simp [rowL, bytesOf_length, widN]
theorem rowB_size (n : Nat → Int) : (⟨(rowL n 5).toArray⟩ : ByteArray).size = 14 := by show (rowL n 5).toArray.size = 14; simp [rowL_five]
set_option maxHeartbeats 4000000 in
set_option maxRecDepth 100000 in
theorem write_no (p : Page) (w : World) (h : mayB p = false) :
    Calls Tryz.prog 48 #[p.val] w fun e w' => e = .returned (.tuple #[.string ⟨#[]⟩, .int .i64 1]) ∧ Below w.heap.size w w' := by
  obtain ⟨k, s, y, q, b⟩ := p
  have H := Lib.hid h
  clear h
  show Calls Tryz.prog 48 #[.agg #[.int .i64 k, .int .i64 s, .int .i64 y, .int .i64 q, .string b]] w _
  have hb1 : Below w.heap.size w (w.alloc (.cells #[.int .i64 k, .int .i64 s, .int .i64 y, .int .i64 q, .string b] 39)) := (Below.refl _ _).alloc (Nat.le_refl _) _
  have HB1 := Lib.hid hb1
  clear hb1
  have HM := Lib.hid (may_any ⟨k, s, y, q, b⟩ (w.alloc (.cells #[.int .i64 k, .int .i64 s, .int .i64 y, .int .i64 q, .string b] 39)))
  go_enter Tryz.func48, Tryz.ntmps48
  go_wp2_with fail
  refine HM.out.mono ?_
  rw [H.out]
  rintro e w' ⟨rfl, hb⟩
  have HB := Lib.hid (HB1.out.trans (hb.mono HB1.out.size))
  clear hb
  go_wp2_with fail
  refine bodyPost_ret (v := .tuple #[.string ⟨#[]⟩, .int .i64 1]) (by simp [results, Tryz.results48, go_sem]) rfl ⟨rfl, HB.out⟩
set_option maxHeartbeats 4000000 in
set_option maxRecDepth 100000 in
theorem write_yes (p : Page) (w : World) (h : mayB p = true) :
    Calls Tryz.prog 48 #[p.val] w fun e w' => e = .returned (.tuple #[.string (writeF p), .int .i64 0]) ∧ Below w.heap.size w w' := by
  have h9 := mayB_yes h
  have H0 := Lib.hid (numsOf_lo h)
  have H1 := Lib.hid (numsOf_hi h)
  obtain ⟨k, s, y, q, b⟩ := p
  have H := Lib.hid h
  clear h
  obtain ⟨h1, h2, h3, h4, h5, h6, h7, h8, h9⟩ := h9
  simp only at h1 h2 h3 h4 h5 h6 h7 h8 h9
  show Calls Tryz.prog 48 #[.agg #[.int .i64 k, .int .i64 s, .int .i64 y, .int .i64 q, .string b]] w _
  have HB1 := Lib.hid ((Below.refl w.heap.size w).alloc (Nat.le_refl _) (.cells #[.int .i64 k, .int .i64 s, .int .i64 y, .int .i64 q, .string b] 39))
  have HM := Lib.hid (may_any ⟨k, s, y, q, b⟩ (w.alloc (.cells #[.int .i64 k, .int .i64 s, .int .i64 y, .int .i64 q, .string b] 39)))
  have HW := Lib.hid (Whole.new w 39 #[.int .i64 k, .int .i64 s, .int .i64 y, .int .i64 q, .string b])
  go_enter Tryz.func48, Tryz.ntmps48
  go_wp2_with fail
  refine HM.out.mono ?_
  rw [H.out]
  rintro e w' ⟨rfl, hb⟩
  have HB := Lib.hid (HB1.out.trans (hb.mono HB1.out.size))
  have d0 := below_c hb (HW.out.cell 0)
  have d1 := below_c hb (HW.out.cell 1)
  have d2 := below_c hb (HW.out.cell 2)
  have d3 := below_c hb (HW.out.cell 3)
  have d4 := below_c hb (HW.out.cell 4)
  have HK : Hid (∀ wb, Below w'.heap.size w' wb → (wb.cell? ⟨w.heap.size, 0, none⟩ = some (.int .i64 k) ∧ wb.cell? ⟨w.heap.size, 1, none⟩ = some (.int .i64 s) ∧ wb.cell? ⟨w.heap.size, 2, none⟩ = some (.int .i64 y) ∧ wb.cell? ⟨w.heap.size, 3, none⟩ = some (.int .i64 q) ∧ wb.cell? ⟨w.heap.size, 4, none⟩ = some (.string b))) := fun wb hb => ⟨below_c hb d0, below_c hb d1, below_c hb d2, below_c hb d3, below_c hb d4⟩
  clear hb
  have hw0 : IntKind.u64.wrap k = k := wrap_u64 (by omega) (by omega)
  have hw1 : IntKind.u64.wrap s = s := wrap_u64 (by omega) (by omega)
  have hw2 : IntKind.u64.wrap y = y := wrap_u64 (by omega) (by omega)
  have hw3 : IntKind.u64.wrap q = q := wrap_u64 (by omega) (by omega)
  have hw4 : IntKind.u64.wrap (b.size : Int) = (b.size : Int) := wrap_u64 (by omega) (by omega)
  have HN5 : Hid (Whole (w'.alloc (.cells #[.int .u64 k, .int .u64 s, .int .u64 y, .int .u64 q, .int .u64 b.size] 126)).drew w'.heap.size 126 #[.int .u64 k, .int .u64 s, .int .u64 y, .int .u64 q, .int .u64 b.size]) := Whole.new w' 126 #[.int .u64 k, .int .u64 s, .int .u64 y, .int .u64 q, .int .u64 b.size]
  have HLT : Hid (w'.heap.size < (w'.alloc (.cells #[.int .u64 k, .int .u64 s, .int .u64 y, .int .u64 q, .int .u64 b.size] 126)).drew.heap.size) := by show _ < _; simp
  have HB5 := Lib.hid ((Below.refl w'.heap.size w').alloc (Nat.le_refl _) (.cells #[.int .u64 k, .int .u64 s, .int .u64 y, .int .u64 q, .int .u64 b.size] 126)).drew
  go_wp2_with fail
  go_region_held3 (fun w' => w'.cell? ⟨w.heap.size, 0, none⟩ = some (.int .i64 k) ∧ w'.cell? ⟨w.heap.size, 1, none⟩ = some (.int .i64 s) ∧ w'.cell? ⟨w.heap.size, 2, none⟩ = some (.int .i64 y) ∧ w'.cell? ⟨w.heap.size, 3, none⟩ = some (.int .i64 q) ∧ w'.cell? ⟨w.heap.size, 4, none⟩ = some (.string b)) (first | exact HK.out _ HB6.out | exact HK.out _ HB3.out | exact HK.out _ HB4.out | exact HK.out _ (by repeat (first | exact Below.refl _ _ | refine Below.drew ?_ | refine Below.alloc ?_ (by first | omega | (simp <;> omega)) _)))
    (first | (go_at_call 69; refine (widths_any _).mono ?_; rintro e w4 ⟨g, rfl, hw4, hg4, hb4⟩; have HW4 := Lib.hid hw4; have HN4 := Lib.hid (Whole.below HN5.out hb4 HLT.out); have HB4 := Lib.hid (HB5.out.trans (hb4.mono (Nat.le_of_lt HLT.out))); clear hw4 hg4 hb4) | (go_at_call 69; refine (widths_any _).mono ?_; rintro e w4 ⟨g, rfl, hw4, hg4, hb4⟩; have HW4 : Hid (WidthsAt (w4.alloc (.cells #[.int .u64 k, .int .u64 s, .int .u64 y, .int .u64 q, .int .u64 b.size] 126)) g) := Whole.alloc hw4 _; have HN4 := Lib.hid (Whole.new w4 126 #[.int .u64 k, .int .u64 s, .int .u64 y, .int .u64 q, .int .u64 b.size]); have HB3 := Lib.hid ((Below.refl w'.heap.size w').drew.trans hb4); have HB4 := Lib.hid (HB3.out.alloc HB3.out.size (.cells #[.int .u64 k, .int .u64 s, .int .u64 y, .int .u64 q, .int .u64 b.size] 126)); clear hw4 hg4 hb4) | (go_at_call 68; refine (row_any _ g (numsOf ⟨k, s, y, q, b⟩) _ HW4.out (nums_cells HN4.out) H0.out H1.out).mono ?_; rintro e w5 ⟨rfl, hb5⟩; have HB6 := Lib.hid (HB4.out.trans (hb5.mono HB4.out.size)); clear hb5))
  all_goals
    have d5 := (HK.out _ HB6.out).2.2.2.2
    have hz := rowB_size (numsOf ⟨k, s, y, q, b⟩)
    have hsz : (headF ⟨k, s, y, q, b⟩ ++ b).size ≤ 70368744177664 := by
      rw [ByteArray.size_append, headF, ByteArray.size_append, hz]
      have : (⟨#[83, 99]⟩ : ByteArray).size = 2 := rfl
      omega
    have HSZ := Lib.hid hsz
    have HB7 := Lib.hid (HB.out.trans (HB6.out.mono HB.out.size))
    clear hsz
    go_wp2_with fail
    refine (seal_any (headF ⟨k, s, y, q, b⟩ ++ b) _ HSZ.out).mono ?_
    rintro e w6 ⟨rfl, hb6⟩
    have HB8 := Lib.hid (HB7.out.trans (hb6.mono HB7.out.size))
    clear hb6
    go_wp2_with fail
    refine bodyPost_ret (v := .tuple #[.string (writeF ⟨k, s, y, q, b⟩), .int .i64 0]) (by simp [results, Tryz.results48, go_sem, writeF]) rfl ⟨rfl, HB8.out⟩
theorem headF_size (p : Page) : (headF p).size = 16 := by
  rw [headF, ByteArray.size_append, rowB_size]
  rfl
theorem sealF_size (s : ByteArray) : (sealF s).size = s.size + 4 := by
  rw [sealF, ByteArray.size_append, Go.strOfNums_size]
  rfl
theorem writeF_size (p : Page) : (writeF p).size = p.body.size + 20 := by
  rw [writeF, sealF_size, ByteArray.size_append, headF_size]
  omega
end Go.Proofs.YtfacgeappbgldaaGreatDoor.pg
