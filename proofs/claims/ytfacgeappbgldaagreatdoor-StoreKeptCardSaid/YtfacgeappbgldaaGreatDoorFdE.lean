/- field: Row at a page's widths. -/
import Derived.Test.YtfacgeappbgldaaGreatDoorFdD
import Derived.Test.YtfacgeappbgldaaGreatDoorShA
namespace Go.Proofs.YtfacgeappbgldaaGreatDoor.fd
open Go.RowKit Go.Proofs.YtfacgeappbgldaaGreatDoor.er
set_option linter.unusedVariables false

theorem laid_w (j : Nat) (n : Int) (w : World) (h0 : 0 ≤ n) (h1 : n < 18446744073709551616) :
    Calls Tryz.prog 87 #[.int .u64 n, .int .i64 (widN j)] w fun e w' => e = .returned (.string (strOfNums (bytesOf (widN j) n))) ∧ Below w.heap.size w w' := by
  match j with
  | 0 => exact laid1 n w h0 h1
  | 1 => exact laid2 n w h0 h1
  | 2 => exact laid4 n w h0 h1
  | 3 => exact laid6 n w h0 h1
  | (j + 4) => exact laid1 n w h0 h1
theorem fits_w (j : Nat) (n : Int) (w : World) (h0 : 0 ≤ n) (h1 : n < 256 ^ widN j) :
    Calls Tryz.prog 85 #[.int .u64 n, .int .i64 (widN j)] w fun e w' => e = .returned (.bool true) ∧ w = w' := by
  match j, h1 with
  | 0, h1 =>
    have h1 : n < 256 := by simpa [widN] using h1
    refine (fits1 n w h0 (by omega)).mono ?_
    rintro e w' ⟨rfl, rfl⟩
    exact ⟨by rw [show n / 256 = 0 by omega]; rfl, rfl⟩
  | 1, h1 =>
    have h1 : n < 65536 := by simpa [widN] using h1
    refine (fits2 n w h0 (by omega)).mono ?_
    rintro e w' ⟨rfl, rfl⟩
    exact ⟨by rw [show n / 65536 = 0 by omega]; rfl, rfl⟩
  | 2, h1 =>
    have h1 : n < 4294967296 := by simpa [widN] using h1
    refine (fits4 n w h0 (by omega)).mono ?_
    rintro e w' ⟨rfl, rfl⟩
    exact ⟨by rw [show n / 4294967296 = 0 by omega]; rfl, rfl⟩
  | 3, h1 =>
    have h1 : n < 281474976710656 := by simpa [widN] using h1
    refine (fits6 n w h0 (by omega)).mono ?_
    rintro e w' ⟨rfl, rfl⟩
    exact ⟨by rw [show n / 281474976710656 = 0 by omega]; rfl, rfl⟩
  | (j + 4), h1 =>
    have h1 : n < 256 := by simpa [widN] using h1
    refine (fits1 n w h0 (by omega)).mono ?_
    rintro e w' ⟨rfl, rfl⟩
    exact ⟨by rw [show n / 256 = 0 by omega]; rfl, rfl⟩
/-- The bytes of the first k numbers in their widths. -/
def rowL (n : Nat → Int) : Nat → List UInt8
  | 0 => []
  | k + 1 => rowL n k ++ (bytesOf (widN k) (n k)).map fun x => UInt8.ofNat x.toNat
theorem bytesOf_length (k : Nat) (n : Int) : (bytesOf k n).length = k := by simp [bytesOf]
theorem rowL_le (n : Nat → Int) : ∀ k, (rowL n k).length ≤ 8 * k
  | 0 => by simp [rowL]
  | k + 1 => by have := rowL_le n k; have := (widN_le k).2; simp [rowL, bytesOf_length]; omega
theorem builder_below {T e : TypeId} {B b : Nat} {bs : List Value} {w w' : World} (h : Lib.IsBuilder T e B b bs w) (hb : Below w.heap.size w w') : Lib.IsBuilder T e B b bs w' := by
  have h1 : ∀ p, Lib.BuilderAt T e B b p bs w → Lib.BuilderAt T e B b p bs w' := by
    rintro p ⟨hB, v, hbk, hown, hne⟩
    exact ⟨hB, v, (hb.block b (Array.getElem?_eq_some_iff.1 hbk).1).trans hbk, own_below hown hb, hne⟩
  exact h.imp (h1 _) (h1 _)
theorem rowL_cells (n : Nat → Int) (j : Nat) : Lib.byteCells (rowL n (j + 1)) = Lib.byteCells (rowL n j) ++ Lib.strCells (strOfNums (bytesOf (widN j) (n j))) := by
  simp [Lib.byteCells, Lib.strCells, rowL, strOfNums_data]
set_option maxHeartbeats 4000000 in
set_option maxRecDepth 100000 in
theorem row_any (gn gw : Nat) (n : Nat → Int) (w : World) (hw : WidthsAt w gw) (hn : ∀ j, j < 5 → w.cell? ⟨gn, j, none⟩ = some (.int .u64 (n j))) (h0 : ∀ j, j < 5 → 0 ≤ n j) (h1 : ∀ j, j < 5 → n j < 256 ^ widN j) :
    Calls Tryz.prog 68 #[.slice (some ⟨gn, 0, none⟩) 5 5, .slice (some ⟨gw, 0, none⟩) 5 5] w fun e w' => e = .returned (.tuple #[.string ⟨(rowL n 5).toArray⟩, .int .i64 0]) ∧ Below w.heap.size w w' := by
  have HW := Lib.hid hw
  have HN := Lib.hid hn
  have H0 := Lib.hid h0
  have H1 := Lib.hid h1
  clear hw hn h0 h1
  go_enter Tryz.func68, Tryz.ntmps68
  go_wp2_with (go_at_call 83; refine (contains_w gw _ HW.out).mono ?_; rintro e w2 ⟨rfl, rfl⟩)
  go_loopw [20] (fun i wr => ∃ j : Nat, j ≤ 5 ∧ i = .int .i64 j ∧ Hid (Lib.IsBuilder 156 5 w.heap.size w.heap.size (Lib.byteCells (rowL n j)) wr) ∧ Hid (Below w.heap.size w wr)) (fun i _ => 5 - (intOf i).toNat)
  case atStart => exact ⟨0, Nat.zero_le _, rfl, by exact Lib.fresh_isBuilder _ _ w, (Below.refl _ _).alloc (Nat.le_refl _) _⟩
  case round =>
    obtain ⟨j, hj, rfl, HB, HBEL⟩ := hrel
    by_cases hlt : j < 5
    · have hlt2 : (j : Int) < 5 := by omega
      have c0 := below_c HBEL.out (HW.out.cell j hlt)
      have c1 := below_c HBEL.out (HN.out j hlt)
      have h0 := H0.out j hlt
      have H1j := Lib.hid (H1.out j hlt)
      have h64 : n j < 18446744073709551616 := by
        have h1 := H1j.out
        have h8 : (256 : Int) ^ widN j ≤ 256 ^ 6 := by
          unfold widN
          split <;> decide
        omega
      have HM := Lib.hid h64
      clear h64
      go_wp2_with (go_at_call 85; refine (fits_w j _ _ h0 H1j.out).mono ?_; rintro e w2 ⟨rfl, rfl⟩)
      refine (laid_w j (n j) _ h0 HM.out).mono ?_
      rintro e w2 ⟨rfl, hb2⟩
      have HB2 := Lib.hid (builder_below HB.out hb2)
      have HBEL2 := Lib.hid (HBEL.out.trans (hb2.mono HBEL.out.size))
      have HLE := Lib.hid (rowL_le n j)
      have HSZ : Hid ((Lib.byteCells (rowL n j)).length + (strOfNums (bytesOf (widN j) (n j))).size ≤ 140737488355328) := by
        show _ ≤ _
        have := rowL_le n j
        have := (widN_le j).2
        rw [strOfNums_size, bytesOf_length, Lib.byteCells_length]
        omega
      clear hb2
      go_wp2_with fail
      refine (Tryz.Builder_WriteString _ _ _ _ _ HB2.out HSZ.out (by have := HBEL2.out.size; omega)).mono ?_
      rintro e w3 ⟨rfl, hb3, hbel3⟩
      have HB3 : Hid (Lib.IsBuilder 156 5 w.heap.size w.heap.size (Lib.byteCells (rowL n (j + 1))) w3) := by
        show Lib.IsBuilder _ _ _ _ _ _
        rw [rowL_cells]
        exact .inr hb3
      have HBEL3 := Lib.hid (HBEL2.out.trans hbel3)
      clear hb3 hbel3
      go_wp2_with fail
      go_roundw
      case rel => exact ⟨j + 1, by omega, by go_num, HB3, HBEL3⟩
      case measure => simp [intOf]; omega
    · obtain rfl : j = 5 := by omega
      go_wp2_with fail
      refine (Tryz.Builder_String_any _ _ _ _ HB.out HBEL.out.size).mono ?_
      rintro e w2 ⟨rfl, hb2⟩
      go_wp2_with fail
      refine bodyPost_ret (v := .tuple #[.string ⟨(rowL n 5).toArray⟩, .int .i64 0]) (by simp [results, Tryz.results68, go_sem]) rfl ⟨rfl, HBEL.out.trans hb2⟩
end Go.Proofs.YtfacgeappbgldaaGreatDoor.fd
