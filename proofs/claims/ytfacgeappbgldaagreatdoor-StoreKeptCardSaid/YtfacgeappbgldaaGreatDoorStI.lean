/- store: what the page's example does, in plain Lean. -/
import Derived.Test.YtfacgeappbgldaaGreatDoorStH
import Derived.Test.YtfacgeappbgldaaGreatDoorPgD
namespace Go.Proofs.YtfacgeappbgldaaGreatDoor.st
open Go.RowKit Go.Proofs.YtfacgeappbgldaaGreatDoor.er Go.Proofs.YtfacgeappbgldaaGreatDoor.nd Go.Proofs.YtfacgeappbgldaaGreatDoor.we Go.Proofs.YtfacgeappbgldaaGreatDoor.ge Go.Proofs.YtfacgeappbgldaaGreatDoor.pg
set_option linter.unusedVariables false

/-- Program of a text that is not too long. -/
def programB (s : Nand) (page : Int) (t : ByteArray) : Int × Nand :=
  if s.down then (9, s)
  else if ¬ (0 ≤ page ∧ page < s.blocks * s.per) then (1, s)
  else
    let i := page.toNat / s.per
    let b := s.blk i
    if b.bad then (41, s)
    else if page.toNat % s.per ≠ b.pages.length then (40, s)
    else
      let m := waits s.plan (s.ops + 1)
      if m.kind = 1 then (9, { s.count.setB i { b with pages := b.pages ++ [spoilt m t] } with down := true })
      else if m.kind = 2 then (41, s.count.setB i { b with pages := b.pages ++ [spoilt m t], bad := true })
      else (0, s.count.setB i { b with pages := b.pages ++ [t] })
theorem program_B (s : Nand) (page : Int) (t : ByteArray) (h : t.size ≤ 128) : s.program page t = programB s page t := by
  unfold Nand.program programB
  by_cases h1 : 0 ≤ page ∧ page < s.blocks * s.per
  · rw [if_neg (show ¬ ¬ (0 ≤ page ∧ page < s.blocks * s.per ∧ t.size ≤ 128) from fun k => k ⟨h1.1, h1.2, h⟩), if_neg (show ¬ ¬ (0 ≤ page ∧ page < s.blocks * s.per) from fun k => k h1)]
  · rw [if_pos (show ¬ (0 ≤ page ∧ page < s.blocks * s.per ∧ t.size ≤ 128) from fun k => h1 ⟨k.1, k.2.1⟩), if_pos h1]
def putB : Nat → Sto → ByteArray → Option (Sto × Int × Int × Bool)
  | 0, _, _ => none
  | f + 1, s, t =>
    if wornS s = true then some (s, 0, 61, false)
    else match s.place? with
      | none => some (s.full, 0, 60, false)
      | some (u, a) =>
        if (programB u.n a t).1 = 41 then putB f (Sto.retire { u with n := (programB u.n a t).2 } (a.toNat / u.n.per)) t
        else some ({ u with n := (programB u.n a t).2 }, a, (programB u.n a t).1, true)
theorem putF_B (t : ByteArray) (h : t.size ≤ 128) : ∀ (f : Nat) (s : Sto), putF f s t = putB f s t
  | 0, s => rfl
  | f + 1, s => by
    rw [putF, putB]
    cases s.place? with
    | none => rfl
    | some ua =>
      obtain ⟨u, a⟩ := ua
      simp only [program_B _ _ _ h, putF_B t h f]
theorem appF_B (f : Nat) (s : Sto) (p : Page) (r : Sto × Int × Int × Bool) (hm : mayB { p with seq := 0 } = true) (hr : putB f s (writeF { p with seq := s.seq }) = some r) : appF f s p = some (if s.n.ops < r.1.n.ops then { r.1 with seq := r.1.seq + 1 } else r.1, if r.2.2.1 = 0 then r.2.1 else 0, r.2.2.1) := by
  have hz : (writeF { p with seq := s.seq }).size ≤ 128 := by
    have := (mayB_yes hm).2.2.2.2.2.2.2.2
    rw [writeF_size]
    simp only at this ⊢
    omega
  unfold appF
  rw [hm, if_neg (by simp), putF_B _ hz, hr]
def fs : Nand := freshNand 16 8
theorem fs_read (a : Int) : (fs.read a).1 ≠ 0 := by
  unfold Nand.read
  rw [if_neg (by decide)]
  split
  · decide
  · have : (fs.blk (a.toNat / fs.per)).pages = [] := by
      show (List.getD (List.replicate 16 (⟨[], 0, false⟩ : Blk)) _ ⟨[], 0, false⟩).pages = []
      rw [List.getD, List.getElem?_replicate]
      split <;> rfl
    rw [this]
    simp
theorem fs_size (a : Int) : (fs.read a).2.size ≤ 70368744177664 := by
  unfold Nand.read
  rw [if_neg (by decide)]
  split
  · show (0 : Nat) ≤ _; omega
  · have : (fs.blk (a.toNat / fs.per)).pages = [] := by
      show (List.getD (List.replicate 16 (⟨[], 0, false⟩ : Blk)) _ ⟨[], 0, false⟩).pages = []
      rw [List.getD, List.getElem?_replicate]
      split <;> rfl
    rw [this]
    simp
    show (0 : Nat) ≤ _
    omega
theorem readS_code {n : Nand} {a : Int} (h : (n.read a).1 ≠ 0) : (readS n a).2 = (n.read a).1 := by
  unfold readS
  rw [if_neg h]
theorem scan_fs : ∀ k, scanTo fs k = []
  | 0 => rfl
  | k + 1 => by
    have h := fs_read k
    have : (readS fs k).2 ≠ 0 := by rw [readS_code h]; exact h
    rw [scanTo, if_neg this, scan_fs k]
def s0 : Sto := ⟨fs, List.replicate 16 0, List.replicate 16 0, -1, 0⟩
theorem open_fs : openS fs = s0 := by
  unfold openS
  rw [scan_fs]
  show ({ madeS fs with seq := 0 } : Sto) = s0
  kernel_rfl
/-- So many texts in block 0 (and the one in block 1), so many operations. -/
def bk (l : List ByteArray) (bad : Bool) : Blk := ⟨l, 0, bad⟩
def s1 (t : ByteArray) : Sto := ⟨⟨16, 8, bk [t] false :: List.replicate 15 (bk [] false), 1, [], false⟩, 1 :: List.replicate 15 0, List.replicate 16 0, 0, 0⟩
theorem put0 (t : ByteArray) : putB 3 s0 t = some (s1 t, 0, 0, true) := by kernel_rfl
def s2 (t u : ByteArray) (l : List Mis) : Sto := ⟨⟨16, 8, bk [t, u] false :: List.replicate 15 (bk [] false), 2, l, false⟩, 1 :: List.replicate 15 0, List.replicate 16 0, 0, 1⟩
theorem put1 (t u : ByteArray) : putB 3 { s1 t with seq := 1 } u = some (s2 t u [], 1, 0, true) := by kernel_rfl
def pl : List Mis := [⟨3, 2, 0, ⟨#[]⟩⟩]
def s3 (t u v : ByteArray) : Sto := ⟨⟨16, 8, bk [t, u, spoilt ⟨3, 2, 0, ⟨#[]⟩⟩ v] true :: bk [v] false :: List.replicate 14 (bk [] false), 4, pl, false⟩, 3 :: 1 :: List.replicate 14 0, List.replicate 16 0, 1, 2⟩
theorem put2 (t u v : ByteArray) : putB 3 { s2 t u pl with seq := 2 } v = some (s3 t u v, 8, 0, true) := by kernel_rfl
/-! ### what is said of the end -/
def pg (key : Int) (b : ByteArray) : Page := ⟨1, 1, key, 0, b⟩
theorem may_pg (key : Int) (b : ByteArray) (h0 : 0 ≤ key) (h1 : key ≤ 4294967295) (hb : b.size ≤ 100) : mayB (pg key b) = true := by
  simp only [mayB, inB, Bool.and_eq_true, decide_eq_true_eq]
  exact ⟨⟨⟨⟨⟨by show (1 : Int) ≤ 1; omega, by show (1 : Int) ≤ 4; omega⟩, by show (0 : Int) ≤ 1; omega, by show (1 : Int) ≤ 65535; omega⟩, h0, h1⟩, by show (0 : Int) ≤ 0; omega, by show (0 : Int) ≤ _; omega⟩, hb⟩
theorem read_three (t u v : ByteArray) : (s3 t u v).n.read 8 = (0, v) := by kernel_rfl
theorem ret_three (t u v : ByteArray) : countL (tabOf { s3 t u v with seq := 3 }) 3 = 1 := by kernel_rfl
def b97 : ByteArray := ⟨#[97]⟩
def b98 : ByteArray := ⟨#[98]⟩
def b99 : ByteArray := ⟨#[99]⟩
def t5 : ByteArray := writeF { pg 5 b97 with seq := 0 }
def t6 : ByteArray := writeF { pg 6 b98 with seq := 1 }
def t7 : ByteArray := writeF { pg 7 b99 with seq := 2 }
def a1 : Sto := { s1 t5 with seq := 1 }
def a2 : Sto := { s2 t5 t6 [] with seq := 2 }
def a2p : Sto := { s2 t5 t6 pl with seq := 2 }
def a3 : Sto := { s3 t5 t6 t7 with seq := 3 }
theorem app0 : appF 3 s0 (pg 5 b97) = some (a1, 0, 0) := by
  rw [appF_B 3 s0 (pg 5 b97) _ (may_pg 5 b97 (by decide) (by decide) (by decide)) (put0 t5)]
  rfl
theorem app1 : appF 3 a1 (pg 6 b98) = some (a2, 1, 0) := by
  rw [appF_B 3 a1 (pg 6 b98) _ (may_pg 6 b98 (by decide) (by decide) (by decide)) (put1 t5 t6)]
  rfl
theorem app2 : appF 3 a2p (pg 7 b99) = some (a3, 8, 0) := by
  rw [appF_B 3 a2p (pg 7 b99) _ (may_pg 7 b99 (by decide) (by decide) (by decide)) (put2 t5 t6 t7)]
  rfl
theorem read8 : readS a3.n 8 = ({ pg 7 b99 with seq := 2 }, 0) := by
  have h : a3.n.read 8 = (0, t7) := read_three t5 t6 t7
  unfold readS
  rw [h, if_pos rfl]
  exact read_write _ (mayB_seq (p := pg 7 b99) (may_pg 7 b99 (by decide) (by decide) (by decide)) (by decide) (by decide))
end Go.Proofs.YtfacgeappbgldaaGreatDoor.st
