/- What Program, Erase and Read answer where the call may be (plain). -/
import Derived.Test.YtfnoojhnhkodaaaDoorNdO
namespace Go.Proofs.YtfnoojhnhkodaaaDoor.nd
open Go.RowKit Go.Proofs.YtfnoojhnhkodaaaDoor.er
set_option linter.unusedVariables false

theorem program_go (s : Nand) (q : Int) (t : ByteArray) (hd : s.down = false) (h0 : 0 ≤ q) (h1 : q < s.blocks * s.per) (ht : t.size ≤ 128) : s.program q t =
    (let i := q.toNat / s.per
     let b := s.blk i
     if b.bad then (41, s)
     else if q.toNat % s.per ≠ b.pages.length then (40, s)
     else
      let m := waits s.plan (s.ops + 1)
      if m.kind = 1 then (9, { s.count.setB i { b with pages := b.pages ++ [spoilt m t] } with down := true })
      else if m.kind = 2 then (41, s.count.setB i { b with pages := b.pages ++ [spoilt m t], bad := true })
      else (0, s.count.setB i { b with pages := b.pages ++ [t] })) := by
  unfold Nand.program
  rw [hd, if_neg (by decide), if_neg (fun h => h ⟨h0, h1, ht⟩)]
theorem program_down (s : Nand) (q : Int) (t : ByteArray) (hd : s.down = true) : s.program q t = (9, s) := by
  unfold Nand.program
  rw [hd, if_pos rfl]
theorem erase_down (s : Nand) (q : Int) (hd : s.down = true) : s.erase q = (9, s) := by
  unfold Nand.erase
  rw [hd, if_pos rfl]
theorem read_down (s : Nand) (q : Int) (hd : s.down = true) : s.read q = (9, ⟨#[]⟩) := by
  unfold Nand.read
  rw [hd, if_pos rfl]

/-! ### NandTorn's array -/
def t1 (a : ByteArray) : Nand := ⟨16, 8, ⟨[a], 0, false⟩ :: List.replicate 15 ⟨[], 0, false⟩, 1, [], false⟩
def t2 (a : ByteArray) (k : Int) (j : ByteArray) : Nand := { t1 a with plan := [⟨2, 1, k, j⟩] }
def t3 (a b : ByteArray) (k : Int) (j : ByteArray) : Nand := ⟨16, 8, ⟨[a, spoilt ⟨2, 1, k, j⟩ b], 0, false⟩ :: List.replicate 15 ⟨[], 0, false⟩, 2, [⟨2, 1, k, j⟩], true⟩
def t4 (a b : ByteArray) (k : Int) (j : ByteArray) : Nand := ⟨16, 8, ⟨[a, spoilt ⟨2, 1, k, j⟩ b], 0, false⟩ :: List.replicate 15 ⟨[], 0, false⟩, 2, [], false⟩
def t5 (a b : ByteArray) (k : Int) (j : ByteArray) : Nand := ⟨16, 8, ⟨[a, spoilt ⟨2, 1, k, j⟩ b, a], 0, false⟩ :: List.replicate 15 ⟨[], 0, false⟩, 3, [], false⟩
theorem torn1 (a : ByteArray) (ha : a.size ≤ 128) : fs.program 0 a = (0, t1 a) := by
  rw [program_go fs 0 a rfl (by decide) (by decide) ha]
  kernel_rfl
theorem torn2 (a : ByteArray) (k : Int) (j : ByteArray) : (t1 a).planned [⟨1, 1, k, j⟩] = t2 a k j := rfl
theorem torn3 (a b : ByteArray) (k : Int) (j : ByteArray) (hb : b.size ≤ 128) : (t2 a k j).program 1 b = (9, t3 a b k j) := by
  rw [program_go (t2 a k j) 1 b rfl (by decide) (by show (1 : Int) < 16 * 8; decide) hb]
  kernel_rfl
theorem torn4 (a b : ByteArray) (k : Int) (j : ByteArray) : (t3 a b k j).up = t4 a b k j := rfl
theorem torn5 (a b : ByteArray) (k : Int) (j : ByteArray) (ha : a.size ≤ 128) : (t4 a b k j).program 2 a = (0, t5 a b k j) := by
  rw [program_go (t4 a b k j) 2 a rfl (by decide) (by show (2 : Int) < 16 * 8; decide) ha]
  kernel_rfl
theorem torn6 (a b : ByteArray) (k : Int) (j : ByteArray) (hb : b.size ≤ 128) : (t5 a b k j).program 1 b = (40, t5 a b k j) := by
  rw [program_go (t5 a b k j) 1 b rfl (by decide) (by show (1 : Int) < 16 * 8; decide) hb]
  kernel_rfl
end Go.Proofs.YtfnoojhnhkodaaaDoor.nd
