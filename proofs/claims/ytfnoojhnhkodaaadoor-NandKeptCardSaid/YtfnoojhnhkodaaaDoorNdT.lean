/- NandBad's arrays (plain). -/
import Derived.Test.YtfnoojhnhkodaaaDoorNdP
namespace Go.Proofs.YtfnoojhnhkodaaaDoor.nd
open Go.RowKit Go.Proofs.YtfnoojhnhkodaaaDoor.er
set_option linter.unusedVariables false

/-- A call to the page x of the block n, of arrays of 8 pages a block. -/
theorem program_at (s : Nand) (hp : s.per = 8) (hd : s.down = false) (n x : Nat) (hn : n < s.blocks) (hx : x < 8) (q : Int) (hq : q = 8 * (n : Int) + x) (t : ByteArray) (ht : t.size ≤ 128) : s.program q t =
    (let b := s.blk n
     if b.bad then (41, s)
     else if x ≠ b.pages.length then (40, s)
     else
      let m := waits s.plan (s.ops + 1)
      if m.kind = 1 then (9, { s.count.setB n { b with pages := b.pages ++ [spoilt m t] } with down := true })
      else if m.kind = 2 then (41, s.count.setB n { b with pages := b.pages ++ [spoilt m t], bad := true })
      else (0, s.count.setB n { b with pages := b.pages ++ [t] })) := by
  have h1 : q < s.blocks * s.per := by rw [hp]; omega
  rw [program_go s q t hd (by omega) h1 ht]
  have hq' : q.toNat = 8 * n + x := by omega
  rw [hq', hp, show (8 * n + x) / 8 = n from by omega, show (8 * n + x) % 8 = x from by omega]
theorem erase_at (s : Nand) (hd : s.down = false) (n : Nat) (hn : n < s.blocks) : s.erase n =
    (let b := s.blk n
     if b.bad then (41, s)
     else
      let m := waits s.plan (s.ops + 1)
      if m.kind = 1 then (9, { s.count.setB n { b with pages := if 0 < m.keep then List.replicate s.per (spoilt m ⟨#[]⟩) else b.pages } with down := true })
      else if m.kind = 3 then (41, s.count.setB n { b with bad := true })
      else (0, s.count.setB n { b with pages := [], worn := b.worn + 1 })) := by
  unfold Nand.erase
  rw [hd, if_neg (by decide), if_neg (fun h => h ⟨by omega, by omega⟩)]
  rfl
theorem blk_set_same (s : Nand) (n : Nat) (b : Blk) (h : n < s.b.length) : (s.setB n b).blk n = b := by simp [Nand.blk, Nand.setB, h]
theorem blk_set_ne (s : Nand) (n i : Nat) (b : Blk) (h : n ≠ i) : (s.setB n b).blk i = s.blk i := by simp [Nand.blk, Nand.setB, List.getElem?_set_ne h]
theorem fs_blk (n : Nat) (h : n < 16) : fs.blk n = ⟨[], 0, false⟩ := by
  show (List.replicate 16 (⟨[], 0, false⟩ : Blk)).getD n ⟨[], 0, false⟩ = _
  rw [List.getD_eq_getElem?_getD, List.getElem?_replicate, if_pos h]
  rfl
def pl3 : List Mis := [⟨1, 2, 0, ⟨#[]⟩⟩, ⟨1, 3, 0, ⟨#[]⟩⟩, ⟨2, 3, 0, ⟨#[]⟩⟩]
def pl3' : List Mis := [⟨2, 2, 0, ⟨#[]⟩⟩, ⟨2, 3, 0, ⟨#[]⟩⟩, ⟨3, 3, 0, ⟨#[]⟩⟩]
def b1 (n : Nat) (a : ByteArray) : Nand := { fs.setB n ⟨[a], 0, false⟩ with ops := 1 }
def b2 (n : Nat) (a : ByteArray) : Nand := { b1 n a with plan := pl3' }
/-- programmed, and failed -/
def b3 (n : Nat) (a b : ByteArray) : Nand := { (b2 n a).setB n ⟨[a, spoilt ⟨2, 2, 0, ⟨#[]⟩⟩ b], 0, true⟩ with ops := 2 }
/-- another block erased; then this one fails -/
def c3 (n : Nat) (a : ByteArray) : Nand := { (b2 n a).setB ((n + 1) % 16) ⟨[], 1, false⟩ with ops := 2 }
def c4 (n : Nat) (a : ByteArray) : Nand := { (c3 n a).setB n ⟨[a], 0, true⟩ with ops := 3 }
theorem fs_len : fs.b.length = 16 := by simp [fs, freshNand]
theorem bad1 (n : Nat) (hn : n < 16) (a : ByteArray) (ha : a.size ≤ 128) (q : Int) (hq : q = 8 * (n : Int)) : fs.program q a = (0, b1 n a) := by
  rw [program_at fs rfl rfl n 0 hn (by decide) q (by omega) a ha, fs_blk n hn]
  rfl
theorem bad2 (n : Nat) (a : ByteArray) : (b1 n a).planned pl3 = b2 n a := rfl
theorem b2_len (n : Nat) (a : ByteArray) : (b2 n a).b.length = 16 := by simp [b2, b1, Nand.setB, fs_len]
theorem b2_blk (n : Nat) (hn : n < 16) (a : ByteArray) : (b2 n a).blk n = ⟨[a], 0, false⟩ := blk_set_same fs n _ (by rw [fs_len]; exact hn)
theorem bad3 (n : Nat) (hn : n < 16) (a b : ByteArray) (hb : b.size ≤ 128) (q : Int) (hq : q = 8 * (n : Int) + 1) : (b2 n a).program q b = (41, b3 n a b) := by
  rw [program_at (b2 n a) rfl rfl n 1 hn (by decide) q (by omega) b hb, b2_blk n hn]
  rfl
theorem b3_blk (n : Nat) (hn : n < 16) (a b : ByteArray) : (b3 n a b).blk n = ⟨[a, spoilt ⟨2, 2, 0, ⟨#[]⟩⟩ b], 0, true⟩ := blk_set_same (b2 n a) n _ (by rw [b2_len]; exact hn)
theorem read_at (s : Nand) (hp : s.per = 8) (hd : s.down = false) (n x : Nat) (hn : n < s.blocks) (hx : x < 8) (q : Int) (hq : q = 8 * (n : Int) + x) : s.read q = (match (s.blk n).pages[x]? with | none => (42, ⟨#[]⟩) | some t => (0, t)) := by
  have h1 : q < s.blocks * s.per := by rw [hp]; omega
  unfold Nand.read
  rw [hd, if_neg (by decide), if_neg (fun h => h ⟨by omega, h1⟩)]
  have hq' : q.toNat = 8 * n + x := by omega
  rw [hq', hp, show (8 * n + x) / 8 = n from by omega, show (8 * n + x) % 8 = x from by omega]
  rfl
theorem bad_at (s : Nand) (i : Nat) (hi : i < s.blocks) : s.badB i = (s.blk i).bad := by
  unfold Nand.badB Nand.has
  simp [hi]
theorem b3_bad (n : Nat) (hn : n < 16) (a b : ByteArray) (i : Nat) (hi : i < 16) : (b3 n a b).badB i = ((i : Int) == (n : Int)) := by
  rw [bad_at _ i hi]
  by_cases h : n = i
  · subst h
    rw [b3_blk n hn]
    simp
  · have : (b3 n a b).blk i = ⟨[], 0, false⟩ := by
      have e1 : (b3 n a b).blk i = (b2 n a).blk i := blk_set_ne (b2 n a) n i _ h
      have e2 : (b2 n a).blk i = fs.blk i := blk_set_ne fs n i _ h
      rw [e1, e2, fs_blk i hi]
    rw [this]
    symm
    rw [beq_eq_false_iff_ne]
    omega
theorem b2_blk' (n : Nat) (hn : n < 16) (a : ByteArray) (i : Nat) (hi : i < 16) (h : n ≠ i) : (b2 n a).blk i = ⟨[], 0, false⟩ := by
  have e2 : (b2 n a).blk i = fs.blk i := blk_set_ne fs n i _ h
  rw [e2, fs_blk i hi]
theorem era3 (n : Nat) (hn : n < 16) (a : ByteArray) (q : Int) (hq : q = ((n : Int) + 1) % 16) : (b2 n a).erase q = (0, c3 n a) := by
  have hq' : q = (((n + 1) % 16 : Nat) : Int) := by omega
  rw [hq', erase_at (b2 n a) rfl ((n + 1) % 16) (by show (n + 1) % 16 < 16; omega), b2_blk' n hn a ((n + 1) % 16) (by omega) (by omega)]
  rfl
theorem c3_len (n : Nat) (a : ByteArray) : (c3 n a).b.length = 16 := by
  show ((b2 n a).b.set _ _).length = 16
  rw [List.length_set, b2_len]
theorem c3_blk (n : Nat) (hn : n < 16) (a : ByteArray) : (c3 n a).blk n = ⟨[a], 0, false⟩ := by
  have e : (c3 n a).blk n = (b2 n a).blk n := blk_set_ne (b2 n a) ((n + 1) % 16) n _ (by omega)
  rw [e, b2_blk n hn]
theorem era4 (n : Nat) (hn : n < 16) (a : ByteArray) : (c3 n a).erase n = (41, c4 n a) := by
  rw [erase_at (c3 n a) rfl n hn, c3_blk n hn]
  rfl
theorem c4_blk (n : Nat) (hn : n < 16) (a : ByteArray) : (c4 n a).blk n = ⟨[a], 0, true⟩ := blk_set_same (c3 n a) n _ (by rw [c3_len]; exact hn)
theorem c4_bad (n : Nat) (hn : n < 16) (a : ByteArray) (i : Nat) (hi : i < 16) : (c4 n a).badB i = ((i : Int) == (n : Int)) := by
  rw [bad_at _ i hi]
  by_cases h : n = i
  · subst h
    rw [c4_blk n hn]
    simp
  · have e1 : (c4 n a).blk i = (c3 n a).blk i := blk_set_ne (c3 n a) n i _ h
    rw [e1]
    have hf : ((c3 n a).blk i).bad = false := by
      by_cases h' : (n + 1) % 16 = i
      · subst h'
        have : (c3 n a).blk ((n + 1) % 16) = ⟨[], 1, false⟩ := blk_set_same (b2 n a) ((n + 1) % 16) _ (by rw [b2_len]; omega)
        rw [this]
      · have e2 : (c3 n a).blk i = (b2 n a).blk i := blk_set_ne (b2 n a) ((n + 1) % 16) i _ h'
        rw [e2, b2_blk' n hn a i hi h]
    rw [hf]
    symm
    rw [beq_eq_false_iff_ne]
    omega
end Go.Proofs.YtfnoojhnhkodaaaDoor.nd
