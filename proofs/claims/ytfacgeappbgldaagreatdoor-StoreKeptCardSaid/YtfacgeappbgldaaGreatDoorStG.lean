/- store: first, scan, Open. -/
import Derived.Test.YtfacgeappbgldaaGreatDoorStF
namespace Go.Proofs.YtfacgeappbgldaaGreatDoor.st
open Go.RowKit Go.Proofs.YtfacgeappbgldaaGreatDoor.er Go.Proofs.YtfacgeappbgldaaGreatDoor.nd Go.Proofs.YtfacgeappbgldaaGreatDoor.we Go.Proofs.YtfacgeappbgldaaGreatDoor.ge Go.Proofs.YtfacgeappbgldaaGreatDoor.pg
attribute [local go_sem ↓] Go.wp_at_zero Go.wp_at_succ
set_option linter.unusedVariables false

def firstS (n : Nand) (b : Int) : Int := if n.badB b = true then 3 else if n.next b = 0 then 0 else 2
set_option maxHeartbeats 1000000 in
theorem first_anyS (w : World) (p : Nat) (N : Nat → Prop) (n : Nand) (b : Int) (h : NandAt w N p n) :
    Calls Tryz.prog 40 #[.pointer (some ⟨p, 0, none⟩), .int .i64 b] w fun e w' => e = .returned (.int .i64 (firstS n b)) ∧ ∃ k, w' = w.drewN k := by
  have HB := Lib.hid (Bad_any w N p n b h)
  have HN : Hid (∀ k, Calls Tryz.prog 24 #[.pointer (some ⟨p, 0, none⟩), .int .i64 b] (w.drewN k) fun e w' => e = .returned (.int .i64 (n.next b)) ∧ ∃ m, w' = (w.drewN k).drewN m) := fun k => Next_any _ N p n b (h.below (below_drewN (Below.refl _ _) k))
  cases hb : n.badB b
  · obtain ⟨x, hx⟩ : ∃ x, n.next b = x := ⟨_, rfl⟩
    rw [hx] at HN
    cases hz : (x == 0)
    · have hf : Hid (firstS n b = 2) := by show _ = _; unfold firstS; rw [hb, hx, if_neg (by simp), if_neg (by simpa using hz)]
      rw [hb] at HB
      clear h hb hx
      go_enter Tryz.func40, Tryz.ntmps40
      go_wp2_with fail
      refine HB.out.mono ?_
      rintro e w1 ⟨rfl, k, rfl⟩
      go_wp2_with fail
      refine (HN.out k).mono ?_
      rintro e w1 ⟨rfl, m, rfl⟩
      go_wp2_with fail
      go_ret
      exact ⟨by rw [hf.out]; rfl, _, rfl⟩
    · have hf : Hid (firstS n b = 0) := by show _ = _; unfold firstS; rw [hb, hx, if_neg (by simp), if_pos (by simpa using hz)]
      rw [hb] at HB
      clear h hb hx
      go_enter Tryz.func40, Tryz.ntmps40
      go_wp2_with fail
      refine HB.out.mono ?_
      rintro e w1 ⟨rfl, k, rfl⟩
      go_wp2_with fail
      refine (HN.out k).mono ?_
      rintro e w1 ⟨rfl, m, rfl⟩
      go_wp2_with fail
      go_ret
      exact ⟨by rw [hf.out]; rfl, _, rfl⟩
  · have hf : Hid (firstS n b = 3) := by show _ = _; unfold firstS; rw [hb, if_pos rfl]
    rw [hb] at HB
    clear h hb
    go_enter Tryz.func40, Tryz.ntmps40
    go_wp2_with fail
    refine HB.out.mono ?_
    rintro e w1 ⟨rfl, k, rfl⟩
    go_wp2_with fail
    go_ret
    exact ⟨by rw [hf.out]; rfl, _, rfl⟩
structure Fnd where
  at_ : Int
  p : Page
def fndCells (l : List Fnd) : List Value := l.flatMap fun f => [.int .i64 f.at_, .int .i64 f.p.kind, .int .i64 f.p.space, .int .i64 f.p.key, .int .i64 f.p.seq, .string f.p.body]
def scanTo (n : Nand) : Nat → List Fnd
  | 0 => []
  | k + 1 => if (readS n k).2 = 0 then scanTo n k ++ [⟨k, (readS n k).1⟩] else scanTo n k
theorem scanTo_le (n : Nand) : ∀ k, (scanTo n k).length ≤ k
  | 0 => by simp [scanTo]
  | k + 1 => by have := scanTo_le n k; unfold scanTo; split <;> simp <;> omega
theorem fndCells_snoc (l : List Fnd) (f : Fnd) : fndCells (l ++ [f]) = fndCells l ++ [.int .i64 f.at_, .int .i64 f.p.kind, .int .i64 f.p.space, .int .i64 f.p.key, .int .i64 f.p.seq, .string f.p.body] := by simp [fndCells]
theorem fndInfo : (Tryz.prog.info? 51).map (fun i => (i.zero, i.size, i.bytes)) = some (some (.agg #[.int .i64 0, .int .i64 0, .int .i64 0, .int .i64 0, .int .i64 0, .string ⟨#[]⟩]), 6, 56) := by kernel_rfl
set_option maxHeartbeats 2000000 in
set_option maxRecDepth 100000 in
theorem scan_any (w : World) (q p : Nat) (sv vv : Value) (N : Nat → Prop) (s : Sto) (h : StoIn w q p sv vv N s) (hl : LaidT w) (ht : ∀ a, (s.n.read a).2.size ≤ 70368744177664) :
    Calls Tryz.prog 41 #[.pointer (some ⟨q, 0, none⟩)] w fun e w' => ∃ A c, e = .returned (.slice A (scanTo s.n (s.n.blocks * s.n.per)).length c) ∧ w'.ownsRow w.heap.size 51 6 (.slice A (scanTo s.n (s.n.blocks * s.n.per)).length c) (scanTo s.n (s.n.blocks * s.n.per)).length (fndCells (scanTo s.n (s.n.blocks * s.n.per))) ∧ Below w.heap.size w w' := by
  have H := Lib.hid h
  have HL := Lib.hid hl
  have HT := Lib.hid ht
  have hok := h.arr.ok
  obtain ⟨m, hm⟩ : ∃ m : Nat, s.n.blocks * s.n.per = m := ⟨_, rfl⟩
  have hmb : m ≤ 2048 := by
    rw [← hm]
    calc s.n.blocks * s.n.per ≤ 64 * 32 := Nat.mul_le_mul hok.b1 hok.p1
      _ = 2048 := rfl
  have c3 := h.cells.c3
  rw [show (s.n.blocks : Int) * s.n.per = (m : Int) by rw [← hm]; push_cast; rfl] at c3
  rw [hm]
  have hmi : (m : Int) ≤ 2048 := by omega
  obtain ⟨i0, hi0, hz0, hz1, hz2⟩ := info_parts fndInfo
  clear h hl ht hok hm
  go_enter Tryz.func41, Tryz.ntmps41
  go_wp2_with fail
  go_loopw [3, 12] (fun nv i wr => ∃ (j : Nat) (B : Option Addr) (d : Nat), j ≤ m ∧ i = .int .i64 j ∧ nv = .slice B (scanTo s.n j).length d ∧ Hid (wr.ownsRow w.heap.size 51 6 (.slice B (scanTo s.n j).length d) (scanTo s.n j).length (fndCells (scanTo s.n j))) ∧ Hid (Below w.heap.size w wr)) (fun _ i _ => m - (intOf i).toNat)
  case atStart => exact ⟨0, none, 0, Nat.zero_le _, rfl, rfl, ⟨rfl, .inl ⟨rfl, rfl⟩⟩, Below.refl _ _⟩
  case round =>
    obtain ⟨j, B, d, hj, rfl, rfl, HO, HBEL⟩ := hrel
    by_cases hlt : j < m
    · have hji : (j : Int) < (m : Int) := by omega
      have HRD := Lib.hid (read_anyS wr q p sv vv N s (j : Int) (H.out.below HBEL.out) (HL.out.below HBEL.out HL.out.lt) (HT.out _))
      obtain ⟨pg, e, hpe⟩ : ∃ pg e, readS s.n (j : Int) = (pg, e) := ⟨_, _, rfl⟩
      have hle := scanTo_le s.n j
      rw [hpe] at HRD
      have HSC : Hid (scanTo s.n (j + 1) = if e = 0 then scanTo s.n j ++ [⟨j, pg⟩] else scanTo s.n j) := by show _ = _; simp only [scanTo, hpe]
      obtain ⟨k, sp, y, sq, b⟩ := pg
      simp only [Page.val] at HRD
      clear hpe
      by_cases he : e = 0
      · subst he
        simp only [show errV (0 : Int) = Value.nilIface from rfl] at HRD
        rw [if_pos rfl] at HSC
        obtain ⟨l, hl⟩ : ∃ l, (scanTo s.n j).length = l := ⟨_, rfl⟩
        rw [hl] at HO hle
        have HLN := Lib.hid hl
        simp only [hl]
        clear hl
        go_wp2_with fail
        refine HRD.out.mono ?_
        rintro e w2 ⟨rfl, hb2⟩
        have HB2 := Lib.hid (HBEL.out.trans (hb2.mono HBEL.out.size))
        have HO2 := Lib.hid (own_below HO.out hb2)
        have HP2 := Lib.hid (Whole.new w2 39 #[.int .i64 k, .int .i64 sp, .int .i64 y, .int .i64 sq, .string b])
        have HOA := Lib.hid ((HO2.out.alloc (.cells #[.int .i64 k, .int .i64 sp, .int .i64 y, .int .i64 sq, .string b] 39)).alloc (.cells #[.int .i64 (j : Int), .int .i64 k, .int .i64 sp, .int .i64 y, .int .i64 sq, .string b] 51))
        have HB3 := Lib.hid (HB2.out.alloc HB2.out.size (.cells #[.int .i64 k, .int .i64 sp, .int .i64 y, .int .i64 sq, .string b] 39))
        have HNW : Hid (∀ (j' : Nat) (u : Value), ([.int .i64 (j : Int), .int .i64 k, .int .i64 sp, .int .i64 y, .int .i64 sq, .string b] : List Value)[j']? = some u → ((w2.alloc (.cells #[.int .i64 k, .int .i64 sp, .int .i64 y, .int .i64 sq, .string b] 39)).alloc (.cells #[.int .i64 (j : Int), .int .i64 k, .int .i64 sp, .int .i64 y, .int .i64 sq, .string b] 51)).cell? ((⟨w2.heap.size + 1, 0, none⟩ : Addr).add j') = some u) := World.news_of_block (by simpa using heap_alloc_new (w2.alloc (.cells #[.int .i64 k, .int .i64 sp, .int .i64 y, .int .i64 sq, .string b] 39)) (.cells #[.int .i64 (j : Int), .int .i64 k, .int .i64 sp, .int .i64 y, .int .i64 sq, .string b] 51))
        have hone : ∀ u ∈ ([.int .i64 (j : Int), .int .i64 k, .int .i64 sp, .int .i64 y, .int .i64 sq, .string b] : List Value), u.oneCell' = true := by simp [Value.oneCell']
        have HONE := Lib.hid hone
        have HSZ : Hid (w.heap.size ≤ ((w2.alloc (.cells #[.int .i64 k, .int .i64 sp, .int .i64 y, .int .i64 sq, .string b] 39)).alloc (.cells #[.int .i64 (j : Int), .int .i64 k, .int .i64 sp, .int .i64 y, .int .i64 sq, .string b] 51)).heap.size) := by show _ ≤ _; have := HB2.out.size; simp only [World.size_alloc]; omega
        obtain ⟨⟨p0, p1, p2, p3, p4⟩, _⟩ := tmp_cells HP2.out
        clear hb2 hone
        go_wp2_with (at_builtin; go_must (refine wpList_append_own _ rfl (.tmp 23) (.tmp 27) 49 rfl w.heap.size 51 i0 _ 6 56 Tryz.underlying49 hi0 hz0 hz1 hz2 rfl (by omega) (.slice B l d) l (fndCells (scanTo s.n j)) rfl HOA.out ⟨w2.heap.size + 1, 0, none⟩ 1 1 [.int .i64 (j : Int), .int .i64 k, .int .i64 sp, .int .i64 y, .int .i64 sq, .string b] rfl rfl HNW.out HONE.out (by simp only [maxLen]; omega) (by omega) HSZ.out ?_; intro v2 w5 hown5 hg5 _; have HO5 := Lib.hid hown5; have HB5 := Lib.hid (HB3.out.trans (below_append (HO2.out.alloc (.cells #[.int .i64 k, .int .i64 sp, .int .i64 y, .int .i64 sq, .string b] 39)) hg5 HB3.out.size)); obtain ⟨A2, c2, e2⟩ := own_slice hown5; subst e2; clear hown5 hg5))
        go_roundw
        case rel => exact ⟨j + 1, A2, c2, by omega, by go_num, by rw [HSC.out, List.length_append, HLN.out]; rfl, by rw [HSC.out, List.length_append, HLN.out, fndCells_snoc]; exact HO5.out, HB5.out⟩
        case measure => simp [intOf]; omega
      · have hev : errV e = .iface 44 (.int .i64 e) := if_neg he
        rw [hev] at HRD
        rw [if_neg he] at HSC
        clear hev he
        go_wp2_with fail
        refine HRD.out.mono ?_
        rintro e w2 ⟨rfl, hb2⟩
        have HB2 := Lib.hid (HBEL.out.trans (hb2.mono HBEL.out.size))
        have HO2 := Lib.hid (own_below HO.out hb2)
        clear hb2
        go_wp2_with fail
        go_roundw
        case rel => exact ⟨j + 1, B, d, by omega, by go_num, by rw [HSC.out], by rw [HSC.out]; exact HO2.out.alloc _, HB2.out.alloc HB2.out.size _⟩
        case measure => simp [intOf]; omega
    · obtain rfl : j = m := by omega
      go_wp2_with fail
      go_ret
      exact ⟨B, d, rfl, HO.out, HBEL.out⟩
end Go.Proofs.YtfacgeappbgldaaGreatDoor.st
