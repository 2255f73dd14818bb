/- store: read, Read. -/
import Derived.Test.YtfacgeappbgldaaGreatDoorStE
namespace Go.Proofs.YtfacgeappbgldaaGreatDoor.st
open Go.RowKit Go.Proofs.YtfacgeappbgldaaGreatDoor.er Go.Proofs.YtfacgeappbgldaaGreatDoor.nd Go.Proofs.YtfacgeappbgldaaGreatDoor.we Go.Proofs.YtfacgeappbgldaaGreatDoor.ge Go.Proofs.YtfacgeappbgldaaGreatDoor.pg
attribute [local go_sem ↓] Go.wp_at_zero Go.wp_at_succ
set_option linter.unusedVariables false

def readS (n : Nand) (a : Int) : Page × Int := if (n.read a).1 = 0 then readF (n.read a).2 else (noPage, (n.read a).1)
theorem readIn_no {u : ByteArray} {p : Page} {e : Int} (h : readIn u = (p, e)) (he : e ≠ 0) : p = noPage := by
  unfold readIn at h
  split at h
  · exact (congrArg Prod.fst h).symm
  · split at h
    · exact (congrArg Prod.fst h).symm
    · split at h
      · exact (congrArg Prod.fst h).symm
      · split at h
        · exact (congrArg Prod.fst h).symm
        · exact absurd (congrArg Prod.snd h).symm he
theorem readF_no {t : ByteArray} {p : Page} {e : Int} (h : readF t = (p, e)) (he : e ≠ 0) : p = noPage := by
  unfold readF at h
  split at h
  · exact readIn_no h he
  · exact (congrArg Prod.fst h).symm
set_option maxHeartbeats 4000000 in
set_option maxRecDepth 100000 in
theorem read_anyS (w : World) (q p : Nat) (sv vv : Value) (N : Nat → Prop) (s : Sto) (a : Int) (h : StoIn w q p sv vv N s) (hl : LaidT w) (ht : (s.n.read a).2.size ≤ 70368744177664) :
    Calls Tryz.prog 36 #[.pointer (some ⟨q, 0, none⟩), .int .i64 a] w fun e w' => e = .returned (.tuple #[(readS s.n a).1.val, errV (readS s.n a).2]) ∧ Below w.heap.size w w' := by
  obtain ⟨c, t, hct⟩ : ∃ c t, s.n.read a = (c, t) := ⟨_, _, rfl⟩
  have HR := Lib.hid (fun wq hq => Read_any wq N p s.n a hq)
  unfold readS
  rw [hct] at HR ht ⊢
  simp only at HR ht ⊢
  have HB0 := Lib.hid ((Below.refl w.heap.size w).alloc (Nat.le_refl _) (.cells #[.int .i64 0, .int .i64 0, .int .i64 0, .int .i64 0, .string ⟨#[]⟩] 39))
  have H0 := Lib.hid (h.below HB0.out)
  have HL := Lib.hid (hl.below HB0.out hl.lt)
  have c0 := H0.out.cells.c0
  have HSZ : Hid (w.heap.size ≤ (w.alloc (.cells #[.int .i64 0, .int .i64 0, .int .i64 0, .int .i64 0, .string ⟨#[]⟩] 39)).heap.size) := HB0.out.size
  clear h hl hct
  by_cases hcz : c = 0
  · subst hcz
    rw [if_pos rfl]
    obtain ⟨pg, e, hpe⟩ : ∃ pg e, readF t = (pg, e) := ⟨_, _, rfl⟩
    have HF := Lib.hid (fun wq => read_any t wq ht)
    rw [hpe] at HF ⊢
    obtain ⟨k, sp, y, sq, b⟩ := pg
    simp only [Page.val] at HF ⊢
    clear ht
    by_cases he : e = 0
    · subst he
      clear hpe
      go_enter Tryz.func36, Tryz.ntmps36
      go_wp2_with fail
      refine (HR.out _ H0.out.arr).mono ?_
      rintro e w1 ⟨v, rfl, hb1, he1⟩
      obtain rfl := zero_errS he1
      have HW1 := Lib.hid (tmp_whole hb1)
      have HB1 := Lib.hid (HB0.out.trans (hb1.mono HSZ.out))
      clear hb1 he1
      go_wp2_with fail
      refine (HF.out _).mono ?_
      rintro e w2 ⟨rfl, hb2⟩
      have HW3 := Lib.hid ((Whole.below HW1.out hb2 HW1.out.lt).alloc (.cells #[.int .i64 k, .int .i64 sp, .int .i64 y, .int .i64 sq, .string b] 39))
      have HB2 := Lib.hid (HB1.out.trans (hb2.mono HB1.out.size))
      have HB3 := Lib.hid (HB2.out.alloc HB2.out.size (.cells #[.int .i64 k, .int .i64 sp, .int .i64 y, .int .i64 sq, .string b] 39))
      obtain ⟨⟨q0, q1, q2, q3, q4⟩, z0, z1, z2, z3, z4⟩ := tmp_cells HW3.out
      clear hb2
      go_wp2_with fail
      obtain ⟨r0, r1, r2, r3, r4⟩ := set5_cells HW3.out (.int .i64 k) (.int .i64 sp) (.int .i64 y) (.int .i64 sq) (.string b)
      refine bodyPost_ret (v := .tuple #[.agg #[.int .i64 k, .int .i64 sp, .int .i64 y, .int .i64 sq, .string b], .nilIface]) (by simp [results, Tryz.results36, go_sem, r0, r1, r2, r3, r4]) rfl ⟨rfl, below_set5 HB3.out (Nat.le_refl _) _ _ _ _ _⟩
    · have hpz : (⟨k, sp, y, sq, b⟩ : Page) = noPage := readF_no hpe he
      injection hpz with p1 p2 p3 p4 p5
      subst p1 p2 p3 p4 p5
      have hev : errV e = .iface 44 (.int .i64 e) := if_neg he
      rw [hev]
      have hez : (e == 0) = false := by simpa using he
      clear hpe he hev
      go_enter Tryz.func36, Tryz.ntmps36
      go_wp2_with fail
      refine (HR.out _ H0.out.arr).mono ?_
      rintro ez w1 ⟨v, rfl, hb1, he1⟩
      obtain rfl := zero_errS he1
      have HW1 := Lib.hid (tmp_whole hb1)
      have HB1 := Lib.hid (HB0.out.trans (hb1.mono HSZ.out))
      clear hb1 he1
      go_wp2_with fail
      refine (HF.out _).mono ?_
      rintro ez w2 ⟨rfl, hb2⟩
      have HW3 := Lib.hid ((Whole.below HW1.out hb2 HW1.out.lt).alloc (.cells #[.int .i64 0, .int .i64 0, .int .i64 0, .int .i64 0, .string ⟨#[]⟩] 39))
      have HB2 := Lib.hid (HB1.out.trans (hb2.mono HB1.out.size))
      have HB3 := Lib.hid (HB2.out.alloc HB2.out.size (.cells #[.int .i64 0, .int .i64 0, .int .i64 0, .int .i64 0, .string ⟨#[]⟩] 39))
      obtain ⟨⟨q0, q1, q2, q3, q4⟩, z0, z1, z2, z3, z4⟩ := tmp_cells HW3.out
      clear hb2
      go_wp2_with fail
      obtain ⟨r0, r1, r2, r3, r4⟩ := set5_cells HW3.out (.int .i64 0) (.int .i64 0) (.int .i64 0) (.int .i64 0) (.string ⟨#[]⟩)
      refine bodyPost_ret (v := .tuple #[.agg #[.int .i64 0, .int .i64 0, .int .i64 0, .int .i64 0, .string ⟨#[]⟩], .iface 44 (.int .i64 e)]) (by simp [results, Tryz.results36, go_sem, r0, r1, r2, r3, r4]) rfl ⟨rfl, below_set5 HB3.out (Nat.le_refl _) _ _ _ _ _⟩
  · rw [if_neg hcz]
    have hev : errV c = .iface 44 (.int .i64 c) := if_neg hcz
    rw [hev]
    clear hev
    have HCZ := Lib.hid hcz
    go_enter Tryz.func36, Tryz.ntmps36
    go_wp2_with fail
    refine (HR.out _ H0.out.arr).mono ?_
    rintro e w1 ⟨v, rfl, hb1, he1⟩
    obtain ⟨tv, xv, rfl⟩ := some_errS he1 hcz
    have HW1 := Lib.hid (tmp_whole hb1)
    have HB1 := Lib.hid (HB0.out.trans (hb1.mono HSZ.out))
    have HE := Lib.hid he1
    have HL1 := Lib.hid (HL.out.below hb1 HL.out.lt)
    obtain ⟨⟨q0, q1, q2, q3, q4⟩, z0, z1, z2, z3, z4⟩ := tmp_cells HW1.out
    clear hb1 he1 hcz
    go_wp2_with fail
    refine (code_W _ _ c _ _ HE.out HL1.out).mono ?_
    rintro e w2 ⟨rfl, hb2⟩
    have HW2 := Lib.hid (Whole.below HW1.out hb2 HW1.out.lt)
    have HB2 := Lib.hid (HB1.out.trans (hb2.mono HB1.out.size))
    clear q0 q1 q2 q3 q4 z0 z1 z2 z3 z4
    obtain ⟨⟨q0, q1, q2, q3, q4⟩, z0, z1, z2, z3, z4⟩ := tmp_cells HW2.out
    clear hb2
    go_wp2_with fail
    obtain ⟨r0, r1, r2, r3, r4⟩ := set5_cells HW2.out (.int .i64 0) (.int .i64 0) (.int .i64 0) (.int .i64 0) (.string ⟨#[]⟩)
    refine bodyPost_ret (v := .tuple #[noPage.val, .iface 44 (.int .i64 c)]) (by simp [results, Tryz.results36, go_sem, noPage, Page.val, r0, r1, r2, r3, r4]) rfl ⟨rfl, below_set5 HB2.out (Nat.le_refl _) _ _ _ _ _⟩
theorem set5_whole {w : World} {g : Nat} {t : TypeId} {a b c d e : Value} (h : Whole w g t #[a, b, c, d, e]) (a' b' c' d' e' : Value) :
    Whole (((((w.setCell ⟨g, 0, none⟩ a').setCell ⟨g, 1, none⟩ b').setCell ⟨g, 2, none⟩ c').setCell ⟨g, 3, none⟩ d').setCell ⟨g, 4, none⟩ e') g t #[a', b', c', d', e'] := by
  simpa using ((((h.set 0 a').set 1 b').set 2 c').set 3 d').set 4 e'
theorem cells_drew {w : World} {g : Nat} {t : TypeId} {a b c d e : Value} (h : Whole w g t #[a, b, c, d, e]) :
    w.drew.cell? ⟨g, 0, none⟩ = some a ∧ w.drew.cell? ⟨g, 1, none⟩ = some b ∧ w.drew.cell? ⟨g, 2, none⟩ = some c ∧ w.drew.cell? ⟨g, 3, none⟩ = some d ∧ w.drew.cell? ⟨g, 4, none⟩ = some e :=
  have hb := (Below.refl w.heap.size w).drew
  ⟨below_c hb (h.cell 0), below_c hb (h.cell 1), below_c hb (h.cell 2), below_c hb (h.cell 3), below_c hb (h.cell 4)⟩
theorem errAt_one {w : World} {b : Nat} {op : ByteArray} {k c : Int} (h : Whole w b 98 #[.string op, .int .i64 k, .iface 44 (.int .i64 c)]) : ErrAt w.drew [b] [(op, k)] c (.iface 94 (.pointer (some ⟨b, 0, none⟩))) :=
  ⟨rfl, _, h.keep ((Keep.refl (fun _ => False) w).drew) id, rfl⟩
theorem keep5 (w : World) (g : Nat) (a b c d e : Value) : Keep (fun k => k = g) w (((((w.setCell ⟨g, 0, none⟩ a).setCell ⟨g, 1, none⟩ b).setCell ⟨g, 2, none⟩ c).setCell ⟨g, 3, none⟩ d).setCell ⟨g, 4, none⟩ e) :=
  Keep.setCell (p := ⟨g, 4, none⟩) (Keep.setCell (p := ⟨g, 3, none⟩) (Keep.setCell (p := ⟨g, 2, none⟩) (Keep.setCell (p := ⟨g, 1, none⟩) (Keep.set1 w g 0 a) (.inl rfl) b) (.inl rfl) c) (.inl rfl) d) (.inl rfl) e
def below5 (w : World) (g : Nat) (a b c d e : Value) : World := (((((w.setCell ⟨g, 0, none⟩ a).setCell ⟨g, 1, none⟩ b).setCell ⟨g, 2, none⟩ c).setCell ⟨g, 3, none⟩ d).setCell ⟨g, 4, none⟩ e)
theorem Keep.set5 (w : World) (g : Nat) (a b c d e : Value) : Keep (fun k => k = g) w (below5 w g a b c d e) :=
  Keep.setCell (p := ⟨g, 4, none⟩) (Keep.setCell (p := ⟨g, 3, none⟩) (Keep.setCell (p := ⟨g, 2, none⟩) (Keep.setCell (p := ⟨g, 1, none⟩) (Keep.set1 w g 0 a) (.inl rfl) b) (.inl rfl) c) (.inl rfl) d) (.inl rfl) e
def readName : ByteArray := ⟨#[114, 101, 97, 100]⟩
set_option maxHeartbeats 1500000 in
set_option maxRecDepth 100000 in
theorem Read_anyS (w : World) (q p : Nat) (sv vv : Value) (N : Nat → Prop) (s : Sto) (a : Int) (h : StoIn w q p sv vv N s) (hl : LaidT w) (ht : (s.n.read a).2.size ≤ 70368744177664) :
    Calls Tryz.prog 16 #[.pointer (some ⟨q, 0, none⟩), .int .i64 a] w fun e w' => ∃ v, e = .returned (.tuple #[(readS s.n a).1.val, v]) ∧ Below w.heap.size w w' ∧ ErrW w' (fun _ => False) [(readName, a)] (readS s.n a).2 v := by
  have HB0 := Lib.hid ((Below.refl w.heap.size w).alloc (Nat.le_refl _) (.cells #[.int .i64 0, .int .i64 0, .int .i64 0, .int .i64 0, .string ⟨#[]⟩] 39))
  have H0 := Lib.hid (h.below HB0.out)
  have HR := Lib.hid (read_anyS _ q p sv vv N s a H0.out (hl.below HB0.out hl.lt) ht)
  have HR2 := Lib.hid (read_anyS w q p sv vv N s a h hl ht)
  have hs := seql q
  obtain ⟨pg, c, hpc⟩ : ∃ pg c, readS s.n a = (pg, c) := ⟨_, _, rfl⟩
  rw [hpc] at HR HR2 ⊢
  obtain ⟨k, sp, y, sq, b⟩ := pg
  simp only [Page.val] at HR HR2 ⊢
  clear hpc h hl ht
  go_enter Tryz.func16, Tryz.ntmps16
  go_wp2_with fail
  refine HR.out.mono ?_
  rintro e w1 ⟨rfl, hb1⟩
  have HW1 := Lib.hid (tmp_whole hb1)
  have HB1 := Lib.hid (HB0.out.trans (hb1.mono HB0.out.size))
  have HW3 := Lib.hid (HW1.out.alloc (.cells #[.int .i64 k, .int .i64 sp, .int .i64 y, .int .i64 sq, .string b] 39))
  have HB3 := Lib.hid (HB1.out.alloc HB1.out.size (.cells #[.int .i64 k, .int .i64 sp, .int .i64 y, .int .i64 sq, .string b] 39))
  have HP3 := Lib.hid (Whole.new w1 39 #[.int .i64 k, .int .i64 sp, .int .i64 y, .int .i64 sq, .string b])
  clear hb1
  have hne : ¬ w1.heap.size = w.heap.size := by have := HW1.out.lt; omega
  have HNE := Lib.hid hne
  clear hne
  have SA : Hid ((w1.alloc (.cells #[.int .i64 k, .int .i64 sp, .int .i64 y, .int .i64 sq, .string b] 39)).drew.cell? ⟨w1.heap.size, 0, none⟩ = some (.int .i64 k) ∧ (w1.alloc (.cells #[.int .i64 k, .int .i64 sp, .int .i64 y, .int .i64 sq, .string b] 39)).drew.cell? ⟨w1.heap.size, 1, none⟩ = some (.int .i64 sp) ∧ (w1.alloc (.cells #[.int .i64 k, .int .i64 sp, .int .i64 y, .int .i64 sq, .string b] 39)).drew.cell? ⟨w1.heap.size, 2, none⟩ = some (.int .i64 y) ∧ (w1.alloc (.cells #[.int .i64 k, .int .i64 sp, .int .i64 y, .int .i64 sq, .string b] 39)).drew.cell? ⟨w1.heap.size, 3, none⟩ = some (.int .i64 sq) ∧ (w1.alloc (.cells #[.int .i64 k, .int .i64 sp, .int .i64 y, .int .i64 sq, .string b] 39)).drew.cell? ⟨w1.heap.size, 4, none⟩ = some (.string b)) := cells_drew HP3.out
  by_cases hcz : c = 0
  · subst hcz
    simp only [show errV (0 : Int) = Value.nilIface from rfl]
    obtain ⟨⟨q0, q1, q2, q3, q4⟩, z0, z1, z2, z3, z4⟩ := tmp_cells HW3.out
    have SB : Hid (((((((w1.alloc (.cells #[.int .i64 k, .int .i64 sp, .int .i64 y, .int .i64 sq, .string b] 39)).setCell ⟨w.heap.size, 0, none⟩ (.int .i64 k)).setCell ⟨w.heap.size, 1, none⟩ (.int .i64 sp)).setCell ⟨w.heap.size, 2, none⟩ (.int .i64 y)).setCell ⟨w.heap.size, 3, none⟩ (.int .i64 sq)).setCell ⟨w.heap.size, 4, none⟩ (.string b)).drew.cell? ⟨w1.heap.size, 0, none⟩ = some (.int .i64 k) ∧ ((((((w1.alloc (.cells #[.int .i64 k, .int .i64 sp, .int .i64 y, .int .i64 sq, .string b] 39)).setCell ⟨w.heap.size, 0, none⟩ (.int .i64 k)).setCell ⟨w.heap.size, 1, none⟩ (.int .i64 sp)).setCell ⟨w.heap.size, 2, none⟩ (.int .i64 y)).setCell ⟨w.heap.size, 3, none⟩ (.int .i64 sq)).setCell ⟨w.heap.size, 4, none⟩ (.string b)).drew.cell? ⟨w1.heap.size, 1, none⟩ = some (.int .i64 sp) ∧ ((((((w1.alloc (.cells #[.int .i64 k, .int .i64 sp, .int .i64 y, .int .i64 sq, .string b] 39)).setCell ⟨w.heap.size, 0, none⟩ (.int .i64 k)).setCell ⟨w.heap.size, 1, none⟩ (.int .i64 sp)).setCell ⟨w.heap.size, 2, none⟩ (.int .i64 y)).setCell ⟨w.heap.size, 3, none⟩ (.int .i64 sq)).setCell ⟨w.heap.size, 4, none⟩ (.string b)).drew.cell? ⟨w1.heap.size, 2, none⟩ = some (.int .i64 y) ∧ ((((((w1.alloc (.cells #[.int .i64 k, .int .i64 sp, .int .i64 y, .int .i64 sq, .string b] 39)).setCell ⟨w.heap.size, 0, none⟩ (.int .i64 k)).setCell ⟨w.heap.size, 1, none⟩ (.int .i64 sp)).setCell ⟨w.heap.size, 2, none⟩ (.int .i64 y)).setCell ⟨w.heap.size, 3, none⟩ (.int .i64 sq)).setCell ⟨w.heap.size, 4, none⟩ (.string b)).drew.cell? ⟨w1.heap.size, 3, none⟩ = some (.int .i64 sq) ∧ ((((((w1.alloc (.cells #[.int .i64 k, .int .i64 sp, .int .i64 y, .int .i64 sq, .string b] 39)).setCell ⟨w.heap.size, 0, none⟩ (.int .i64 k)).setCell ⟨w.heap.size, 1, none⟩ (.int .i64 sp)).setCell ⟨w.heap.size, 2, none⟩ (.int .i64 y)).setCell ⟨w.heap.size, 3, none⟩ (.int .i64 sq)).setCell ⟨w.heap.size, 4, none⟩ (.string b)).drew.cell? ⟨w1.heap.size, 4, none⟩ = some (.string b)) := cells_drew (HP3.out.keep (keep5 (w1.alloc (.cells #[.int .i64 k, .int .i64 sp, .int .i64 y, .int .i64 sq, .string b] 39)) w.heap.size (.int .i64 k) (.int .i64 sp) (.int .i64 y) (.int .i64 sq) (.string b)) HNE.out)
    go_wp2_with fail
    go_region_held3 (fun w' => w'.cell? ⟨w1.heap.size, 0, none⟩ = some (.int .i64 k) ∧ w'.cell? ⟨w1.heap.size, 1, none⟩ = some (.int .i64 sp) ∧ w'.cell? ⟨w1.heap.size, 2, none⟩ = some (.int .i64 y) ∧ w'.cell? ⟨w1.heap.size, 3, none⟩ = some (.int .i64 sq) ∧ w'.cell? ⟨w1.heap.size, 4, none⟩ = some (.string b)) (first | with_reducible exact SA.out | with_reducible exact SB.out) ((go_at_call 34; refine (wrap_nil _ _ _).mono ?_; rintro e w3 ⟨rfl, rfl⟩))
    go_wp2_with fail
    obtain ⟨r0, r1, r2, r3, r4⟩ := set5_cells HW3.out (.int .i64 k) (.int .i64 sp) (.int .i64 y) (.int .i64 sq) (.string b)
    refine bodyPost_ret (v := .tuple #[.agg #[.int .i64 k, .int .i64 sp, .int .i64 y, .int .i64 sq, .string b], .nilIface]) (by simp [results, Tryz.results16, go_sem, r0, r1, r2, r3, r4]) rfl ⟨_, rfl, (below_set5 HB3.out (Nat.le_refl _) _ _ _ _ _).drew, .inl ⟨rfl, rfl⟩⟩
  · have HCZ := Lib.hid hcz
    have hev : errV c = .iface 44 (.int .i64 c) := if_neg hcz
    simp only [hev]
    clear hcz hev
    have HW4 := Lib.hid (HW3.out.alloc (.cells #[.string ⟨#[114, 101, 97, 100]⟩, .int .i64 a, .iface 44 (.int .i64 c)] 98))
    have HB4 := Lib.hid (HB3.out.alloc HB3.out.size (.cells #[.string ⟨#[114, 101, 97, 100]⟩, .int .i64 a, .iface 44 (.int .i64 c)] 98))
    obtain ⟨⟨q0, q1, q2, q3, q4⟩, z0, z1, z2, z3, z4⟩ := tmp_cells HW4.out
    have SB : Hid (((w1.alloc (.cells #[.int .i64 k, .int .i64 sp, .int .i64 y, .int .i64 sq, .string b] 39)).alloc (.cells #[.string ⟨#[114, 101, 97, 100]⟩, .int .i64 a, .iface 44 (.int .i64 c)] 98)).drew.cell? ⟨w1.heap.size, 0, none⟩ = some (.int .i64 k) ∧ ((w1.alloc (.cells #[.int .i64 k, .int .i64 sp, .int .i64 y, .int .i64 sq, .string b] 39)).alloc (.cells #[.string ⟨#[114, 101, 97, 100]⟩, .int .i64 a, .iface 44 (.int .i64 c)] 98)).drew.cell? ⟨w1.heap.size, 1, none⟩ = some (.int .i64 sp) ∧ ((w1.alloc (.cells #[.int .i64 k, .int .i64 sp, .int .i64 y, .int .i64 sq, .string b] 39)).alloc (.cells #[.string ⟨#[114, 101, 97, 100]⟩, .int .i64 a, .iface 44 (.int .i64 c)] 98)).drew.cell? ⟨w1.heap.size, 2, none⟩ = some (.int .i64 y) ∧ ((w1.alloc (.cells #[.int .i64 k, .int .i64 sp, .int .i64 y, .int .i64 sq, .string b] 39)).alloc (.cells #[.string ⟨#[114, 101, 97, 100]⟩, .int .i64 a, .iface 44 (.int .i64 c)] 98)).drew.cell? ⟨w1.heap.size, 3, none⟩ = some (.int .i64 sq) ∧ ((w1.alloc (.cells #[.int .i64 k, .int .i64 sp, .int .i64 y, .int .i64 sq, .string b] 39)).alloc (.cells #[.string ⟨#[114, 101, 97, 100]⟩, .int .i64 a, .iface 44 (.int .i64 c)] 98)).drew.cell? ⟨w1.heap.size, 4, none⟩ = some (.string b)) := cells_drew (HP3.out.alloc (.cells #[.string ⟨#[114, 101, 97, 100]⟩, .int .i64 a, .iface 44 (.int .i64 c)] 98))
    have SC : Hid ((((((((w1.alloc (.cells #[.int .i64 k, .int .i64 sp, .int .i64 y, .int .i64 sq, .string b] 39)).alloc (.cells #[.string ⟨#[114, 101, 97, 100]⟩, .int .i64 a, .iface 44 (.int .i64 c)] 98)).setCell ⟨w.heap.size, 0, none⟩ (.int .i64 k)).setCell ⟨w.heap.size, 1, none⟩ (.int .i64 sp)).setCell ⟨w.heap.size, 2, none⟩ (.int .i64 y)).setCell ⟨w.heap.size, 3, none⟩ (.int .i64 sq)).setCell ⟨w.heap.size, 4, none⟩ (.string b)).drew.cell? ⟨w1.heap.size, 0, none⟩ = some (.int .i64 k) ∧ (((((((w1.alloc (.cells #[.int .i64 k, .int .i64 sp, .int .i64 y, .int .i64 sq, .string b] 39)).alloc (.cells #[.string ⟨#[114, 101, 97, 100]⟩, .int .i64 a, .iface 44 (.int .i64 c)] 98)).setCell ⟨w.heap.size, 0, none⟩ (.int .i64 k)).setCell ⟨w.heap.size, 1, none⟩ (.int .i64 sp)).setCell ⟨w.heap.size, 2, none⟩ (.int .i64 y)).setCell ⟨w.heap.size, 3, none⟩ (.int .i64 sq)).setCell ⟨w.heap.size, 4, none⟩ (.string b)).drew.cell? ⟨w1.heap.size, 1, none⟩ = some (.int .i64 sp) ∧ (((((((w1.alloc (.cells #[.int .i64 k, .int .i64 sp, .int .i64 y, .int .i64 sq, .string b] 39)).alloc (.cells #[.string ⟨#[114, 101, 97, 100]⟩, .int .i64 a, .iface 44 (.int .i64 c)] 98)).setCell ⟨w.heap.size, 0, none⟩ (.int .i64 k)).setCell ⟨w.heap.size, 1, none⟩ (.int .i64 sp)).setCell ⟨w.heap.size, 2, none⟩ (.int .i64 y)).setCell ⟨w.heap.size, 3, none⟩ (.int .i64 sq)).setCell ⟨w.heap.size, 4, none⟩ (.string b)).drew.cell? ⟨w1.heap.size, 2, none⟩ = some (.int .i64 y) ∧ (((((((w1.alloc (.cells #[.int .i64 k, .int .i64 sp, .int .i64 y, .int .i64 sq, .string b] 39)).alloc (.cells #[.string ⟨#[114, 101, 97, 100]⟩, .int .i64 a, .iface 44 (.int .i64 c)] 98)).setCell ⟨w.heap.size, 0, none⟩ (.int .i64 k)).setCell ⟨w.heap.size, 1, none⟩ (.int .i64 sp)).setCell ⟨w.heap.size, 2, none⟩ (.int .i64 y)).setCell ⟨w.heap.size, 3, none⟩ (.int .i64 sq)).setCell ⟨w.heap.size, 4, none⟩ (.string b)).drew.cell? ⟨w1.heap.size, 3, none⟩ = some (.int .i64 sq) ∧ (((((((w1.alloc (.cells #[.int .i64 k, .int .i64 sp, .int .i64 y, .int .i64 sq, .string b] 39)).alloc (.cells #[.string ⟨#[114, 101, 97, 100]⟩, .int .i64 a, .iface 44 (.int .i64 c)] 98)).setCell ⟨w.heap.size, 0, none⟩ (.int .i64 k)).setCell ⟨w.heap.size, 1, none⟩ (.int .i64 sp)).setCell ⟨w.heap.size, 2, none⟩ (.int .i64 y)).setCell ⟨w.heap.size, 3, none⟩ (.int .i64 sq)).setCell ⟨w.heap.size, 4, none⟩ (.string b)).drew.cell? ⟨w1.heap.size, 4, none⟩ = some (.string b)) := cells_drew ((HP3.out.alloc (.cells #[.string ⟨#[114, 101, 97, 100]⟩, .int .i64 a, .iface 44 (.int .i64 c)] 98)).keep (keep5 ((w1.alloc (.cells #[.int .i64 k, .int .i64 sp, .int .i64 y, .int .i64 sq, .string b] 39)).alloc (.cells #[.string ⟨#[114, 101, 97, 100]⟩, .int .i64 a, .iface 44 (.int .i64 c)] 98)) w.heap.size (.int .i64 k) (.int .i64 sp) (.int .i64 y) (.int .i64 sq) (.string b)) HNE.out)
    have HFL : Hid (Whole (((((((w1.alloc (.cells #[.int .i64 k, .int .i64 sp, .int .i64 y, .int .i64 sq, .string b] 39)).alloc (.cells #[.string ⟨#[114, 101, 97, 100]⟩, .int .i64 a, .iface 44 (.int .i64 c)] 98)).setCell ⟨w.heap.size, 0, none⟩ (.int .i64 k)).setCell ⟨w.heap.size, 1, none⟩ (.int .i64 sp)).setCell ⟨w.heap.size, 2, none⟩ (.int .i64 y)).setCell ⟨w.heap.size, 3, none⟩ (.int .i64 sq)).setCell ⟨w.heap.size, 4, none⟩ (.string b)) (w1.heap.size + 1) 98 #[.string ⟨#[114, 101, 97, 100]⟩, .int .i64 a, .iface 44 (.int .i64 c)]) := (Whole.new' (w1.alloc (.cells #[.int .i64 k, .int .i64 sp, .int .i64 y, .int .i64 sq, .string b] 39)) _ _ _ (by simp)).keep (keep5 ((w1.alloc (.cells #[.int .i64 k, .int .i64 sp, .int .i64 y, .int .i64 sq, .string b] 39)).alloc (.cells #[.string ⟨#[114, 101, 97, 100]⟩, .int .i64 a, .iface 44 (.int .i64 c)] 98)) w.heap.size (.int .i64 k) (.int .i64 sp) (.int .i64 y) (.int .i64 sq) (.string b)) (by have := HW1.out.lt; omega)
    go_wp2_with fail
    go_region_held3 (fun w' => w'.cell? ⟨w1.heap.size, 0, none⟩ = some (.int .i64 k) ∧ w'.cell? ⟨w1.heap.size, 1, none⟩ = some (.int .i64 sp) ∧ w'.cell? ⟨w1.heap.size, 2, none⟩ = some (.int .i64 y) ∧ w'.cell? ⟨w1.heap.size, 3, none⟩ = some (.int .i64 sq) ∧ w'.cell? ⟨w1.heap.size, 4, none⟩ = some (.string b)) (first | with_reducible exact SA.out | with_reducible exact SB.out | with_reducible exact SC.out) ((go_at_call 34; refine (wrap_err _ _ _ _ _).mono ?_; rintro e w3 ⟨rfl, rfl⟩))
    go_wp2_with fail
    obtain ⟨r0, r1, r2, r3, r4⟩ := set5_cells HW4.out (.int .i64 k) (.int .i64 sp) (.int .i64 y) (.int .i64 sq) (.string b)
    refine bodyPost_ret (v := .tuple #[.agg #[.int .i64 k, .int .i64 sp, .int .i64 y, .int .i64 sq, .string b], .iface 94 (.pointer (some ⟨w1.heap.size + 1, 0, none⟩))]) (by simp [results, Tryz.results16, go_sem, r0, r1, r2, r3, r4]) rfl ⟨_, rfl, (below_set5 HB4.out (Nat.le_refl _) _ _ _ _ _).drew, .inr ⟨HCZ.out, [w1.heap.size + 1], errAt_one HFL.out, fun _ _ => id⟩⟩
end Go.Proofs.YtfacgeappbgldaaGreatDoor.st
