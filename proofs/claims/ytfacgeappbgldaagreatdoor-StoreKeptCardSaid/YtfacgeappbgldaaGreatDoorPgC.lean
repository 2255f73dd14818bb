/- page: Read. -/
import Derived.Test.YtfacgeappbgldaaGreatDoorPgB
namespace Go.Proofs.YtfacgeappbgldaaGreatDoor.pg
open Go.RowKit Go.Proofs.YtfacgeappbgldaaGreatDoor.er Go.Proofs.YtfacgeappbgldaaGreatDoor.fd Go.Proofs.YtfacgeappbgldaaGreatDoor.ck
set_option linter.unusedVariables false

def noPage : Page := ⟨0, 0, 0, 0, ⟨#[]⟩⟩
def numAt (s : ByteArray) (j : Nat) : Int := getN s (offN j) (widN j) (widN j)
def pageOf (s : ByteArray) : Page := ⟨IntKind.i64.wrap (numAt s 0), IntKind.i64.wrap (numAt s 1), IntKind.i64.wrap (numAt s 2), IntKind.i64.wrap (numAt s 3), s.extract 14 s.size⟩
def lenOk (s : ByteArray) : Bool := (((s.extract 14 s.size).size : Int) == numAt s 4)
/-- What is read of a text whose sum fits. -/
def readIn (t : ByteArray) : Page × Int :=
  if t.size < 16 then (noPage, 3) else
  if ((t.extract 0 2).toList == [83, 99]) = false then (noPage, 3) else
  if lenOk (t.extract 2 t.size) = false then (noPage, 3) else
  if mayB (pageOf (t.extract 2 t.size)) = false then (noPage, 3) else (pageOf (t.extract 2 t.size), 0)
def readF (t : ByteArray) : Page × Int := if (openF t).2 = 0 then readIn (openF t).1 else (noPage, (openF t).2)
theorem openF_size (t : ByteArray) : (openF t).1.size ≤ t.size := by
  unfold openF
  split
  · show 0 ≤ _; omega
  · split
    · simp
    · show 0 ≤ _; omega
theorem take_r (u r : ByteArray) (x0 x1 x2 x3 x4 : Int) (g : Nat) (w : World) (hw : WidthsAt w g) (h16 : 16 ≤ u.size) (hs : u.size ≤ 70368744177664) (hr : (u.extract 2 u.size).extract 14 (u.extract 2 u.size).size = r)
    (h0 : numAt (u.extract 2 u.size) 0 = x0) (h1 : numAt (u.extract 2 u.size) 1 = x1) (h2 : numAt (u.extract 2 u.size) 2 = x2) (h3 : numAt (u.extract 2 u.size) 3 = x3) (h4 : numAt (u.extract 2 u.size) 4 = x4) :
    Calls Tryz.prog 74 #[.string (u.extract 2 u.size), .slice (some ⟨g, 0, none⟩) 5 5] w fun e w' => ∃ ga cap, e = .returned (.tuple #[.slice (some ⟨ga, 0, none⟩) 5 cap, .string r, .int .i64 0]) ∧
      (w'.cell? ⟨ga, 0, none⟩ = some (.int .u64 x0) ∧ w'.cell? ⟨ga, 1, none⟩ = some (.int .u64 x1) ∧ w'.cell? ⟨ga, 2, none⟩ = some (.int .u64 x2) ∧ w'.cell? ⟨ga, 3, none⟩ = some (.int .u64 x3) ∧ w'.cell? ⟨ga, 4, none⟩ = some (.int .u64 x4)) ∧ Below w.heap.size w w' := by
  subst hr h0 h1 h2 h3 h4
  refine (take_any (u.extract 2 u.size) g w hw (by simp; omega) (by simp; omega)).mono ?_
  rintro e w' ⟨A, cap, rfl, hown, hb⟩
  obtain ⟨ga, rfl, _, _, _, hc, _⟩ := own_cell hown (by omega)
  exact ⟨ga, cap, rfl, ⟨hc 0 _ rfl, hc 1 _ rfl, hc 2 _ rfl, hc 3 _ rfl, hc 4 _ rfl⟩, hb⟩
theorem below_set5 {B g : Nat} {w w' : World} (h : Below B w w') (hg : B ≤ g) (a b c d e : Value) : Below B w (((((w'.setCell ⟨g, 0, none⟩ a).setCell ⟨g, 1, none⟩ b).setCell ⟨g, 2, none⟩ c).setCell ⟨g, 3, none⟩ d).setCell ⟨g, 4, none⟩ e) :=
  ((((h.setCell (p := ⟨g, 0, none⟩) hg a).setCell (p := ⟨g, 1, none⟩) hg b).setCell (p := ⟨g, 2, none⟩) hg c).setCell (p := ⟨g, 3, none⟩) hg d).setCell (p := ⟨g, 4, none⟩) hg e
theorem tmp_whole {w w' : World} {t : TypeId} (hb : Below (w.alloc (.cells #[.int .i64 0, .int .i64 0, .int .i64 0, .int .i64 0, .string ⟨#[]⟩] t)).heap.size (w.alloc (.cells #[.int .i64 0, .int .i64 0, .int .i64 0, .int .i64 0, .string ⟨#[]⟩] t)) w') : Whole w' w.heap.size t #[.int .i64 0, .int .i64 0, .int .i64 0, .int .i64 0, .string ⟨#[]⟩] :=
  Whole.below (Whole.new w t #[.int .i64 0, .int .i64 0, .int .i64 0, .int .i64 0, .string ⟨#[]⟩]) hb (by simp)
theorem tmp_cells {w : World} {g : Nat} {t : TypeId} {a b c d e : Value} (h : Whole w g t #[a, b, c, d, e]) :
    (w.cell? ⟨g, 0, none⟩ = some a ∧ w.cell? ⟨g, 1, none⟩ = some b ∧ w.cell? ⟨g, 2, none⟩ = some c ∧ w.cell? ⟨g, 3, none⟩ = some d ∧ w.cell? ⟨g, 4, none⟩ = some e) ∧
    w.frozen? ⟨g, 0, none⟩ = false ∧ w.frozen? ⟨g, 1, none⟩ = false ∧ w.frozen? ⟨g, 2, none⟩ = false ∧ w.frozen? ⟨g, 3, none⟩ = false ∧ w.frozen? ⟨g, 4, none⟩ = false :=
  ⟨⟨h.cell 0, h.cell 1, h.cell 2, h.cell 3, h.cell 4⟩, h.fz 0, h.fz 1, h.fz 2, h.fz 3, h.fz 4⟩
theorem set5_cells {w : World} {g : Nat} {t : TypeId} {a b c d e : Value} (h : Whole w g t #[a, b, c, d, e]) (a' b' c' d' e' : Value) :
    let w2 := (((((w.setCell ⟨g, 0, none⟩ a').setCell ⟨g, 1, none⟩ b').setCell ⟨g, 2, none⟩ c').setCell ⟨g, 3, none⟩ d').setCell ⟨g, 4, none⟩ e')
    (w2.cell? ⟨g, 0, none⟩ = some a' ∧ w2.cell? ⟨g, 1, none⟩ = some b' ∧ w2.cell? ⟨g, 2, none⟩ = some c' ∧ w2.cell? ⟨g, 3, none⟩ = some d' ∧ w2.cell? ⟨g, 4, none⟩ = some e') := by
  have k : Whole (((((w.setCell ⟨g, 0, none⟩ a').setCell ⟨g, 1, none⟩ b').setCell ⟨g, 2, none⟩ c').setCell ⟨g, 3, none⟩ d').setCell ⟨g, 4, none⟩ e') g t #[a', b', c', d', e'] := by
    simpa using ((((h.set 0 a').set 1 b').set 2 c').set 3 d').set 4 e'
  exact ⟨k.cell 0, k.cell 1, k.cell 2, k.cell 3, k.cell 4⟩
set_option maxHeartbeats 4000000 in
set_option maxRecDepth 100000 in
theorem read_any (t : ByteArray) (w : World) (hs : t.size ≤ 70368744177664) :
    Calls Tryz.prog 51 #[.string t] w fun e w' => e = .returned (.tuple #[(readF t).1.val, .int .i64 (readF t).2]) ∧ Below w.heap.size w w' := by
  have hsz := openF_size t
  by_cases h0 : (openF t).2 = 0
  · obtain ⟨u, c, hu⟩ : ∃ u c, openF t = (u, c) := ⟨_, _, rfl⟩
    have hr : readF t = readIn u := by unfold readF; rw [if_pos h0, hu]
    have HO := Lib.hid (open_any t (w.alloc (.cells #[.int .i64 0, .int .i64 0, .int .i64 0, .int .i64 0, .string ⟨#[]⟩] 39)) hs)
    rw [hu] at HO hsz h0
    obtain rfl : c = 0 := h0
    simp only at HO hsz
    have HR := Lib.hid hr
    clear hr hu
    by_cases h16 : u.size < 16
    · have HE : Hid (readIn u = (noPage, 3)) := by show _ = _; unfold readIn; rw [if_pos h16]
      have h16i : (u.size : Int) < 16 := by omega
      go_enter Tryz.func51, Tryz.ntmps51
      go_wp2_with fail
      refine HO.out.mono ?_
      rintro e w' ⟨rfl, hb⟩
      have HWH := Lib.hid (tmp_whole hb)
      obtain ⟨⟨q0, q1, q2, q3, q4⟩, z0, z1, z2, z3, z4⟩ := tmp_cells HWH.out
      have HB := Lib.hid (((Below.refl w.heap.size w).alloc (Nat.le_refl _) (.cells #[.int .i64 0, .int .i64 0, .int .i64 0, .int .i64 0, .string ⟨#[]⟩] 39)).trans (hb.mono (by simp)))
      clear hb
      go_wp2_with fail
      obtain ⟨r0, r1, r2, r3, r4⟩ := set5_cells HWH.out (.int .i64 0) (.int .i64 0) (.int .i64 0) (.int .i64 0) (.string ⟨#[]⟩)
      refine bodyPost_ret (v := .tuple #[noPage.val, .int .i64 3]) (by simp [results, Tryz.results51, go_sem, noPage, Page.val, r0, r1, r2, r3, r4]) rfl ⟨by rw [HR.out, HE.out], below_set5 HB.out (Nat.le_refl _) _ _ _ _ _⟩
    · have h16i : (16 : Int) ≤ (u.size : Int) := by omega
      cases hm : ((u.extract 0 2).toList == [83, 99])
      · have HE : Hid (readIn u = (noPage, 3)) := by show _ = _; unfold readIn; rw [if_neg h16, if_pos hm]
        go_enter Tryz.func51, Tryz.ntmps51
        go_wp2_with fail
        refine HO.out.mono ?_
        rintro e w' ⟨rfl, hb⟩
        have HWH := Lib.hid (tmp_whole hb)
        obtain ⟨⟨q0, q1, q2, q3, q4⟩, z0, z1, z2, z3, z4⟩ := tmp_cells HWH.out
        have HB := Lib.hid (((Below.refl w.heap.size w).alloc (Nat.le_refl _) (.cells #[.int .i64 0, .int .i64 0, .int .i64 0, .int .i64 0, .string ⟨#[]⟩] 39)).trans (hb.mono (by simp)))
        clear hb
        go_wp2_with fail
        obtain ⟨r0, r1, r2, r3, r4⟩ := set5_cells HWH.out (.int .i64 0) (.int .i64 0) (.int .i64 0) (.int .i64 0) (.string ⟨#[]⟩)
        refine bodyPost_ret (v := .tuple #[noPage.val, .int .i64 3]) (by simp [results, Tryz.results51, go_sem, noPage, Page.val, r0, r1, r2, r3, r4]) rfl ⟨by rw [HR.out, HE.out], below_set5 HB.out (Nat.le_refl _) _ _ _ _ _⟩
      · have HM := Lib.hid hm
        go_enter Tryz.func51, Tryz.ntmps51
        go_wp2_with fail
        refine HO.out.mono ?_
        rintro e w' ⟨rfl, hb⟩
        have HWH := Lib.hid (tmp_whole hb)
        obtain ⟨⟨q0, q1, q2, q3, q4⟩, z0, z1, z2, z3, z4⟩ := tmp_cells HWH.out
        have HB := Lib.hid (((Below.refl w.heap.size w).alloc (Nat.le_refl _) (.cells #[.int .i64 0, .int .i64 0, .int .i64 0, .int .i64 0, .string ⟨#[]⟩] 39)).trans (hb.mono (by simp)))
        clear hb
        obtain ⟨r, hr⟩ : ∃ r, (u.extract 2 u.size).extract 14 (u.extract 2 u.size).size = r := ⟨_, rfl⟩
        obtain ⟨x0, hx0⟩ : ∃ x, numAt (u.extract 2 u.size) 0 = x := ⟨_, rfl⟩
        obtain ⟨x1, hx1⟩ : ∃ x, numAt (u.extract 2 u.size) 1 = x := ⟨_, rfl⟩
        obtain ⟨x2, hx2⟩ : ∃ x, numAt (u.extract 2 u.size) 2 = x := ⟨_, rfl⟩
        obtain ⟨x3, hx3⟩ : ∃ x, numAt (u.extract 2 u.size) 3 = x := ⟨_, rfl⟩
        obtain ⟨x4, hx4⟩ : ∃ x, numAt (u.extract 2 u.size) 4 = x := ⟨_, rfl⟩
        obtain ⟨y0, hy0⟩ : ∃ y, IntKind.i64.wrap x0 = y := ⟨_, rfl⟩
        obtain ⟨y1, hy1⟩ : ∃ y, IntKind.i64.wrap x1 = y := ⟨_, rfl⟩
        obtain ⟨y2, hy2⟩ : ∃ y, IntKind.i64.wrap x2 = y := ⟨_, rfl⟩
        obtain ⟨y3, hy3⟩ : ∃ y, IntKind.i64.wrap x3 = y := ⟨_, rfl⟩
        have hpg : pageOf (u.extract 2 u.size) = ⟨y0, y1, y2, y3, r⟩ := by unfold pageOf; rw [hx0, hx1, hx2, hx3, hy0, hy1, hy2, hy3, hr]
        have hln : lenOk (u.extract 2 u.size) = ((r.size : Int) == x4) := by unfold lenOk; rw [hr, hx4]
        have hrz : r.size ≤ u.size := by rw [← hr]; simp; omega
        have hwr : IntKind.u64.wrap (r.size : Int) = (r.size : Int) := wrap_u64 (by omega) (by omega)
        have HT : Hid (∀ g wq, WidthsAt wq g → _) := fun g wq hq => take_r u r x0 x1 x2 x3 x4 g wq hq (by omega) (by omega) hr hx0 hx1 hx2 hx3 hx4
        have HIN : Hid (readIn u = if ((r.size : Int) == x4) = false then (noPage, 3) else if mayB ⟨y0, y1, y2, y3, r⟩ = false then (noPage, 3) else (⟨y0, y1, y2, y3, r⟩, 0)) := by
          show _ = _
          unfold readIn
          rw [if_neg h16, if_neg (by rw [hm]; simp), hln, hpg]
        clear hr hx0 hx1 hx2 hx3 hx4 hpg hln
        have hrzi : (r.size : Int) ≤ 70368744177664 := by omega
        clear hrz hs hsz
        have h2i : (2 : Int) ≤ (u.size : Int) := by omega
        go_wp2_with fail
        go_region_held3 (fun _ => True) (trivial)
          (first | (go_at_call 69; refine (widths_any _).mono ?_; rintro e w4 ⟨g, rfl, hw4, hg4, hb4⟩; have HW4 := Lib.hid hw4; have HB4 := Lib.hid (HB.out.drew.trans (hb4.mono (by have := HB.out.size; exact this))); have HWH4 := Lib.hid (Whole.below (w := w'.drew) HWH.out hb4 (by have := HWH.out.lt; exact this)); clear hw4 hg4 hb4) | (go_at_call 74; refine (HT.out g _ HW4.out).mono ?_; rintro e w5 ⟨ga, cap, rfl, ⟨l0, l1, l2, l3, l4⟩, hb5⟩; have HB5 := Lib.hid (HB4.out.trans (hb5.mono HB4.out.size)); have HWH5 := Lib.hid (Whole.below HWH4.out hb5 HWH4.out.lt); clear hb5))
        obtain ⟨⟨q0, q1, q2, q3, q4⟩, z0, z1, z2, z3, z4⟩ := tmp_cells HWH5.out
        cases hl : ((r.size : Int) == x4)
        · have HXL := Lib.hid hl
          go_wp2_with fail
          obtain ⟨r0, r1, r2, r3, r4⟩ := set5_cells HWH5.out (.int .i64 0) (.int .i64 0) (.int .i64 0) (.int .i64 0) (.string ⟨#[]⟩)
          refine bodyPost_ret (v := .tuple #[noPage.val, .int .i64 3]) (by simp [results, Tryz.results51, go_sem, noPage, Page.val, r0, r1, r2, r3, r4]) rfl ⟨by rw [HR.out, HIN.out, HXL.out, if_pos rfl], below_set5 HB5.out (Nat.le_refl _) _ _ _ _ _⟩
        · have HXL := Lib.hid hl
          go_wp2_with fail
          go_region_held3 (fun w' => w'.cell? ⟨ga, 0, none⟩ = some (.int .u64 x0) ∧ w'.cell? ⟨ga, 1, none⟩ = some (.int .u64 x1) ∧ w'.cell? ⟨ga, 2, none⟩ = some (.int .u64 x2) ∧ w'.cell? ⟨ga, 3, none⟩ = some (.int .u64 x3) ∧ w'.cell? ⟨ga, 4, none⟩ = some (.int .u64 x4)) (first | exact ⟨l0, l1, l2, l3, l4⟩ | go_keep) (fail)
          go_wp2_with fail
          refine (may_any ⟨y0, y1, y2, y3, r⟩ _).mono ?_
          cases hmay : mayB ⟨y0, y1, y2, y3, r⟩
          · have HMY := Lib.hid hmay
            clear hmay q0 q1 q2 q3 q4 z0 z1 z2 z3 z4
            rintro e w6 ⟨rfl, hb6⟩
            have HWH6 := Lib.hid (Whole.below (w := (w5.alloc (.cells #[.int .i64 y0, .int .i64 y1, .int .i64 y2, .int .i64 y3, .string r] 39)).drew) (HWH5.out.alloc (.cells #[.int .i64 y0, .int .i64 y1, .int .i64 y2, .int .i64 y3, .string r] 39)) hb6 (by have := HWH5.out.lt; simp; omega))
            have HB6 := Lib.hid ((HB5.out.alloc HB5.out.size (.cells #[.int .i64 y0, .int .i64 y1, .int .i64 y2, .int .i64 y3, .string r] 39)).drew.trans (hb6.mono (by have := HB5.out.size; simp; omega)))
            obtain ⟨⟨q0, q1, q2, q3, q4⟩, z0, z1, z2, z3, z4⟩ := tmp_cells HWH6.out
            clear hb6
            go_wp2_with fail
            obtain ⟨r0, r1, r2, r3, r4⟩ := set5_cells HWH6.out (.int .i64 0) (.int .i64 0) (.int .i64 0) (.int .i64 0) (.string ⟨#[]⟩)
            refine bodyPost_ret (v := .tuple #[noPage.val, .int .i64 3]) (by simp [results, Tryz.results51, go_sem, noPage, Page.val, r0, r1, r2, r3, r4]) rfl ⟨by rw [HR.out, HIN.out, HXL.out, if_neg (by simp), HMY.out, if_pos rfl], below_set5 HB6.out (Nat.le_refl _) _ _ _ _ _⟩
          · have HMY := Lib.hid hmay
            clear hmay q0 q1 q2 q3 q4 z0 z1 z2 z3 z4
            rintro e w6 ⟨rfl, hb6⟩
            have HWH6 := Lib.hid (Whole.below (w := (w5.alloc (.cells #[.int .i64 y0, .int .i64 y1, .int .i64 y2, .int .i64 y3, .string r] 39)).drew) (HWH5.out.alloc (.cells #[.int .i64 y0, .int .i64 y1, .int .i64 y2, .int .i64 y3, .string r] 39)) hb6 (by have := HWH5.out.lt; simp; omega))
            have HB6 := Lib.hid ((HB5.out.alloc HB5.out.size (.cells #[.int .i64 y0, .int .i64 y1, .int .i64 y2, .int .i64 y3, .string r] 39)).drew.trans (hb6.mono (by have := HB5.out.size; simp; omega)))
            have HP6 := Lib.hid (Whole.below (w := (w5.alloc (.cells #[.int .i64 y0, .int .i64 y1, .int .i64 y2, .int .i64 y3, .string r] 39)).drew) (Whole.new w5 _ _) hb6 (by simp))
            obtain ⟨⟨q0, q1, q2, q3, q4⟩, z0, z1, z2, z3, z4⟩ := tmp_cells HWH6.out
            obtain ⟨⟨p0, p1, p2, p3, p4⟩, _⟩ := tmp_cells HP6.out
            clear hb6
            go_wp2_with fail
            obtain ⟨r0, r1, r2, r3, r4⟩ := set5_cells HWH6.out (.int .i64 y0) (.int .i64 y1) (.int .i64 y2) (.int .i64 y3) (.string r)
            refine bodyPost_ret (v := .tuple #[Page.val ⟨y0, y1, y2, y3, r⟩, .int .i64 0]) (by simp [results, Tryz.results51, go_sem, Page.val, r0, r1, r2, r3, r4]) rfl ⟨by rw [HR.out, HIN.out, HXL.out, if_neg (by simp), HMY.out, if_neg (by simp)], below_set5 HB6.out (Nat.le_refl _) _ _ _ _ _⟩
  · have HE : Hid (readF t = (noPage, (openF t).2)) := by show _ = _; unfold readF; rw [if_neg h0]
    obtain ⟨u, c, hu⟩ : ∃ u c, openF t = (u, c) := ⟨_, _, rfl⟩
    have HO := Lib.hid (open_any t (w.alloc (.cells #[.int .i64 0, .int .i64 0, .int .i64 0, .int .i64 0, .string ⟨#[]⟩] 39)) hs)
    rw [hu] at HO HE h0
    simp only at HO HE h0
    have hc : (c == 0) = false := by simpa using h0
    clear h0 hu
    go_enter Tryz.func51, Tryz.ntmps51
    go_wp2_with fail
    refine HO.out.mono ?_
    rintro e w' ⟨rfl, hb⟩
    have HWH := Lib.hid (tmp_whole hb)
    obtain ⟨⟨q0, q1, q2, q3, q4⟩, z0, z1, z2, z3, z4⟩ := tmp_cells HWH.out
    have HB := Lib.hid (((Below.refl w.heap.size w).alloc (Nat.le_refl _) (.cells #[.int .i64 0, .int .i64 0, .int .i64 0, .int .i64 0, .string ⟨#[]⟩] 39)).trans (hb.mono (by simp)))
    clear hb
    go_wp2_with fail
    obtain ⟨r0, r1, r2, r3, r4⟩ := set5_cells HWH.out (.int .i64 0) (.int .i64 0) (.int .i64 0) (.int .i64 0) (.string ⟨#[]⟩)
    refine bodyPost_ret (v := .tuple #[noPage.val, .int .i64 c]) (by simp [results, Tryz.results51, go_sem, noPage, Page.val, r0, r1, r2, r3, r4]) rfl ⟨by rw [HE.out], below_set5 HB.out (Nat.le_refl _) _ _ _ _ _⟩
end Go.Proofs.YtfacgeappbgldaaGreatDoor.pg
