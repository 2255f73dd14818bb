/- StoreNil: the walk. -/
import Derived.Test.YtfacgeappbgldaaGreatDoorStL
namespace Go.Proofs.YtfacgeappbgldaaGreatDoor.st
open Go.RowKit Go.Proofs.YtfacgeappbgldaaGreatDoor.er Go.Proofs.YtfacgeappbgldaaGreatDoor.nd Go.Proofs.YtfacgeappbgldaaGreatDoor.we Go.Proofs.YtfacgeappbgldaaGreatDoor.ge Go.Proofs.YtfacgeappbgldaaGreatDoor.pg
attribute [local go_sem ↓] Go.wp_at_zero Go.wp_at_succ
set_option linter.unusedVariables false

def fv (b : Nat) : Value := .iface 94 (.pointer (some ⟨b, 0, none⟩))
/-- The errors that a walk holds. -/
structure Errs (w0 wS w : World) (l : List (Nat × (ByteArray × Int) × Int)) : Prop where
  err : ∀ x ∈ l, ErrAt w [x.1] [x.2.1] x.2.2 (fv x.1)
  laid : LaidT w
  bel : Below w0.heap.size w0 w
  belS : Below wS.heap.size wS w
theorem Errs.below {w0 wS w w' : World} {l : List (Nat × (ByteArray × Int) × Int)} (h : Errs w0 wS w l) (hb : Below w.heap.size w w') : Errs w0 wS w' l :=
  ⟨fun x hx => (h.err x hx).below hb, h.laid.below hb h.laid.lt, h.bel.trans (hb.mono h.bel.size), h.belS.trans (hb.mono h.belS.size)⟩
theorem Errs.add {w0 wS w w' : World} {l : List (Nat × (ByteArray × Int) × Int)} (h : Errs w0 wS w l) (hb : Below w.heap.size w w') (x : Nat × (ByteArray × Int) × Int) (hx : ErrAt w' [x.1] [x.2.1] x.2.2 (fv x.1)) : Errs w0 wS w' (l ++ [x]) :=
  ⟨fun y hy => by
    rcases List.mem_append.1 hy with hy | hy
    · exact (h.err y hy).below hb
    · rw [List.mem_singleton.1 hy]; exact hx, (h.below hb).laid, (h.below hb).bel, (h.below hb).belS⟩
theorem Errs.code {w0 wS w : World} {l : List (Nat × (ByteArray × Int) × Int)} (h : Errs w0 wS w l) (x : Nat × (ByteArray × Int) × Int) (hx : x ∈ l) :
    Calls Tryz.prog 17 #[fv x.1] w fun e w' => e = .returned (.int .i64 x.2.2) ∧ Below w.heap.size w w' := code_at [x.1] [x.2.1] x.2.2 _ w (h.err x hx) h.laid
def nDown : Nand := ((fs.planned [⟨1, 1, 0, ⟨#[]⟩⟩]).program 0 ⟨#[]⟩).2
theorem nDown_down : nDown.down = true := by kernel_rfl
set_option maxHeartbeats 4000000 in
set_option maxRecDepth 100000 in
theorem nil_walk (w : World) (hg : LaidT w) (a : Int) (p : Page) (v : Value) :
    Calls Tryz.prog 7 #[.int .i64 a, p.val, v] w fun e w' => e = .returned (.bool true) ∧ Below w.heap.size w w' := by
  obtain ⟨k, sp, y, sq, b⟩ := p
  have HG := Lib.hid hg
  have HAP := Lib.hid (fun wq => Append_nil ⟨k, sp, y, sq, b⟩ wq)
  show Calls Tryz.prog 7 #[.int .i64 a, .agg #[.int .i64 k, .int .i64 sp, .int .i64 y, .int .i64 sq, .string b], v] w _
  have HE : Hid (Errs w w w []) := ⟨fun x hx => by simp at hx, hg, Below.refl _ _, Below.refl _ _⟩
  clear hg
  go_enter Tryz.func7, Tryz.ntmps7
  go_wp2_with (first | (go_at_call 26; refine (need_nil _ _).mono ?_; rintro e w1 ⟨rfl, rfl⟩) | (go_at_call 29; refine (seal_nil _).mono ?_; rintro e w1 ⟨rfl, rfl⟩))
  have HE := Lib.hid (HE.out.below ((Below.refl w.heap.size w).alloc (Nat.le_refl _) (.cells #[.int .i64 k, .int .i64 sp, .int .i64 y, .int .i64 sq, .string b] 39)))
  have HP := Lib.hid (Whole.new w 39 #[.int .i64 k, .int .i64 sp, .int .i64 y, .int .i64 sq, .string b])
  refine (Read_nilS a _).mono ?_
  rintro e w1 ⟨b1, rfl, hb, he⟩
  have HE := Lib.hid (HE.out.add hb (b1, (readName, a), 1) he)
  have HP := Lib.hid (HP.out.below hb HP.out.lt)
  clear hb he
  simp only [List.cons_append, List.nil_append, Page.val, noPage]
  obtain ⟨⟨p0, p1, p2, p3, p4⟩, _⟩ := tmp_cells (HP.out.alloc (.cells #[.int .i64 0, .int .i64 0, .int .i64 0, .int .i64 0, .string ⟨#[]⟩] 39))
  have HA1 := Lib.hid ((Below.refl w1.heap.size w1).alloc (Nat.le_refl _) (.cells #[.int .i64 0, .int .i64 0, .int .i64 0, .int .i64 0, .string ⟨#[]⟩] 39))
  have HE := Lib.hid (HE.out.below HA1.out)
  have HQ := Lib.hid (Whole.new w1 39 #[.int .i64 0, .int .i64 0, .int .i64 0, .int .i64 0, .string ⟨#[]⟩])
  go_wp2_with fail
  refine (HAP.out _).mono ?_
  rintro e w2 ⟨b2, rfl, hb, he⟩
  have HE := Lib.hid (HE.out.add hb (b2, (appName, y), 1) he)
  have HQ := Lib.hid (HQ.out.below hb HQ.out.lt)
  clear hb he p0 p1 p2 p3 p4
  simp only [List.cons_append, List.nil_append]
  go_wp2_with fail
  refine (scan_nil _).mono ?_
  rintro e w3 ⟨b3, rfl, hb, he⟩
  have HE := Lib.hid (HE.out.add hb (b3, (⟨#[115, 99, 97, 110]⟩, 0), 1) he)
  have HQ := Lib.hid (HQ.out.below hb HQ.out.lt)
  clear hb he
  simp only [List.cons_append, List.nil_append]
  go_wp2_with fail
  refine (open_nil _).mono ?_
  rintro e w4 ⟨b4, rfl, hb, he⟩
  have HE := Lib.hid (HE.out.add hb (b4, (openName, 0), 1) he)
  have HQ := Lib.hid (HQ.out.below hb HQ.out.lt)
  clear hb he
  go_wp2_with fail
  refine (plain_anyS _).mono ?_
  rintro e w5 ⟨rfl, hb⟩
  have HE := Lib.hid (HE.out.below hb)
  have HQ := Lib.hid (HQ.out.below hb HQ.out.lt)
  clear hb
  go_wp2_with fail
  refine (New_ok 16 8 (by omega) (by omega) (by omega) (by omega) _).mono ?_
  rintro e w6 ⟨F, np, rfl, hn, hb, hF⟩
  have HN : Hid (NandAt w6 F np fs) := hn
  have B6 := Lib.hid hb
  have hnn := heql np
  have HB7 : Hid (Below w6.heap.size w6 (w6.alloc (.cells (misCells [⟨1, 1, 0, ⟨#[]⟩⟩]).toArray 32))) := (Below.refl _ _).alloc (Nat.le_refl _) _
  have B7 := Lib.hid (hb.trans (HB7.out.mono hb.size))
  have HF := Lib.hid hF
  clear hn hb hF
  go_wp2_with fail
  refine (Plan_some _ F np fs (HN.out.below HB7.out) (by decide) w6.heap.size 0 1 1 [⟨1, 1, 0, ⟨#[]⟩⟩] rfl (by decide) (misArg_new w6 _) (fun hk => by have := nandAt_lt HN.out _ hk; omega) (by decide)).mono ?_
  rintro e w8 ⟨rfl, F8, hn8, hm8⟩
  obtain ⟨x8, y8⟩ := hm8.toBelow B7.out.size HF.out
  have B8 := Lib.hid (B7.out.trans x8)
  have HF8 := Lib.hid y8
  have HN8 := Lib.hid hn8
  clear x8 y8 hn8 hm8
  go_wp2_with fail
  refine (Program_any _ F8 np _ 0 ⟨#[]⟩ HN8.out (by decide) (by decide)).mono ?_
  rintro e w9 ⟨v9, F9, rfl, hn9, hm9, _⟩
  obtain ⟨x9, y9⟩ := hm9.toBelow B8.out.size HF8.out
  have B9 := Lib.hid (B8.out.trans x9)
  have HN9 : Hid (NandAt w9 F9 np nDown) := hn9
  have HE := Lib.hid (HE.out.below B9.out)
  have HQ := Lib.hid (HQ.out.below B9.out HQ.out.lt)
  clear x9 y9 hn9 hm9
  go_wp2_with fail
  refine (open_down _ F9 np nDown HN9.out nDown_down).mono ?_
  rintro e w10 ⟨b5, rfl, hb, he⟩
  have HE := Lib.hid (HE.out.add hb (b5, (openName, 0), 9) he)
  have HQ := Lib.hid (HQ.out.below hb HQ.out.lt)
  clear hb he
  go_wp2_with fail
  refine (awake_yes _ HE.out.laid).mono ?_
  rintro e w11 ⟨rfl, hb⟩
  have HE := Lib.hid (HE.out.below hb)
  have HQ := Lib.hid (HQ.out.below hb HQ.out.lt)
  obtain ⟨⟨q0, q1, q2, q3, q4⟩, _⟩ := tmp_cells HQ.out
  clear hb
  go_wp2_with fail
  refine (HE.out.code (b1, (readName, a), 1) (by simp)).mono ?_
  rintro e wc1 ⟨rfl, hb⟩
  have HE := Lib.hid (HE.out.below hb)
  clear hb
  go_wp2_with fail
  refine (HE.out.code (b2, (appName, y), 1) (by simp)).mono ?_
  rintro e wc2 ⟨rfl, hb⟩
  have HE := Lib.hid (HE.out.below hb)
  clear hb
  go_wp2_with fail
  refine (HE.out.code (b3, (⟨#[115, 99, 97, 110]⟩, 0), 1) (by simp)).mono ?_
  rintro e wc3 ⟨rfl, hb⟩
  have HE := Lib.hid (HE.out.below hb)
  clear hb
  go_wp2_with fail
  refine (Erase_nil _ _).mono ?_
  rintro e we ⟨b6, rfl, hb, he⟩
  have HE := Lib.hid (HE.out.add hb (b6, (⟨#[101, 114, 97, 115, 101]⟩, a), 1) he)
  clear hb he
  go_wp2_with fail
  refine (HE.out.code (b6, (⟨#[101, 114, 97, 115, 101]⟩, a), 1) (by simp)).mono ?_
  rintro e wc4 ⟨rfl, hb⟩
  have HE := Lib.hid (HE.out.below hb)
  clear hb
  go_wp2_with fail
  refine (table_nil _).mono ?_
  rintro e wp1 ⟨rfl, rfl⟩
  go_wp2_with fail
  refine (free_nil _).mono ?_
  rintro e wp2 ⟨rfl, hb⟩
  have HE := Lib.hid (HE.out.below hb)
  clear hb
  go_wp2_with fail
  refine (retired_nil _).mono ?_
  rintro e wp3 ⟨rfl, hb⟩
  have HE := Lib.hid (HE.out.below hb)
  clear hb
  go_wp2_with fail
  refine (seq_nil _).mono ?_
  rintro e wp4 ⟨rfl, rfl⟩
  go_wp2_with fail
  refine (worn_nil _).mono ?_
  rintro e wp5 ⟨rfl, hb⟩
  have HE := Lib.hid (HE.out.below hb)
  clear hb
  go_wp2_with fail
  refine (geometry_nil _).mono ?_
  rintro e wp6 ⟨rfl, hb⟩
  have HE := Lib.hid (HE.out.below hb)
  clear hb
  go_wp2_with fail
  refine (HE.out.code (b4, (openName, 0), 1) (by simp)).mono ?_
  rintro e wc7 ⟨rfl, hb⟩
  have HE := Lib.hid (HE.out.below hb)
  clear hb
  go_wp2_with fail
  refine (HE.out.code (b5, (openName, 0), 9) (by simp)).mono ?_
  rintro e wc8 ⟨rfl, hb⟩
  have HE := Lib.hid (HE.out.below hb)
  clear hb
  go_wp2_with fail
  go_ret
  exact ⟨rfl, HE.out.bel⟩
end Go.Proofs.YtfacgeappbgldaaGreatDoor.st
