/- store: the page's example is awake. -/
import Derived.Test.YtfacgeappbgldaaGreatDoorStJ
namespace Go.Proofs.YtfacgeappbgldaaGreatDoor.st
open Go.RowKit Go.Proofs.YtfacgeappbgldaaGreatDoor.er Go.Proofs.YtfacgeappbgldaaGreatDoor.nd Go.Proofs.YtfacgeappbgldaaGreatDoor.we Go.Proofs.YtfacgeappbgldaaGreatDoor.ge Go.Proofs.YtfacgeappbgldaaGreatDoor.pg
attribute [local go_sem ↓] Go.wp_at_zero Go.wp_at_succ
set_option linter.unusedVariables false

theorem App0 {w0 w : World} {q p : Nat} {sv vv : Value} {N : Nat → Prop} {s s' : Sto} (h : Law w0 w q p sv vv N s) (key : Int) (b : ByteArray) (a : Int) (hr : appF 3 s (pg key b) = some (s', a, 0)) (ho : s.n.ops ≤ 1000000) (hq : s.seq ≤ 281474976710655) :
    Calls Tryz.prog 12 #[.pointer (some ⟨q, 0, none⟩), .agg #[.int .i64 1, .int .i64 1, .int .i64 key, .int .i64 0, .string b]] w fun e w' => e = .returned (.tuple #[.int .i64 a, .nilIface]) ∧ ∃ N', Law w0 w' q p sv vv N' s' := by
  refine (Append_any w q p sv vv N s (pg key b) 3 (s', a, 0) h.st h.laid h.zero hr (by omega) hq).mono ?_
  rintro e w' ⟨v, N', rfl, hs, hm, he⟩
  rw [zero_errS he]
  exact ⟨rfl, N', h.moved hs hm⟩
theorem misArg_new (w : World) (l : List Mis) : MisArg (w.alloc (.cells (misCells l).toArray 32)) w.heap.size 0 l := fun j m hm => by
  obtain ⟨e0, e1, e2, e3⟩ := misCells_at l j m hm
  have hw := Whole.new w 32 (misCells l).toArray
  simp only [Nat.zero_add]
  exact ⟨(hw.cell _).trans (by simpa using e0), (hw.cell _).trans (by simpa using e1), (hw.cell _).trans (by simpa using e2), (hw.cell _).trans (by simpa using e3)⟩
theorem planned_geo (n : Nand) (l : List Mis) : (n.planned l).blocks = n.blocks ∧ (n.planned l).per = n.per := ⟨rfl, rfl⟩
theorem PlanL {w0 w : World} {q p : Nat} {sv vv : Value} {N : Nat → Prop} {s : Sto} (h : Law w0 w q p sv vv N s) (ho : s.n.ops ≤ 1000000) (b cap n : Nat) (l : List Mis) (hl : l.length = n) (hn : n ≤ 1000) (ha : MisArg w b 0 l) (hF : ¬ foot q sv vv N b) (hj : ∀ m ∈ l, m.junk.size ≤ 1000) :
    Calls Tryz.prog 11 #[.pointer (some ⟨p, 0, none⟩), .slice (some ⟨b, 0, none⟩) n cap] w fun e w' => e = .returned (.tuple #[]) ∧ ∃ N', Law w0 w' q p sv vv N' { s with n := s.n.planned l } := by
  refine (Plan_some w N p s.n h.st.arr (by omega) b 0 cap n l hl (by omega) ha (fun hk => hF (.inr (.inr (.inr hk)))) (fun m hm => by have := hj m hm; omega)).mono ?_
  rintro e w' ⟨rfl, F', hn, hm⟩
  obtain ⟨h1, h2⟩ := h.st.under hn hm rfl rfl
  exact ⟨rfl, F', h.moved h1 h2⟩
theorem ReadL {w0 w : World} {q p : Nat} {sv vv : Value} {N : Nat → Prop} {s : Sto} (h : Law w0 w q p sv vv N s) (a k sp y sq : Int) (b : ByteArray) (hr : readS s.n a = (⟨k, sp, y, sq, b⟩, 0)) (ht : (s.n.read a).2.size ≤ 70368744177664) :
    Calls Tryz.prog 16 #[.pointer (some ⟨q, 0, none⟩), .int .i64 a] w fun e w' => e = .returned (.tuple #[.agg #[.int .i64 k, .int .i64 sp, .int .i64 y, .int .i64 sq, .string b], .nilIface]) ∧ Below w.heap.size w w' := by
  refine (Read_anyS w q p sv vv N s a h.st h.laid ht).mono ?_
  rintro e w' ⟨v, rfl, hb, he⟩
  rw [hr] at he ⊢
  rw [zero_errS he]
  exact ⟨rfl, hb⟩
theorem RetiredL {w0 w : World} {q p : Nat} {sv vv : Value} {N : Nat → Prop} {s : Sto} (h : Law w0 w q p sv vv N s) (k : Int) (hk : countL (tabOf s) 3 = k) :
    Calls Tryz.prog 14 #[.pointer (some ⟨q, 0, none⟩)] w fun e w' => e = .returned (.int .i64 k) ∧ Below w.heap.size w w' := hk ▸ retired_any w q p sv vv N s h.st
theorem planned_a2 : ({ a2 with n := a2.n.planned [⟨1, 2, 0, ⟨#[]⟩⟩] } : Sto) = a2p := by kernel_rfl
theorem size8 : (a3.n.read 8).2.size ≤ 70368744177664 := by
  rw [show a3.n.read 8 = (0, t7) from read_three t5 t6 t7]
  show t7.size ≤ _
  rw [t7, writeF_size]
  decide
set_option maxHeartbeats 2000000 in
set_option maxRecDepth 100000 in
theorem awake_yes (w : World) (hg : LaidT w) : Calls Tryz.prog 10 #[] w fun e w' => e = .returned (.bool true) ∧ Below w.heap.size w w' := by
  have HG := Lib.hid hg
  clear hg
  go_enter Tryz.func10, Tryz.ntmps10
  go_wp2_with fail
  refine (plain_anyS _).mono ?_
  rintro e w1 ⟨rfl, hb1⟩
  have HB1 := Lib.hid hb1
  have HG1 := Lib.hid (HG.out.below hb1 HG.out.lt)
  clear hb1
  go_wp2_with fail
  refine (fresh_any w _ HB1.out HG1.out HG.out.lt).mono ?_
  rintro e w2 ⟨q, p, sv, vv, N2, rfl, L2, hb2⟩
  have HL2 := Lib.hid L2
  have hs := seql q
  clear L2 hb2
  go_wp2_with fail
  refine (data_anyS _ _ _).mono ?_
  rintro e w3 ⟨rfl, hb3⟩
  have HL3 := Lib.hid (HL2.out.below hb3)
  clear hb3
  simp only [Page.val, pg]
  go_wp2_with fail
  refine (App0 HL3.out 5 b97 0 app0 (by decide) (by decide)).mono ?_
  rintro e w4 ⟨rfl, N4, L4⟩
  have HL4 := Lib.hid L4
  clear L4
  go_wp2_with fail
  refine (data_anyS _ _ _).mono ?_
  rintro e w5 ⟨rfl, hb5⟩
  have HL5 := Lib.hid (HL4.out.below hb5)
  clear hb5
  simp only [Page.val, pg]
  go_wp2_with fail
  refine (App0 HL5.out 6 b98 1 app1 (by decide) (by decide)).mono ?_
  rintro e w6 ⟨rfl, N6, L6⟩
  have HL6 := Lib.hid L6
  have HB6 : Hid (Below w6.heap.size w6 (w6.alloc (.cells (misCells [⟨1, 2, 0, ⟨#[]⟩⟩]).toArray 32))) := (Below.refl _ _).alloc (Nat.le_refl _) _
  have HL7 := Lib.hid (HL6.out.below HB6.out)
  have HNF : Hid (¬ foot q sv vv N6 w6.heap.size) := fun hf => by have := HL6.out.st.lt _ hf; omega
  clear L6
  go_wp2_with fail
  refine (PlanL HL7.out (by decide) w6.heap.size 1 1 [⟨1, 2, 0, ⟨#[]⟩⟩] rfl (by decide) (misArg_new w6 _) HNF.out (by decide)).mono ?_
  rintro e w8 ⟨rfl, N8, L8⟩
  rw [planned_a2] at L8
  have HL8 := Lib.hid L8
  clear L8
  go_wp2_with fail
  refine (data_anyS _ _ _).mono ?_
  rintro e w9 ⟨rfl, hb9⟩
  have HL9 := Lib.hid (HL8.out.below hb9)
  clear hb9
  simp only [Page.val, pg]
  go_wp2_with fail
  refine (App0 HL9.out 7 b99 8 app2 (by decide) (by decide)).mono ?_
  rintro e w10 ⟨rfl, N10, L10⟩
  have HL10 := Lib.hid L10
  clear L10
  go_wp2_with fail
  refine (ReadL HL10.out 8 1 1 7 2 ⟨#[99]⟩ read8 size8).mono ?_
  rintro e w11 ⟨rfl, hb11⟩
  have HL11 := Lib.hid (HL10.out.below hb11)
  clear hb11
  have HL12 := Lib.hid (HL11.out.below ((Below.refl w11.heap.size w11).alloc (Nat.le_refl _) (.cells #[.int .i64 1, .int .i64 1, .int .i64 7, .int .i64 2, .string ⟨#[99]⟩] 39)))
  go_wp2_with fail
  refine (RetiredL HL12.out 1 (ret_three t5 t6 t7)).mono ?_
  rintro e w12 ⟨rfl, hb12⟩
  have HL13 := Lib.hid (HL12.out.below hb12)
  clear hb12
  go_wp2_with fail
  go_ret
  exact ⟨rfl, HL13.out.bel⟩
end Go.Proofs.YtfacgeappbgldaaGreatDoor.st
