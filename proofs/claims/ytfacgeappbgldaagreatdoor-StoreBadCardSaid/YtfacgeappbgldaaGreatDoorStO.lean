/- StoreBad: the walk. -/
import Derived.Test.YtfacgeappbgldaaGreatDoorStN
namespace Go.Proofs.YtfacgeappbgldaaGreatDoor.st
open Go.RowKit Go.Proofs.YtfacgeappbgldaaGreatDoor.er Go.Proofs.YtfacgeappbgldaaGreatDoor.nd Go.Proofs.YtfacgeappbgldaaGreatDoor.we Go.Proofs.YtfacgeappbgldaaGreatDoor.ge Go.Proofs.YtfacgeappbgldaaGreatDoor.pg
attribute [local go_sem ↓] Go.wp_at_zero Go.wp_at_succ
set_option linter.unusedVariables false

set_option maxHeartbeats 4000000 in
set_option maxRecDepth 100000 in
theorem bad_walk (w : World) (hg : LaidT w) (b : ByteArray) (k : Int) :
    Calls Tryz.prog 3 #[.string b, .int .i64 k] w fun e w' => e = .returned (.bool true) ∧ Below w.heap.size w w' := by
  have HG := Lib.hid hg
  by_cases hbz : 100 < b.size
  · have hbz' : ¬ b.size ≤ 100 := by omega
    clear hg
    go_enter Tryz.func3, Tryz.ntmps3
    go_wp2_with fail
    refine (plain_anyS _).mono ?_
    rintro e w1 ⟨rfl, hb1⟩
    have HB1 := Lib.hid hb1
    have HG1 := Lib.hid (HG.out.below hb1 HG.out.lt)
    clear hb1
    go_wp2_with fail
    refine (fresh_any w _ HB1.out HG1.out HG.out.lt).mono ?_
    rintro e w2 ⟨q, p, sv, vv, N2, rfl, L2, hb2⟩
    have HL2 := Lib.hid L2
    have hs := seql q
    clear L2 hb2
    go_wp2_with fail
    refine (awake_yes _ HL2.out.laid).mono ?_
    rintro e w3 ⟨rfl, hb⟩
    have HL2 := Lib.hid (HL2.out.below hb)
    clear hb
    go_wp2_with fail
    refine (awake_yes _ HL2.out.laid).mono ?_
    rintro e w3 ⟨rfl, hb⟩
    have HL2 := Lib.hid (HL2.out.below hb)
    clear hb
    go_wp2_with fail
    go_ret
    exact ⟨rfl, HL2.out.bel⟩
  · have hbz' : b.size ≤ 100 := by omega
    have HZ := Lib.hid hbz'
    clear hg
    go_enter Tryz.func3, Tryz.ntmps3
    go_wp2_with fail
    refine (plain_anyS _).mono ?_
    rintro e w1 ⟨rfl, hb1⟩
    have HB1 := Lib.hid hb1
    have HG1 := Lib.hid (HG.out.below hb1 HG.out.lt)
    clear hb1
    go_wp2_with fail
    refine (fresh_any w _ HB1.out HG1.out HG.out.lt).mono ?_
    rintro e w2 ⟨q, p, sv, vv, N2, rfl, L2, hb2⟩
    have HL := Lib.hid L2
    have hs := seql q
    clear L2 hb2
    go_wp2_with fail
    refine (awake_yes _ HL.out.laid).mono ?_
    rintro e w3 ⟨rfl, hb⟩
    have HL := Lib.hid (HL.out.below hb)
    have HNF : Hid (¬ foot q sv vv N2 w3.heap.size) := fun hf => by have := HL.out.st.lt _ hf; omega
    have HL := Lib.hid (HL.out.below ((Below.refl w3.heap.size w3).alloc (Nat.le_refl _) (.cells (misCells [⟨1, 2, k, ⟨#[]⟩⟩, ⟨3, 2, k, ⟨#[]⟩⟩, ⟨6, 2, 0, ⟨#[]⟩⟩]).toArray 32)))
    clear hb
    go_wp2_with fail
    refine (PlanL HL.out (by decide) w3.heap.size 3 3 [⟨1, 2, k, ⟨#[]⟩⟩, ⟨3, 2, k, ⟨#[]⟩⟩, ⟨6, 2, 0, ⟨#[]⟩⟩] rfl (by decide) (misArg_new w3 _) HNF.out (fun m hm => by
      simp only [List.mem_cons, List.not_mem_nil, or_false] at hm
      rcases hm with rfl | rfl | rfl <;> exact Nat.zero_le _)).mono ?_
    rintro e w4 ⟨rfl, N4, L4⟩
    rw [planned_z0] at L4
    have HL := Lib.hid L4
    clear L4
    go_wp2_with fail
    refine (data_anyS _ _ _).mono ?_
    rintro e w5 ⟨rfl, hb⟩
    have HL := Lib.hid (HL.out.below hb)
    clear hb
    simp only [Page.val, pg]
    go_wp2_with fail
    refine (App0 HL.out 1 b 8 (bapp1 k b HZ.out) (show (0 : Int) ≤ 1000000 from by decide) (show (0 : Int) ≤ 281474976710655 from by decide)).mono ?_
    rintro e w6 ⟨rfl, N6, L6⟩
    have HL := Lib.hid L6
    clear L6
    go_wp2_with fail
    refine (data_anyS _ _ _).mono ?_
    rintro e w7 ⟨rfl, hb⟩
    have HL := Lib.hid (HL.out.below hb)
    clear hb
    simp only [Page.val, pg]
    go_wp2_with fail
    refine (App0 HL.out 2 b 16 (bapp2 k b HZ.out) (show (2 : Int) ≤ 1000000 from by decide) (show (1 : Int) ≤ 281474976710655 from by decide)).mono ?_
    rintro e w8 ⟨rfl, N8, L8⟩
    have HL := Lib.hid L8
    clear L8
    go_wp2_with fail
    refine (data_anyS _ _ _).mono ?_
    rintro e w9 ⟨rfl, hb⟩
    have HL := Lib.hid (HL.out.below hb)
    clear hb
    simp only [Page.val, pg]
    go_wp2_with fail
    refine (App0 HL.out 3 b 17 (bapp3 k b HZ.out) (show (4 : Int) ≤ 1000000 from by decide) (show (2 : Int) ≤ 281474976710655 from by decide)).mono ?_
    rintro e w10 ⟨rfl, N10, L10⟩
    have HL := Lib.hid L10
    clear L10
    go_wp2_with fail
    refine (RetiredL HL.out 2 (badR k b)).mono ?_
    rintro e w11 ⟨rfl, hb⟩
    have HL := Lib.hid (HL.out.below hb)
    clear hb
    go_wp2_with fail
    refine (WornL HL.out false (badW k b)).mono ?_
    rintro e w12 ⟨rfl, hb⟩
    have HL := Lib.hid (HL.out.below hb)
    clear hb
    go_wp2_with fail
    refine (data_anyS _ _ _).mono ?_
    rintro e w13 ⟨rfl, hb⟩
    have HL := Lib.hid (HL.out.below hb)
    clear hb
    simp only [Page.val, pg]
    go_wp2_with fail
    refine (AppE HL.out 4 b 0 61 (bapp4 k b HZ.out) (show (5 : Int) ≤ 1000000 from by decide) (show (3 : Int) ≤ 281474976710655 from by decide)).mono ?_
    rintro e w14 ⟨v1, N14, rfl, L14, m14, e14⟩
    have HL := Lib.hid L14
    have HE := Lib.hid e14
    clear L14 m14 e14
    go_wp2_with fail
    refine (data_anyS _ _ _).mono ?_
    rintro e w15 ⟨rfl, hb⟩
    have HL := Lib.hid (HL.out.below hb)
    have HE := Lib.hid (HE.out.below hb)
    clear hb
    simp only [Page.val, pg]
    go_wp2_with fail
    refine (AppE HL.out 5 b 0 61 (bapp5 k b HZ.out) (show (6 : Int) ≤ 1000000 from by decide) (show (4 : Int) ≤ 281474976710655 from by decide)).mono ?_
    rintro e w16 ⟨v2, N16, rfl, L16, m16, e16⟩
    have HL := Lib.hid L16
    have HE := Lib.hid (ErrW.moved HE.out m16)
    have HF := Lib.hid e16
    clear L16 m16 e16
    go_wp2_with fail
    refine (ReadP HL.out 8 1 1 1 0 b (badA k b) (mayB_seq (p := pg 1 b) (may_pg 1 b (by decide) (by decide) HZ.out) (by decide) (by decide))).mono ?_
    rintro e w17 ⟨rfl, hb⟩
    have hb := hb.trans (((Below.refl w17.heap.size w17).alloc (Nat.le_refl _) (.cells #[.int .i64 1, .int .i64 1, .int .i64 1, .int .i64 0, .string b] 39)).mono hb.size)
    have HL := Lib.hid (HL.out.below hb)
    have HE := Lib.hid (HE.out.below hb)
    have HF := Lib.hid (HF.out.below hb)
    have HP := Lib.hid (Whole.new w17 39 #[.int .i64 1, .int .i64 1, .int .i64 1, .int .i64 0, .string b])
    clear hb
    go_wp2_with fail
    refine (ReadP HL.out 16 1 1 2 1 b (badB k b) (mayB_seq (p := pg 2 b) (may_pg 2 b (by decide) (by decide) HZ.out) (by decide) (by decide))).mono ?_
    rintro e w18 ⟨rfl, hb⟩
    have hb := hb.trans (((Below.refl w18.heap.size w18).alloc (Nat.le_refl _) (.cells #[.int .i64 1, .int .i64 1, .int .i64 2, .int .i64 1, .string b] 39)).mono hb.size)
    have HL := Lib.hid (HL.out.below hb)
    have HE := Lib.hid (HE.out.below hb)
    have HF := Lib.hid (HF.out.below hb)
    have HP := Lib.hid (HP.out.below hb HP.out.lt)
    have HQ := Lib.hid (Whole.new w18 39 #[.int .i64 1, .int .i64 1, .int .i64 2, .int .i64 1, .string b])
    clear hb
    go_wp2_with fail
    refine (ReadP HL.out 17 1 1 3 2 b (badC k b) (mayB_seq (p := pg 3 b) (may_pg 3 b (by decide) (by decide) HZ.out) (by decide) (by decide))).mono ?_
    rintro e w19 ⟨rfl, hb⟩
    have hb := hb.trans (((Below.refl w19.heap.size w19).alloc (Nat.le_refl _) (.cells #[.int .i64 1, .int .i64 1, .int .i64 3, .int .i64 2, .string b] 39)).mono hb.size)
    have HL := Lib.hid (HL.out.below hb)
    have HE := Lib.hid (HE.out.below hb)
    have HF := Lib.hid (HF.out.below hb)
    have HP := Lib.hid (HP.out.below hb HP.out.lt)
    have HQ := Lib.hid (HQ.out.below hb HQ.out.lt)
    have HR := Lib.hid (Whole.new w19 39 #[.int .i64 1, .int .i64 1, .int .i64 3, .int .i64 2, .string b])
    clear hb
    go_wp2_with fail
    refine (code_W _ _ 61 _ _ HE.out HL.out.laid).mono ?_
    rintro e w20 ⟨rfl, hb⟩
    have HL := Lib.hid (HL.out.below hb)
    have HF := Lib.hid (HF.out.below hb)
    have HP := Lib.hid (HP.out.below hb HP.out.lt)
    have HQ := Lib.hid (HQ.out.below hb HQ.out.lt)
    have HR := Lib.hid (HR.out.below hb HR.out.lt)
    clear hb HE
    go_wp2_with fail
    refine (code_W _ _ 61 _ _ HF.out HL.out.laid).mono ?_
    rintro e w21 ⟨rfl, hb⟩
    have HL := Lib.hid (HL.out.below hb)
    have HP := Lib.hid (HP.out.below hb HP.out.lt)
    have HQ := Lib.hid (HQ.out.below hb HQ.out.lt)
    have HR := Lib.hid (HR.out.below hb HR.out.lt)
    clear hb HF
    go_wp2_with fail
    refine (WornL HL.out true (badW4 k b)).mono ?_
    rintro e w22 ⟨rfl, hb⟩
    have HL := Lib.hid (HL.out.below hb)
    have HP := Lib.hid (HP.out.below hb HP.out.lt)
    have HQ := Lib.hid (HQ.out.below hb HQ.out.lt)
    have HR := Lib.hid (HR.out.below hb HR.out.lt)
    clear hb
    go_wp2_with fail
    refine (RetiredL HL.out 3 (badR4 k b)).mono ?_
    rintro e w23 ⟨rfl, hb⟩
    have HL := Lib.hid (HL.out.below hb)
    have HP := Lib.hid (HP.out.below hb HP.out.lt)
    have HQ := Lib.hid (HQ.out.below hb HQ.out.lt)
    have HR := Lib.hid (HR.out.below hb HR.out.lt)
    obtain ⟨⟨_, _, p2, _, _⟩, _⟩ := tmp_cells HP.out
    obtain ⟨⟨_, _, q2, _, _⟩, _⟩ := tmp_cells HQ.out
    obtain ⟨⟨_, _, r2, _, _⟩, _⟩ := tmp_cells HR.out
    clear hb
    go_wp2_with fail
    refine (Ops_any _ _ _ _ HL.out.st.arr).mono ?_
    rintro e w24 ⟨rfl, rfl⟩
    have hop : (c4 k b).n.ops = 6 := rfl
    rw [hop]
    go_wp2_with fail
    go_ret
    exact ⟨rfl, HL.out.bel⟩
end Go.Proofs.YtfacgeappbgldaaGreatDoor.st
