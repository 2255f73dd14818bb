/- NandBad. (By wip/tools/gen_ndv.py.) -/
import Derived.Test.YtfnoojhnhkodaaaDoorNdT
import Derived.Test.YtfnoojhnhkodaaaDoorNdO
import Derived.Deep.DeepCutAuto
namespace Go.Proofs.YtfnoojhnhkodaaaDoor.nd
open Go.RowKit Go.Proofs.YtfnoojhnhkodaaaDoor.er
attribute [local go_sem ↓] Go.wp_at_zero Go.wp_at_succ
set_option linter.unusedVariables false
theorem tmod16 (q : Int) : -16 < q.tmod 16 ∧ q.tmod 16 < 16 := by
  by_cases h : 0 ≤ q
  · rw [Int.tmod_eq_emod_of_nonneg h]
    omega
  · have e : q = -(-q) := by omega
    rw [e, Int.neg_tmod, Int.tmod_eq_emod_of_nonneg (by omega)]
    omega

set_option maxHeartbeats 2000000 in
set_option maxRecDepth 100000 in
theorem bad_a (q : Int) (er : Bool) (a b : ByteArray) (w : World) (hg : LaidT w) (h1 : 128 < a.size) :
    Calls Tryd.prog 6 #[.agg #[.int .i64 q, .bool er], .string a, .string b] w fun e w' => e = .returned (.bool true) ∧ Below w.heap.size w w' := by
  have HB0 : Hid (Below w.heap.size w (w.alloc (.cells #[.int .i64 q, .bool er] 54))) := (Below.refl _ _).alloc (Nat.le_refl _) _
  have HG := Lib.hid (hg.below HB0.out hg.lt)
  have i1 : (128 : Int) < (a.size : Int) := by omega
  clear hg
  go_enter Tryd.func6, Tryd.ntmps6
  go_wp2_with fail
  go_quiet (fail)
  go_wp2_with fail
  have HGq : Hid (LaidT ((w.alloc (.cells #[.int .i64 q, .bool er] 54)).drewN nq)) := HG.out
  refine (awake_yes _ HGq.out).mono ?_
  rintro e w1 ⟨rfl, hb1⟩
  have HB1 := Lib.hid hb1
  clear hb1
  go_wp2_with fail
  go_ret
  exact ⟨rfl, (below_drewN HB0.out nq).trans (HB1.out.mono HB0.out.size)⟩

set_option maxHeartbeats 2000000 in
set_option maxRecDepth 100000 in
theorem bad_b (q : Int) (er : Bool) (a b : ByteArray) (w : World) (hg : LaidT w) (h1 : a.size ≤ 128) (h2 : 128 < b.size) :
    Calls Tryd.prog 6 #[.agg #[.int .i64 q, .bool er], .string a, .string b] w fun e w' => e = .returned (.bool true) ∧ Below w.heap.size w w' := by
  have HB0 : Hid (Below w.heap.size w (w.alloc (.cells #[.int .i64 q, .bool er] 54))) := (Below.refl _ _).alloc (Nat.le_refl _) _
  have HG := Lib.hid (hg.below HB0.out hg.lt)
  have i1 : (a.size : Int) ≤ 128 := by omega
  have i2 : (128 : Int) < (b.size : Int) := by omega
  clear hg
  go_enter Tryd.func6, Tryd.ntmps6
  go_wp2_with fail
  go_quiet (fail)
  go_wp2_with fail
  have HGq : Hid (LaidT ((w.alloc (.cells #[.int .i64 q, .bool er] 54)).drewN nq)) := HG.out
  refine (awake_yes _ HGq.out).mono ?_
  rintro e w1 ⟨rfl, hb1⟩
  have HB1 := Lib.hid hb1
  clear hb1
  go_wp2_with fail
  go_ret
  exact ⟨rfl, (below_drewN HB0.out nq).trans (HB1.out.mono HB0.out.size)⟩

set_option maxHeartbeats 20000000 in
set_option maxRecDepth 100000 in
theorem bad_p (q : Int) (a b : ByteArray) (w : World) (hg : LaidT w) (h1 : a.size ≤ 128) (h2 : b.size ≤ 128) :
    Calls Tryd.prog 6 #[.agg #[.int .i64 q, .bool false], .string a, .string b] w fun e w' => e = .returned (.bool true) ∧ Below w.heap.size w w' := by
  have HB0 : Hid (Below w.heap.size w (w.alloc (.cells #[.int .i64 q, .bool false] 54))) := (Below.refl _ _).alloc (Nat.le_refl _) _
  have HG := Lib.hid (hg.below HB0.out hg.lt)
  have HGL := Lib.hid hg.lt
  have i1 : (a.size : Int) ≤ 128 := by omega
  have i2 : (b.size : Int) ≤ 128 := by omega
  have big1 : a.size ≤ 9223372036854775807 := by omega
  have big2 : b.size ≤ 9223372036854775807 := by omega
  obtain ⟨hq1, hq2⟩ := tmod16 q
  obtain ⟨n, hn⟩ : ∃ n : Nat, n = ((q.tmod 16 + 16) % 16).toNat := ⟨_, rfl⟩
  have hn16 : n < 16 := by omega
  have HN : Hid ((q.tmod 16 + 16) % 16 = (n : Int)) := by show _ = _; omega
  clear hg hn
  go_enter Tryd.func6, Tryd.ntmps6
  go_wp2_with fail
  go_quiet (fail)
  have HGq : Hid (LaidT ((w.alloc (.cells #[.int .i64 q, .bool false] 54)).drewN nq)) := HG.out
  have HBq : Hid (Below w.heap.size w ((w.alloc (.cells #[.int .i64 q, .bool false] 54)).drewN nq)) := below_drewN HB0.out nq
  generalize (w.alloc (.cells #[.int .i64 q, .bool false] 54)).drewN nq = W at *
  go_upto_region 4 with fail
  go_cut [7] (fun v wx => v = .int .i64 (n : Int) ∧ W = wx)
  case first =>
    go_wp2_with fail
    go_meet
    exact ⟨by rw [← HN.out], rfl⟩
  case rest =>
    obtain ⟨rfl, rfl⟩ := hcut
    clear hq1 hq2 HN
    have hn0 : (0 : Int) ≤ (n : Int) := by omega
    have hn1 : (n : Int) < 16 := by omega
    go_wp2_with fail
    refine (plain_any _).mono ?_
    rintro e w1 ⟨rfl, hb1⟩
    have HB1 := Lib.hid (HBq.out.trans (hb1.mono HBq.out.size))
    have HG1 := Lib.hid (HGq.out.below hb1 HGq.out.lt)
    clear hb1
    go_wp2_with fail
    refine (New16 w _ HB1.out HG1.out HGL.out).mono ?_
    rintro e w2 ⟨F2, p, rfl, S2, hb2, hF2⟩
    have HS2 := Lib.hid S2
    have hpn := heql p
    clear S2 hb2 hF2
    go_wp2_with fail
    refine (awake_yes _ HS2.out.laid).mono ?_
    rintro e w3 ⟨rfl, hb3⟩
    have HS3 := Lib.hid (HS2.out.below hb3)
    clear hb3
    go_wp2_with fail
    refine (Prog0 HS3.out (8 * (n : Int)) a (by decide) big1 (by show (fs.program _ a).1 = 0; rw [bad1 n hn16 a h1 _ rfl])).mono ?_
    rintro e w4 ⟨rfl, F4, S4, M4⟩
    have HS4 : Hid (St w w4 F4 p (b1 n a)) := by have := S4; rw [show (freshNand 16 8).program (8 * (n : Int)) a = (0, b1 n a) from bad1 n hn16 a h1 _ rfl] at this; exact this
    clear S4 M4
    have HB4 : Hid (Below w4.heap.size w4 (w4.alloc (.cells (misCells pl3).toArray 44))) := (Below.refl _ _).alloc (Nat.le_refl _) _
    have HS5 := Lib.hid (HS4.out.below HB4.out)
    have HN5 : Hid (¬ F4 w4.heap.size) := fun h => by obtain ⟨_, _, _, hi⟩ := HS4.out.at_; exact absurd (hi.lt _ h) (Nat.lt_irrefl _)
    go_wp2_with fail
    refine (PlanS (s := b1 n a) HS5.out (by show (1 : Int) ≤ 1000000000000000000; decide) w4.heap.size 0 3 3 pl3 rfl (by decide) (misArg_new w4 pl3) HN5.out (by decide)).mono ?_
    rintro e w6 ⟨rfl, F6, S6, M6⟩
    have HS6 : Hid (St w w6 F6 p (b2 n a)) := S6
    clear S6 M6
    go_wp2_with fail
    refine (ProgE HS6.out (8 * (n : Int) + 1) b (by show (1 : Int) ≤ 1000000000000000000; decide) big2 41 (by rw [bad3 n hn16 a b h2 _ rfl]) (by decide)).mono ?_
    rintro e w7 ⟨b7, F7, rfl, S7, M7, E7⟩
    have HS7 : Hid (St w w7 F7 p (b3 n a b)) := by have := S7; rw [bad3 n hn16 a b h2 _ rfl] at this; exact this
    have HE7 := Lib.hid E7
    clear S7 M7 E7
    go_wp2_with fail
    refine (Code_w HE7.out HS7.out.laid).mono ?_
    rintro e w7' ⟨rfl, hb7⟩
    have HS7' := Lib.hid (HS7.out.below hb7)
    clear hb7
    go_wp2_with fail
    refine (Read0 HS7'.out (8 * (n : Int)) a (by rw [read_at (b3 n a b) rfl rfl n 0 hn16 (by decide) (8 * (n : Int)) (by omega), b3_blk n hn16 a b]; rfl)).mono ?_
    rintro e wr0 ⟨rfl, hbr⟩
    have HSr := Lib.hid (HS7'.out.below hbr)
    clear hbr
    go_wp2_with fail
    go_loopw [14] (fun i wr => ∃ k : Nat, k ≤ 16 ∧ i = .int .i64 k ∧ Hid (St w wr F7 p (b3 n a b))) (fun i _ => 16 - (intOf i).toNat)
    case atStart => exact ⟨0, by omega, rfl, HSr.out⟩
    case round =>
      obtain ⟨k, hk, rfl, HSk⟩ := hrel
      by_cases hlt : k < 16
      · have hki : (k : Int) < 16 := by omega
        by_cases hkn : k = n
        · have HBD : Hid ((b3 n a b).badB k = true) := by show _ = _; rw [b3_bad n hn16 a b k hlt, hkn]; simp
          have HKN := Lib.hid hkn
          have t : ((k : Int) == (n : Int)) = true := by rw [beq_iff_eq]; omega
          clear hkn
          go_wp2_with (go_at_call 22; refine (Bad_any _ _ _ _ (k : Int) HSk.out.at_).mono ?_; rw [HBD.out]; rintro e w' ⟨rfl, d, rfl⟩)
          go_roundw
          case rel => exact ⟨k + 1, by omega, by go_num, HSk.out.below (below_drewN (Below.refl _ _) d)⟩
          case measure => simp [intOf]; omega
        · have t : ((k : Int) == (n : Int)) = false := by rw [beq_eq_false_iff_ne]; omega
          have HBD : Hid ((b3 n a b).badB k = false) := by show _ = _; rw [b3_bad n hn16 a b k hlt, t]
          go_wp2_with (go_at_call 22; refine (Bad_any _ _ _ _ (k : Int) HSk.out.at_).mono ?_; rw [HBD.out]; rintro e w' ⟨rfl, d, rfl⟩)
          go_roundw
          case rel => exact ⟨k + 1, by omega, by go_num, HSk.out.below (below_drewN (Below.refl _ _) d)⟩
          case measure => simp [intOf]; omega
      · have hk16 : (16 : Int) ≤ (k : Int) := by omega
        have HNX : Hid ((b3 n a b).next (n : Int) = 2) := by
          show _ = _
          unfold Nand.next Nand.has
          rw [show (b3 n a b).blocks = 16 from rfl, if_pos (by simp; omega)]
          show ((((b3 n a b).blk n).pages.length : Nat) : Int) = 2
          rw [b3_blk n hn16 a b]
          rfl
        have HWN : Hid ((b3 n a b).wornB (n : Int) = 0) := by
          show _ = _
          unfold Nand.wornB Nand.has
          rw [show (b3 n a b).blocks = 16 from rfl, if_pos (by simp; omega)]
          show ((b3 n a b).blk n).worn = 0
          rw [b3_blk n hn16 a b]
        have HPB : Hid ((b3 n a b).program (8 * (n : Int) + 2) a = (41, b3 n a b)) := by
          show _ = _
          rw [program_at (b3 n a b) rfl rfl n 2 hn16 (by decide) (8 * (n : Int) + 2) (by omega) a h1, b3_blk n hn16 a b]
          rfl
        have HEB : Hid ((b3 n a b).erase (n : Int) = (41, b3 n a b)) := by
          show _ = _
          rw [erase_at (b3 n a b) rfl n hn16, b3_blk n hn16 a b]
          rfl
        go_wp2_with fail
        refine (Next_any _ _ _ _ (n : Int) HSk.out.at_).mono ?_
        rw [HNX.out]
        rintro e wx ⟨rfl, d, hWx⟩
        have HSx : Hid (St w wx F7 p (b3 n a b)) := by rw [hWx]; exact HSk.out.below (below_drewN (Below.refl _ _) d)
        clear hWx
        go_wp2_with fail
        refine (ProgE HSx.out (8 * (n : Int) + 2) a (by show (2 : Int) ≤ 1000000000000000000; decide) big1 41 (by rw [HPB.out]) (by decide)).mono ?_
        rintro e wy ⟨by1, Fy, rfl, Sy, My, Ey⟩
        have HSy : Hid (St w wy Fy p (b3 n a b)) := by have := Sy; rw [HPB.out] at this; exact this
        have HEy := Lib.hid Ey
        clear Sy My Ey
        go_wp2_with fail
        refine (Code_w HEy.out HSy.out.laid).mono ?_
        rintro e wz ⟨rfl, hbz⟩
        have HSz := Lib.hid (HSy.out.below hbz)
        clear hbz
        go_wp2_with fail
        refine (ErasE HSz.out (n : Int) (by show (2 : Int) ≤ 1000000000000000000; decide) 41 (by rw [HEB.out]) (by decide)).mono ?_
        rintro e wu ⟨bu, Fu, rfl, Su, Mu, Eu⟩
        have HSu : Hid (St w wu Fu p (b3 n a b)) := by have := Su; rw [HEB.out] at this; exact this
        have HEu := Lib.hid Eu
        clear Su Mu Eu
        go_wp2_with fail
        refine (Code_w HEu.out HSu.out.laid).mono ?_
        rintro e wv ⟨rfl, hbv⟩
        have HSv := Lib.hid (HSu.out.below hbv)
        clear hbv
        go_wp2_with fail
        refine (Worn_any _ _ _ _ (n : Int) HSv.out.at_).mono ?_
        rw [HWN.out]
        rintro e wt ⟨rfl, d', hWt⟩
        have HSt : Hid (St w wt Fu p (b3 n a b)) := by rw [hWt]; exact HSv.out.below (below_drewN (Below.refl _ _) d')
        clear hWt
        go_wp2_with fail
        refine (Down_any _ _ _ _ HSt.out.at_).mono ?_
        rw [show (b3 n a b).down = false from rfl]
        rintro e w' ⟨rfl, rfl⟩
        go_wp2_with fail
        go_ret
        exact ⟨rfl, HSt.out.bel⟩

set_option maxHeartbeats 20000000 in
set_option maxRecDepth 100000 in
theorem bad_e (q : Int) (a b : ByteArray) (w : World) (hg : LaidT w) (h1 : a.size ≤ 128) (h2 : b.size ≤ 128) :
    Calls Tryd.prog 6 #[.agg #[.int .i64 q, .bool true], .string a, .string b] w fun e w' => e = .returned (.bool true) ∧ Below w.heap.size w w' := by
  have HB0 : Hid (Below w.heap.size w (w.alloc (.cells #[.int .i64 q, .bool true] 54))) := (Below.refl _ _).alloc (Nat.le_refl _) _
  have HG := Lib.hid (hg.below HB0.out hg.lt)
  have HGL := Lib.hid hg.lt
  have i1 : (a.size : Int) ≤ 128 := by omega
  have i2 : (b.size : Int) ≤ 128 := by omega
  have big1 : a.size ≤ 9223372036854775807 := by omega
  have big2 : b.size ≤ 9223372036854775807 := by omega
  obtain ⟨hq1, hq2⟩ := tmod16 q
  obtain ⟨n, hn⟩ : ∃ n : Nat, n = ((q.tmod 16 + 16) % 16).toNat := ⟨_, rfl⟩
  have hn16 : n < 16 := by omega
  have HN : Hid ((q.tmod 16 + 16) % 16 = (n : Int)) := by show _ = _; omega
  clear hg hn
  go_enter Tryd.func6, Tryd.ntmps6
  go_wp2_with fail
  go_quiet (fail)
  have HGq : Hid (LaidT ((w.alloc (.cells #[.int .i64 q, .bool true] 54)).drewN nq)) := HG.out
  have HBq : Hid (Below w.heap.size w ((w.alloc (.cells #[.int .i64 q, .bool true] 54)).drewN nq)) := below_drewN HB0.out nq
  generalize (w.alloc (.cells #[.int .i64 q, .bool true] 54)).drewN nq = W at *
  go_upto_region 4 with fail
  go_cut [7] (fun v wx => v = .int .i64 (n : Int) ∧ W = wx)
  case first =>
    go_wp2_with fail
    go_meet
    exact ⟨by rw [← HN.out], rfl⟩
  case rest =>
    obtain ⟨rfl, rfl⟩ := hcut
    clear hq1 hq2 HN
    have hn0 : (0 : Int) ≤ (n : Int) := by omega
    have hn1 : (n : Int) < 16 := by omega
    go_wp2_with fail
    refine (plain_any _).mono ?_
    rintro e w1 ⟨rfl, hb1⟩
    have HB1 := Lib.hid (HBq.out.trans (hb1.mono HBq.out.size))
    have HG1 := Lib.hid (HGq.out.below hb1 HGq.out.lt)
    clear hb1
    go_wp2_with fail
    refine (New16 w _ HB1.out HG1.out HGL.out).mono ?_
    rintro e w2 ⟨F2, p, rfl, S2, hb2, hF2⟩
    have HS2 := Lib.hid S2
    have hpn := heql p
    clear S2 hb2 hF2
    go_wp2_with fail
    refine (awake_yes _ HS2.out.laid).mono ?_
    rintro e w3 ⟨rfl, hb3⟩
    have HS3 := Lib.hid (HS2.out.below hb3)
    clear hb3
    go_wp2_with fail
    refine (Prog0 HS3.out (8 * (n : Int)) a (by decide) big1 (by show (fs.program _ a).1 = 0; rw [bad1 n hn16 a h1 _ rfl])).mono ?_
    rintro e w4 ⟨rfl, F4, S4, M4⟩
    have HS4 : Hid (St w w4 F4 p (b1 n a)) := by have := S4; rw [show (freshNand 16 8).program (8 * (n : Int)) a = (0, b1 n a) from bad1 n hn16 a h1 _ rfl] at this; exact this
    clear S4 M4
    have HB4 : Hid (Below w4.heap.size w4 (w4.alloc (.cells (misCells pl3).toArray 44))) := (Below.refl _ _).alloc (Nat.le_refl _) _
    have HS5 := Lib.hid (HS4.out.below HB4.out)
    have HN5 : Hid (¬ F4 w4.heap.size) := fun h => by obtain ⟨_, _, _, hi⟩ := HS4.out.at_; exact absurd (hi.lt _ h) (Nat.lt_irrefl _)
    go_wp2_with fail
    refine (PlanS (s := b1 n a) HS5.out (by show (1 : Int) ≤ 1000000000000000000; decide) w4.heap.size 0 3 3 pl3 rfl (by decide) (misArg_new w4 pl3) HN5.out (by decide)).mono ?_
    rintro e w6 ⟨rfl, F6, S6, M6⟩
    have HS6 : Hid (St w w6 F6 p (b2 n a)) := S6
    clear S6 M6
    go_wp2_with fail
    refine (Eras0 HS6.out (((n : Int) + 1) % 16) (by show (1 : Int) ≤ 1000000000000000000; decide) (by rw [era3 n hn16 a _ rfl])).mono ?_
    rintro e w7 ⟨rfl, F7, S7, M7⟩
    have HS7 : Hid (St w w7 F7 p (c3 n a)) := by have := S7; rw [era3 n hn16 a _ rfl] at this; exact this
    clear S7 M7
    go_wp2_with fail
    refine (ErasE HS7.out (n : Int) (by show (2 : Int) ≤ 1000000000000000000; decide) 41 (by rw [era4 n hn16 a]) (by decide)).mono ?_
    rintro e w8 ⟨b8, F8, rfl, S8, M8, E8⟩
    have HS8 : Hid (St w w8 F8 p (c4 n a)) := by have := S8; rw [era4 n hn16 a] at this; exact this
    have HE8 := Lib.hid E8
    clear S8 M8 E8
    go_wp2_with fail
    refine (Code_w HE8.out HS8.out.laid).mono ?_
    rintro e w8' ⟨rfl, hb8⟩
    have HS8' := Lib.hid (HS8.out.below hb8)
    clear hb8
    go_wp2_with fail
    refine (Read0 HS8'.out (8 * (n : Int)) a (by rw [read_at (c4 n a) rfl rfl n 0 hn16 (by decide) (8 * (n : Int)) (by omega), c4_blk n hn16 a]; rfl)).mono ?_
    rintro e wr0 ⟨rfl, hbr⟩
    have HSr := Lib.hid (HS8'.out.below hbr)
    clear hbr
    go_wp2_with fail
    go_loopw [14] (fun i wr => ∃ k : Nat, k ≤ 16 ∧ i = .int .i64 k ∧ Hid (St w wr F8 p (c4 n a))) (fun i _ => 16 - (intOf i).toNat)
    case atStart => exact ⟨0, by omega, rfl, HSr.out⟩
    case round =>
      obtain ⟨k, hk, rfl, HSk⟩ := hrel
      by_cases hlt : k < 16
      · have hki : (k : Int) < 16 := by omega
        by_cases hkn : k = n
        · have HBD : Hid ((c4 n a).badB k = true) := by show _ = _; rw [c4_bad n hn16 a k hlt, hkn]; simp
          have HKN := Lib.hid hkn
          have t : ((k : Int) == (n : Int)) = true := by rw [beq_iff_eq]; omega
          clear hkn
          go_wp2_with (go_at_call 22; refine (Bad_any _ _ _ _ (k : Int) HSk.out.at_).mono ?_; rw [HBD.out]; rintro e w' ⟨rfl, d, rfl⟩)
          go_roundw
          case rel => exact ⟨k + 1, by omega, by go_num, HSk.out.below (below_drewN (Below.refl _ _) d)⟩
          case measure => simp [intOf]; omega
        · have t : ((k : Int) == (n : Int)) = false := by rw [beq_eq_false_iff_ne]; omega
          have HBD : Hid ((c4 n a).badB k = false) := by show _ = _; rw [c4_bad n hn16 a k hlt, t]
          go_wp2_with (go_at_call 22; refine (Bad_any _ _ _ _ (k : Int) HSk.out.at_).mono ?_; rw [HBD.out]; rintro e w' ⟨rfl, d, rfl⟩)
          go_roundw
          case rel => exact ⟨k + 1, by omega, by go_num, HSk.out.below (below_drewN (Below.refl _ _) d)⟩
          case measure => simp [intOf]; omega
      · have hk16 : (16 : Int) ≤ (k : Int) := by omega
        have HNX : Hid ((c4 n a).next (n : Int) = 1) := by
          show _ = _
          unfold Nand.next Nand.has
          rw [show (c4 n a).blocks = 16 from rfl, if_pos (by simp; omega)]
          show ((((c4 n a).blk n).pages.length : Nat) : Int) = 1
          rw [c4_blk n hn16 a]
          rfl
        have HWN : Hid ((c4 n a).wornB (n : Int) = 0) := by
          show _ = _
          unfold Nand.wornB Nand.has
          rw [show (c4 n a).blocks = 16 from rfl, if_pos (by simp; omega)]
          show ((c4 n a).blk n).worn = 0
          rw [c4_blk n hn16 a]
        have HPB : Hid ((c4 n a).program (8 * (n : Int) + 1) a = (41, c4 n a)) := by
          show _ = _
          rw [program_at (c4 n a) rfl rfl n 1 hn16 (by decide) (8 * (n : Int) + 1) (by omega) a h1, c4_blk n hn16 a]
          rfl
        have HEB : Hid ((c4 n a).erase (n : Int) = (41, c4 n a)) := by
          show _ = _
          rw [erase_at (c4 n a) rfl n hn16, c4_blk n hn16 a]
          rfl
        go_wp2_with fail
        refine (Next_any _ _ _ _ (n : Int) HSk.out.at_).mono ?_
        rw [HNX.out]
        rintro e wx ⟨rfl, d, hWx⟩
        have HSx : Hid (St w wx F8 p (c4 n a)) := by rw [hWx]; exact HSk.out.below (below_drewN (Below.refl _ _) d)
        clear hWx
        go_wp2_with fail
        refine (ProgE HSx.out (8 * (n : Int) + 1) a (by show (3 : Int) ≤ 1000000000000000000; decide) big1 41 (by rw [HPB.out]) (by decide)).mono ?_
        rintro e wy ⟨by1, Fy, rfl, Sy, My, Ey⟩
        have HSy : Hid (St w wy Fy p (c4 n a)) := by have := Sy; rw [HPB.out] at this; exact this
        have HEy := Lib.hid Ey
        clear Sy My Ey
        go_wp2_with fail
        refine (Code_w HEy.out HSy.out.laid).mono ?_
        rintro e wz ⟨rfl, hbz⟩
        have HSz := Lib.hid (HSy.out.below hbz)
        clear hbz
        go_wp2_with fail
        refine (ErasE HSz.out (n : Int) (by show (3 : Int) ≤ 1000000000000000000; decide) 41 (by rw [HEB.out]) (by decide)).mono ?_
        rintro e wu ⟨bu, Fu, rfl, Su, Mu, Eu⟩
        have HSu : Hid (St w wu Fu p (c4 n a)) := by have := Su; rw [HEB.out] at this; exact this
        have HEu := Lib.hid Eu
        clear Su Mu Eu
        go_wp2_with fail
        refine (Code_w HEu.out HSu.out.laid).mono ?_
        rintro e wv ⟨rfl, hbv⟩
        have HSv := Lib.hid (HSu.out.below hbv)
        clear hbv
        go_wp2_with fail
        refine (Worn_any _ _ _ _ (n : Int) HSv.out.at_).mono ?_
        rw [HWN.out]
        rintro e wt ⟨rfl, d', hWt⟩
        have HSt : Hid (St w wt Fu p (c4 n a)) := by rw [hWt]; exact HSv.out.below (below_drewN (Below.refl _ _) d')
        clear hWt
        go_wp2_with fail
        refine (Down_any _ _ _ _ HSt.out.at_).mono ?_
        rw [show (c4 n a).down = false from rfl]
        rintro e w' ⟨rfl, rfl⟩
        go_wp2_with fail
        go_ret
        exact ⟨rfl, HSt.out.bel⟩
end Go.Proofs.YtfnoojhnhkodaaaDoor.nd
