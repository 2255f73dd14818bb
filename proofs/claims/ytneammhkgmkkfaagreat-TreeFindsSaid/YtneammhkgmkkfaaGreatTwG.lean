/- The law TreeFinds, walked. -/
import Derived.Test.YtneammhkgmkkfaaGreatTwA
import Derived.Test.YtneammhkgmkkfaaGreatTwD
import Derived.Test.YtneammhkgmkkfaaGreatTwE
import Derived.Test.YtneammhkgmkkfaaGreatTwF
namespace Go.Proofs.YtneammhkgmkkfaaGreat.tr
open Go.RowKit Go.Proofs.YtneammhkgmkkfaaGreat.er
set_option linter.unusedVariables false
set_option linter.unusedSimpArgs false

theorem eqIn_say (d : Nat) (a b : Int) (w : World) : (Op.equalIn (d + 2) 47 (.agg #[.int .i64 a, .int .i64 b]) (.agg #[.int .i64 a, .int .i64 b])).run Tryz.prog w = .ok true w := by
  rw [run_equalIn_agg w (d + 1) 47 _ _ (by kernel_rfl) (by kernel_rfl)]
  simp only [Program.fieldsOf, Tryz.underlying47]
  go_simp
theorem neq_say (a b : Int) (w : World) : (binOp .neq 47 (.agg #[.int .i64 a, .int .i64 b]) (.agg #[.int .i64 a, .int .i64 b])).run Tryz.prog w = .ok (.bool false) w := by
  have h := eqIn_say 9998 a b w
  simp [binOp, Op.equal, Op.maxDepth, h]
theorem gt_say : Tryz.prog.eqGuardType Tryz.prog.depth 47 = false := by kernel_rfl
set_option maxHeartbeats 4000000 in
set_option maxRecDepth 100000 in
theorem lawFinds_any (w : World) (v : Value) (L : List Act) (s n : Int) (h : ActsAt w v L) (hs : -9223372036854775808 ≤ s) (hs2 : s ≤ 9223372036854775807) :
    Calls Tryz.prog 5 #[v, .int .i64 s, .int .i64 n] w fun x w' => x = .returned (.bool true) ∧ Below w.heap.size w w' := by
  have HBU : Hid (Calls Tryz.prog 12 #[v, .int .i64 150] w fun x w' => ∃ p A m c T, x = .returned (.tuple #[.pointer (some ⟨p, 0, none⟩), .slice A m c]) ∧ St w w' p T (.slice A m c) T.flat) := built_any w v L 150 (by omega) h
  have HAW := Lib.hid (fun wq => awake_any wq)
  obtain ⟨A, c, rfl, hb, hc⟩ := h
  obtain ⟨M, hM⟩ : ∃ M, L.length = M := ⟨_, rfl⟩
  rw [hM] at HBU ⊢
  clear hc hM hb
  go_enter Tryz.func5, Tryz.ntmps5
  go_wp2_with fail
  with_reducible refine HBU.out.mono ?_
  rintro e w1 ⟨p, B, m, d, T, rfl, hs1⟩
  have HS1 := Lib.hid hs1
  clear hs1 HBU
  go_wp2_with fail
  with_reducible refine (HAW.out _).mono ?_
  rintro e w2 ⟨rfl, hb2⟩
  have hst := HS1.out.below hb2
  clear hb2 HS1 HAW
  have hm := st_len hst
  have hll := (st_cnt hst).2.1
  have hex := hst.exts
  have HF : Hid (∀ wq, Below w2.heap.size w2 wq → Below w.heap.size w wq) := fun wq hb => (hst.below hb).1.toBelow (Nat.le_refl _) (fun _ h => h.elim)
  obtain ⟨_, k2, k3, k4, F, k5, _, ⟨B7, k7⟩, _⟩ := hst
  have hTR : ∀ wq, Below w2.heap.size w2 wq → TrAt wq F p T := fun wq hb => k5.keep (Keep.below (F := fun _ => False) hb) (fun _ _ h => h)
  have HTF : Hid (Calls Tryz.prog 22 #[.pointer (some ⟨p, 0, none⟩), .int .i64 s] w2 fun x w' => x = .returned (.tuple #[.int .i64 (findL T.flat s).1, .int .i64 (findL T.flat s).2]) ∧ Below w2.heap.size w2 w') := tfind_any w2 F p T s k5 k2 k3 hs hs2
  have HRF : Hid (∀ wq, Below w2.heap.size w2 wq → Calls Tryz.prog 23 #[.slice B m d, .int .i64 s] wq fun x w' => x = .returned (.agg #[.int .i64 (findL T.flat s).1, .int .i64 (findL T.flat s).2]) ∧ Below wq.heap.size wq w') := fun wq hb => rfind_any _ _ s wq (hex.below hb) k4.one hll hs hs2
  have HCN : Hid (∀ wq, Below w2.heap.size w2 wq → Calls Tryz.prog 17 #[.pointer (some ⟨p, 0, none⟩)] wq fun x w' => x = .returned (.int .i64 (sumN T.flat)) ∧ Below wq.heap.size wq w') := fun wq hb => tcount_any wq F p T (hTR wq hb) k2 k3
  have HRA : Hid (∀ wq, Calls Tryz.prog 25 #[.int .i64 s, .int .i64 n] wq fun x w' => x = .returned (.bool (spanB s n)) ∧ wq = w') := fun wq => range_any s n wq
  have HSU : Hid (0 ≤ sumN T.flat ∧ sumN T.flat ≤ 16777216) := sum_chk k3
  have HST : Hid (∀ (j : Nat) (e : Ext), T.flat[j]? = some e → sumN (T.flat.take (j + 1)) = sumN (T.flat.take j) + e.n ∧ 0 ≤ sumN (T.flat.take j) ∧ sumN (T.flat.take j) ≤ 16777216 ∧ 0 ≤ e.n ∧ e.n ≤ 16777216) := fun j e he => ⟨sum_take he, (sum_chk (take_chk k3 j)).1, (sum_chk (take_chk k3 j)).2, by have := one_spec (k3.one e (List.mem_of_getElem? he)); omega, by have := one_spec (k3.one e (List.mem_of_getElem? he)); omega⟩
  have hgt := gt_say
  have HML : Hid (T.flat.length = m) := hm.symm
  have hmi : (m : Int) ≤ 16777216 := by omega
  have HCC : Hid (∀ wq, Below w2.heap.size w2 wq → 0 < m → ∃ g o, B = some ⟨g, o, none⟩ ∧ ∀ (j : Nat) (e : Ext), T.flat[j]? = some e → ExtAt wq g (o + j * 4) e) := by
    intro wq hb h0
    obtain ⟨A8, c8, hv, hcell⟩ := hex.below hb
    injection hv with hv1 hv2 hv3
    rw [hv1]
    exact hcell (by rw [← hv2]; exact h0)
  have HCB : Hid (spanB s n = false → ∀ wq, Calls Tryz.prog 24 #[.pointer (some ⟨p, 0, none⟩), .int .i64 s, .int .i64 n] wq fun x w' => x = .returned (.tuple #[.slice none 0 0, .int .i64 1]) ∧ Below wq.heap.size wq w') := fun h wq => tclip_bad wq p s n h
  have HCG : Hid (spanB s n = true → ∀ wq, Below w2.heap.size w2 wq → Calls Tryz.prog 24 #[.pointer (some ⟨p, 0, none⟩), .int .i64 s, .int .i64 n] wq fun x w' => ∃ A m c, x = .returned (.tuple #[.slice A m c, .int .i64 0]) ∧ ExtsAt w' (.slice A m c) (parts T.flat s (s + n)) ∧ Below w2.heap.size w2 w') := by
    intro h wq hb
    refine (tclip_any wq F p T s n (hTR wq hb) k2 k3 h).mono ?_
    rintro x w' ⟨v', rfl, q1, q2⟩
    obtain ⟨A, c, rfl⟩ := own_slice q1
    exact ⟨A, _, c, rfl, (ExtsAt.own q1).1, bel_tr hb q2⟩
  have HO1 : Hid (spanB s n = true → ∀ wq, Below w2.heap.size w2 wq → Calls Tryz.prog 26 #[.slice B m d, .agg #[.int .i64 0, .int .i64 s, .int .i64 0, .int .i64 0], .bool true] wq fun x w' => ∃ A m c, x = .returned (.slice A m c) ∧ ExtsAt w' (.slice A m c) (cutL T.flat 0 s) ∧ Below wq.heap.size wq w') := by
    intro h wq hb
    obtain ⟨s1, s2, s3⟩ := span_spec h
    refine (rover_cut T.flat (.slice B m d) ⟨0, s, 0, 0⟩ wq (hex.below hb) hll k4.one (by show (0 : Int) ≤ 0; omega) s1 (by show (0 : Int) + s ≤ _; omega)).mono ?_
    rintro x w' ⟨A, m, c, rfl, h1, h2⟩
    refine ⟨A, m, c, rfl, ?_, h2⟩
    have e : cutL T.flat 0 s = (parts T.flat (0 + s) 16777216).foldl push ((parts T.flat 0 0).foldl push []) := by unfold cutL tidy; simp [List.foldl_append]
    rw [e]; exact (ExtsAt.ownT h1.own).1
  have HO2 : Hid (spanB s n = true → ∀ wq A m c, ExtsAt wq (.slice A m c) (cutL T.flat 0 s) → Calls Tryz.prog 26 #[.slice A m c, .agg #[.int .i64 (s + n), .int .i64 (16777216 - s - n), .int .i64 0, .int .i64 0], .bool true] wq fun x w' => ∃ A m c, x = .returned (.slice A m c) ∧ ExtsAt w' (.slice A m c) (parts T.flat s (s + n)) ∧ Below wq.heap.size wq w') := by
    intro h wq A m c hx
    obtain ⟨s1, s2, s3⟩ := span_spec h
    have hc1 : Chk (cutL T.flat 0 s) := cut_chk k3 (by omega) s1 (by omega)
    refine (rover_cut (cutL T.flat 0 s) (.slice A m c) ⟨s + n, 16777216 - s - n, 0, 0⟩ wq hx (chk_len hc1) hc1.one (by show (0 : Int) ≤ s + n; omega) (by show (0 : Int) ≤ 16777216 - s - n; omega) (by show s + n + (16777216 - s - n) ≤ _; omega)).mono ?_
    rintro x w' ⟨A, m, c, rfl, h1, h2⟩
    refine ⟨A, m, c, rfl, ?_, h2⟩
    rw [← clip_cuts k3 s1 s2 s3]
    have e : cutL (cutL T.flat 0 s) (s + n) (16777216 - s - n) = (parts (cutL T.flat 0 s) (s + n + (16777216 - s - n)) 16777216).foldl push ((parts (cutL T.flat 0 s) 0 (s + n)).foldl push []) := by unfold cutL tidy; simp [List.foldl_append]
    rw [e]; exact (ExtsAt.ownT h1.own).1
  have HPL : Hid ((parts T.flat s (s + n)).length ≤ 16777216) := Nat.le_trans (parts_len _ _ _) hll
  have HREF : Hid (∀ wq v, ExtsAt wq v (parts T.flat s (s + n)) → Calls Tryz.prog 28 #[v] wq fun x w' => ∃ A m c, x = .returned (.slice A m c) ∧ ExtsAt w' (.slice A m c) (parts T.flat s (s + n)) ∧ Below wq.heap.size wq w') := by
    intro wq v hv
    refine (refs_any _ v wq hv HPL.out).mono ?_
    rintro x w' ⟨A', m', c', rfl, q1, q2⟩
    exact ⟨A', m', c', rfl, (ExtsAt.ownT q1).1, q2⟩
  have HSE : Hid (∀ wq v v', ExtsAt wq v (parts T.flat s (s + n)) → ExtsAt wq v' (parts T.flat s (s + n)) → Calls Tryz.prog 27 #[v, v'] wq fun x w' => x = .returned (.bool true) ∧ Below wq.heap.size wq w') := fun wq v v' hv hv' => sameExts_any _ v v' wq hv hv' HPL.out
  have HSP : Hid (spanB s n = true → 0 ≤ s ∧ 0 ≤ n ∧ s + n ≤ 16777216) := fun h => span_spec h
  obtain ⟨fa, hfa⟩ : ∃ fa, (findL T.flat s).1 = fa := ⟨_, rfl⟩
  obtain ⟨fb, hfb⟩ : ∃ fb, (findL T.flat s).2 = fb := ⟨_, rfl⟩
  rw [hfa, hfb] at HTF HRF
  have hneq := neq_say fa fb
  have HT0 : Hid (sumN (T.flat.take 0) = 0) := rfl
  have HTN : Hid (sumN (T.flat.take m) = sumN T.flat) := by show _ = _; rw [← HML.out, List.take_length]
  clear hm hll hex k2 k3 k4 k5 k7 hTR hfa hfb
  go_wp2_with fail
  with_reducible refine HTF.out.mono ?_
  rintro e w3 ⟨rfl, hb3⟩
  have HB3 := Lib.hid hb3
  clear hb3 HTF
  go_wp2_with fail
  with_reducible refine (HRF.out _ HB3.out).mono ?_
  rintro e w4 ⟨rfl, hb4⟩
  have HB4 := Lib.hid (bel_tr HB3.out hb4)
  clear hb4 HRF HB3
  go_wp2_with fail
  go_loopw [11, 12] (fun s11 s12 wr => wr = w4 ∧ ∃ j : Nat, j ≤ m ∧ s12 = .int .i64 j ∧ s11 = .int .i64 (sumN (T.flat.take j))) (fun _ s12 _ => m - (intOf s12).toNat)
  case atStart => exact ⟨rfl, 0, Nat.zero_le _, rfl, by rw [HT0.out]⟩
  case round =>
    obtain ⟨rfl, j, hj, rfl, rfl⟩ := hrel
    by_cases hlt : j < m
    · have hji : (j : Int) < (m : Int) := by omega
      obtain ⟨g, o, rfl, hcc⟩ := HCC.out _ HB4.out (by omega)
      obtain ⟨x, hx'⟩ : ∃ x, T.flat[j]? = some x := ⟨_, List.getElem?_eq_getElem (by rw [HML.out]; exact hlt)⟩
      obtain ⟨c0, c1, c2, c3⟩ := hcc j x hx'
      obtain ⟨t1, b1, b2, b3, b4⟩ := HST.out j x hx'
      have HS := Lib.hid t1
      obtain ⟨SJ, hSJ⟩ : ∃ SJ, sumN (T.flat.take j) = SJ := ⟨_, rfl⟩
      rw [hSJ] at HS b1 b2
      rw [hSJ]
      obtain ⟨f, en, k, t⟩ := x
      simp only at c0 c1 c2 c3 HS b3 b4
      clear hcc hx' hSJ t1
      go_wp2_with fail
      go_roundw
      case rel => exact ⟨trivial, j + 1, by omega, by go_num, by rw [HS.out]⟩
      case measure => simp [intOf]; omega
    · obtain rfl : j = m := by omega
      rw [HTN.out]
      obtain ⟨SN, hSN⟩ : ∃ SN, sumN T.flat = SN := ⟨_, rfl⟩
      rw [hSN] at HCN HSU HTN ⊢
      cases hsp : spanB s n with
      | false =>
        have HC := Lib.hid (HCB.out hsp wr)
        have HRA2 : Hid (∀ wq, Calls Tryz.prog 25 #[.int .i64 s, .int .i64 n] wq fun x w' => x = .returned (.bool false) ∧ wq = w') := by show ∀ wq, _; rw [← hsp]; exact HRA.out
        clear hsp hSN
        go_wp2_with fail
        with_reducible refine HC.out.mono ?_
        rintro e w5 ⟨rfl, hb5⟩
        have HB5 := Lib.hid (bel_tr HB4.out hb5)
        clear hb5
        go_wp2_with fail
        with_reducible refine (HRA2.out _).mono ?_
        rintro e w6 ⟨rfl, rfl⟩
        go_wp2_with fail
        with_reducible refine (HCN.out _ HB5.out).mono ?_
        rintro e w7 ⟨rfl, hb7⟩
        have HB7 := Lib.hid (bel_tr HB5.out hb7)
        clear hb7
        go_wp2_with fail
        go_ret
        exact ⟨rfl, HF.out _ HB7.out⟩
      | true =>
        obtain ⟨s1, s2, s3⟩ := HSP.out hsp
        have s4 : s ≤ 16777216 := by omega
        have s5 : n ≤ 16777216 := by omega
        have HC := Lib.hid (HCG.out hsp wr HB4.out)
        have HO1' := Lib.hid (HO1.out hsp)
        have HO2' := Lib.hid (HO2.out hsp)
        have HRA2 : Hid (∀ wq, Calls Tryz.prog 25 #[.int .i64 s, .int .i64 n] wq fun x w' => x = .returned (.bool true) ∧ wq = w') := by show ∀ wq, _; rw [← hsp]; exact HRA.out
        clear hsp hSN
        go_wp2_with fail
        with_reducible refine HC.out.mono ?_
        rintro e w5 ⟨A5, m5, c5, rfl, hx5, hb5⟩
        have HX5 := Lib.hid hx5
        have HB5 := Lib.hid hb5
        clear hb5 hx5
        go_wp2_with fail
        with_reducible refine (HRA2.out _).mono ?_
        rintro e w6 ⟨rfl, rfl⟩
        go_wp2_with fail
        with_reducible refine (HO1'.out _ HB5.out).mono ?_
        rintro e w7 ⟨A7, m7, c7, rfl, hx7, hb7⟩
        have HX7 := Lib.hid hx7
        have HX57 := Lib.hid (HX5.out.below hb7)
        have HB7 := Lib.hid (bel_tr HB5.out hb7)
        clear hb7 hx7
        go_wp2_with fail
        with_reducible refine (HO2'.out _ _ _ _ HX7.out).mono ?_
        rintro e w8 ⟨A8, m8, c8, rfl, hx8, hb8⟩
        have HX8 := Lib.hid hx8
        have HX58 := Lib.hid (HX57.out.below hb8)
        have HB8 := Lib.hid (bel_tr HB7.out hb8)
        clear hb8 hx8
        go_wp2_with fail
        with_reducible refine (HREF.out _ _ HX58.out).mono ?_
        rintro e w9 ⟨A9, m9, c9, rfl, hx9, hb9⟩
        have HX9 := Lib.hid hx9
        have HX89 := Lib.hid (HX8.out.below hb9)
        have HB9 := Lib.hid (bel_tr HB8.out hb9)
        clear hb9 hx9
        go_wp2_with fail
        with_reducible refine (HSE.out _ _ _ HX9.out HX89.out).mono ?_
        rintro e w10 ⟨rfl, hb10⟩
        have HB10 := Lib.hid (bel_tr HB9.out hb10)
        clear hb10
        go_wp2_with fail
        with_reducible refine (HCN.out _ HB10.out).mono ?_
        rintro e w11 ⟨rfl, hb11⟩
        have HB11 := Lib.hid (bel_tr HB10.out hb11)
        clear hb11
        go_wp2_with fail
        go_ret
        exact ⟨rfl, HF.out _ HB11.out⟩
end Go.Proofs.YtneammhkgmkkfaaGreat.tr
