/- The law TreePlays, walked. -/
import Derived.Test.YtneammhkgmkkfaaGreatTvF
namespace Go.Proofs.YtneammhkgmkkfaaGreat.tr
open Go.RowKit Go.Proofs.YtneammhkgmkkfaaGreat.er
set_option linter.unusedVariables false
set_option linter.unusedSimpArgs false

theorem pl_new (w : World) : PlI w ((w.alloc (.cells #[.nilIface] 80)).alloc (.cells #[.slice none 0 0] 60)) w.heap.size (w.heap.size + 1) .no (.slice none 0 0) [] := by
  have b1 : Whole ((w.alloc (.cells #[.nilIface] 80)).alloc (.cells #[.slice none 0 0] 60)) (w.heap.size + 1) 60 #[.slice none 0 0] := Whole.new' _ _ _ _ (by simp)
  refine ⟨((Keep.refl _ _).alloc _).alloc _, trivial, chk_nil, ⟨List.nodup_nil, fun a ha => by simp [Tree.nfs] at ha⟩, [w.heap.size], fun k => k = w.heap.size + 1 ∨ (Value.slice none 0 0).ownBlock = some k, ⟨rfl, (Whole.new w _ _).alloc _⟩, by simp, ⟨_, b1, ⟨rfl, .inl ⟨rfl, rfl⟩⟩, fun k => Iff.rfl⟩, fun k hk => ?_, fun k hk hg => ?_, ⟨0, RL.nil _ _⟩, by simp [Value.ownBlock]⟩
  · rcases hk with rfl | hk
    · omega
    · cases hk
  · have e : k = w.heap.size := by simpa using hk
    rcases hg with hg | hg
    · omega
    · cases hg
set_option maxHeartbeats 8000000 in
set_option maxRecDepth 100000 in
theorem lawPlays_any (w : World) (v : Value) (L0 : List Act) (h : ActsAt w v L0) :
    Calls Tryz.prog 8 #[v] w fun x w' => x = .returned (.bool true) ∧ Below w.heap.size w w' := by
  have HAW := Lib.hid (fun wq => awake_any wq)
  obtain ⟨A, c, rfl, hb, hc⟩ := h
  have HC := Lib.hid hc
  obtain ⟨M, hM⟩ : ∃ M, L0.length = M := ⟨_, rfl⟩
  rw [hM] at hb HC ⊢
  have HM := Lib.hid hM
  have hMi : (M : Int) ≤ 9223372036854775807 := by omega
  have HNEW := Lib.hid (new_any w)
  have HPN := Lib.hid (pl_new w)
  have HFIN : Hid (∀ wr p bb T rv L, PlI w wr p bb T rv L → Below w.heap.size w wr) := fun wr p bb T rv L hs => hs.1.toBelow (Nat.le_refl _) (fun _ h => h.elim)
  clear hc hM
  go_enter Tryz.func8, Tryz.ntmps8
  go_wp2_with fail
  with_reducible refine HNEW.out.mono ?_
  rintro e w1 ⟨rfl, rfl⟩
  go_wp2_with fail
  obtain ⟨w2, hw2⟩ : ∃ w2, (w.alloc (.cells #[.nilIface] 80)).alloc (.cells #[.slice none 0 0] 60) = w2 := ⟨_, rfl⟩
  rw [hw2]
  have HP2 : Hid (PlI w w2 w.heap.size (w.heap.size + 1) .no (.slice none 0 0) []) := by show PlI _ _ _ _ _ _ _; rw [← hw2]; exact HPN.out
  clear hw2 HPN HNEW
  obtain ⟨p, hp⟩ : ∃ p, w.heap.size = p := ⟨_, rfl⟩
  obtain ⟨bb, hbb⟩ : ∃ bb, w.heap.size + 1 = bb := ⟨_, rfl⟩
  rw [hbb] at HP2 ⊢
  rw [hp] at HP2 ⊢
  clear hp hbb
  with_reducible refine (HAW.out _).mono ?_
  rintro e w3 ⟨rfl, hb3⟩
  have HP3 := Lib.hid (HP2.out.below hb3)
  clear hb3 HP2 HAW
  go_wp2_with fail
  go_loopw [5, 6, 7, 8] (fun s5 s6 s7 s8 wr => ∃ (j : Nat) (T : Tree) (B : Option Addr) (m d : Nat) (L : Bk), j ≤ M ∧ j ≤ 150 ∧ s6 = .int .i64 j ∧ s5 = .slice B m d ∧ Hid (PlI w wr p bb T (.slice B m d) L) ∧ T.flat.length ≤ 2 * j ∧ L.length ≤ 1100) (fun _ s6 _ _ _ => M - (intOf s6).toNat)
  case atStart => exact ⟨0, .no, none, 0, 0, [], Nat.zero_le _, Nat.zero_le _, rfl, rfl, HP3, Nat.le_refl _, Nat.zero_le _⟩
  case round =>
    obtain ⟨j, T, B, m, d, L, hjM, hjN, rfl, rfl, HS, hfl, hLL⟩ := hrel
    by_cases h1 : j < M
    · have h1i : (j : Int) < (M : Int) := by omega
      by_cases h2 : j < 150
      · have h2i : (j : Int) < 150 := by omega
        obtain ⟨g, o, rfl, hcell⟩ := HC.out (by omega)
        have hjl : j < L0.length := by rw [HM.out]; exact h1
        obtain ⟨a, ha⟩ : ∃ a, L0[j]? = some a := ⟨_, List.getElem?_eq_getElem hjl⟩
        obtain ⟨a1, a2, a3, a4, a5, a6, a7⟩ := hcell j a ha
        have hk := HS.out.1
        have d1 := hk.cell a1 (fun h => h)
        have d2 := hk.cell a2 (fun h => h)
        have d3 := hk.cell a3 (fun h => h)
        have d4 := hk.cell a4 (fun h => h)
        have d5 := hk.cell a5 (fun h => h)
        have d6 := hk.cell a6 (fun h => h)
        have d7 := hk.cell a7 (fun h => h)
        have HA1 := Lib.hid a1
        have HA7 := Lib.hid a7
        have HCALL := Lib.hid (pl_step HS.out a)
        have hfl2 : (a.tree T).flat.length ≤ 2 * (j + 1) := by
          rw [act_flat a HS.out.2.1 HS.out.2.2.1]
          have := act_len a HS.out.2.2.1
          omega
        obtain ⟨T2, hT2⟩ : ∃ T2, a.tree T = T2 := ⟨_, rfl⟩
        rw [hT2] at HCALL hfl2
        obtain ⟨k, ⟨f, en, ek, et⟩, fr, n⟩ := a
        simp only at d1 d2 d3 d4 d5 d6 d7 HA1 HA7
        simp only [Act.val] at HCALL
        clear a1 a2 a3 a4 a5 a6 a7 hcell ha hk hT2
        go_wp2_with fail
        with_reducible refine HCALL.out.mono ?_
        rintro e w5 ⟨A5, m5, c5, rfl, hs5⟩
        have HS5 := Lib.hid hs5
        have e1 := hs5.1.cell HA1.out (fun h => h)
        have e7 := hs5.1.cell HA7.out (fun h => h)
        obtain ⟨bA, bc, hbk⟩ := hs5.book
        have HCNT : Hid (T2.fr ≤ 101 ∧ T2.cnt ≤ 16777216) := by
          have q1 := fr_le T2
          have q2 := cnt_le hs5.2.1
          constructor <;> omega
        clear hs5 d1 d2 d3 d4 d5 d6 d7
        by_cases hk2 : k = 2
        · subst hk2
          by_cases hl : L.length < 1000
          · have hli : (L.length : Int) < 1000 := by omega
            have HWR := Lib.hid (pl_write HS5.out (by have := HCNT.out; omega) HCNT.out.2)
            go_wp2_with fail
            with_reducible refine HWR.out.mono ?_
            rintro e w6 ⟨T6, L6, rfl, hw6, hs6⟩
            have HS6 := Lib.hid hs6
            have f1 := hs6.1.cell HA1.out (fun h => h)
            obtain ⟨q1, q2, q3, _⟩ := wrote_of hw6 HS5.out.2.1
            have hfl6 : T6.flat.length ≤ 2 * (j + 1) := by rw [q2]; exact hfl2
            have hl6 : L6.length ≤ 1100 := by have := HCNT.out; omega
            have HSM := Lib.hid (pl_same hs6)
            clear hs6 hw6 q1 q2 q3 e1 e7 hbk
            go_wp2_with fail
            with_reducible refine HSM.out.mono ?_
            rintro e w7 ⟨rfl, hs7⟩
            have HS7 := Lib.hid hs7
            clear hs7
            go_wp2_with fail
            go_roundw
            case rel => exact ⟨j + 1, T6, A5, m5, c5, L6, by omega, by omega, by go_num, rfl, HS7, hfl6, hl6⟩
            case measure => simp [intOf]; omega
          · have hli : ¬ (L.length : Int) < 1000 := by omega
            have HSM := Lib.hid (pl_same HS5.out)
            go_wp2_with fail
            with_reducible refine HSM.out.mono ?_
            rintro e w7 ⟨rfl, hs7⟩
            have HS7 := Lib.hid hs7
            clear hs7
            go_wp2_with fail
            go_roundw
            case rel => exact ⟨j + 1, T2, A5, m5, c5, L, by omega, by omega, by go_num, rfl, HS7, hfl2, hLL⟩
            case measure => simp [intOf]; omega
        · have hk2b : (k == 2) = false := by simpa using hk2
          by_cases hk3 : k = 3
          · subst hk3
            have HMV := Lib.hid (pl_moved HS5.out n)
            go_wp2_with fail
            with_reducible refine HMV.out.mono ?_
            rintro e w6 ⟨rfl, hs6⟩
            have HS6 := Lib.hid hs6
            have hfl6 : (T2.mv n).1.flat.length ≤ 2 * (j + 1) := by rw [(mv_of T2 n HS5.out.2.1).2.1]; exact hfl2
            have HSM := Lib.hid (pl_same hs6)
            obtain ⟨T6, hT6⟩ : ∃ T6, (T2.mv n).1 = T6 := ⟨_, rfl⟩
            rw [hT6] at HSM hfl6
            clear hs6 e1 e7 hbk hT6
            go_wp2_with fail
            with_reducible refine HSM.out.mono ?_
            rintro e w7 ⟨rfl, hs7⟩
            have HS7 := Lib.hid hs7
            clear hs7
            go_wp2_with fail
            go_roundw
            case rel => exact ⟨j + 1, T6, A5, m5, c5, L, by omega, by omega, by go_num, rfl, HS7, hfl6, hLL⟩
            case measure => simp [intOf]; omega
          · have hk3b : (k == 3) = false := by simpa using hk3
            have HSM := Lib.hid (pl_same HS5.out)
            go_wp2_with fail
            with_reducible refine HSM.out.mono ?_
            rintro e w7 ⟨rfl, hs7⟩
            have HS7 := Lib.hid hs7
            clear hs7
            go_wp2_with fail
            go_roundw
            case rel => exact ⟨j + 1, T2, A5, m5, c5, L, by omega, by omega, by go_num, rfl, HS7, hfl2, hLL⟩
            case measure => simp [intOf]; omega
      · have h2i : ¬ (j : Int) < 150 := by omega
        go_wp2_with fail
        go_ret
        exact ⟨rfl, HFIN.out _ _ _ _ _ _ HS.out⟩
    · have h1i : ¬ (j : Int) < (M : Int) := by omega
      go_wp2_with fail
      go_ret
      exact ⟨rfl, HFIN.out _ _ _ _ _ _ HS.out⟩
end Go.Proofs.YtneammhkgmkkfaaGreat.tr
