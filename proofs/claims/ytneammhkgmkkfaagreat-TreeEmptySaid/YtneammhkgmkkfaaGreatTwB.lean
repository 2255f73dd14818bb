/- The law TreeEmpty, walked. -/
import Derived.Test.YtneammhkgmkkfaaGreatTwA
namespace Go.Proofs.YtneammhkgmkkfaaGreat.tr
open Go.RowKit Go.Proofs.YtneammhkgmkkfaaGreat.er
set_option linter.unusedVariables false
set_option linter.unusedSimpArgs false

theorem span_all : spanB 0 16777216 = true := by decide
set_option maxHeartbeats 4000000 in
set_option maxRecDepth 100000 in
theorem lawEmpty_any (w : World) (v v2 : Value) (L L2 : List Act) (h : ActsAt w v L) (h2 : ActsAt w v2 L2) :
    Calls Tryz.prog 4 #[v, v2] w fun x w' => x = .returned (.bool true) ∧ Below w.heap.size w w' := by
  have HBU : Hid (Calls Tryz.prog 12 #[v, .int .i64 100] w fun x w' => ∃ p A m c T, x = .returned (.tuple #[.pointer (some ⟨p, 0, none⟩), .slice A m c]) ∧ St w w' p T (.slice A m c) T.flat) := built_any w v L 100 (by omega) h
  have HAW := Lib.hid (fun wq => awake_any wq)
  obtain ⟨A, c, rfl, hb, hc⟩ := h
  obtain ⟨A2, c2, rfl, hb2, hc2⟩ := h2
  have HC := Lib.hid hc2
  obtain ⟨M, hM⟩ : ∃ M, L2.length = M := ⟨_, rfl⟩
  rw [hM] at hb2 HC ⊢
  have HM := Lib.hid hM
  have hMi : (M : Int) ≤ 9223372036854775807 := by omega
  obtain ⟨M1, hM1⟩ : ∃ M, L.length = M := ⟨_, rfl⟩
  rw [hM1] at HBU ⊢
  have HSTEP : Hid (∀ wr p T B m d (a : Act), St w wr p T (.slice B m d) T.flat → Calls Tryz.prog 20 #[.pointer (some ⟨p, 0, none⟩), .slice B m d, a.val] wr fun x w' => ∃ A m c T, x = .returned (.tuple #[.slice A m c, .bool true]) ∧ St w w' p T (.slice A m c) T.flat) := by
    intro wr p T B m d a hs
    refine (step_any w wr p T B m d _ a hs).mono ?_
    rintro x w' ⟨A, m, c, rfl, hs'⟩
    exact ⟨A, m, c, a.tree T, rfl, by rw [act_flat a hs.2.1 hs.2.2.1]; exact hs'⟩
  have HSAME : Hid (∀ wr p T B m d, St w wr p T (.slice B m d) T.flat → Calls Tryz.prog 21 #[.pointer (some ⟨p, 0, none⟩), .slice B m d] wr fun x w' => x = .returned (.bool true) ∧ Below w.heap.size w w') := by
    intro wr p T B m d hs
    refine (same_any w wr p m d T B hs).mono ?_
    rintro x w' ⟨rfl, hb⟩
    exact ⟨rfl, (hs.below hb).1.toBelow (Nat.le_refl _) (fun _ h => h.elim)⟩
  have HCUT : Hid (∀ wr p T B m d, St w wr p T (.slice B m d) T.flat → Calls Tryz.prog 16 #[.pointer (some ⟨p, 0, none⟩), .int .i64 0, .int .i64 16777216] wr fun x w' => x = .returned (.int .i64 0) ∧ St w w' p .no (.slice none 0 0) []) := by
    intro wr p T B m d hs
    refine (st_cut hs (Below.refl _ _) span_all).mono ?_
    rintro x w' ⟨rfl, q1, _⟩
    obtain ⟨t1, t2, t3⟩ := tree_cut (fr := 0) (n := 16777216) hs.2.1 hs.2.2.1 (by omega) (by omega) (by omega)
    rw [cut_all] at t1
    have e := ok_nil t2 t1
    rw [e] at q1
    exact ⟨rfl, st_row q1 (Below.refl _ _) (RL.nil _ _) chk_nil⟩
  have HNO : Hid (∀ wr p, St w wr p .no (.slice none 0 0) [] → (Calls Tryz.prog 15 #[.pointer (some ⟨p, 0, none⟩)] wr fun x w' => x = .returned (.int .i64 0) ∧ Below wr.heap.size wr w') ∧ (Calls Tryz.prog 14 #[.pointer (some ⟨p, 0, none⟩)] wr fun x w' => x = .returned (.int .i64 0) ∧ w' = wr) ∧ (Calls Tryz.prog 17 #[.pointer (some ⟨p, 0, none⟩)] wr fun x w' => x = .returned (.int .i64 0) ∧ Below wr.heap.size wr w') ∧ (Calls Tryz.prog 18 #[.pointer (some ⟨p, 0, none⟩)] wr fun x w' => (∃ A c, x = .returned (.slice A 0 c)) ∧ Below wr.heap.size wr w') ∧ (Calls Tryz.prog 19 #[.pointer (some ⟨p, 0, none⟩)] wr fun x w' => x = .returned (.slice none 0 0) ∧ Below wr.heap.size wr w')) := by
    intro wr p hs
    obtain ⟨_, k2, k3, k4, F, k5, _⟩ := hs
    refine ⟨Nodes_any wr F p .no k5 k2 (by show 0 ≤ _; omega), height_any wr F p .no k5 k2 k3, tcount_any wr F p .no k5 k2 k3, ?_, pages_fresh wr F p .no k5 k2 (by show 0 ≤ _; omega) (by intro a ha; simp [Tree.ats] at ha)⟩
    refine (all_any wr F p .no k5 k2 k3).mono ?_
    rintro x w' ⟨v', rfl, q1, q2⟩
    obtain ⟨A', c', rfl⟩ := own_slice q1
    exact ⟨⟨A', c', rfl⟩, q2⟩
  clear hc hb hb2 hc2 hM hM1
  go_enter Tryz.func4, Tryz.ntmps4
  go_wp2_with fail
  with_reducible refine HBU.out.mono ?_
  rintro e w1 ⟨p, B, m, d, T, rfl, hs1⟩
  have HS1 := Lib.hid hs1
  clear hs1 HBU
  go_wp2_with fail
  with_reducible refine (HAW.out _).mono ?_
  rintro e w2 ⟨rfl, hb2⟩
  have HCC := Lib.hid (HCUT.out _ _ _ _ _ _ (HS1.out.below hb2))
  clear hb2 HS1 HCUT HAW
  go_wp2_with fail
  with_reducible refine HCC.out.mono ?_
  rintro e w3 ⟨rfl, hs3⟩
  have HS3 := Lib.hid hs3
  clear hs3 HCC
  go_wp2_with fail
  with_reducible refine (HNO.out _ _ HS3.out).1.mono ?_
  rintro e w4 ⟨rfl, hb4⟩
  have HS4 := Lib.hid (HS3.out.below hb4)
  clear hb4 HS3
  go_wp2_with fail
  with_reducible refine (HNO.out _ _ HS4.out).2.1.mono ?_
  rintro e w5 ⟨rfl, rfl⟩
  go_wp2_with fail
  with_reducible refine (HNO.out _ _ HS4.out).2.2.1.mono ?_
  rintro e w6 ⟨rfl, hb6⟩
  have HS6 := Lib.hid (HS4.out.below hb6)
  clear hb6 HS4
  go_wp2_with fail
  with_reducible refine (HNO.out _ _ HS6.out).2.2.2.1.mono ?_
  rintro e w7 ⟨⟨A7, c7, rfl⟩, hb7⟩
  have HS7 := Lib.hid (HS6.out.below hb7)
  clear hb7 HS6
  go_wp2_with fail
  with_reducible refine (HNO.out _ _ HS7.out).2.2.2.2.mono ?_
  rintro e w8 ⟨rfl, hb8⟩
  have HS8 := Lib.hid (HS7.out.below hb8)
  clear hb8 HS7 HNO
  go_wp2_with fail
  go_loopw [7, 8, 9, 10] (fun s7 s8 s9 s10 wr => ∃ (j : Nat) (T : Tree) (B : Option Addr) (m d : Nat), j ≤ M ∧ j ≤ 50 ∧ s8 = .int .i64 j ∧ s7 = .slice B m d ∧ Hid (St w wr p T (.slice B m d) T.flat)) (fun _ s8 _ _ _ => M - (intOf s8).toNat)
  case atStart => exact ⟨0, .no, none, 0, 0, Nat.zero_le _, Nat.zero_le _, rfl, rfl, HS8⟩
  case round =>
    obtain ⟨j, T, B, m, d, hjM, hjN, rfl, rfl, HS⟩ := hrel
    by_cases h1 : j < M
    · have h1i : (j : Int) < (M : Int) := by omega
      by_cases h2 : j < 50
      · have h2i : (j : Int) < 50 := by omega
        obtain ⟨g, o, rfl, hcell⟩ := HC.out (by omega)
        have hjl : j < L2.length := by rw [HM.out]; exact h1
        obtain ⟨a, ha⟩ : ∃ a, L2[j]? = some a := ⟨_, List.getElem?_eq_getElem hjl⟩
        obtain ⟨a1, a2, a3, a4, a5, a6, a7⟩ := hcell j a ha
        have hk := HS.out.1
        have d1 := hk.cell a1 (fun h => h)
        have d2 := hk.cell a2 (fun h => h)
        have d3 := hk.cell a3 (fun h => h)
        have d4 := hk.cell a4 (fun h => h)
        have d5 := hk.cell a5 (fun h => h)
        have d6 := hk.cell a6 (fun h => h)
        have d7 := hk.cell a7 (fun h => h)
        have HCALL := Lib.hid (HSTEP.out _ _ _ _ _ _ a HS.out)
        obtain ⟨k, ⟨f, en, ek, et⟩, fr, n⟩ := a
        simp only at d1 d2 d3 d4 d5 d6 d7
        simp only [Act.val] at HCALL
        clear a1 a2 a3 a4 a5 a6 a7 hcell ha hk
        go_wp2_with fail
        with_reducible refine HCALL.out.mono ?_
        rintro e w9 ⟨A5, m5, c5, T5, rfl, hs5⟩
        have HS5 := Lib.hid hs5
        clear hs5
        go_wp2_with fail
        go_roundw
        case rel => exact ⟨j + 1, T5, A5, m5, c5, by omega, by omega, by go_num, rfl, HS5⟩
        case measure => simp [intOf]; omega
      · have h2i : ¬ (j : Int) < 50 := by omega
        have HSM := Lib.hid (HSAME.out _ _ _ _ _ _ HS.out)
        go_wp2_with fail
        with_reducible refine HSM.out.mono ?_
        rintro e w9 ⟨rfl, hb9⟩
        have HB9 := Lib.hid hb9
        clear hb9
        go_wp2_with fail
        go_ret
        exact ⟨rfl, HB9.out⟩
    · have h1i : ¬ (j : Int) < (M : Int) := by omega
      have HSM := Lib.hid (HSAME.out _ _ _ _ _ _ HS.out)
      go_wp2_with fail
      with_reducible refine HSM.out.mono ?_
      rintro e w9 ⟨rfl, hb9⟩
      have HB9 := Lib.hid hb9
      clear hb9
      go_wp2_with fail
      go_ret
      exact ⟨rfl, HB9.out⟩
end Go.Proofs.YtneammhkgmkkfaaGreat.tr
