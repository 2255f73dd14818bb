/- The law TreeCow, walked. -/
import Derived.Test.YtneammhkgmkkfaaGreatTqJ
namespace Go.Proofs.YtneammhkgmkkfaaGreat.tr
open Go.RowKit Go.Proofs.YtneammhkgmkkfaaGreat.er
set_option linter.unusedVariables false
set_option linter.unusedSimpArgs false

/-- The state of a law, and another row that is kept. -/
def PlR (w0 wr : World) (p bb : Nat) (T : Tree) (rv : Value) (L : Bk) (r0 : Value) (l0 : List Ext) : Prop :=
  Keep (fun _ => False) w0 wr ∧ T.Ok ∧ Chk T.flat ∧ (T.nfs.Nodup ∧ ∀ a ∈ T.nfs, 0 ≤ a ∧ a < L.length) ∧ ∃ (F : List Nat) (G : Nat → Prop), TrAt wr F p T ∧ (∀ k ∈ F, w0.heap.size ≤ k) ∧ BkAt wr G bb L ∧ (∀ k, G k → w0.heap.size ≤ k) ∧ (∀ k ∈ F, ¬ G k) ∧ (∃ B, RL wr B rv T.flat) ∧ (∀ g, rv.ownBlock = some g → g ∉ F) ∧ (∃ B, RL wr B r0 l0) ∧ ∀ g, r0.ownBlock = some g → g ∉ F
theorem PlR.pl {w0 wr : World} {p bb : Nat} {T : Tree} {rv : Value} {L : Bk} {r0 : Value} {l0 : List Ext} (h : PlR w0 wr p bb T rv L r0 l0) : PlI w0 wr p bb T rv L := by
  obtain ⟨h1, h2, h3, h4, F, G, f1, f2, f3, f4, f5, f6, f7, f8, f9⟩ := h
  exact ⟨h1, h2, h3, h4, F, G, f1, f2, f3, f4, f5, f6, f7⟩
theorem PlR.row {w0 wr : World} {p bb : Nat} {T : Tree} {rv : Value} {L : Bk} {r0 : Value} {l0 : List Ext} (h : PlR w0 wr p bb T rv L r0 l0) : ∃ B, RL wr B r0 l0 := by
  obtain ⟨h1, h2, h3, h4, F, G, f1, f2, f3, f4, f5, f6, f7, f8, f9⟩ := h
  exact f8
theorem plr_new {w0 wr : World} {p bb : Nat} {T : Tree} {rv : Value} {L : Bk} (h : PlI w0 wr p bb T rv L) : PlR w0 wr p bb T rv L rv T.flat := by
  obtain ⟨h1, h2, h3, h4, F, G, f1, f2, f3, f4, f5, f6, f7⟩ := h
  exact ⟨h1, h2, h3, h4, F, G, f1, f2, f3, f4, f5, f6, f7, f6, f7⟩
theorem PlR.below {w0 wr wq : World} {p bb : Nat} {T : Tree} {rv : Value} {L : Bk} {r0 : Value} {l0 : List Ext} (h : PlR w0 wr p bb T rv L r0 l0) (hb : Below wr.heap.size wr wq) : PlR w0 wq p bb T rv L r0 l0 := by
  obtain ⟨h1, h2, h3, h4, F, G, f1, f2, f3, f4, f5, ⟨B, f6⟩, f7, ⟨B2, f8⟩, f9⟩ := h
  exact ⟨h1.transBelow hb, h2, h3, h4, F, G, f1.keep (Keep.below (F := fun _ => False) hb) (fun _ _ h => h), f2, f3.below hb, f4, f5, ⟨B, f6.below hb⟩, f7, ⟨B2, f8.below hb⟩, f9⟩
theorem plr_step {w0 wr : World} {p bb m c : Nat} {T : Tree} {A : Option Addr} {L : Bk} {r0 : Value} {l0 : List Ext} (h : PlR w0 wr p bb T (.slice A m c) L r0 l0) (a : Act) :
    Calls Tryz.prog 20 #[.pointer (some ⟨p, 0, none⟩), .slice A m c, a.val] wr fun x w' => ∃ A' m' c', x = .returned (.tuple #[.slice A' m' c', .bool true]) ∧ PlR w0 w' p bb (a.tree T) (.slice A' m' c') L r0 l0 := by
  obtain ⟨h1, h2, h3, h4, F, G, f1, f2, f3, f4, f5, f6, f7, ⟨B2, f8⟩, f9⟩ := h
  refine (stepX_any (fun k => k ∈ F) wr wr p T A m c T.flat a ⟨Keep.refl _ _, h2, h3, h3, F, f1, fun k hk => .inl hk, f6, f7⟩).mono ?_
  rintro x w' ⟨A', m', c', rfl, k1, k2, k3, k4, F', e1, e2, e3, e4⟩
  have hk := act_kept her_true a h2 h3
  have hfl := act_flat a h2 h3
  refine ⟨A', m', c', rfl, h1.trans k1 (fun k hk => .inr (f2 k hk)), k2, k3, ⟨h4.1.sublist hk.2, fun b hb => h4.2 b (hk.2.subset hb)⟩, F', G, e1, fun k hk => ?_, f3.keep k1 (fun k hk hkF => f5 k hkF hk), f4, fun k hk hg => ?_, by rw [hfl]; exact e3, e4, ⟨B2, own_keep f8.own k1 f9, f8.one⟩, fun g hg hk => ?_⟩
  · rcases e2 k hk with hk | hk
    · exact f2 k hk
    · have := h1.size; omega
  · rcases e2 k hk with hk | hk
    · exact f5 k hk hg
    · have := f3.lt k hg; omega
  · rcases e2 g hk with hk | hk
    · exact f9 g hg hk
    · have := (f8.own.lt g hg).2; omega
theorem plr_write {w0 wr : World} {p bb : Nat} {T : Tree} {rv : Value} {L : Bk} {r0 : Value} {l0 : List Ext} (h : PlR w0 wr p bb T rv L r0 l0) (hl : L.length + T.fr ≤ 2000) (hN : T.cnt ≤ 16777216) :
    Calls Tryz.prog 29 #[.pointer (some ⟨p, 0, none⟩), .func (.func 30) #[.pointer (some ⟨bb, 0, none⟩)] #[]] wr fun x w' => ∃ T' L', x = .returned (.tuple #[.int .i64 T'.topAt, .nilIface]) ∧ Wrote T L T' L' ∧ PlR w0 w' p bb T' rv L' r0 l0 := by
  obtain ⟨h1, h2, h3, h4, F, G, f1, f2, f3, f4, f5, ⟨B, f6⟩, f7, ⟨B2, f8⟩, f9⟩ := h
  refine (write_any wr F p T G bb L f1 h2 h3 f3 f5 h4.1 h4.2 hl hN).mono ?_
  rintro x w' ⟨T', L', G', rfl, k1, k2, k3, k4, k5⟩
  obtain ⟨q1, q2, q3, q4, q5, q6, q7, q8⟩ := wrote_of k1 h2
  have hlt := f1.lt
  refine ⟨T', L', rfl, k1, h1.trans k5 (fun k hk => .inr ?_), q1, by rw [q2]; exact h3, q5 h4, F, G', k2, f2, k3, fun k hk => ?_, fun k hk hg => ?_, ⟨B, ?_⟩, f7, ⟨B2, ?_⟩, f9⟩
  · rcases hk with hk | hk
    · exact f2 k hk
    · exact f4 k hk
  · rcases k4 k hk with hk | hk
    · exact f4 k hk
    · have := h1.size; omega
  · rcases k4 k hg with hg | hg
    · exact f5 k hk hg
    · have := hlt k hk; omega
  · rw [q2]
    refine ⟨own_keep f6.own k5 (fun g hg hk => ?_), f6.one⟩
    rcases hk with hk | hk
    · exact f7 g hg hk
    · exact f3.apart f6.own (by decide) (by decide) hg hk
  · refine ⟨own_keep f8.own k5 (fun g hg hk => ?_), f8.one⟩
    rcases hk with hk | hk
    · exact f9 g hg hk
    · exact f3.apart f8.own (by decide) (by decide) hg hk
set_option maxHeartbeats 8000000 in
set_option maxRecDepth 100000 in
theorem lawCow_any (w : World) (v v1 : Value) (L0 L1 : List Act) (h : ActsAt w v L0) (h1 : ActsAt w v1 L1) :
    Calls Tryz.prog 11 #[v, v1] w fun y w' => y = .returned (.bool true) ∧ Below w.heap.size w w' := by
  have HBU : Hid (Calls Tryz.prog 12 #[v, .int .i64 100] w fun x w' => ∃ p A m c T, x = .returned (.tuple #[.pointer (some ⟨p, 0, none⟩), .slice A m c]) ∧ St w w' p T (.slice A m c) T.flat ∧ T.nfs = [] ∧ T.flat.length ≤ 2 * 100) := builtF_any w v L0 100 (by omega) h
  have HAW := Lib.hid (fun wq => awake_any wq)
  have HFIN : Hid (∀ wr, Keep (fun _ => False) w wr → Below w.heap.size w wr) := fun wr hk => hk.toBelow (Nat.le_refl _) (fun _ h => h.elim)
  obtain ⟨A, c, rfl, hb, hc⟩ := h
  obtain ⟨M, hM⟩ : ∃ M, L0.length = M := ⟨_, rfl⟩
  rw [hM] at HBU ⊢
  clear hc hM hb
  obtain ⟨A1, c1, rfl, hb, hc⟩ := h1
  have HC := Lib.hid hc
  obtain ⟨M1, hM⟩ : ∃ M1, L1.length = M1 := ⟨_, rfl⟩
  rw [hM] at hb HC ⊢
  have HM := Lib.hid hM
  have hMi : (M1 : Int) ≤ 9223372036854775807 := by omega
  clear hc hM
  go_enter Tryz.func11, Tryz.ntmps11
  go_wp2_with fail
  with_reducible refine HBU.out.mono ?_
  rintro e w1 ⟨p, B, m, d, T, rfl, hs1, hn1, hl1⟩
  have hm1 := st_len hs1
  have HPL := Lib.hid (pl_of_st hs1 hn1)
  have HT : Hid (T.nfs = [] ∧ T.cnt ≤ 81 ∧ T.fr = T.cnt ∧ T.Ok ∧ T.flat.length ≤ 200 ∧ Chk T.flat ∧ T.high ≤ 6) := ⟨hn1, by have := cnt_le hs1.2.1; omega, fresh_all hn1, hs1.2.1, by omega, hs1.2.2.1, by have := high_small hs1.2.1 (by omega); omega⟩
  clear hs1 hn1 hl1 HBU hm1
  go_wp2_with fail
  obtain ⟨w2, hw2⟩ : ∃ w2, w1.alloc (.cells #[.slice none 0 0] 60) = w2 := ⟨_, rfl⟩
  obtain ⟨bb, hbb⟩ : ∃ bb, w1.heap.size = bb := ⟨_, rfl⟩
  rw [hw2] at HPL ⊢
  rw [hbb] at HPL ⊢
  clear hw2 hbb
  with_reducible refine (HAW.out _).mono ?_
  rintro e w3 ⟨rfl, hb3⟩
  have HS3 := Lib.hid (plr_new (HPL.out.below hb3))
  have HWR := Lib.hid (plr_write HS3.out (by have := HT.out; simp; omega) (by have := HT.out; omega))
  clear hb3 HPL
  go_wp2_with fail
  with_reducible refine HWR.out.mono ?_
  rintro e w5 ⟨T6, L6, rfl, hw6, hs6⟩
  obtain ⟨q1, q2, q3, q4, q5, q6, q7, q8⟩ := wrote_of hw6 HT.out.2.2.2.1
  have hsz : SzOk L6 := wrote_size hw6 HT.out.2.2.2.1 (fun p hp => by simp at hp)
  have hL6 : L6.length ≤ 81 := by have := HT.out; simp at q3; omega
  have hfl6 : T6.flat.length ≤ 200 := by rw [q2]; exact HT.out.2.2.2.2.1
  have HF6 : Hid (SzOk L6 ∧ L6.length ≤ 81 ∧ T6.flat.length ≤ 200) := ⟨hsz, hL6, hfl6⟩
  have HS6 : Hid (PlR w w5 p bb T6 (.slice B m d) L6 (.slice B m d) T6.flat) := by rw [q2]; exact hs6
  have HHI := Lib.hid (pl_height hs6.pl)
  have HTR : Hid (∀ wr Tc rv Lq, PlR w wr p bb Tc rv Lq (.slice B m d) T6.flat → (∃ M, Lq = L6 ++ M) → SzOk Lq → Calls Tryz.prog 37 #[.int .i64 T6.topAt, .int .i64 T6.high, .func (.func 38) #[.pointer (some ⟨bb, 0, none⟩)] #[]] wr fun x w' => ∃ pu, x = .returned (.tuple #[.pointer (some ⟨pu, 0, none⟩), .nilIface]) ∧ PlI w w' pu bb T6 (.slice B m d) Lq ∧ PlI w w' p bb Tc rv Lq) := by
    intro wr Tc rv Lq hs hL hz
    obtain ⟨M, hL⟩ := hL
    exact pl_tread hs.pl hw6 HT.out.1 HT.out.2.2.2.1 HT.out.2.2.2.2.2.1 (by omega) hL hz HT.out.2.2.2.2.2.2 hs.row
  obtain ⟨top, htop⟩ : ∃ top, T6.topAt = top := ⟨_, rfl⟩
  obtain ⟨hi, hhi⟩ : ∃ hi, T6.high = hi := ⟨_, rfl⟩
  rw [hhi] at HHI HTR
  rw [htop] at HTR ⊢
  clear hs6 hw6 q1 q2 q3 q4 q5 q6 q7 q8 HWR hsz hhi htop hL6 hfl6
  go_wp2_with fail
  with_reducible refine HHI.out.mono ?_
  rintro e w6 ⟨rfl, rfl⟩
  go_wp2_with fail
  go_loopw [11, 12, 13, 14, 15, 16] (fun s11 s12 s13 s14 s15 s16 wr => ∃ (j : Nat) (Tc : Tree) (B' : Option Addr) (m' d' : Nat) (Lq : Bk), j ≤ M1 ∧ j ≤ 20 ∧ s12 = .int .i64 j ∧ s11 = .slice B' m' d' ∧ Hid (PlR w wr p bb Tc (.slice B' m' d') Lq (.slice B m d) T6.flat) ∧ Hid (Tc.flat.length ≤ 200 + 2 * j ∧ Lq.length ≤ 81 + 81 * j ∧ (∃ M, Lq = L6 ++ M) ∧ SzOk Lq)) (fun _ s12 _ _ _ _ _ => M1 - (intOf s12).toNat)
  case atStart => exact ⟨0, T6, B, m, d, L6, Nat.zero_le _, Nat.zero_le _, rfl, rfl, HS6, ⟨by have := HF6.out; omega, by have := HF6.out; omega, ⟨[], by simp⟩, HF6.out.1⟩⟩
  case round =>
    obtain ⟨j, Tc, B', m', d', Lq, hjM, hjN, rfl, rfl, HS, HL⟩ := hrel
    have hEnd : ∀ (hx : True), Hid (Calls Tryz.prog 37 #[.int .i64 top, .int .i64 hi, .func (.func 38) #[.pointer (some ⟨bb, 0, none⟩)] #[]] wr fun x w' => ∃ pu, x = .returned (.tuple #[.pointer (some ⟨pu, 0, none⟩), .nilIface]) ∧ PlI w w' pu bb T6 (.slice B m d) Lq ∧ PlI w w' p bb Tc (.slice B' m' d') Lq) := fun _ => HTR.out wr Tc _ Lq HS.out HL.out.2.2.1 HL.out.2.2.2
    have HRD := hEnd trivial
    clear hEnd
    by_cases h1 : j < M1
    · have h1i : (j : Int) < (M1 : Int) := by omega
      by_cases h2 : j < 20
      · have h2i : (j : Int) < 20 := by omega
        obtain ⟨g, o, rfl, hcell⟩ := HC.out (by omega)
        have hjl : j < L1.length := by rw [HM.out]; exact h1
        obtain ⟨a, ha⟩ : ∃ a, L1[j]? = some a := ⟨_, List.getElem?_eq_getElem hjl⟩
        obtain ⟨a1, a2, a3, a4, a5, a6, a7⟩ := hcell j a ha
        have hk := HS.out.1
        have d1 := hk.cell a1 (fun h => h)
        have d2 := hk.cell a2 (fun h => h)
        have d3 := hk.cell a3 (fun h => h)
        have d4 := hk.cell a4 (fun h => h)
        have d5 := hk.cell a5 (fun h => h)
        have d6 := hk.cell a6 (fun h => h)
        have d7 := hk.cell a7 (fun h => h)
        have HCALL := Lib.hid (plr_step HS.out a)
        have hfl2 : (a.tree Tc).flat.length ≤ 200 + 2 * (j + 1) := by
          rw [act_flat a HS.out.2.1 HS.out.2.2.1]
          have := act_len a HS.out.2.2.1
          have := HL.out.1
          omega
        obtain ⟨T2, hT2⟩ : ∃ T2, a.tree Tc = T2 := ⟨_, rfl⟩
        rw [hT2] at HCALL hfl2
        have HFL := Lib.hid hfl2
        obtain ⟨k, ⟨f, en, ek, et⟩, fr, n⟩ := a
        simp only at d1 d2 d3 d4 d5 d6 d7
        simp only [Act.val] at HCALL
        clear a1 a2 a3 a4 a5 a6 a7 hcell ha hk hT2 hfl2
        go_wp2_with fail
        with_reducible refine HCALL.out.mono ?_
        rintro e w7 ⟨A5, m5, c5, rfl, hs7⟩
        have hcnt : T2.fr ≤ 81 ∧ T2.cnt ≤ 81 := by
          have q1 := fr_le T2
          have q2 := cnt_le hs7.2.1
          have := HFL.out
          constructor <;> omega
        have HO2 := Lib.hid hs7.2.1
        have HCN := Lib.hid hcnt
        have HW7 := Lib.hid (plr_write hs7 (by have := HL.out.2.1; omega) (by omega))
        clear hs7 d1 d2 d3 d4 d5 d6 d7 hcnt
        go_wp2_with fail
        with_reducible refine HW7.out.mono ?_
        rintro e w8 ⟨T3, L3, rfl, hw8, hs8⟩
        have HS8 := Lib.hid hs8
        have HL8 : Hid (T3.flat.length ≤ 200 + 2 * (j + 1) ∧ L3.length ≤ 81 + 81 * (j + 1) ∧ (∃ M, L3 = L6 ++ M) ∧ SzOk L3) := by
          obtain ⟨q1, q2, q3, ⟨M2, q4⟩, _⟩ := wrote_of hw8 HO2.out
          obtain ⟨l1, l2, ⟨M3, l3⟩, l4⟩ := HL.out
          refine ⟨by rw [q2]; exact HFL.out, by rw [q3]; have := HCN.out; omega, ⟨M3 ++ M2, by rw [q4, l3, List.append_assoc]⟩, wrote_size hw8 HO2.out l4⟩
        clear hs8 hw8
        go_wp2_with fail
        go_roundw
        case rel => exact ⟨j + 1, T3, A5, m5, c5, L3, by omega, by omega, by go_num, rfl, HS8, HL8⟩
        case measure => simp [intOf]; omega
      · have h2i : ¬ (j : Int) < 20 := by omega
        go_wp2_with fail
        with_reducible refine HRD.out.mono ?_
        rintro e w7 ⟨pu, rfl, hs7, ht7⟩
        have HSM : Hid (Calls Tryz.prog 21 #[.pointer (some ⟨pu, 0, none⟩), .slice B m d] w7 fun x w' => x = .returned (.bool true) ∧ Below w7.heap.size w7 w') := same_any w w7 pu m d T6 B hs7.st
        have HSN := Lib.hid (fun wq hb => pl_same (ht7.below (wq := wq) hb))
        clear hs7 ht7
        go_wp2_with fail
        with_reducible refine HSM.out.mono ?_
        rintro e w8 ⟨rfl, hb8⟩
        have HS8 := Lib.hid (HSN.out w8 hb8)
        clear hb8
        go_wp2_with fail
        with_reducible refine HS8.out.mono ?_
        rintro e w9 ⟨rfl, hs9⟩
        have HJ := Lib.hid hs9.1
        clear hs9
        go_wp2_with fail
        go_ret
        exact ⟨rfl, HFIN.out _ HJ.out⟩
    · obtain rfl : j = M1 := by omega
      go_wp2_with fail
      with_reducible refine HRD.out.mono ?_
      rintro e w7 ⟨pu, rfl, hs7, ht7⟩
      have HSM : Hid (Calls Tryz.prog 21 #[.pointer (some ⟨pu, 0, none⟩), .slice B m d] w7 fun x w' => x = .returned (.bool true) ∧ Below w7.heap.size w7 w') := same_any w w7 pu m d T6 B hs7.st
      have HSN := Lib.hid (fun wq hb => pl_same (ht7.below (wq := wq) hb))
      clear hs7 ht7
      go_wp2_with fail
      with_reducible refine HSM.out.mono ?_
      rintro e w8 ⟨rfl, hb8⟩
      have HS8 := Lib.hid (HSN.out w8 hb8)
      clear hb8
      go_wp2_with fail
      with_reducible refine HS8.out.mono ?_
      rintro e w9 ⟨rfl, hs9⟩
      have HJ := Lib.hid hs9.1
      clear hs9
      go_wp2_with fail
      go_ret
      exact ⟨rfl, HFIN.out _ HJ.out⟩
end Go.Proofs.YtneammhkgmkkfaaGreat.tr
