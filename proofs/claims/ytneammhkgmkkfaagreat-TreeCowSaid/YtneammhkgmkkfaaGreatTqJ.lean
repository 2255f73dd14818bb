/- The law TreeBack, walked. -/
import Derived.Test.YtneammhkgmkkfaaGreatTqI
namespace Go.Proofs.YtneammhkgmkkfaaGreat.tr
open Go.RowKit Go.Proofs.YtneammhkgmkkfaaGreat.er
set_option linter.unusedVariables false
set_option linter.unusedSimpArgs false

theorem pl_tread {w0 wr : World} {p bb : Nat} {Tc T T' : Tree} {rv rv2 : Value} {L L0 M : Bk} (h : PlI w0 wr p bb Tc rv L) (hw : Wrote T [] T' L0) (hn : T.nfs = []) (ho : T.Ok) (hc : Chk T.flat) (hl : L0.length ≤ 2000) (hL : L = L0 ++ M) (hs : SzOk L) (hh : T.high ≤ 6) (hrow : ∃ B, RL wr B rv2 T'.flat) :
    Calls Tryz.prog 37 #[.int .i64 T'.topAt, .int .i64 T'.high, getF bb] wr fun x w' => ∃ pu, x = .returned (.tuple #[.pointer (some ⟨pu, 0, none⟩), .nilIface]) ∧ PlI w0 w' pu bb T' rv2 L ∧ PlI w0 w' p bb Tc rv L := by
  have hP := h
  obtain ⟨h1, h2, h3, h4, F, G, f1, f2, f3, f4, f5, f6, f7⟩ := h
  obtain ⟨q1, q2, q3, q4, q5, q6, q7, q8⟩ := wrote_of hw ho
  refine (tread_any wr G bb hw hn ho hc hl hL hs f3 hh).mono ?_
  rintro x w' ⟨pu, Fu, rfl, t1, t2, t3⟩
  have hnf := q5 (by rw [hn]; exact ⟨List.nodup_nil, fun a ha => by simp at ha⟩)
  have hlG := f3.lt
  obtain ⟨B, hB⟩ := hrow
  refine ⟨pu, rfl, ⟨h1.transBelow t3, q1, by rw [q2]; exact hc, ⟨hnf.1, fun a ha => ?_⟩, Fu, G, t1, fun k hk => Nat.le_trans h1.size (t2 k hk), f3.below t3, f4, fun k hk hg => ?_, ⟨B, hB.below t3⟩, fun g hg hk => ?_⟩, hP.below t3⟩
  · have := hnf.2 a ha
    rw [hL, List.length_append]; omega
  · have := hlG k hg
    have := t2 k hk
    omega
  · have := (hB.own.lt g hg).2
    have := t2 g hk
    omega
theorem pl_nodes {w0 wr : World} {p bb : Nat} {T : Tree} {rv : Value} {L : Bk} (h : PlI w0 wr p bb T rv L) (hN : T.cnt ≤ 16777216) :
    Calls Tryz.prog 15 #[.pointer (some ⟨p, 0, none⟩)] wr fun x w' => x = .returned (.int .i64 T.cnt) ∧ PlI w0 w' p bb T rv L := by
  have hh := h
  obtain ⟨h1, h2, h3, h4, F, G, f1, _⟩ := h
  refine (Nodes_any wr F p T f1 h2 hN).mono ?_
  rintro x w' ⟨rfl, hb⟩
  exact ⟨rfl, hh.below hb⟩
theorem pl_row {w0 wr : World} {p bb : Nat} {T : Tree} {rv : Value} {L : Bk} (h : PlI w0 wr p bb T rv L) : ∃ B, RL wr B rv T.flat := by
  obtain ⟨h1, h2, h3, h4, F, G, f1, f2, f3, f4, f5, f6, f7⟩ := h
  exact f6
theorem high_small {T : Tree} (hok : T.Ok) (hl : T.flat.length ≤ 300) : T.high ≤ 4 := by
  have h1 := tree_high hok
  by_cases he : T.flat = []
  · have := (h1.1 he).1; omega
  · obtain ⟨_, _, h3, _⟩ := h1.2 he
    rcases h3 with h3 | h3
    · omega
    · refine Decidable.byContradiction fun hn => ?_
      have : 4 ^ 4 ≤ 4 ^ (T.high - 1) := Nat.pow_le_pow_right (by omega) (by omega)
      omega
theorem wrote_top {T T' : Tree} {L L' : Bk} (h : Wrote T L T' L') (hf : T.fr = 0) : T'.topAt = T.topAt := by
  cases T with
  | no => obtain ⟨rfl, rfl⟩ := h; rfl
  | top hh n =>
    obtain ⟨n', rfl, hw⟩ := h
    have hl : (ats n').length = (ats n).length := by rw [ats_len, ats_len, ← strip_cnt, hw.strip, strip_cnt]
    obtain ⟨A, hA⟩ := at_last n
    obtain ⟨A', hA'⟩ := at_last n'
    rw [hA, hA', List.length_append, List.length_append] at hl
    have hl2 : A'.length = A.length := by simpa using hl
    have hne : n.at_ ≠ -1 := by
      intro e
      have hf' : ((ats n).filter fun a => decide (a = -1)).length = 0 := hf
      rw [List.length_eq_zero_iff, List.filter_eq_nil_iff] at hf'
      have := hf' n.at_ (at_mem n)
      simp [e] at this
    have h1 : (ats n)[A.length]? = some n.at_ := by rw [hA]; simp
    have h2 := hw.old _ _ h1 hne
    rw [hA', ← hl2] at h2
    show n'.at_ = n.at_
    simpa using h2
set_option maxHeartbeats 8000000 in
set_option maxRecDepth 100000 in
theorem lawBack_any (w : World) (v : Value) (L0 : List Act) (h : ActsAt w v L0) :
    Calls Tryz.prog 10 #[v] w fun y w' => y = .returned (.bool true) ∧ Below w.heap.size w w' := by
  have HBU : Hid (Calls Tryz.prog 12 #[v, .int .i64 150] w fun x w' => ∃ p A m c T, x = .returned (.tuple #[.pointer (some ⟨p, 0, none⟩), .slice A m c]) ∧ St w w' p T (.slice A m c) T.flat ∧ T.nfs = [] ∧ T.flat.length ≤ 2 * 150) := builtF_any w v L0 150 (by omega) h
  have HAW := Lib.hid (fun wq => awake_any wq)
  have HFIN : Hid (∀ wr, Keep (fun _ => False) w wr → Below w.heap.size w wr) := fun wr hk => hk.toBelow (Nat.le_refl _) (fun _ h => h.elim)
  obtain ⟨A, c, rfl, hb, hc⟩ := h
  obtain ⟨M, hM⟩ : ∃ M, L0.length = M := ⟨_, rfl⟩
  rw [hM] at HBU ⊢
  clear hc hM hb
  go_enter Tryz.func10, Tryz.ntmps10
  go_wp2_with fail
  with_reducible refine HBU.out.mono ?_
  rintro e w1 ⟨p, B, m, d, T, rfl, hs1, hn1, hl1⟩
  have hm1 := st_len hs1
  have HPL := Lib.hid (pl_of_st hs1 hn1)
  have HT : Hid (T.nfs = [] ∧ T.cnt ≤ 101 ∧ T.fr = T.cnt ∧ T.Ok ∧ T.flat.length = m ∧ m ≤ 300 ∧ Chk T.flat ∧ T.high ≤ 6) := ⟨hn1, by have := cnt_le hs1.2.1; omega, fresh_all hn1, hs1.2.1, hm1.symm, by omega, hs1.2.2.1, by have := high_small hs1.2.1 hl1; omega⟩
  clear hs1 hn1 hl1 HBU hm1
  go_wp2_with fail
  obtain ⟨w2, hw2⟩ : ∃ w2, w1.alloc (.cells #[.slice none 0 0] 60) = w2 := ⟨_, rfl⟩
  obtain ⟨bb, hbb⟩ : ∃ bb, w1.heap.size = bb := ⟨_, rfl⟩
  rw [hw2] at HPL ⊢
  rw [hbb] at HPL ⊢
  clear hw2 hbb
  with_reducible refine (HAW.out _).mono ?_
  rintro e w3 ⟨rfl, hb3⟩
  have HS3 := Lib.hid (HPL.out.below hb3)
  have HWR := Lib.hid (pl_write HS3.out (by have := HT.out; simp; omega) (by have := HT.out; omega))
  clear hb3 HPL
  go_wp2_with fail
  with_reducible refine HWR.out.mono ?_
  rintro e w5 ⟨T6, L6, rfl, hw6, hs6⟩
  obtain ⟨q1, q2, q3, q4, q5, q6, q7, q8⟩ := wrote_of hw6 HT.out.2.2.2.1
  obtain ⟨N, hN⟩ : ∃ N, L6.length = N := ⟨_, rfl⟩
  have hsz : SzOk L6 := wrote_size hw6 HT.out.2.2.2.1 (fun p hp => by simp at hp)
  have HN6 := Lib.hid hN
  have hcntN : T6.cnt = N := by have := HT.out.2.2.1; simp at q3; omega
  have HF6 : Hid (T6.fr = 0 ∧ T6.cnt ≤ 101 ∧ N ≤ 101) := ⟨q6, by rw [q7]; exact HT.out.2.1, by have := HT.out.2.1; omega⟩
  have HS6 := Lib.hid hs6
  obtain ⟨kA, kc, hbk⟩ := hs6.book
  rw [hN] at hbk
  have HHI := Lib.hid (pl_height hs6)
  have HTR : Hid (Calls Tryz.prog 37 #[.int .i64 T6.topAt, .int .i64 T6.high, .func (.func 38) #[.pointer (some ⟨bb, 0, none⟩)] #[]] w5 fun x w' => ∃ pu, x = .returned (.tuple #[.pointer (some ⟨pu, 0, none⟩), .nilIface]) ∧ PlI w w' pu bb T6 (.slice B m d) L6) := by
    have := pl_tread hs6 hw6 HT.out.1 HT.out.2.2.2.1 HT.out.2.2.2.2.2.2.1 (by rw [hN]; have := HF6.out; omega) (M := []) (by simp) hsz HT.out.2.2.2.2.2.2.2 (pl_row hs6)
    refine this.mono ?_
    rintro x w' ⟨pu, rfl, k1, k2⟩
    exact ⟨pu, rfl, k1⟩
  have hNi : (N : Int) ≤ 101 := by have := HF6.out; omega
  obtain ⟨top, htop⟩ : ∃ top, T6.topAt = top := ⟨_, rfl⟩
  have HTOP := Lib.hid htop
  obtain ⟨hi, hhi⟩ : ∃ hi, T6.high = hi := ⟨_, rfl⟩
  rw [hhi] at HHI HTR
  rw [htop] at HTR ⊢
  have HCN := Lib.hid hcntN
  clear hs6 hw6 q1 q2 q3 q4 q5 q6 q7 q8 hN HWR hsz hcntN hhi htop
  go_wp2_with fail
  with_reducible refine HHI.out.mono ?_
  rintro e w6 ⟨rfl, rfl⟩
  go_wp2_with fail
  with_reducible refine HTR.out.mono ?_
  rintro e w7 ⟨pu, rfl, hs7⟩
  have HSM := Lib.hid (pl_same hs7)
  clear hs7 hbk
  go_wp2_with fail
  with_reducible refine HSM.out.mono ?_
  rintro e w8 ⟨rfl, hs8⟩
  have HF8 := Lib.hid (pl_fresh hs8 (by have := HF6.out.2.1; omega))
  rw [HF6.out.1] at HF8
  clear hs8
  go_wp2_with fail
  with_reducible refine HF8.out.mono ?_
  rintro e w9 ⟨rfl, hs9, hb9⟩
  have HN9 := Lib.hid (pl_nodes hs9 (by have := HF6.out.2.1; omega))
  rw [HCN.out] at HN9
  clear hs9 hb9
  go_wp2_with fail
  with_reducible refine HN9.out.mono ?_
  rintro e w10 ⟨rfl, hs10⟩
  have HWA := Lib.hid (pl_write hs10 (by have := HF6.out; have := HN6.out; omega) (by have := HF6.out; omega))
  clear hs10
  go_wp2_with fail
  with_reducible refine HWA.out.mono ?_
  rintro e w11 ⟨T7, L7, rfl, hw7, hs11⟩
  have ht7 := wrote_top hw7 HF6.out.1
  rw [HTOP.out] at ht7
  rw [ht7]
  obtain ⟨kB, kd, hbk⟩ := hs11.book
  have hl7 : L7.length = N := by
    cases hT : T6 with
    | no => rw [hT] at hw7; obtain ⟨_, e⟩ := hw7; rw [e]; exact HN6.out
    | top h n =>
      rw [hT] at hw7
      obtain ⟨n', _, hws⟩ := hw7
      have := hws.cnt
      rw [List.take_length] at this
      have hf := HF6.out.1
      rw [hT] at hf
      have hf' : ((ats n).filter fun a => decide (a = -1)).length = 0 := hf
      have := HN6.out
      omega
  rw [hl7] at hbk
  have HJ := Lib.hid hs11.1
  clear hs11 hw7 ht7 hl7
  go_wp2_with fail
  go_ret
  exact ⟨rfl, HFIN.out _ HJ.out⟩
end Go.Proofs.YtneammhkgmkkfaaGreat.tr
