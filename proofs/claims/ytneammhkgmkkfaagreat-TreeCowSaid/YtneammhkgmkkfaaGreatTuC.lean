/- The law TreeMoved, walked. -/
import Derived.Test.YtneammhkgmkkfaaGreatTuB
namespace Go.Proofs.YtneammhkgmkkfaaGreat.tr
open Go.RowKit Go.Proofs.YtneammhkgmkkfaaGreat.er
set_option linter.unusedVariables false
set_option linter.unusedSimpArgs false

theorem pl_fresh {w0 wr : World} {p bb : Nat} {T : Tree} {rv : Value} {L : Bk} (h : PlI w0 wr p bb T rv L) (hN : T.cnt ≤ 16777216) :
    Calls Tryz.prog 31 #[.pointer (some ⟨p, 0, none⟩)] wr fun x w' => x = .returned (.int .i64 T.fr) ∧ PlI w0 w' p bb T rv L ∧ Below wr.heap.size wr w' := by
  have hh := h
  obtain ⟨h1, h2, h3, h4, F, G, f1, _⟩ := h
  refine (fresh_any wr F p T f1 h2 hN).mono ?_
  rintro x w' ⟨rfl, hb⟩
  exact ⟨rfl, hh.below hb, hb⟩
theorem pl_height {w0 wr : World} {p bb : Nat} {T : Tree} {rv : Value} {L : Bk} (h : PlI w0 wr p bb T rv L) :
    Calls Tryz.prog 14 #[.pointer (some ⟨p, 0, none⟩)] wr fun x w' => x = .returned (.int .i64 T.high) ∧ w' = wr := by
  obtain ⟨h1, h2, h3, h4, F, G, f1, _⟩ := h
  exact height_any wr F p T f1 h2 h3
theorem pl_pages {w0 wr : World} {p bb : Nat} {T : Tree} {rv : Value} {L : Bk} (h : PlI w0 wr p bb T rv L) (hN : T.cnt ≤ 16777216) :
    Calls Tryz.prog 19 #[.pointer (some ⟨p, 0, none⟩)] wr fun x w' => ∃ A c, x = .returned (.slice A T.nfs.length c) ∧ w'.ownsRow wr.heap.size 3 1 (.slice A T.nfs.length c) T.nfs.length ((sorted T.nfs).map (Value.int .i64)) ∧ PlI w0 w' p bb T rv L ∧ Below wr.heap.size wr w' := by
  have hh := h
  obtain ⟨h1, h2, h3, h4, F, G, f1, _⟩ := h
  refine (pages_any wr F p T f1 h2 hN).mono ?_
  rintro x w' ⟨A, c, rfl, ho, hb⟩
  exact ⟨A, c, rfl, ho, hh.below hb, hb⟩
/-- What is true of a tree behind the first Write, and behind a Moved of one of its pages (plain). -/
structure MvFacts (T6 T7 : Tree) (pg : Int) : Prop where
  one : 1 ≤ T7.fr
  most : T7.fr ≤ T7.high
  high : T7.high = T6.high
  pgn : pg ∉ T7.nfs
  top : T6.topAt ∉ T7.nfs
  again : T7.mv pg = (T7, false)
theorem mv_facts {T6 : Tree} {N : Nat} {k : Nat} (ho : T6.Ok) (hf : T6.fr = 0) (hr : T6.ats = (List.range N).map fun (i : Nat) => (i : Int)) (hk : k < N) : (T6.mv k).2 = true ∧ MvFacts T6 (T6.mv k).1 k := by
  have hnd : T6.ats.Nodup := by
    rw [hr, List.nodup_iff_pairwise_ne, List.pairwise_map]
    exact List.nodup_range.imp (fun h e => h (by omega))
  have hm : (k : Int) ∈ T6.ats := by rw [hr]; exact List.mem_map.2 ⟨k, List.mem_range.2 hk, rfl⟩
  cases T6 with
  | no => simp [Tree.ats] at hm
  | top h n =>
    obtain ⟨i1, i2, i3, i4, i5, i6⟩ := mvN_hit n (k : Int) hf hnd hm
    have e : (Tree.top h n).mv k = (.top h (mvN n k).1, (mvN n k).2) := by show (if (0 : Int) ≤ (k : Int) then (Tree.top h (mvN n k).1, (mvN n k).2) else (Tree.top h n, false)) = _; rw [if_pos (by omega)]
    rw [e]
    refine ⟨i1, i3, i4, rfl, i5, i6, ?_⟩
    have hno : (k : Int) ∉ ats (mvN n k).1 := fun hmm => by
      refine i5 (List.mem_filter.2 ⟨hmm, ?_⟩)
      first | (simp; done) | (simp; omega)
    show (if (0 : Int) ≤ (k : Int) then (Tree.top h (mvN (mvN n k).1 k).1, (mvN (mvN n k).1 k).2) else (Tree.top h (mvN n k).1, false)) = _
    rw [if_pos (by omega), mvN_miss _ _ hno]
theorem mv_odd {T6 : Tree} {N : Nat} {z : Int} (hr : T6.ats = (List.range N).map fun (i : Nat) => (i : Int)) (hz : z < 0 ∨ (N : Int) ≤ z) : T6.mv z = (T6, false) := by
  cases T6 with
  | no => rfl
  | top h n =>
    show (if 0 ≤ z then (Tree.top h (mvN n z).1, (mvN n z).2) else (Tree.top h n, false)) = _
    split
    · have hno : z ∉ ats n := fun hm => by
        have hm2 : z ∈ (Tree.top h n).ats := hm
        rw [hr] at hm2
        obtain ⟨i, hi, e⟩ := List.mem_map.1 hm2
        have := List.mem_range.1 hi
        omega
      rw [mvN_miss _ _ hno]
    · rfl
theorem rem_rng (a N : Int) (hN : 0 < N) (h8 : N ≤ 16777216) : 0 ≤ Int.tmod (Int.tmod a N + N) N ∧ Int.tmod (Int.tmod a N + N) N < N ∧ -N < Int.tmod a N ∧ Int.tmod a N < N := by
  have h1 := Int.tmod_lt_of_pos a hN
  have h2 : -N < Int.tmod a N := by
    have := Int.lt_tmod_of_pos a hN
    exact this
  have h3 : 0 ≤ Int.tmod a N + N := by omega
  exact ⟨Int.tmod_nonneg _ h3, Int.tmod_lt_of_pos _ hN, h2, h1⟩
theorem sorted_strict {zs : List Int} (h : zs.Nodup) {i : Nat} {a b : Int} (h1 : (sorted zs)[i]? = some a) (h2 : (sorted zs)[i + 1]? = some b) : a < b := by
  have hn : (sorted zs).Nodup := (sorted_perm zs).nodup_iff.2 h
  have hs := sorted_le zs
  obtain ⟨i1, e1⟩ := List.getElem?_eq_some_iff.1 h1
  obtain ⟨i2, e2⟩ := List.getElem?_eq_some_iff.1 h2
  have h3 := List.pairwise_iff_getElem.1 hs i (i + 1) i1 i2 (by omega)
  have h4 := List.pairwise_iff_getElem.1 (List.nodup_iff_pairwise_ne.1 hn) i (i + 1) i1 i2 (by omega)
  rw [e1, e2] at h3 h4
  omega
set_option maxHeartbeats 8000000 in
set_option maxRecDepth 100000 in
theorem lawMoved_any (w : World) (v : Value) (L0 : List Act) (which odd : Int) (h : ActsAt w v L0) (hw1 : -9223372036854775808 ≤ which ∧ which ≤ 9223372036854775807) :
    Calls Tryz.prog 9 #[v, .int .i64 which, .int .i64 odd] w fun x w' => x = .returned (.bool true) ∧ Below w.heap.size w w' := by
  have HBU : Hid (Calls Tryz.prog 12 #[v, .int .i64 150] w fun x w' => ∃ p A m c T, x = .returned (.tuple #[.pointer (some ⟨p, 0, none⟩), .slice A m c]) ∧ St w w' p T (.slice A m c) T.flat ∧ T.nfs = [] ∧ T.flat.length ≤ 2 * 150) := builtF_any w v L0 150 (by omega) h
  have HAW := Lib.hid (fun wq => awake_any wq)
  obtain ⟨A, c, rfl, hb, hc⟩ := h
  obtain ⟨M, hM⟩ : ∃ M, L0.length = M := ⟨_, rfl⟩
  rw [hM] at HBU ⊢
  have HFIN : Hid (∀ wr p bb T rv L, PlI w wr p bb T rv L → Below w.heap.size w wr) := fun wr p bb T rv L hs => hs.1.toBelow (Nat.le_refl _) (fun _ h => h.elim)
  clear hc hM hb
  go_enter Tryz.func9, Tryz.ntmps9
  go_wp2_with fail
  with_reducible refine HBU.out.mono ?_
  rintro e w1 ⟨p, B, m, d, T, rfl, hs1, hn1, hl1⟩
  have HPL := Lib.hid (pl_of_st hs1 hn1)
  have HT : Hid (T.nfs = [] ∧ T.cnt ≤ 101 ∧ T.fr = T.cnt ∧ T.Ok) := ⟨hn1, by have := cnt_le hs1.2.1; omega, fresh_all hn1, hs1.2.1⟩
  clear hs1 hn1 hl1 HBU
  go_wp2_with fail
  obtain ⟨w2, hw2⟩ : ∃ w2, w1.alloc (.cells #[.slice none 0 0] 60) = w2 := ⟨_, rfl⟩
  obtain ⟨bb, hbb⟩ : ∃ bb, w1.heap.size = bb := ⟨_, rfl⟩
  rw [hw2] at HPL ⊢
  rw [hbb] at HPL ⊢
  clear hw2 hbb
  with_reducible refine (HAW.out _).mono ?_
  rintro e w3 ⟨rfl, hb3⟩
  have HWR := Lib.hid (pl_write (HPL.out.below hb3) (by have := HT.out; simp; omega) (by have := HT.out; omega))
  clear hb3 HPL HAW
  go_wp2_with fail
  with_reducible refine HWR.out.mono ?_
  rintro e w4 ⟨T6, L6, rfl, hw6, hs6⟩
  obtain ⟨q1, q2, q3, q4, q5, q6, q7, q8⟩ := wrote_of hw6 HT.out.2.2.2
  have hats := wrote_new hw6 HT.out.1 HT.out.2.2.2
  obtain ⟨N, hN⟩ : ∃ N, L6.length = N := ⟨_, rfl⟩
  have hNc : T.cnt = N := by have := HT.out.2.2.1; simp at q3; omega
  rw [hNc] at hats q7
  have hN1 : N ≤ 101 := by have := HT.out.2.1; omega
  have hNi : (N : Int) ≤ 101 := by omega
  have HS6 := Lib.hid hs6
  have HO6 := Lib.hid q1
  have HAT := Lib.hid hats
  have HCN := Lib.hid q7
  have HFR := Lib.hid q6
  have HTOP : Hid (N = 0 → T6.topAt = -1) := by
    intro h0
    cases T6 with
    | no => rfl
    | top hh n =>
      exfalso
      have hl := congrArg List.length hats
      rw [h0] at hl
      have hm := mem_last n
      have : (ats n).length = 0 := hl
      rw [List.length_eq_zero_iff] at this
      rw [this] at hm
      simp at hm
  obtain ⟨bA, bc, hbk⟩ := hs6.book
  rw [hN] at hbk
  obtain ⟨tp, htp⟩ : ∃ tp, T6.topAt = tp := ⟨_, rfl⟩
  have HTP := Lib.hid htp
  rw [htp] at HTOP ⊢
  have HODD : Hid ((odd < 0 ∨ (N : Int) ≤ odd) → T6.mv odd = (T6, false)) := fun h => mv_odd hats h
  have HN6 := Lib.hid hN
  clear hw6 hs6 q1 q2 q3 q4 q5 q6 q7 q8 hats hNc htp hN HWR HT
  by_cases ho1 : odd < 0
  · skip
    have HMO : Hid (Calls Tryz.prog 36 #[.pointer (some ⟨p, 0, none⟩), .int .i64 odd] w4 fun x w' => x = .returned (.bool false) ∧ PlI w w' p bb T6 (.slice B m d) L6) := by have := pl_moved HS6.out odd; rw [HODD.out (.inl ho1)] at this; exact this
    go_wp2_with fail
    with_reducible refine HMO.out.mono ?_
    rintro e wa ⟨rfl, hsa⟩
    have HFA : Hid (Calls Tryz.prog 31 #[.pointer (some ⟨p, 0, none⟩)] wa fun x w' => x = .returned (.int .i64 0) ∧ PlI w w' p bb T6 (.slice B m d) L6 ∧ Below wa.heap.size wa w') := by have := pl_fresh hsa (by rw [HCN.out]; omega); rw [HFR.out] at this; exact this
    clear hsa
    go_wp2_with fail
    with_reducible refine HFA.out.mono ?_
    rintro e wb ⟨rfl, hsb, _⟩
    have HPr := Lib.hid hsb
    clear hsb
    by_cases hN0 : N = 0
    · subst hN0
      have htp := HTOP.out rfl
      subst htp
      go_wp2_with fail
      go_ret
      exact ⟨rfl, HFIN.out _ _ _ _ _ _ HPr.out⟩
    · obtain ⟨r1, r2, r3, r4⟩ := rem_rng which (N : Int) (by omega) (by omega)
      obtain ⟨r, hr⟩ : ∃ r, Int.tmod which (N : Int) = r := ⟨_, rfl⟩
      rw [hr] at r1 r2 r3 r4
      obtain ⟨K, hK⟩ : ∃ K : Nat, Int.tmod (r + (N : Int)) (N : Int) = (K : Int) := ⟨(Int.tmod (r + (N : Int)) (N : Int)).toNat, by omega⟩
      have hKN : K < N := by omega
      obtain ⟨g1, g2⟩ := mv_facts HO6.out HFR.out HAT.out hKN
      have HMV : Hid (Calls Tryz.prog 36 #[.pointer (some ⟨p, 0, none⟩), .int .i64 K] wb fun x w' => x = .returned (.bool true) ∧ PlI w w' p bb (T6.mv K).1 (.slice B m d) L6) := by have := pl_moved HPr.out (K : Int); rw [g1] at this; exact this
      obtain ⟨T7, hT7⟩ : ∃ T7, (T6.mv K).1 = T7 := ⟨_, rfl⟩
      rw [hT7] at HMV g2
      have HG := Lib.hid g2
      have hKi : (K : Int) < (N : Int) := by omega
      have hN0i : ¬ (N : Int) = 0 := by omega
      have hN0b : ((N : Int) == 0) = false := by simpa using hN0
      have hN0c : (0 : Int) < (N : Int) := by omega
      have hwr : wrap64 (r + (N : Int)) = r + (N : Int) := by unfold wrap64; omega
      clear g1 g2 hT7 r1 r2
      go_wp2_with fail
      with_reducible refine HMV.out.mono ?_
      rintro e w5 ⟨rfl, hs5⟩
      have HM2 : Hid (Calls Tryz.prog 36 #[.pointer (some ⟨p, 0, none⟩), .int .i64 K] w5 fun x w' => x = .returned (.bool false) ∧ PlI w w' p bb T7 (.slice B m d) L6) := by have := pl_moved hs5 (K : Int); rw [HG.out.again] at this; exact this
      have HC7 : Hid (T7.cnt ≤ 16777216 ∧ T7.fr ≤ 101) := by
        have h1 := cnt_le hs5.2.1
        have h2 := chk_len hs5.2.2.1
        have h3 := HG.out.most
        have h4 := high_le hs5.2.1 hs5.2.2.1
        constructor <;> omega
      clear hs5
      go_wp2_with fail
      with_reducible refine HM2.out.mono ?_
      rintro e w6 ⟨rfl, hs7⟩
      have HF7 := Lib.hid (pl_fresh hs7 HC7.out.1)
      clear hs7
      obtain ⟨fr7, hfr7⟩ : ∃ fr7, T7.fr = fr7 := ⟨_, rfl⟩
      have HFE := Lib.hid hfr7
      have hf1 : (1 : Int) ≤ (fr7 : Int) := by have := HG.out.one; omega
      have hf2 : (fr7 : Int) ≤ 101 := by have := HC7.out.2; omega
      obtain ⟨hi7, hhi7⟩ : ∃ hi7, T7.high = hi7 := ⟨_, rfl⟩
      have HHE := Lib.hid hhi7
      have hf3 : (fr7 : Int) ≤ (hi7 : Int) := by have := HG.out.most; omega
      rw [hfr7] at HF7
      clear hfr7 hhi7
      go_wp2_with fail
      with_reducible refine HF7.out.mono ?_
      rintro e w7 ⟨rfl, hs8, _⟩
      have HF8 : Hid (Calls Tryz.prog 31 #[.pointer (some ⟨p, 0, none⟩)] w7 fun x w' => x = .returned (.int .i64 fr7) ∧ PlI w w' p bb T7 (.slice B m d) L6 ∧ Below w7.heap.size w7 w') := by have := pl_fresh hs8 HC7.out.1; rw [HFE.out] at this; exact this
      clear hs8
      go_wp2_with fail
      with_reducible refine HF8.out.mono ?_
      rintro e w8 ⟨rfl, hs9, _⟩
      have HH8 : Hid (Calls Tryz.prog 14 #[.pointer (some ⟨p, 0, none⟩)] w8 fun x w' => x = .returned (.int .i64 hi7) ∧ w' = w8) := by have := pl_height hs9; rw [HHE.out] at this; exact this
      have HS8 := Lib.hid hs9
      clear hs9
      go_wp2_with fail
      with_reducible refine HH8.out.mono ?_
      rintro e w9 ⟨rfl, rfl⟩
      have HSM := Lib.hid (pl_same HS8.out)
      go_wp2_with fail
      with_reducible refine HSM.out.mono ?_
      rintro e w10 ⟨rfl, hs10⟩
      have HPG := Lib.hid (pl_pages hs10 HC7.out.1)
      obtain ⟨zs, hzs⟩ : ∃ zs, T7.nfs = zs := ⟨_, rfl⟩
      have HZS : Hid (zs.Nodup ∧ (K : Int) ∉ zs ∧ tp ∉ zs) := by
        rw [← hzs]
        exact ⟨hs10.2.2.2.1.1, HG.out.pgn, by have := HG.out.top; rw [HTP.out] at this; exact this⟩
      have hzl : zs.length ≤ 16777216 := by have := fr_cnt T7; have := HC7.out.1; rw [← hzs]; omega
      rw [hzs] at HPG
      clear hs10 hzs
      obtain ⟨Q, hQ⟩ : ∃ Q, zs.length = Q := ⟨_, rfl⟩
      have HQ := Lib.hid hQ
      rw [hQ] at HPG hzl
      have hQi : (Q : Int) ≤ 16777216 := by omega
      clear hQ
      go_wp2_with fail
      with_reducible refine HPG.out.mono ?_
      rintro e w11 ⟨pA, pc, rfl, ho11, hs11, _⟩
      have HO11 := Lib.hid ho11
      have HS11 := Lib.hid hs11
      clear ho11 hs11
      go_wp2_with fail
      go_loopw [14] (fun s14 wr => ∃ j : Nat, j ≤ Q ∧ s14 = .int .i64 j ∧ Hid (Below w11.heap.size w11 wr)) (fun s14 _ => Q - (intOf s14).toNat)
      case atStart => exact ⟨0, Nat.zero_le _, rfl, Below.refl _ _⟩
      case round =>
        obtain ⟨j, hj, rfl, HBJ⟩ := hrel
        by_cases hlt : j < Q
        · have hji : (j : Int) < (Q : Int) := by omega
          obtain ⟨pg, rfl, _, _, _, hcell, _⟩ := own_cell HO11.out (by omega)
          have hsl : (sorted zs).length = Q := by rw [sorted_len, HQ.out]
          obtain ⟨a, ha⟩ : ∃ a, (sorted zs)[j]? = some a := ⟨_, List.getElem?_eq_getElem (by omega)⟩
          have c0 := below_c HBJ.out (hcell j _ (by rw [List.getElem?_map, ha]; rfl))
          have ham : a ∈ zs := (sorted_perm zs).subset (List.mem_of_getElem? ha)
          have hne1 : (a == (K : Int)) = false := by
            have : a ≠ (K : Int) := fun e => HZS.out.2.1 (by rw [← e]; exact ham)
            simpa using this
          have hne2 : (a == tp) = false := by
            have : a ≠ tp := fun e => HZS.out.2.2 (by rw [← e]; exact ham)
            simpa using this
          by_cases hj0 : j = 0
          · have hj0d : decide (0 < j) = false := by simp [hj0]
            clear hj0 ha ham hsl hcell
            go_wp2_with fail
            go_quiet (fail)
            generalize hwq : World.drewN _ _ = wq
            have HBQ : Hid (Below w11.heap.size w11 wq) := by show Below _ _ _; rw [← hwq]; exact below_drewN HBJ.out _
            clear hwq c0
            go_wp2_with fail
            go_roundw
            case rel => exact ⟨j + 1, by omega, by go_num, HBQ⟩
            case measure => simp [intOf]; omega
          · have hj0d : decide (0 < j) = true := by simp; omega
            obtain ⟨i, hi⟩ : ∃ i, j = i + 1 := ⟨j - 1, by omega⟩
            obtain ⟨b, hb⟩ : ∃ b, (sorted zs)[i]? = some b := ⟨_, List.getElem?_eq_getElem (by omega)⟩
            have c1 := below_c HBJ.out (hcell i _ (by rw [List.getElem?_map, hb]; rfl))
            have hlt2 : decide (a ≤ b) = false := by
              have := sorted_strict HZS.out.1 hb (by rw [← hi]; exact ha)
              simp; omega
            have hwi : IntKind.i64.wrap ((j : Int) - 1) = (i : Int) := by rw [hi, show ((i + 1 : Nat) : Int) - 1 = (i : Int) by omega]; simp [IntKind.wrap, IntKind.bits, IntKind.signed]; omega
            have hii : (i : Int) < (Q : Int) := by omega
            clear hj0 ha ham hsl hcell hb hi
            go_wp2_with fail
            go_quiet (fail)
            generalize hwq : World.drewN _ _ = wq
            have HBQ : Hid (Below w11.heap.size w11 wq) := by show Below _ _ _; rw [← hwq]; exact below_drewN HBJ.out _
            clear hwq c0 c1
            go_wp2_with fail
            go_roundw
            case rel => exact ⟨j + 1, by omega, by go_num, HBQ⟩
            case measure => simp [intOf]; omega
        · obtain rfl : j = Q := by omega
          have hs12 := HS11.out.below HBJ.out
          have HF12 : Hid (Calls Tryz.prog 31 #[.pointer (some ⟨p, 0, none⟩)] wr fun x w' => x = .returned (.int .i64 fr7) ∧ PlI w w' p bb T7 (.slice B m d) L6 ∧ Below wr.heap.size wr w') := by have := pl_fresh hs12 HC7.out.1; rw [HFE.out] at this; exact this
          clear hs12
          go_wp2_with fail
          with_reducible refine HF12.out.mono ?_
          rintro e w13 ⟨rfl, hs13, _⟩
          have HW13 := Lib.hid (pl_write hs13 (by have := HN6.out; have := HC7.out.2; omega) HC7.out.1)
          have HOK7 := Lib.hid hs13.2.1
          clear hs13
          go_wp2_with fail
          with_reducible refine HW13.out.mono ?_
          rintro e w14 ⟨T8, L8, rfl, hw8, hs14⟩
          obtain ⟨u1, u2, u3, u4, u5, u6, u7, u8⟩ := wrote_of hw8 HOK7.out
          obtain ⟨b8, c8, hb8⟩ := hs14.book
          have HLE : Hid (L8.length = N + fr7) := by show _ = _; rw [u3, HN6.out, HFE.out]
          rw [HLE.out] at hb8
          have HF14 : Hid (Calls Tryz.prog 31 #[.pointer (some ⟨p, 0, none⟩)] w14 fun x w' => x = .returned (.int .i64 0) ∧ PlI w w' p bb T8 (.slice B m d) L8 ∧ Below w14.heap.size w14 w') := by have := pl_fresh hs14 (by rw [u7]; exact HC7.out.1); rw [u6] at this; exact this
          clear hs14 hw8 u1 u2 u3 u4 u5 u6 u7 u8
          have hadd : (N : Int) + (fr7 : Int) ≤ 1000 := by omega
          go_wp2_with fail
          with_reducible refine HF14.out.mono ?_
          rintro e w15 ⟨rfl, hs15, _⟩
          have HS15 := Lib.hid hs15
          clear hs15
          go_wp2_with fail
          go_ret
          exact ⟨rfl, HFIN.out _ _ _ _ _ _ HS15.out⟩
  · by_cases ho2 : (N : Int) ≤ odd
    · skip
      have HMO : Hid (Calls Tryz.prog 36 #[.pointer (some ⟨p, 0, none⟩), .int .i64 odd] w4 fun x w' => x = .returned (.bool false) ∧ PlI w w' p bb T6 (.slice B m d) L6) := by have := pl_moved HS6.out odd; rw [HODD.out (.inr ho2)] at this; exact this
      go_wp2_with fail
      with_reducible refine HMO.out.mono ?_
      rintro e wa ⟨rfl, hsa⟩
      have HFA : Hid (Calls Tryz.prog 31 #[.pointer (some ⟨p, 0, none⟩)] wa fun x w' => x = .returned (.int .i64 0) ∧ PlI w w' p bb T6 (.slice B m d) L6 ∧ Below wa.heap.size wa w') := by have := pl_fresh hsa (by rw [HCN.out]; omega); rw [HFR.out] at this; exact this
      clear hsa
      go_wp2_with fail
      with_reducible refine HFA.out.mono ?_
      rintro e wb ⟨rfl, hsb, _⟩
      have HPr := Lib.hid hsb
      clear hsb
      by_cases hN0 : N = 0
      · subst hN0
        have htp := HTOP.out rfl
        subst htp
        go_wp2_with fail
        go_ret
        exact ⟨rfl, HFIN.out _ _ _ _ _ _ HPr.out⟩
      · obtain ⟨r1, r2, r3, r4⟩ := rem_rng which (N : Int) (by omega) (by omega)
        obtain ⟨r, hr⟩ : ∃ r, Int.tmod which (N : Int) = r := ⟨_, rfl⟩
        rw [hr] at r1 r2 r3 r4
        obtain ⟨K, hK⟩ : ∃ K : Nat, Int.tmod (r + (N : Int)) (N : Int) = (K : Int) := ⟨(Int.tmod (r + (N : Int)) (N : Int)).toNat, by omega⟩
        have hKN : K < N := by omega
        obtain ⟨g1, g2⟩ := mv_facts HO6.out HFR.out HAT.out hKN
        have HMV : Hid (Calls Tryz.prog 36 #[.pointer (some ⟨p, 0, none⟩), .int .i64 K] wb fun x w' => x = .returned (.bool true) ∧ PlI w w' p bb (T6.mv K).1 (.slice B m d) L6) := by have := pl_moved HPr.out (K : Int); rw [g1] at this; exact this
        obtain ⟨T7, hT7⟩ : ∃ T7, (T6.mv K).1 = T7 := ⟨_, rfl⟩
        rw [hT7] at HMV g2
        have HG := Lib.hid g2
        have hKi : (K : Int) < (N : Int) := by omega
        have hN0i : ¬ (N : Int) = 0 := by omega
        have hN0b : ((N : Int) == 0) = false := by simpa using hN0
        have hN0c : (0 : Int) < (N : Int) := by omega
        have hwr : wrap64 (r + (N : Int)) = r + (N : Int) := by unfold wrap64; omega
        clear g1 g2 hT7 r1 r2
        go_wp2_with fail
        with_reducible refine HMV.out.mono ?_
        rintro e w5 ⟨rfl, hs5⟩
        have HM2 : Hid (Calls Tryz.prog 36 #[.pointer (some ⟨p, 0, none⟩), .int .i64 K] w5 fun x w' => x = .returned (.bool false) ∧ PlI w w' p bb T7 (.slice B m d) L6) := by have := pl_moved hs5 (K : Int); rw [HG.out.again] at this; exact this
        have HC7 : Hid (T7.cnt ≤ 16777216 ∧ T7.fr ≤ 101) := by
          have h1 := cnt_le hs5.2.1
          have h2 := chk_len hs5.2.2.1
          have h3 := HG.out.most
          have h4 := high_le hs5.2.1 hs5.2.2.1
          constructor <;> omega
        clear hs5
        go_wp2_with fail
        with_reducible refine HM2.out.mono ?_
        rintro e w6 ⟨rfl, hs7⟩
        have HF7 := Lib.hid (pl_fresh hs7 HC7.out.1)
        clear hs7
        obtain ⟨fr7, hfr7⟩ : ∃ fr7, T7.fr = fr7 := ⟨_, rfl⟩
        have HFE := Lib.hid hfr7
        have hf1 : (1 : Int) ≤ (fr7 : Int) := by have := HG.out.one; omega
        have hf2 : (fr7 : Int) ≤ 101 := by have := HC7.out.2; omega
        obtain ⟨hi7, hhi7⟩ : ∃ hi7, T7.high = hi7 := ⟨_, rfl⟩
        have HHE := Lib.hid hhi7
        have hf3 : (fr7 : Int) ≤ (hi7 : Int) := by have := HG.out.most; omega
        rw [hfr7] at HF7
        clear hfr7 hhi7
        go_wp2_with fail
        with_reducible refine HF7.out.mono ?_
        rintro e w7 ⟨rfl, hs8, _⟩
        have HF8 : Hid (Calls Tryz.prog 31 #[.pointer (some ⟨p, 0, none⟩)] w7 fun x w' => x = .returned (.int .i64 fr7) ∧ PlI w w' p bb T7 (.slice B m d) L6 ∧ Below w7.heap.size w7 w') := by have := pl_fresh hs8 HC7.out.1; rw [HFE.out] at this; exact this
        clear hs8
        go_wp2_with fail
        with_reducible refine HF8.out.mono ?_
        rintro e w8 ⟨rfl, hs9, _⟩
        have HH8 : Hid (Calls Tryz.prog 14 #[.pointer (some ⟨p, 0, none⟩)] w8 fun x w' => x = .returned (.int .i64 hi7) ∧ w' = w8) := by have := pl_height hs9; rw [HHE.out] at this; exact this
        have HS8 := Lib.hid hs9
        clear hs9
        go_wp2_with fail
        with_reducible refine HH8.out.mono ?_
        rintro e w9 ⟨rfl, rfl⟩
        have HSM := Lib.hid (pl_same HS8.out)
        go_wp2_with fail
        with_reducible refine HSM.out.mono ?_
        rintro e w10 ⟨rfl, hs10⟩
        have HPG := Lib.hid (pl_pages hs10 HC7.out.1)
        obtain ⟨zs, hzs⟩ : ∃ zs, T7.nfs = zs := ⟨_, rfl⟩
        have HZS : Hid (zs.Nodup ∧ (K : Int) ∉ zs ∧ tp ∉ zs) := by
          rw [← hzs]
          exact ⟨hs10.2.2.2.1.1, HG.out.pgn, by have := HG.out.top; rw [HTP.out] at this; exact this⟩
        have hzl : zs.length ≤ 16777216 := by have := fr_cnt T7; have := HC7.out.1; rw [← hzs]; omega
        rw [hzs] at HPG
        clear hs10 hzs
        obtain ⟨Q, hQ⟩ : ∃ Q, zs.length = Q := ⟨_, rfl⟩
        have HQ := Lib.hid hQ
        rw [hQ] at HPG hzl
        have hQi : (Q : Int) ≤ 16777216 := by omega
        clear hQ
        go_wp2_with fail
        with_reducible refine HPG.out.mono ?_
        rintro e w11 ⟨pA, pc, rfl, ho11, hs11, _⟩
        have HO11 := Lib.hid ho11
        have HS11 := Lib.hid hs11
        clear ho11 hs11
        go_wp2_with fail
        go_loopw [14] (fun s14 wr => ∃ j : Nat, j ≤ Q ∧ s14 = .int .i64 j ∧ Hid (Below w11.heap.size w11 wr)) (fun s14 _ => Q - (intOf s14).toNat)
        case atStart => exact ⟨0, Nat.zero_le _, rfl, Below.refl _ _⟩
        case round =>
          obtain ⟨j, hj, rfl, HBJ⟩ := hrel
          by_cases hlt : j < Q
          · have hji : (j : Int) < (Q : Int) := by omega
            obtain ⟨pg, rfl, _, _, _, hcell, _⟩ := own_cell HO11.out (by omega)
            have hsl : (sorted zs).length = Q := by rw [sorted_len, HQ.out]
            obtain ⟨a, ha⟩ : ∃ a, (sorted zs)[j]? = some a := ⟨_, List.getElem?_eq_getElem (by omega)⟩
            have c0 := below_c HBJ.out (hcell j _ (by rw [List.getElem?_map, ha]; rfl))
            have ham : a ∈ zs := (sorted_perm zs).subset (List.mem_of_getElem? ha)
            have hne1 : (a == (K : Int)) = false := by
              have : a ≠ (K : Int) := fun e => HZS.out.2.1 (by rw [← e]; exact ham)
              simpa using this
            have hne2 : (a == tp) = false := by
              have : a ≠ tp := fun e => HZS.out.2.2 (by rw [← e]; exact ham)
              simpa using this
            by_cases hj0 : j = 0
            · have hj0d : decide (0 < j) = false := by simp [hj0]
              clear hj0 ha ham hsl hcell
              go_wp2_with fail
              go_quiet (fail)
              generalize hwq : World.drewN _ _ = wq
              have HBQ : Hid (Below w11.heap.size w11 wq) := by show Below _ _ _; rw [← hwq]; exact below_drewN HBJ.out _
              clear hwq c0
              go_wp2_with fail
              go_roundw
              case rel => exact ⟨j + 1, by omega, by go_num, HBQ⟩
              case measure => simp [intOf]; omega
            · have hj0d : decide (0 < j) = true := by simp; omega
              obtain ⟨i, hi⟩ : ∃ i, j = i + 1 := ⟨j - 1, by omega⟩
              obtain ⟨b, hb⟩ : ∃ b, (sorted zs)[i]? = some b := ⟨_, List.getElem?_eq_getElem (by omega)⟩
              have c1 := below_c HBJ.out (hcell i _ (by rw [List.getElem?_map, hb]; rfl))
              have hlt2 : decide (a ≤ b) = false := by
                have := sorted_strict HZS.out.1 hb (by rw [← hi]; exact ha)
                simp; omega
              have hwi : IntKind.i64.wrap ((j : Int) - 1) = (i : Int) := by rw [hi, show ((i + 1 : Nat) : Int) - 1 = (i : Int) by omega]; simp [IntKind.wrap, IntKind.bits, IntKind.signed]; omega
              have hii : (i : Int) < (Q : Int) := by omega
              clear hj0 ha ham hsl hcell hb hi
              go_wp2_with fail
              go_quiet (fail)
              generalize hwq : World.drewN _ _ = wq
              have HBQ : Hid (Below w11.heap.size w11 wq) := by show Below _ _ _; rw [← hwq]; exact below_drewN HBJ.out _
              clear hwq c0 c1
              go_wp2_with fail
              go_roundw
              case rel => exact ⟨j + 1, by omega, by go_num, HBQ⟩
              case measure => simp [intOf]; omega
          · obtain rfl : j = Q := by omega
            have hs12 := HS11.out.below HBJ.out
            have HF12 : Hid (Calls Tryz.prog 31 #[.pointer (some ⟨p, 0, none⟩)] wr fun x w' => x = .returned (.int .i64 fr7) ∧ PlI w w' p bb T7 (.slice B m d) L6 ∧ Below wr.heap.size wr w') := by have := pl_fresh hs12 HC7.out.1; rw [HFE.out] at this; exact this
            clear hs12
            go_wp2_with fail
            with_reducible refine HF12.out.mono ?_
            rintro e w13 ⟨rfl, hs13, _⟩
            have HW13 := Lib.hid (pl_write hs13 (by have := HN6.out; have := HC7.out.2; omega) HC7.out.1)
            have HOK7 := Lib.hid hs13.2.1
            clear hs13
            go_wp2_with fail
            with_reducible refine HW13.out.mono ?_
            rintro e w14 ⟨T8, L8, rfl, hw8, hs14⟩
            obtain ⟨u1, u2, u3, u4, u5, u6, u7, u8⟩ := wrote_of hw8 HOK7.out
            obtain ⟨b8, c8, hb8⟩ := hs14.book
            have HLE : Hid (L8.length = N + fr7) := by show _ = _; rw [u3, HN6.out, HFE.out]
            rw [HLE.out] at hb8
            have HF14 : Hid (Calls Tryz.prog 31 #[.pointer (some ⟨p, 0, none⟩)] w14 fun x w' => x = .returned (.int .i64 0) ∧ PlI w w' p bb T8 (.slice B m d) L8 ∧ Below w14.heap.size w14 w') := by have := pl_fresh hs14 (by rw [u7]; exact HC7.out.1); rw [u6] at this; exact this
            clear hs14 hw8 u1 u2 u3 u4 u5 u6 u7 u8
            have hadd : (N : Int) + (fr7 : Int) ≤ 1000 := by omega
            go_wp2_with fail
            with_reducible refine HF14.out.mono ?_
            rintro e w15 ⟨rfl, hs15, _⟩
            have HS15 := Lib.hid hs15
            clear hs15
            go_wp2_with fail
            go_ret
            exact ⟨rfl, HFIN.out _ _ _ _ _ _ HS15.out⟩
    · have HPr := HS6
      have hN0 : ¬ N = 0 := by omega
      obtain ⟨r1, r2, r3, r4⟩ := rem_rng which (N : Int) (by omega) (by omega)
      obtain ⟨r, hr⟩ : ∃ r, Int.tmod which (N : Int) = r := ⟨_, rfl⟩
      rw [hr] at r1 r2 r3 r4
      obtain ⟨K, hK⟩ : ∃ K : Nat, Int.tmod (r + (N : Int)) (N : Int) = (K : Int) := ⟨(Int.tmod (r + (N : Int)) (N : Int)).toNat, by omega⟩
      have hKN : K < N := by omega
      obtain ⟨g1, g2⟩ := mv_facts HO6.out HFR.out HAT.out hKN
      have HMV : Hid (Calls Tryz.prog 36 #[.pointer (some ⟨p, 0, none⟩), .int .i64 K] w4 fun x w' => x = .returned (.bool true) ∧ PlI w w' p bb (T6.mv K).1 (.slice B m d) L6) := by have := pl_moved HPr.out (K : Int); rw [g1] at this; exact this
      obtain ⟨T7, hT7⟩ : ∃ T7, (T6.mv K).1 = T7 := ⟨_, rfl⟩
      rw [hT7] at HMV g2
      have HG := Lib.hid g2
      have hKi : (K : Int) < (N : Int) := by omega
      have hN0i : ¬ (N : Int) = 0 := by omega
      have hN0b : ((N : Int) == 0) = false := by simpa using hN0
      have hN0c : (0 : Int) < (N : Int) := by omega
      have hwr : wrap64 (r + (N : Int)) = r + (N : Int) := by unfold wrap64; omega
      clear g1 g2 hT7 r1 r2
      go_wp2_with fail
      with_reducible refine HMV.out.mono ?_
      rintro e w5 ⟨rfl, hs5⟩
      have HM2 : Hid (Calls Tryz.prog 36 #[.pointer (some ⟨p, 0, none⟩), .int .i64 K] w5 fun x w' => x = .returned (.bool false) ∧ PlI w w' p bb T7 (.slice B m d) L6) := by have := pl_moved hs5 (K : Int); rw [HG.out.again] at this; exact this
      have HC7 : Hid (T7.cnt ≤ 16777216 ∧ T7.fr ≤ 101) := by
        have h1 := cnt_le hs5.2.1
        have h2 := chk_len hs5.2.2.1
        have h3 := HG.out.most
        have h4 := high_le hs5.2.1 hs5.2.2.1
        constructor <;> omega
      clear hs5
      go_wp2_with fail
      with_reducible refine HM2.out.mono ?_
      rintro e w6 ⟨rfl, hs7⟩
      have HF7 := Lib.hid (pl_fresh hs7 HC7.out.1)
      clear hs7
      obtain ⟨fr7, hfr7⟩ : ∃ fr7, T7.fr = fr7 := ⟨_, rfl⟩
      have HFE := Lib.hid hfr7
      have hf1 : (1 : Int) ≤ (fr7 : Int) := by have := HG.out.one; omega
      have hf2 : (fr7 : Int) ≤ 101 := by have := HC7.out.2; omega
      obtain ⟨hi7, hhi7⟩ : ∃ hi7, T7.high = hi7 := ⟨_, rfl⟩
      have HHE := Lib.hid hhi7
      have hf3 : (fr7 : Int) ≤ (hi7 : Int) := by have := HG.out.most; omega
      rw [hfr7] at HF7
      clear hfr7 hhi7
      go_wp2_with fail
      with_reducible refine HF7.out.mono ?_
      rintro e w7 ⟨rfl, hs8, _⟩
      have HF8 : Hid (Calls Tryz.prog 31 #[.pointer (some ⟨p, 0, none⟩)] w7 fun x w' => x = .returned (.int .i64 fr7) ∧ PlI w w' p bb T7 (.slice B m d) L6 ∧ Below w7.heap.size w7 w') := by have := pl_fresh hs8 HC7.out.1; rw [HFE.out] at this; exact this
      clear hs8
      go_wp2_with fail
      with_reducible refine HF8.out.mono ?_
      rintro e w8 ⟨rfl, hs9, _⟩
      have HH8 : Hid (Calls Tryz.prog 14 #[.pointer (some ⟨p, 0, none⟩)] w8 fun x w' => x = .returned (.int .i64 hi7) ∧ w' = w8) := by have := pl_height hs9; rw [HHE.out] at this; exact this
      have HS8 := Lib.hid hs9
      clear hs9
      go_wp2_with fail
      with_reducible refine HH8.out.mono ?_
      rintro e w9 ⟨rfl, rfl⟩
      have HSM := Lib.hid (pl_same HS8.out)
      go_wp2_with fail
      with_reducible refine HSM.out.mono ?_
      rintro e w10 ⟨rfl, hs10⟩
      have HPG := Lib.hid (pl_pages hs10 HC7.out.1)
      obtain ⟨zs, hzs⟩ : ∃ zs, T7.nfs = zs := ⟨_, rfl⟩
      have HZS : Hid (zs.Nodup ∧ (K : Int) ∉ zs ∧ tp ∉ zs) := by
        rw [← hzs]
        exact ⟨hs10.2.2.2.1.1, HG.out.pgn, by have := HG.out.top; rw [HTP.out] at this; exact this⟩
      have hzl : zs.length ≤ 16777216 := by have := fr_cnt T7; have := HC7.out.1; rw [← hzs]; omega
      rw [hzs] at HPG
      clear hs10 hzs
      obtain ⟨Q, hQ⟩ : ∃ Q, zs.length = Q := ⟨_, rfl⟩
      have HQ := Lib.hid hQ
      rw [hQ] at HPG hzl
      have hQi : (Q : Int) ≤ 16777216 := by omega
      clear hQ
      go_wp2_with fail
      with_reducible refine HPG.out.mono ?_
      rintro e w11 ⟨pA, pc, rfl, ho11, hs11, _⟩
      have HO11 := Lib.hid ho11
      have HS11 := Lib.hid hs11
      clear ho11 hs11
      go_wp2_with fail
      go_loopw [14] (fun s14 wr => ∃ j : Nat, j ≤ Q ∧ s14 = .int .i64 j ∧ Hid (Below w11.heap.size w11 wr)) (fun s14 _ => Q - (intOf s14).toNat)
      case atStart => exact ⟨0, Nat.zero_le _, rfl, Below.refl _ _⟩
      case round =>
        obtain ⟨j, hj, rfl, HBJ⟩ := hrel
        by_cases hlt : j < Q
        · have hji : (j : Int) < (Q : Int) := by omega
          obtain ⟨pg, rfl, _, _, _, hcell, _⟩ := own_cell HO11.out (by omega)
          have hsl : (sorted zs).length = Q := by rw [sorted_len, HQ.out]
          obtain ⟨a, ha⟩ : ∃ a, (sorted zs)[j]? = some a := ⟨_, List.getElem?_eq_getElem (by omega)⟩
          have c0 := below_c HBJ.out (hcell j _ (by rw [List.getElem?_map, ha]; rfl))
          have ham : a ∈ zs := (sorted_perm zs).subset (List.mem_of_getElem? ha)
          have hne1 : (a == (K : Int)) = false := by
            have : a ≠ (K : Int) := fun e => HZS.out.2.1 (by rw [← e]; exact ham)
            simpa using this
          have hne2 : (a == tp) = false := by
            have : a ≠ tp := fun e => HZS.out.2.2 (by rw [← e]; exact ham)
            simpa using this
          by_cases hj0 : j = 0
          · have hj0d : decide (0 < j) = false := by simp [hj0]
            clear hj0 ha ham hsl hcell
            go_wp2_with fail
            go_quiet (fail)
            generalize hwq : World.drewN _ _ = wq
            have HBQ : Hid (Below w11.heap.size w11 wq) := by show Below _ _ _; rw [← hwq]; exact below_drewN HBJ.out _
            clear hwq c0
            go_wp2_with fail
            go_roundw
            case rel => exact ⟨j + 1, by omega, by go_num, HBQ⟩
            case measure => simp [intOf]; omega
          · have hj0d : decide (0 < j) = true := by simp; omega
            obtain ⟨i, hi⟩ : ∃ i, j = i + 1 := ⟨j - 1, by omega⟩
            obtain ⟨b, hb⟩ : ∃ b, (sorted zs)[i]? = some b := ⟨_, List.getElem?_eq_getElem (by omega)⟩
            have c1 := below_c HBJ.out (hcell i _ (by rw [List.getElem?_map, hb]; rfl))
            have hlt2 : decide (a ≤ b) = false := by
              have := sorted_strict HZS.out.1 hb (by rw [← hi]; exact ha)
              simp; omega
            have hwi : IntKind.i64.wrap ((j : Int) - 1) = (i : Int) := by rw [hi, show ((i + 1 : Nat) : Int) - 1 = (i : Int) by omega]; simp [IntKind.wrap, IntKind.bits, IntKind.signed]; omega
            have hii : (i : Int) < (Q : Int) := by omega
            clear hj0 ha ham hsl hcell hb hi
            go_wp2_with fail
            go_quiet (fail)
            generalize hwq : World.drewN _ _ = wq
            have HBQ : Hid (Below w11.heap.size w11 wq) := by show Below _ _ _; rw [← hwq]; exact below_drewN HBJ.out _
            clear hwq c0 c1
            go_wp2_with fail
            go_roundw
            case rel => exact ⟨j + 1, by omega, by go_num, HBQ⟩
            case measure => simp [intOf]; omega
        · obtain rfl : j = Q := by omega
          have hs12 := HS11.out.below HBJ.out
          have HF12 : Hid (Calls Tryz.prog 31 #[.pointer (some ⟨p, 0, none⟩)] wr fun x w' => x = .returned (.int .i64 fr7) ∧ PlI w w' p bb T7 (.slice B m d) L6 ∧ Below wr.heap.size wr w') := by have := pl_fresh hs12 HC7.out.1; rw [HFE.out] at this; exact this
          clear hs12
          go_wp2_with fail
          with_reducible refine HF12.out.mono ?_
          rintro e w13 ⟨rfl, hs13, _⟩
          have HW13 := Lib.hid (pl_write hs13 (by have := HN6.out; have := HC7.out.2; omega) HC7.out.1)
          have HOK7 := Lib.hid hs13.2.1
          clear hs13
          go_wp2_with fail
          with_reducible refine HW13.out.mono ?_
          rintro e w14 ⟨T8, L8, rfl, hw8, hs14⟩
          obtain ⟨u1, u2, u3, u4, u5, u6, u7, u8⟩ := wrote_of hw8 HOK7.out
          obtain ⟨b8, c8, hb8⟩ := hs14.book
          have HLE : Hid (L8.length = N + fr7) := by show _ = _; rw [u3, HN6.out, HFE.out]
          rw [HLE.out] at hb8
          have HF14 : Hid (Calls Tryz.prog 31 #[.pointer (some ⟨p, 0, none⟩)] w14 fun x w' => x = .returned (.int .i64 0) ∧ PlI w w' p bb T8 (.slice B m d) L8 ∧ Below w14.heap.size w14 w') := by have := pl_fresh hs14 (by rw [u7]; exact HC7.out.1); rw [u6] at this; exact this
          clear hs14 hw8 u1 u2 u3 u4 u5 u6 u7 u8
          have hadd : (N : Int) + (fr7 : Int) ≤ 1000 := by omega
          go_wp2_with fail
          with_reducible refine HF14.out.mono ?_
          rintro e w15 ⟨rfl, hs15, _⟩
          have HS15 := Lib.hid hs15
          clear hs15
          go_wp2_with fail
          go_ret
          exact ⟨rfl, HFIN.out _ _ _ _ _ _ HS15.out⟩
end Go.Proofs.YtneammhkgmkkfaaGreat.tr
