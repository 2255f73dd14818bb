/- The law TreeFew, walked. -/
import Derived.Test.YtneammhkgmkkfaaGreatTuC
import Derived.Test.YtneammhkgmkkfaaGreatTuD
namespace Go.Proofs.YtneammhkgmkkfaaGreat.tr
open Go.RowKit Go.Proofs.YtneammhkgmkkfaaGreat.er
set_option linter.unusedVariables false
set_option linter.unusedSimpArgs false

theorem pl_over_same {w0 wr : World} {p bb : Nat} {T : Tree} {rv : Value} {L : Bk} (h : PlI w0 wr p bb T rv L) {e : Ext} (he : e ∈ T.flat) :
    Calls Tryz.prog 34 #[.pointer (some ⟨p, 0, none⟩), e.val] wr fun x w' => x = .returned (.int .i64 0) ∧ PlI w0 w' p bb T rv L := by
  obtain ⟨h1, h2, h3, h4, F, G, f1, f2, f3, f4, f5, f6, f7⟩ := h
  have hone := h3.one e he
  refine (sx_over (X := fun k => k ∈ F) (w0 := wr) (y := e) ⟨Keep.refl _ _, h2, h3, h3, F, f1, fun k hk => .inl hk, f6, f7⟩ (Below.refl _ _) hone).mono ?_
  rintro x w' ⟨rfl, ⟨k1, k2, k3, k4, F', e1, e2, e3, e4⟩, _⟩
  rw [tree_same h3 he hone] at e1
  refine ⟨rfl, h1.trans k1 (fun k hk => .inr (f2 k hk)), h2, h3, h4, F', G, e1, fun k hk => ?_, f3.keep k1 (fun k hk hkF => f5 k hkF hk), f4, fun k hk hg => ?_, e3, e4⟩
  · rcases e2 k hk with hk | hk
    · exact f2 k hk
    · have := h1.size; omega
  · rcases e2 k hk with hk | hk
    · exact f5 k hk hg
    · have := f3.lt k hg; omega
theorem pl_cut0 {w0 wr : World} {p bb : Nat} {T : Tree} {rv : Value} {L : Bk} (h : PlI w0 wr p bb T rv L) (f : Int) (h0 : 0 ≤ f) (hf : f ≤ 16777216) :
    Calls Tryz.prog 16 #[.pointer (some ⟨p, 0, none⟩), .int .i64 f, .int .i64 0] wr fun x w' => x = .returned (.int .i64 0) ∧ PlI w0 w' p bb T rv L := by
  obtain ⟨h1, h2, h3, h4, F, G, f1, f2, f3, f4, f5, f6, f7⟩ := h
  have hsp : spanB f 0 = true := by unfold spanB; simp; omega
  refine (sx_cut (X := fun k => k ∈ F) (w0 := wr) (fr := f) (n := 0) ⟨Keep.refl _ _, h2, h3, h3, F, f1, fun k hk => .inl hk, f6, f7⟩ (Below.refl _ _) hsp).mono ?_
  rintro x w' ⟨rfl, ⟨k1, k2, k3, k4, F', e1, e2, e3, e4⟩, _⟩
  rw [tree_cut0 h3 h0 hf] at e1
  refine ⟨rfl, h1.trans k1 (fun k hk => .inr (f2 k hk)), h2, h3, h4, F', G, e1, fun k hk => ?_, f3.keep k1 (fun k hk hkF => f5 k hkF hk), f4, fun k hk hg => ?_, e3, e4⟩
  · rcases e2 k hk with hk | hk
    · exact f2 k hk
    · have := h1.size; omega
  · rcases e2 k hk with hk | hk
    · exact f5 k hk hg
    · have := f3.lt k hg; omega
/-- The state without the list. -/
def PlJ (w0 wr : World) (p bb : Nat) (T : Tree) (L : Bk) : Prop :=
  Keep (fun _ => False) w0 wr ∧ T.Ok ∧ Chk T.flat ∧ (T.nfs.Nodup ∧ ∀ a ∈ T.nfs, 0 ≤ a ∧ a < L.length) ∧ ∃ (F : List Nat) (G : Nat → Prop), TrAt wr F p T ∧ (∀ k ∈ F, w0.heap.size ≤ k) ∧ BkAt wr G bb L ∧ (∀ k, G k → w0.heap.size ≤ k) ∧ (∀ k ∈ F, ¬ G k)
theorem PlJ.below {w0 wr wq : World} {p bb : Nat} {T : Tree} {L : Bk} (h : PlJ w0 wr p bb T L) (hb : Below wr.heap.size wr wq) : PlJ w0 wq p bb T L := by
  obtain ⟨h1, h2, h3, h4, F, G, f1, f2, f3, f4, f5⟩ := h
  exact ⟨h1.transBelow hb, h2, h3, h4, F, G, f1.keep (Keep.below (F := fun _ => False) hb) (fun _ _ h => h), f2, f3.below hb, f4, f5⟩
theorem PlJ.book {w0 wr : World} {p bb : Nat} {T : Tree} {L : Bk} (h : PlJ w0 wr p bb T L) : ∃ A c, wr.cell? ⟨bb, 0, none⟩ = some (.slice A L.length c) := by
  obtain ⟨h1, h2, h3, h4, F, G, f1, f2, f3, f4, f5⟩ := h
  exact f3.cell
theorem pl_overJ {w0 wr : World} {p bb : Nat} {T : Tree} {rv : Value} {L : Bk} (h : PlI w0 wr p bb T rv L) {e : Ext} (hone : oneB e = true) :
    Calls Tryz.prog 34 #[.pointer (some ⟨p, 0, none⟩), e.val] wr fun x w' => x = .returned (.int .i64 0) ∧ PlJ w0 w' p bb (T.over e) L ∧ ∀ k, k < w0.heap.size → w'.heap[k]? = wr.heap[k]? := by
  obtain ⟨h1, h2, h3, h4, F, G, f1, f2, f3, f4, f5, f6, f7⟩ := h
  have hk := (over_kept her_true h2 h3 hone).nf
  refine (sx_over (X := fun k => k ∈ F) (w0 := wr) (y := e) ⟨Keep.refl _ _, h2, h3, h3, F, f1, fun k hk => .inl hk, f6, f7⟩ (Below.refl _ _) hone).mono ?_
  rintro x w' ⟨rfl, ⟨k1, k2, k3, k4, F', e1, e2, e3, e4⟩, _⟩
  refine ⟨rfl, ⟨h1.trans k1 (fun k hk => .inr (f2 k hk)), k2, k3, ⟨h4.1.sublist hk, fun b hb => h4.2 b (hk.subset hb)⟩, F', G, e1, fun k hk => ?_, f3.keep k1 (fun k hk hkF => f5 k hkF hk), f4, fun k hk hg => ?_⟩, fun k hk => k1.block k (Nat.lt_of_lt_of_le hk h1.size) (fun hkF => by have := f2 k hkF; omega)⟩
  · rcases e2 k hk with hk | hk
    · exact f2 k hk
    · have := h1.size; omega
  · rcases e2 k hk with hk | hk
    · exact f5 k hk hg
    · have := f3.lt k hg; omega
theorem pl_freshJ {w0 wr : World} {p bb : Nat} {T : Tree} {L : Bk} (h : PlJ w0 wr p bb T L) (hN : T.cnt ≤ 16777216) :
    Calls Tryz.prog 31 #[.pointer (some ⟨p, 0, none⟩)] wr fun x w' => x = .returned (.int .i64 T.fr) ∧ PlJ w0 w' p bb T L ∧ Below wr.heap.size wr w' := by
  have hh := h
  obtain ⟨h1, h2, h3, h4, F, G, f1, _⟩ := h
  refine (fresh_any wr F p T f1 h2 hN).mono ?_
  rintro x w' ⟨rfl, hb⟩
  exact ⟨rfl, hh.below hb, hb⟩
theorem pl_writeJ {w0 wr : World} {p bb : Nat} {T : Tree} {L : Bk} (h : PlJ w0 wr p bb T L) (hl : L.length + T.fr ≤ 2000) (hN : T.cnt ≤ 16777216) :
    Calls Tryz.prog 29 #[.pointer (some ⟨p, 0, none⟩), .func (.func 30) #[.pointer (some ⟨bb, 0, none⟩)] #[]] wr fun x w' => ∃ T' L', x = .returned (.tuple #[.int .i64 T'.topAt, .nilIface]) ∧ Wrote T L T' L' ∧ PlJ w0 w' p bb T' L' := by
  obtain ⟨h1, h2, h3, h4, F, G, f1, f2, f3, f4, f5⟩ := h
  refine (write_any wr F p T G bb L f1 h2 h3 f3 f5 h4.1 h4.2 hl hN).mono ?_
  rintro x w' ⟨T', L', G', rfl, k1, k2, k3, k4, k5⟩
  obtain ⟨q1, q2, q3, q4, q5, q6, q7, q8⟩ := wrote_of k1 h2
  have hlt := f1.lt
  refine ⟨T', L', rfl, k1, h1.trans k5 (fun k hk => .inr ?_), q1, by rw [q2]; exact h3, q5 h4, F, G', k2, f2, k3, fun k hk => ?_, fun k hk hg => ?_⟩
  · rcases hk with hk | hk
    · exact f2 k hk
    · exact f4 k hk
  · rcases k4 k hk with hk | hk
    · exact f4 k hk
    · have := h1.size; omega
  · rcases k4 k hg with hg | hg
    · exact f5 k hk hg
    · have := hlt k hk; omega
set_option maxHeartbeats 8000000 in
set_option maxRecDepth 100000 in
theorem lawFew_any (w : World) (v : Value) (L0 : List Act) (x : Ext) (h : ActsAt w v L0) :
    Calls Tryz.prog 7 #[v, x.val] w fun y w' => y = .returned (.bool true) ∧ Below w.heap.size w w' := by
  have hbx : Below w.heap.size w (w.alloc (.cells #[.int .i64 x.fr, .int .i64 x.n, .int .i64 x.kind, .int .i64 x.at_] 39)) := (Below.refl _ _).alloc (Nat.le_refl _) _
  have h' : ActsAt (w.alloc (.cells #[.int .i64 x.fr, .int .i64 x.n, .int .i64 x.kind, .int .i64 x.at_] 39)) v L0 := h.keep (Keep.below hbx)
  have hwx := Whole.new w 39 #[.int .i64 x.fr, .int .i64 x.n, .int .i64 x.kind, .int .i64 x.at_]
  obtain ⟨wz, hwz⟩ : ∃ wz, w.alloc (.cells #[.int .i64 x.fr, .int .i64 x.n, .int .i64 x.kind, .int .i64 x.at_] 39) = wz := ⟨_, rfl⟩
  obtain ⟨xb, hxb⟩ : ∃ xb, w.heap.size = xb := ⟨_, rfl⟩
  rw [hwz] at hbx h' hwx
  have hxl : xb < wz.heap.size := by rw [← hwz, ← hxb]; simp
  rw [hxb] at hwx
  have HBU : Hid (Calls Tryz.prog 12 #[v, .int .i64 150] wz fun x w' => ∃ p A m c T, x = .returned (.tuple #[.pointer (some ⟨p, 0, none⟩), .slice A m c]) ∧ St wz w' p T (.slice A m c) T.flat ∧ T.nfs = [] ∧ T.flat.length ≤ 2 * 150) := builtF_any wz v L0 150 (by omega) h'
  have HAW := Lib.hid (fun wq => awake_any wq)
  have HON := Lib.hid (fun wq => rone_any x wq)
  have HBX := Lib.hid hbx
  have HWX : Hid (∀ wq, Keep (fun _ => False) wz wq → Whole wq xb 39 #[.int .i64 x.fr, .int .i64 x.n, .int .i64 x.kind, .int .i64 x.at_]) := fun wq hk => hwx.keep hk (fun h => h)
  have HOV : Hid (oneB x = true → ∀ wr p bb T rv L, PlI wz wr p bb T rv L → Calls Tryz.prog 34 #[.pointer (some ⟨p, 0, none⟩), x.val] wr fun y w' => y = .returned (.int .i64 0) ∧ PlJ wz w' p bb (T.over x) L) := by
    intro ho wr p bb T rv L hs
    refine (pl_overJ hs ho).mono ?_
    rintro y w' ⟨rfl, h1, _⟩
    exact ⟨rfl, h1⟩
  have HFEW : Hid (oneB x = true → x.n ≤ 3 → ∀ T : Tree, T.Ok → Chk T.flat → (T.over x).fr ≤ T.fr + (16 * T.high + 9) ∧ (T.over x).flat.length ≤ T.flat.length + 2) := fun ho hn T h1 h2 => ⟨over_fresh h1 h2 ho hn, by rw [(tree_over h1 h2 ho).1]; exact over_len h2 ho⟩
  obtain ⟨A, c, rfl, hb, hc⟩ := h
  obtain ⟨M, hM⟩ : ∃ M, L0.length = M := ⟨_, rfl⟩
  rw [hM] at HBU ⊢
  obtain ⟨xo, hxo⟩ : ∃ xo, oneB x = xo := ⟨_, rfl⟩
  have HXO := Lib.hid hxo
  rw [hxo] at HON HOV HFEW
  obtain ⟨xf, xn, xk, xt⟩ := x
  simp only at hwz
  simp only [Ext.val] at HON HOV
  have HWX2 : Hid (∀ wq, Keep (fun _ => False) wz wq → Whole wq xb 39 #[.int .i64 xf, .int .i64 xn, .int .i64 xk, .int .i64 xt]) := HWX.out
  have HFIN : Hid (∀ wr, Keep (fun _ => False) wz wr → Below w.heap.size w wr) := fun wr hk => HBX.out.trans ((hk.toBelow (Nat.le_refl _) (fun _ h => h.elim)).mono (by have := HBX.out.size; omega))
  clear hc hM hb h' hwx hbx hxo hxl HWX
  show Calls Tryz.prog 7 #[.slice A M c, .agg #[.int .i64 xf, .int .i64 xn, .int .i64 xk, .int .i64 xt]] w _
  go_enter Tryz.func7, Tryz.ntmps7
  go_wp2_with fail
  try rw [hwz]
  try rw [hxb]
  clear hwz hxb
  with_reducible refine HBU.out.mono ?_
  rintro e w1 ⟨p, B, m, d, T, rfl, hs1, hn1, hl1⟩
  have hm1 := st_len hs1
  have HPL := Lib.hid (pl_of_st hs1 hn1)
  have HT : Hid (T.nfs = [] ∧ T.cnt ≤ 101 ∧ T.fr = T.cnt ∧ T.Ok ∧ T.flat.length = m ∧ m ≤ 300) := ⟨hn1, by have := cnt_le hs1.2.1; omega, fresh_all hn1, hs1.2.1, hm1.symm, by omega⟩
  clear hs1 hn1 hl1 HBU hm1
  go_wp2_with fail
  obtain ⟨w2, hw2⟩ : ∃ w2, w1.alloc (.cells #[.slice none 0 0] 60) = w2 := ⟨_, rfl⟩
  obtain ⟨bb, hbb⟩ : ∃ bb, w1.heap.size = bb := ⟨_, rfl⟩
  rw [hw2] at HPL ⊢
  rw [hbb] at HPL ⊢
  clear hw2 hbb
  with_reducible refine (HAW.out _).mono ?_
  rintro e w3 ⟨rfl, hb3⟩
  have HS3 := Lib.hid (HPL.out.below hb3)
  have hx3 := HWX2.out w3 HS3.out.1
  have x0 := hx3.cell 0
  have x1 := hx3.cell 1
  have x2 := hx3.cell 2
  have x3 := hx3.cell 3
  simp at x0 x1 x2 x3
  clear hb3 HPL hx3
  by_cases hn3 : 3 < xn
  · have HA3 := Lib.hid (HAW.out w3)
    have HK3 := Lib.hid HS3.out.1
    go_wp2_with fail
    with_reducible refine HA3.out.mono ?_
    rintro e w4 ⟨rfl, hb4⟩
    have HB4 := Lib.hid (HK3.out.transBelow hb4)
    clear hb4
    go_wp2_with fail
    go_ret
    exact ⟨rfl, HFIN.out _ HB4.out⟩
  · cases xo with
    | false =>
      have HO3 := Lib.hid (HON.out w3)
      have HK3 := Lib.hid HS3.out.1
      go_wp2_with fail
      with_reducible refine HO3.out.mono ?_
      rintro e w4 ⟨rfl, hb4⟩
      have HB4 := Lib.hid (HK3.out.transBelow hb4)
      clear hb4
      go_wp2_with fail
      with_reducible refine (HAW.out _).mono ?_
      rintro e w5 ⟨rfl, hb5⟩
      have HB5 := Lib.hid (HB4.out.transBelow hb5)
      clear hb5
      go_wp2_with fail
      go_ret
      exact ⟨rfl, HFIN.out _ HB5.out⟩
    | true =>
      have HO3 := Lib.hid (HON.out w3)
      go_wp2_with fail
      with_reducible refine HO3.out.mono ?_
      rintro e w4 ⟨rfl, hb4⟩
      have HWR := Lib.hid (pl_write (HS3.out.below hb4) (by have := HT.out; simp; omega) (by have := HT.out; omega))
      clear hb4 HS3 x0 x1 x2 x3
      go_wp2_with fail
      with_reducible refine HWR.out.mono ?_
      rintro e w5 ⟨T6, L6, rfl, hw6, hs6⟩
      obtain ⟨q1, q2, q3, q4, q5, q6, q7, q8⟩ := wrote_of hw6 HT.out.2.2.2.1
      obtain ⟨N, hN⟩ : ∃ N, L6.length = N := ⟨_, rfl⟩
      have HN6 := Lib.hid hN
      have HF6 : Hid (T6.fr = 0 ∧ T6.cnt ≤ 101 ∧ N ≤ 101 ∧ T6.flat.length = m ∧ m ≤ 300 ∧ T6.Ok ∧ Chk T6.flat) := ⟨q6, by rw [q7]; exact HT.out.2.1, by have := HT.out.2.1; have := HT.out.2.2.1; simp at q3; omega, by rw [q2]; exact HT.out.2.2.2.2.1, HT.out.2.2.2.2.2, q1, hs6.2.2.1⟩
      have HS6 := Lib.hid hs6
      have hmi : (m : Int) ≤ 300 := by have := HF6.out; omega
      have HFR : Hid (∀ wr, PlI wz wr p bb T6 (.slice B m d) L6 → Calls Tryz.prog 31 #[.pointer (some ⟨p, 0, none⟩)] wr fun x w' => x = .returned (.int .i64 0) ∧ PlI wz w' p bb T6 (.slice B m d) L6) := by
        intro wr hs
        have := pl_fresh hs (by have := HF6.out.2.1; omega)
        rw [HF6.out.1] at this
        refine this.mono ?_
        rintro x w' ⟨rfl, h1, _⟩
        exact ⟨rfl, h1⟩
      have HCE : Hid (∀ wr, PlI wz wr p bb T6 (.slice B m d) L6 → 0 < m → ∃ g o, B = some ⟨g, o, none⟩ ∧ ∀ (j : Nat) (e : Ext), T6.flat[j]? = some e → ExtAt wr g (o + j * 4) e) := by
        intro wr hs h0
        obtain ⟨A8, c8, hv, hcell⟩ := hs.st.exts
        injection hv with hv1 hv2 hv3
        rw [hv1]
        exact hcell (by rw [← hv2]; exact h0)
      have HOS : Hid (∀ wr e, PlI wz wr p bb T6 (.slice B m d) L6 → e ∈ T6.flat → Calls Tryz.prog 34 #[.pointer (some ⟨p, 0, none⟩), e.val] wr fun x w' => x = .returned (.int .i64 0) ∧ PlI wz w' p bb T6 (.slice B m d) L6) := fun wr e hs he => pl_over_same hs he
      have HCU : Hid (∀ wr f, PlI wz wr p bb T6 (.slice B m d) L6 → 0 ≤ f → f ≤ 16777216 → Calls Tryz.prog 16 #[.pointer (some ⟨p, 0, none⟩), .int .i64 f, .int .i64 0] wr fun x w' => x = .returned (.int .i64 0) ∧ PlI wz w' p bb T6 (.slice B m d) L6) := fun wr f hs h0 h1 => pl_cut0 hs f h0 h1
      clear hs6 hw6 q1 q2 q3 q4 q5 q6 q7 q8 hN HWR
      go_wp2_with fail
      go_loopw [8] (fun s8 wr => ∃ j : Nat, j ≤ m ∧ s8 = .int .i64 j ∧ Hid (PlI wz wr p bb T6 (.slice B m d) L6)) (fun s8 _ => m - (intOf s8).toNat)
      case atStart => exact ⟨0, Nat.zero_le _, rfl, HS6⟩
      case round =>
        obtain ⟨j, hj, rfl, HSJ⟩ := hrel
        by_cases hlt : j < m
        · have hji : (j : Int) < (m : Int) := by omega
          obtain ⟨g, o, rfl, hcc⟩ := HCE.out wr HSJ.out (by omega)
          obtain ⟨y, hy⟩ : ∃ y, T6.flat[j]? = some y := ⟨_, List.getElem?_eq_getElem (by rw [HF6.out.2.2.2.1]; exact hlt)⟩
          obtain ⟨c0, c1, c2, c3⟩ := hcc j y hy
          have HO := Lib.hid (HOS.out wr y HSJ.out (List.mem_of_getElem? hy))
          obtain ⟨f, en, k, t⟩ := y
          simp only at c0 c1 c2 c3
          simp only [Ext.val] at HO
          clear hcc hy
          go_wp2_with fail
          with_reducible refine HO.out.mono ?_
          rintro e w7 ⟨rfl, hs7⟩
          have HF7 := Lib.hid (HFR.out _ hs7)
          clear hs7
          go_wp2_with fail
          with_reducible refine HF7.out.mono ?_
          rintro e w8 ⟨rfl, hs8⟩
          have HS8 := Lib.hid hs8
          clear hs8
          go_wp2_with fail
          go_roundw
          case rel => exact ⟨j + 1, by omega, by go_num, HS8⟩
          case measure => simp [intOf]; omega
        · obtain rfl : j = m := by omega
          have HC1 := Lib.hid (HCU.out wr 16777215 HSJ.out (by omega) (by omega))
          go_wp2_with fail
          with_reducible refine HC1.out.mono ?_
          rintro e w7 ⟨rfl, hs7⟩
          have HC2 := Lib.hid (HCU.out w7 0 hs7 (by omega) (by omega))
          clear hs7
          go_wp2_with fail
          with_reducible refine HC2.out.mono ?_
          rintro e w8 ⟨rfl, hs8⟩
          have HF8 := Lib.hid (HFR.out _ hs8)
          clear hs8
          go_wp2_with fail
          with_reducible refine HF8.out.mono ?_
          rintro e w9 ⟨rfl, hs9⟩
          have HHI := Lib.hid (pl_height hs9)
          have HOV9 := Lib.hid (HOV.out (by first | rfl | trivial) w9 p bb T6 (.slice B j d) L6 hs9)
          obtain ⟨hi, hhi⟩ : ∃ hi, T6.high = hi := ⟨_, rfl⟩
          have hx9 := HWX2.out w9 hs9.1
          have x0 := hx9.cell 0
          have x1 := hx9.cell 1
          have x2 := hx9.cell 2
          have x3 := hx9.cell 3
          simp at x0 x1 x2 x3
          have hhb : hi ≤ 20 := by rw [← hhi]; exact high_le hs9.2.1 hs9.2.2.1
          have HFF : Hid ((T6.over ⟨xf, xn, xk, xt⟩).fr ≤ 16 * hi + 9 ∧ (T6.over ⟨xf, xn, xk, xt⟩).cnt ≤ 101 ∧ (T6.over ⟨xf, xn, xk, xt⟩).fr ≤ (T6.over ⟨xf, xn, xk, xt⟩).cnt ∧ (T6.over ⟨xf, xn, xk, xt⟩).Ok) := by
            have hf := HF6.out
            obtain ⟨u1, u2⟩ := HFEW.out (by first | rfl | trivial) (by show xn ≤ 3; omega) T6 hf.2.2.2.2.2.1 hf.2.2.2.2.2.2
            have ho := (tree_over hf.2.2.2.2.2.1 hf.2.2.2.2.2.2 HXO.out).2.1
            refine ⟨by omega, ?_, fr_le _, ho⟩
            have := cnt_le ho
            omega
          obtain ⟨T7, hT7⟩ : ∃ T7, T6.over ⟨xf, xn, xk, xt⟩ = T7 := ⟨_, rfl⟩
          rw [hT7] at HFF HOV9
          rw [hhi] at HHI
          obtain ⟨fr7, hfr7⟩ : ∃ fr7, T7.fr = fr7 := ⟨_, rfl⟩
          rw [hfr7] at HFF
          have HFE := Lib.hid hfr7
          have hf1 : (fr7 : Int) ≤ 101 := by have := HFF.out; omega
          have hf2 : (fr7 : Int) ≤ 8 * (2 * (hi : Int) + 2) := by have := HFF.out.1; omega
          have hhib : (hi : Int) ≤ 20 := by omega
          have hNi : (N : Int) ≤ 101 := by have := HF6.out; omega
          clear hs9 hx9 hT7 hhi hfr7
          go_wp2_with fail
          with_reducible refine HHI.out.mono ?_
          rintro e w10 ⟨rfl, rfl⟩
          go_wp2_with fail
          with_reducible refine HOV9.out.mono ?_
          rintro e w11 ⟨rfl, hj11⟩
          have HJ11 := Lib.hid hj11
          obtain ⟨kA, kc, hbk⟩ := hj11.book
          rw [HN6.out] at hbk
          have HK : Hid (∀ w', Below w11.heap.size w11 w' → w'.cell? ⟨bb, 0, none⟩ = some (.slice kA N kc)) := fun w' hb => below_c hb hbk
          have HFJ : Hid (∀ wq, Below w11.heap.size w11 wq → Calls Tryz.prog 31 #[.pointer (some ⟨p, 0, none⟩)] wq fun x w' => x = .returned (.int .i64 fr7) ∧ Below wq.heap.size wq w') := by
            intro wq hb
            have := pl_freshJ (HJ11.out.below hb) (by have := HFF.out.2.1; omega)
            rw [HFE.out] at this
            refine this.mono ?_
            rintro x w' ⟨rfl, _, h2⟩
            exact ⟨rfl, h2⟩
          clear hj11 x0 x1 x2 x3
          go_wp2_with fail
          go_region_held3 (fun w' => w'.cell? ⟨bb, 0, none⟩ = some (.slice kA N kc)) (first | with_reducible exact hbk | exact HK.out _ (by repeat (first | with_reducible exact HB12.out | with_reducible exact Below.refl _ _ | refine Below.drew ?_))) ((go_at_call 31; refine (HFJ.out _ (by repeat (first | exact Below.refl _ _ | refine Below.drew ?_))).mono ?_; rintro e w12 ⟨rfl, hb12⟩; have HB12 : Hid (Below w11.heap.size w11 w12) := Below.trans (by repeat (first | exact Below.refl _ _ | refine Below.drew ?_)) (hb12.mono (by first | exact Nat.le_refl _ | (simp <;> omega))); clear hb12))
          have hc12 := HK.out w12 HB12.out
          have HWJ := Lib.hid (pl_writeJ (HJ11.out.below HB12.out) (by have := HFF.out; have := HFE.out; have := HN6.out; have := HF6.out; omega) (by have := HFF.out; omega))
          go_wp2_with fail
          with_reducible refine HWJ.out.mono ?_
          rintro e w13 ⟨T8, L8, rfl, hw8, hj13⟩
          obtain ⟨q1, q2, q3, q4, q5, q6, q7, q8⟩ := wrote_of hw8 HFF.out.2.2.2
          obtain ⟨kB, kd, hbk8⟩ := hj13.book
          have hl8 : (L8.length : Int) = (N : Int) + (fr7 : Int) := by have := HFE.out; have := HN6.out; omega
          have HF8 := Lib.hid (pl_freshJ hj13 (by have := HFF.out; omega))
          rw [q6] at HF8
          obtain ⟨N8, hN8⟩ : ∃ N8, L8.length = N8 := ⟨_, rfl⟩
          rw [hN8] at hbk8 hl8
          have hN8b : (N8 : Int) ≤ 1000 := by omega
          have hN8e : ((N8 : Int) = (N : Int) + (fr7 : Int)) = True := by simp [hl8]
          clear hj13 q1 q2 q3 q4 q5 q6 q7 q8 hN8 hw8
          go_wp2_with fail
          with_reducible refine HF8.out.mono ?_
          rintro e w14 ⟨rfl, hj14, hb14⟩
          have HJ14 := Lib.hid hj14.1
          clear hj14 hb14
          go_wp2_with fail
          go_ret
          exact ⟨rfl, HFIN.out _ HJ14.out⟩
end Go.Proofs.YtneammhkgmkkfaaGreat.tr
