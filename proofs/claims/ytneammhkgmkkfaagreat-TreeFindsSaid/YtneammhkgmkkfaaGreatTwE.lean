/- The document's Find. -/
import Derived.Test.YtneammhkgmkkfaaGreatTwC
import Derived.Test.YtneammhkgmkkfaaGreatTxC
namespace Go.Proofs.YtneammhkgmkkfaaGreat.tr
open Go.RowKit Go.Proofs.YtneammhkgmkkfaaGreat.er
set_option linter.unusedVariables false
set_option linter.unusedSimpArgs false

theorem find_take {l : List Ext} {p : Ext → Bool} {j : Nat} {e : Ext} (h : l[j]? = some e) (hn : (l.take j).find? p = none) : (p e = true → l.find? p = some e) ∧ (p e = false → (l.take (j + 1)).find? p = none) := by
  obtain ⟨hj, rfl⟩ := List.getElem?_eq_some_iff.1 h
  constructor
  · intro hp
    have e0 : l.take j ++ l[j] :: l.drop (j + 1) = l := by rw [List.getElem_cons_drop, List.take_append_drop]
    have e1 : (l.take j ++ l[j] :: l.drop (j + 1)).find? p = some l[j] := by rw [List.find?_append, hn, List.find?_cons, hp]; rfl
    rw [e0] at e1
    exact e1
  · intro hp
    rw [List.take_succ_eq_append_getElem hj, List.find?_append, hn]
    simp [hp]
theorem tmp2 {w : World} {g : Nat} {t : TypeId} {a b : Value} (h : Whole w g t #[a, b]) : (w.cell? ⟨g, 0, none⟩ = some a ∧ w.cell? ⟨g, 1, none⟩ = some b) ∧ w.frozen? ⟨g, 0, none⟩ = false ∧ w.frozen? ⟨g, 1, none⟩ = false := ⟨⟨h.cell 0, h.cell 1⟩, h.fz 0, h.fz 1⟩
set_option maxHeartbeats 4000000 in
set_option maxRecDepth 100000 in
theorem rfind_any (l : List Ext) (v : Value) (s : Int) (w : World) (h : ExtsAt w v l) (h1 : ∀ e ∈ l, oneB e = true) (hl : l.length ≤ 16777216) (hs : -9223372036854775808 ≤ s) (hs2 : s ≤ 9223372036854775807) :
    Calls Tryz.prog 23 #[v, .int .i64 s] w fun x w' => x = .returned (.agg #[.int .i64 (findL l s).1, .int .i64 (findL l s).2]) ∧ Below w.heap.size w w' := by
  obtain ⟨A, c, rfl, hc⟩ := h
  have HC := Lib.hid hc
  have H1 := Lib.hid h1
  obtain ⟨n, hn⟩ : ∃ n, l.length = n := ⟨_, rfl⟩
  have HN := Lib.hid hn
  rw [hn] at hl
  rw [hn]
  have HFT : Hid (∀ (j : Nat) (e : Ext), l[j]? = some e → (l.take j).find? (hasB s) = none → (hasB s e = true → findL l s = sayOf s (some e)) ∧ (hasB s e = false → (l.take (j + 1)).find? (hasB s) = none)) := fun j e he hn => ⟨fun hp => by unfold findL; rw [(find_take he hn).1 hp], (find_take he hn).2⟩
  have HF0 : Hid (l.find? (hasB s) = none → findL l s = (0, 0)) := fun hf => by unfold findL; rw [hf]; rfl
  obtain ⟨R, hR⟩ : ∃ R, findL l s = R := ⟨_, rfl⟩
  rw [hR] at HFT HF0 ⊢
  obtain ⟨w1, hw1⟩ : ∃ w1, w.alloc (.cells #[.int .i64 0, .int .i64 0] 47) = w1 := ⟨_, rfl⟩
  have b1 : Whole w1 w.heap.size 47 #[.int .i64 0, .int .i64 0] := by rw [← hw1]; exact Whole.new _ _ _
  have hb1 : Below w.heap.size w w1 := by rw [← hw1]; exact (Below.refl _ _).alloc (Nat.le_refl _) _
  have hs1 : w1.heap.size = w.heap.size + 1 := by rw [← hw1]; simp
  have HXX : Hid (∀ wq, Below w1.heap.size w1 wq → Whole wq w.heap.size 47 #[.int .i64 0, .int .i64 0] ∧ Below w.heap.size w wq) := fun wq hb => ⟨b1.below hb (by omega), bel_tr hb1 hb⟩
  clear hc h1 hn hR b1 hb1 hs1
  go_enter Tryz.func23, Tryz.ntmps23
  go_wp2_with fail
  go_loopw [5] (fun i wr => ∃ (j : Nat), j ≤ n ∧ i = .int .i64 j ∧ Hid ((l.take j).find? (hasB s) = none) ∧ Hid (Below w1.heap.size w1 wr)) (fun i _ => n - (intOf i).toNat)
  case atStart => exact ⟨0, Nat.zero_le _, rfl, rfl, Below.refl _ _⟩
  case round =>
    obtain ⟨j, hj, rfl, HNO, HB⟩ := hrel
    by_cases hlt : j < n
    · have hji : (j : Int) < (n : Int) := by omega
      have hj0 : (0 : Int) ≤ (j : Int) := by omega
      have hln := HN.out
      obtain ⟨g, o, rfl, hcc⟩ := HC.out (by omega)
      obtain ⟨e, hx⟩ : ∃ e, l[j]? = some e := ⟨l[j]'(by omega), List.getElem?_eq_getElem (by omega)⟩
      obtain ⟨y1, y2⟩ := HXX.out _ HB.out
      obtain ⟨c0, c1, c2, c3⟩ := (hcc j e hx).below y2
      have hsp := one_spec (H1.out e (List.mem_of_getElem? hx))
      obtain ⟨t1, t2⟩ := HFT.out j e hx HNO.out
      have T2 := Lib.hid t2
      have T1 := Lib.hid t1
      have HCE : Hid (∀ wq, Below w.heap.size w wq → ExtAt wq g (o + j * 4) e) := fun wq hb => (hcc j e hx).below hb
      clear t1 t2 hcc hx hln y2
      obtain ⟨f, en, k, t⟩ := e
      simp only at c0 c1 c2 c3 hsp
      by_cases h1 : f ≤ s
      · have hsub : wrap64 (s - f) = s - f := by unfold wrap64; omega
        have hsub' : IntKind.i64.wrap (s - f) = s - f := by rw [IntKind.wrap_i64]; omega
        have h1d : decide (f ≤ s) = true := by simpa using h1
        by_cases h2 : s - f < en
        · have h2d : decide (s - f < en) = true := by simpa using h2
          have hR := T1.out (by unfold hasB; simp [h1, h2])
          have hRR : R = (k, if k = 2 then t + s - f else 0) := hR
          clear T1 T2 HFT HF0 hR
          by_cases hk : k = 2
          · have hw1' : IntKind.i64.wrap (t + s) = t + s := by rw [IntKind.wrap_i64]; obtain ⟨q1, q2, q3, q4⟩ := hsp; have := q4; simp [hk] at this; omega
            have hw2' : IntKind.i64.wrap (t + s - f) = t + s - f := by rw [IntKind.wrap_i64]; obtain ⟨q1, q2, q3, q4⟩ := hsp; have := q4; simp [hk] at this; omega
            rw [if_pos hk, hk] at hRR
            subst hRR hk
            clear hsp y1
            go_wp2_with fail
            go_quiet (fail)
            generalize hwq : World.drewN _ _ = wq
            have HB5 : Hid (Below w1.heap.size w1 wq) := by show Below _ _ _; rw [← hwq]; exact below_drewN HB.out _
            clear hwq c0 c1 c2 c3
            obtain ⟨y1, y2⟩ := HXX.out _ HB5.out
            have Y1 := Lib.hid y1
            have Y2 := Lib.hid y2
            obtain ⟨c0, c1, c2, c3⟩ := HCE.out _ y2
            simp only at c0 c1 c2 c3
            obtain ⟨⟨z0, z1⟩, z2, z3⟩ := tmp2 y1
            clear y1 y2
            go_wp2_with fail
            go_region
            go_wp2_with fail
            have g1 : Whole (((wq.setCell ⟨w.heap.size, 0, none⟩ (.int .i64 2)).setCell ⟨w.heap.size, 1, none⟩ (.int .i64 (t + s - f)))) w.heap.size 47 #[.int .i64 2, .int .i64 (t + s - f)] := by have := (Y1.out.set 0 (.int .i64 2)).set 1 (.int .i64 (t + s - f)); simpa using this
            have r0 : (((wq.setCell ⟨w.heap.size, 0, none⟩ (.int .i64 2)).setCell ⟨w.heap.size, 1, none⟩ (.int .i64 (t + s - f))).drew).cell? ⟨w.heap.size, 0, none⟩ = some (.int .i64 2) := (wh_drew g1).cell 0
            have r1 : (((wq.setCell ⟨w.heap.size, 0, none⟩ (.int .i64 2)).setCell ⟨w.heap.size, 1, none⟩ (.int .i64 (t + s - f))).drew).cell? ⟨w.heap.size, 1, none⟩ = some (.int .i64 (t + s - f)) := (wh_drew g1).cell 1
            refine bodyPost_ret (v := .agg #[.int .i64 2, .int .i64 (t + s - f)]) (by simp [results, Tryz.results23, go_sem, r0, r1]) rfl ⟨rfl, ?_⟩
            exact Below.drew (Below.setCell (Below.setCell Y2.out (by simp) _) (by simp) _)
          · have hk2 : (k == 2) = false := by simpa using hk
            rw [if_neg hk] at hRR
            subst hRR
            clear hsp y1 hk
            go_wp2_with fail
            go_quiet (fail)
            generalize hwq : World.drewN _ _ = wq
            have HB5 : Hid (Below w1.heap.size w1 wq) := by show Below _ _ _; rw [← hwq]; exact below_drewN HB.out _
            clear hwq c0 c1 c2 c3
            obtain ⟨y1, y2⟩ := HXX.out _ HB5.out
            have Y1 := Lib.hid y1
            have Y2 := Lib.hid y2
            obtain ⟨c0, c1, c2, c3⟩ := HCE.out _ y2
            simp only at c0 c1 c2 c3
            obtain ⟨⟨z0, z1⟩, z2, z3⟩ := tmp2 y1
            clear y1 y2
            go_wp2_with fail
            have g1 : Whole (((wq.setCell ⟨w.heap.size, 0, none⟩ (.int .i64 k)).setCell ⟨w.heap.size, 1, none⟩ (.int .i64 0))) w.heap.size 47 #[.int .i64 k, .int .i64 0] := by have := (Y1.out.set 0 (.int .i64 k)).set 1 (.int .i64 0); simpa using this
            have r0 : (((wq.setCell ⟨w.heap.size, 0, none⟩ (.int .i64 k)).setCell ⟨w.heap.size, 1, none⟩ (.int .i64 0))).cell? ⟨w.heap.size, 0, none⟩ = some (.int .i64 k) := g1.cell 0
            have r1 : (((wq.setCell ⟨w.heap.size, 0, none⟩ (.int .i64 k)).setCell ⟨w.heap.size, 1, none⟩ (.int .i64 0))).cell? ⟨w.heap.size, 1, none⟩ = some (.int .i64 0) := g1.cell 1
            refine bodyPost_ret (v := .agg #[.int .i64 k, .int .i64 0]) (by simp [results, Tryz.results23, go_sem, r0, r1]) rfl ⟨rfl, ?_⟩
            exact Below.setCell (Below.setCell Y2.out (by simp) _) (by simp) _
        · have h2d : decide (s - f < en) = false := by simpa using h2
          have HT := Lib.hid (T2.out (by unfold hasB; simp [h2]))
          clear T1 T2 hsp y1
          go_wp2_with fail
          go_quiet (fail)
          generalize hwq : World.drewN _ _ = wq
          have HB5 : Hid (Below w1.heap.size w1 wq) := by show Below _ _ _; rw [← hwq]; exact below_drewN HB.out _
          clear hwq c0 c1 c2 c3
          go_wp2_with fail
          go_roundw
          case rel => exact ⟨j + 1, by omega, by go_num, HT, HB5⟩
          case measure => simp [intOf]; omega
      · have h1d : decide (f ≤ s) = false := by simpa using h1
        have HT := Lib.hid (T2.out (by unfold hasB; simp [h1]))
        clear T1 T2 hsp y1
        go_wp2_with fail
        go_quiet (fail)
        generalize hwq : World.drewN _ _ = wq
        have HB5 : Hid (Below w1.heap.size w1 wq) := by show Below _ _ _; rw [← hwq]; exact below_drewN HB.out _
        clear hwq c0 c1 c2 c3
        go_wp2_with fail
        go_roundw
        case rel => exact ⟨j + 1, by omega, by go_num, HT, HB5⟩
        case measure => simp [intOf]; omega
    · obtain rfl : j = n := by omega
      have hfull : l.take j = l := by rw [← HN.out]; exact List.take_length
      have HNO2 := HNO.out
      rw [hfull] at HNO2
      have hRR := HF0.out HNO2
      subst hRR
      obtain ⟨y1, y2⟩ := HXX.out _ HB.out
      have Y1 := Lib.hid y1
      have Y2 := Lib.hid y2
      obtain ⟨⟨z0, z1⟩, z2, z3⟩ := tmp2 y1
      clear y1 y2 hfull HNO2 HFT HF0
      go_wp2_with fail
      have g1 : Whole (((wr.setCell ⟨w.heap.size, 0, none⟩ (.int .i64 0)).setCell ⟨w.heap.size, 1, none⟩ (.int .i64 0))) w.heap.size 47 #[.int .i64 0, .int .i64 0] := by have := (Y1.out.set 0 (.int .i64 0)).set 1 (.int .i64 0); simpa using this
      have r0 : (((wr.setCell ⟨w.heap.size, 0, none⟩ (.int .i64 0)).setCell ⟨w.heap.size, 1, none⟩ (.int .i64 0))).cell? ⟨w.heap.size, 0, none⟩ = some (.int .i64 0) := g1.cell 0
      have r1 : (((wr.setCell ⟨w.heap.size, 0, none⟩ (.int .i64 0)).setCell ⟨w.heap.size, 1, none⟩ (.int .i64 0))).cell? ⟨w.heap.size, 1, none⟩ = some (.int .i64 0) := g1.cell 1
      refine bodyPost_ret (v := .agg #[.int .i64 0, .int .i64 0]) (by simp [results, Tryz.results23, go_sem, r0, r1]) rfl ⟨rfl, ?_⟩
      exact Below.setCell (Below.setCell Y2.out (by simp) _) (by simp) _
end Go.Proofs.YtneammhkgmkkfaaGreat.tr
