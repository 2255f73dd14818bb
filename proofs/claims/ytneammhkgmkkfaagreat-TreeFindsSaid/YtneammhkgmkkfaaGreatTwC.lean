/- ext: Find. -/
import Derived.Test.YtneammhkgmkkfaaGreatTyG
import Derived.Test.YtneammhkgmkkfaaGreatTyF
namespace Go.Proofs.YtneammhkgmkkfaaGreat.tr
open Go.RowKit Go.Proofs.YtneammhkgmkkfaaGreat.er
set_option linter.unusedVariables false
set_option linter.unusedSimpArgs false

theorem idx_find (p : Ext → Bool) (l : List Ext) : (idxI p l = -1 ∧ l.find? p = none) ∨ ∃ (j : Nat) (e : Ext), idxI p l = j ∧ l[j]? = some e ∧ l.find? p = some e ∧ p e = true := by
  unfold idxI
  cases h : l.findIdx? p with
  | none =>
    rw [List.findIdx?_eq_none_iff] at h
    exact .inl ⟨rfl, List.find?_eq_none.2 (fun x hx => by rw [h x hx]; simp)⟩
  | some j =>
    rw [List.findIdx?_eq_some_iff_getElem] at h
    obtain ⟨hj, h1, h2⟩ := h
    refine .inr ⟨j, l[j], rfl, List.getElem?_eq_getElem hj, ?_, h1⟩
    rw [List.find?_eq_some_iff_getElem]
    exact ⟨h1, j, hj, rfl, fun i hi => by have := h2 i hi; simpa using this⟩
set_option maxHeartbeats 4000000 in
set_option maxRecDepth 100000 in
theorem findX_any (l : List Ext) (v : Value) (s : Int) (w : World) (h : ExtsAt w v l) (h1 : ∀ e ∈ l, oneB e = true) (hl : l.length ≤ 16777216) (hs : -9223372036854775808 ≤ s) (hs2 : s ≤ 9223372036854775807) :
    Calls Tryz.prog 48 #[v, .int .i64 s] w fun x w' => x = .returned (.tuple #[.int .i64 (findL l s).1, .int .i64 (findL l s).2]) ∧ Below w.heap.size w w' := by
  obtain ⟨w1, hw1⟩ : ∃ w1, w.alloc (.cells #[.int .i64 s] 3) = w1 := ⟨_, rfl⟩
  have b1 : Whole w1 w.heap.size 3 #[.int .i64 s] := by rw [← hw1]; exact Whole.new _ _ _
  have hb1 : Below w.heap.size w w1 := by rw [← hw1]; exact (Below.refl _ _).alloc (Nat.le_refl _) _
  have c0 : w1.cell? ⟨w.heap.size, 0, none⟩ = some (.int .i64 s) := b1.cell 0
  have HIX : Hid (Calls Tryz.prog 75 #[v, .func (.func 76) #[] #[.pointer (some ⟨w.heap.size, 0, none⟩)]] w1 fun x w' => x = .returned (.int .i64 (idxI (hasB s) l)) ∧ Below w.heap.size w w' ∧ w'.cell? ⟨w.heap.size, 0, none⟩ = some (.int .i64 s)) := by
    refine (idxF_any (hasB s) 76 #[.pointer (some ⟨w.heap.size, 0, none⟩)] l v w1 (fun _ _ => by kernel_rfl) (h.below hb1) (by omega) (fun e wq he hb => fnt_any e w.heap.size s wq (h1 e he) hs hs2 (below_c hb c0))).mono ?_
    rintro x w' ⟨rfl, hb⟩
    exact ⟨rfl, bel_tr hb1 hb, below_c hb c0⟩
  have HIF := idx_find (hasB s) l
  obtain ⟨A, c, rfl, hc⟩ := h
  have hfl : findL l s = sayOf s (l.find? (hasB s)) := rfl
  rw [hfl]
  rcases HIF with ⟨e1, e2⟩ | ⟨j, e, e1, e2, e3, e4⟩
  · rw [e1] at HIX
    rw [e2]
    have HZ : Hid ((sayOf s none).1 = 0 ∧ (sayOf s none).2 = 0) := ⟨rfl, rfl⟩
    rw [HZ.out.1, HZ.out.2]
    clear e1 e2 hfl hc h1 hb1 b1
    go_enter Tryz.func48, Tryz.ntmps48
    go_wp2_with fail
    with_reducible refine HIX.out.mono ?_
    rintro x w5 ⟨rfl, hb5, d0⟩
    have HB5 := Lib.hid hb5
    clear hb5 c0
    go_wp2_with fail
    refine bodyPost_ret (v := .tuple #[.int .i64 0, .int .i64 0]) (by simp [results, Tryz.results48, go_sem]) rfl ?_
    exact ⟨rfl, HB5.out⟩
  · rw [e1] at HIX
    rw [e3]
    have hj := (List.getElem?_eq_some_iff.1 e2).1
    have hjl : (j : Int) < (l.length : Int) := by omega
    have hj0 : ¬ (j : Int) < 0 := by omega
    have hj00 : (0 : Int) ≤ (j : Int) := by omega
    have hsp := one_spec (h1 e (List.mem_of_getElem? e2))
    have hhas : e.fr ≤ s ∧ s - e.fr < e.n := by unfold hasB at e4; simpa using e4
    obtain ⟨g, o, rfl, hcc⟩ := hc (by omega)
    have HCE : Hid (∀ wq, Below w.heap.size w wq → ExtAt wq g (o + j * 4) e) := fun wq hb => (hcc j e e2).below hb
    have hsay : sayOf s (some e) = (e.kind, if e.kind = 2 then e.at_ + s - e.fr else 0) := rfl
    rw [hsay]
    obtain ⟨f, en, k, t⟩ := e
    simp only at hsp hhas
    obtain ⟨n, hn⟩ : ∃ n, l.length = n := ⟨_, rfl⟩
    rw [hn] at hjl hl HIX ⊢
    have hli : (n : Int) ≤ 16777216 := by omega
    by_cases hk : k = 2
    · have hw1' : IntKind.i64.wrap (t + s) = t + s := by rw [IntKind.wrap_i64]; obtain ⟨q1, q2, q3, q4⟩ := hsp; have := q4; simp [hk] at this; omega
      have hw2' : IntKind.i64.wrap (t + s - f) = t + s - f := by rw [IntKind.wrap_i64]; obtain ⟨q1, q2, q3, q4⟩ := hsp; have := q4; simp [hk] at this; omega
      simp only [hk, if_true]
      subst hk
      clear e1 e2 e3 e4 hfl hc h1 hb1 b1 hsp hhas hcc hsay hn hj
      go_enter Tryz.func48, Tryz.ntmps48
      go_wp2_with fail
      with_reducible refine HIX.out.mono ?_
      rintro x w5 ⟨rfl, hb5, d0⟩
      have HB5 := Lib.hid hb5
      clear c0
      obtain ⟨x0, x1, x2, x3⟩ := HCE.out _ hb5
      simp only at x0 x1 x2 x3
      clear hb5
      go_wp2_with fail
      go_quiet (fail)
      generalize hwq : World.drewN _ _ = wq
      have HB6 : Hid (Below w.heap.size w wq) := by show Below _ _ _; rw [← hwq]; exact below_drewN HB5.out _
      clear hwq
      go_wp2_with fail
      refine bodyPost_ret (v := .tuple #[.int .i64 2, .int .i64 (t + s - f)]) (by simp [results, Tryz.results48, go_sem]) rfl ?_
      exact ⟨rfl, HB6.out⟩
    · have hk2 : (k != 2) = true := by simpa using hk
      simp only [hk, if_false]
      clear e1 e2 e3 e4 hfl hc h1 hb1 b1 hsp hhas hcc hsay hn hj hk
      go_enter Tryz.func48, Tryz.ntmps48
      go_wp2_with fail
      with_reducible refine HIX.out.mono ?_
      rintro x w5 ⟨rfl, hb5, d0⟩
      have HB5 := Lib.hid hb5
      clear c0
      obtain ⟨x0, x1, x2, x3⟩ := HCE.out _ hb5
      simp only at x0 x1 x2 x3
      clear hb5
      go_wp2_with fail
      refine bodyPost_ret (v := .tuple #[.int .i64 k, .int .i64 0]) (by simp [results, Tryz.results48, go_sem]) rfl ?_
      exact ⟨rfl, HB5.out⟩
end Go.Proofs.YtneammhkgmkkfaaGreat.tr
