/- ext: tidy. -/
import Derived.Test.YtneammhkgmkkfaaGreatTxD
import Derived.RegionTactic
import Derived.ChangeAlike
import Derived.BigRegion
namespace Go.Proofs.YtneammhkgmkkfaaGreat.tr
open Go.RowKit Go.Proofs.YtneammhkgmkkfaaGreat.er
set_option linter.unusedVariables false
set_option linter.unusedSimpArgs false

theorem tidy_take (l : List Ext) (j : Nat) (e : Ext) (h : l[j]? = some e) : tidy (l.take (j + 1)) = push (tidy (l.take j)) e := by
  have hj : j < l.length := (List.getElem?_eq_some_iff.1 h).1
  have he : l[j] = e := by rw [List.getElem?_eq_getElem hj] at h; injection h
  rw [List.take_succ_eq_append_getElem hj, he]
  unfold tidy
  rw [List.foldl_append]
  rfl
theorem fold_one : ∀ (l out : List Ext), (∀ x ∈ out, oneB x = true) → (∀ x ∈ l, oneB x = true) → ∀ x ∈ l.foldl push out, oneB x = true
  | [], _, h, _ => h
  | e :: l, out, h, h2 => fold_one l _ (push_one h (h2 e (by simp))) (fun x hx => h2 x (by simp [hx]))
theorem extCells_set (o : List Ext) (a : Ext) (n : Int) : (extCells (o ++ [a])).set (o.length * 4 + 1) (.int .i64 n) = extCells (o ++ [{ a with n := n }]) := by
  have h := extCells_len o
  rw [extCells_snoc, extCells_snoc, List.set_append_right _ _ (by omega), show o.length * 4 + 1 - (extCells o).length = 1 by omega]
  rfl
theorem len_push (T : List Ext) (e : Ext) : (push T e).length ≤ T.length + 1 := by
  rcases List.eq_nil_or_concat T with rfl | ⟨o, a, rfl⟩
  · simp [push]
  · rw [List.concat_eq_append, push_snoc]
    split <;> simp
set_option maxHeartbeats 4000000 in
set_option maxRecDepth 100000 in
theorem tidy_any (l : List Ext) (v : Value) (w : World) (h : ExtsAt w v l) (h1 : ∀ e ∈ l, oneB e = true) (hl : l.length ≤ 100000000) :
    Calls Tryz.prog 65 #[v] w fun x w' => ∃ v', x = .returned v' ∧ w'.ownsRow w.heap.size 39 4 v' (tidy l).length (extCells (tidy l)) ∧ Below w.heap.size w w' := by
  obtain ⟨A, c, rfl, hc⟩ := h
  have HC := Lib.hid hc
  have H1 := Lib.hid h1
  obtain ⟨n, hn⟩ : ∃ n, l.length = n := ⟨_, rfl⟩
  rw [hn] at hl
  have HN := Lib.hid hn
  rw [hn]
  obtain ⟨i0, hi0, hz0, hz1, hz2⟩ := info_parts extInfo
  have HI0 := Lib.hid hi0
  have HZ0 := Lib.hid hz0
  have HZ1 := Lib.hid hz1
  have HZ2 := Lib.hid hz2
  have HTG := Lib.hid (fun (a b : Ext) (wq : World) (ha : oneB a = true) => tog_any a b wq ha)
  have HON := Lib.hid (fun j => fold_one (l.take j) [] (by simp) (fun x hx => h1 x (List.mem_of_mem_take hx)))
  clear hi0 hz0 hz1 hz2 hc h1 hn
  go_enter Tryz.func65, Tryz.ntmps65
  go_wp2_with fail
  go_loopw [3, 9] (fun nv i wr => ∃ (j m : Nat) (B : Option Addr) (d : Nat), j ≤ n ∧ i = .int .i64 j ∧ nv = .slice B m d ∧ m ≤ j ∧ Hid ((tidy (l.take j)).length = m) ∧ Hid (wr.ownsRow w.heap.size 39 4 (.slice B m d) m (extCells (tidy (l.take j)))) ∧ Hid (Below w.heap.size w wr)) (fun _ i _ => n - (intOf i).toNat)
  case atStart => exact ⟨0, 0, none, 0, Nat.zero_le _, rfl, rfl, Nat.le_refl _, rfl, ⟨rfl, .inl ⟨rfl, rfl⟩⟩, Below.refl _ _⟩
  case round =>
    obtain ⟨j, m, B, d, hj, rfl, rfl, hmj, HM, HO, HB⟩ := hrel
    by_cases hlt : j < n
    · have hji : (j : Int) < (n : Int) := by omega
      have hln := HN.out
      obtain ⟨g, o, rfl, hcc⟩ := HC.out (by omega)
      obtain ⟨e, hx⟩ : ∃ e, l[j]? = some e := ⟨l[j]'(by omega), List.getElem?_eq_getElem (by omega)⟩
      obtain ⟨c0, c1, c2, c3⟩ := (hcc j e hx).below HB.out
      have HE1 := Lib.hid (H1.out e (List.mem_of_getElem? hx))
      have HTK := Lib.hid (tidy_take l j e hx)
      have HTO := Lib.hid (HON.out j)
      obtain ⟨f, en, k, t⟩ := e
      simp only at c0 c1 c2 c3
      clear hcc hx hln
      have HA0 : Hid (Below wr.heap.size wr (wr.alloc (.cells #[.int .i64 f, .int .i64 en, .int .i64 k, .int .i64 t] 39))) := (Below.refl _ _).alloc (Nat.le_refl _) _
      have HWE := Lib.hid (Whole.new wr 39 #[.int .i64 f, .int .i64 en, .int .i64 k, .int .i64 t])
      have hsz : (wr.alloc (.cells #[.int .i64 f, .int .i64 en, .int .i64 k, .int .i64 t] 39)).heap.size = wr.heap.size + 1 := by simp
      have HSZ := Lib.hid hsz
      clear hsz
      rcases List.eq_nil_or_concat (tidy (l.take j)) with hT | ⟨o', a, hT⟩
      · obtain rfl : m = 0 := by rw [← HM.out, hT]; rfl
        have HPU : Hid (extCells (tidy (l.take (j + 1))) = extCells (tidy (l.take j)) ++ [.int .i64 f, .int .i64 en, .int .i64 k, .int .i64 t] ∧ (tidy (l.take (j + 1))).length = (tidy (l.take j)).length + 1) := by
          show _ ∧ _
          rw [HTK.out, hT]
          exact ⟨rfl, rfl⟩
        clear hT
        have hgd : decide ((0 : Int) ≤ -1) = false := by decide
        obtain ⟨y0, y1, y2, y3⟩ : _ ∧ _ ∧ _ ∧ _ := (tmp4 HWE.out).1
        go_wp2_with fail
        go_quiet (fail)
        generalize hwq : World.drewN _ _ = wq
        have HBA : Hid (Below wr.heap.size wr wq) := by show Below _ _ _; rw [← hwq]; exact below_drewN HA0.out _
        have HBW : Hid (Below w.heap.size w wq) := HB.out.trans (HBA.out.mono HB.out.size)
        have HO5 : Hid (wq.ownsRow w.heap.size 39 4 (.slice B 0 d) 0 (extCells (tidy (l.take j)))) := own_below HO.out HBA.out
        have hWq : Whole wq wr.heap.size 39 #[.int .i64 f, .int .i64 en, .int .i64 k, .int .i64 t] := by rw [← hwq]; exact HWE.out
        clear hwq y0 y1 y2 y3
        obtain ⟨y0, y1, y2, y3⟩ : _ ∧ _ ∧ _ ∧ _ := (tmp4 hWq).1
        clear hWq
        have HOA := Lib.hid (HO5.out.alloc (.cells #[.int .i64 f, .int .i64 en, .int .i64 k, .int .i64 t] 39))
        have HNW : Hid (∀ (j' : Nat) (u : Value), ([.int .i64 f, .int .i64 en, .int .i64 k, .int .i64 t] : List Value)[j']? = some u → ((wq).alloc (.cells #[.int .i64 f, .int .i64 en, .int .i64 k, .int .i64 t] 39)).cell? ((⟨(wq).heap.size, 0, none⟩ : Addr).add j') = some u) := World.news_of_block (by simpa using heap_alloc_new (wq) (.cells #[.int .i64 f, .int .i64 en, .int .i64 k, .int .i64 t] 39))
        have hone : ∀ u ∈ ([.int .i64 f, .int .i64 en, .int .i64 k, .int .i64 t] : List Value), u.oneCell' = true := by simp [Value.oneCell']
        have HONE := Lib.hid hone
        have HSZ2 : Hid (w.heap.size ≤ ((wq).alloc (.cells #[.int .i64 f, .int .i64 en, .int .i64 k, .int .i64 t] 39)).heap.size) := by show _ ≤ _; have := HBW.out.size; simp only [World.size_alloc]; omega
        clear hone
        go_wp2_with (at_builtin; go_must (refine wpList_append_own _ rfl (.tmp 36) (.tmp 38) 32 rfl w.heap.size 39 i0 _ 4 32 Tryz.underlying32 HI0.out HZ0.out HZ1.out HZ2.out rfl (by omega) (.slice B 0 d) 0 (extCells (tidy (l.take j))) rfl HOA.out ⟨(wq).heap.size, 0, none⟩ 1 1 [.int .i64 f, .int .i64 en, .int .i64 k, .int .i64 t] rfl rfl HNW.out HONE.out (by simp only [maxLen]; omega) (by omega) HSZ2.out ?_; intro v2 w6 hown6 hg6 _; have HO6 := Lib.hid hown6; have HB6 := Lib.hid (below_append HO5.out hg6 HBW.out.size); obtain ⟨A2, c2, e2⟩ := own_slice hown6; subst e2; clear hown6 hg6))
        have hmeas : n - (intOf (.int .i64 ((j : Int) + 1))).toNat < n - (intOf (.int .i64 (j : Int))).toNat := by simp [intOf]; omega
        refine ⟨⟨j + 1, 0 + 1, A2, c2, ?_, ?_, rfl, ?_, ?_, ?_, ?_⟩, hmeas⟩
        · omega
        · go_num
        · omega
        · show _ = _; rw [HPU.out.2, HM.out]
        · rw [HPU.out.1]; with_reducible exact HO6
        · exact HBW.out.trans HB6.out
      · rw [List.concat_eq_append] at hT
        obtain ⟨m', hm'⟩ : ∃ m', o'.length = m' := ⟨_, rfl⟩
        obtain rfl : m = m' + 1 := by rw [← HM.out, hT, ← hm']; simp
        have HT := Lib.hid hT
        have HM' := Lib.hid hm'
        have hOw := HO.out
        obtain ⟨g2, rfl, hg2b, hg2, hmc, hgc, hgf⟩ := own_cell hOw (by omega)
        have hat : (o' ++ [a])[m']? = some a := by rw [← hm']; simp
        obtain ⟨x0, x1, x2, x3⟩ := extCells_at _ _ _ hat
        rw [← hT] at x0 x1 x2 x3
        have y0 := hgc _ _ x0
        have y1 := hgc _ _ x1
        have y2 := hgc _ _ x2
        have y3 := hgc _ _ x3
        have hA1 : oneB a = true := HTO.out a (by show a ∈ tidy (l.take j); rw [hT]; simp)
        have HA1 := Lib.hid hA1
        have HTA := Lib.hid (fun wq => HTG.out a ⟨f, en, k, t⟩ wq hA1)
        obtain ⟨f', n', k', t'⟩ := a
        simp only [Ext.val] at HTA
        simp only at y0 y1 y2 y3
        have hne : g2 ≠ wr.heap.size := by omega
        have HKA : Hid (∀ w', Below (wr.heap.size + 1) (wr.alloc (.cells #[.int .i64 f, .int .i64 en, .int .i64 k, .int .i64 t] 39)) w' → (w'.cell? ⟨g2, m' * 4, none⟩ = some (.int .i64 f') ∧ w'.cell? ⟨g2, m' * 4 + 1, none⟩ = some (.int .i64 n') ∧ w'.cell? ⟨g2, m' * 4 + 2, none⟩ = some (.int .i64 k') ∧ w'.cell? ⟨g2, m' * 4 + 3, none⟩ = some (.int .i64 t')) ∧ (w'.cell? ⟨wr.heap.size, 0, none⟩ = some (.int .i64 f) ∧ w'.cell? ⟨wr.heap.size, 1, none⟩ = some (.int .i64 en) ∧ w'.cell? ⟨wr.heap.size, 2, none⟩ = some (.int .i64 k) ∧ w'.cell? ⟨wr.heap.size, 3, none⟩ = some (.int .i64 t))) := fun w' hb => ⟨⟨(hb.cell (by show g2 < _; omega)).trans (below_c HA0.out y0), (hb.cell (by show g2 < _; omega)).trans (below_c HA0.out y1), (hb.cell (by show g2 < _; omega)).trans (below_c HA0.out y2), (hb.cell (by show g2 < _; omega)).trans (below_c HA0.out y3)⟩, ⟨(hb.cell (by show wr.heap.size < _; omega)).trans (HWE.out.cell 0), (hb.cell (by show wr.heap.size < _; omega)).trans (HWE.out.cell 1), (hb.cell (by show wr.heap.size < _; omega)).trans (HWE.out.cell 2), (hb.cell (by show wr.heap.size < _; omega)).trans (HWE.out.cell 3)⟩⟩
        have SA := Lib.hid (HKA.out _ (Below.refl _ _))
        have hmi1 : (0 : Int) ≤ (m' : Int) := by omega
        have hmi2 : (m' : Int) < (m' : Int) + 1 := by omega
        clear hT hm' hOw hgc hat x0 x1 x2 x3 hA1
        go_wp2_with fail
        go_region_held3 (fun w' => (w'.cell? ⟨g2, m' * 4, none⟩ = some (.int .i64 f') ∧ w'.cell? ⟨g2, m' * 4 + 1, none⟩ = some (.int .i64 n') ∧ w'.cell? ⟨g2, m' * 4 + 2, none⟩ = some (.int .i64 k') ∧ w'.cell? ⟨g2, m' * 4 + 3, none⟩ = some (.int .i64 t')) ∧ (w'.cell? ⟨wr.heap.size, 0, none⟩ = some (.int .i64 f) ∧ w'.cell? ⟨wr.heap.size, 1, none⟩ = some (.int .i64 en) ∧ w'.cell? ⟨wr.heap.size, 2, none⟩ = some (.int .i64 k) ∧ w'.cell? ⟨wr.heap.size, 3, none⟩ = some (.int .i64 t))) (first | with_reducible exact SA.out | exact HKA.out _ (by repeat (first | with_reducible exact HB5.out | with_reducible exact Below.refl _ _ | refine Below.drew ?_))) ((go_at_call 89; refine (HTA.out _).mono ?_; rintro e w5 ⟨rfl, hb5⟩; have HB5 : Hid (Below (wr.heap.size + 1) (wr.alloc (.cells #[.int .i64 f, .int .i64 en, .int .i64 k, .int .i64 t] 39)) w5) := Below.trans (Below.drew (Below.refl _ _)) (hb5.mono (by simp)); clear hb5))
        have HBW : Hid (Below w.heap.size w w5) := HB.out.trans (HA0.out.trans (HB5.out.mono (by omega)) |>.mono HB.out.size)
        have HO5 : Hid (w5.ownsRow w.heap.size 39 4 (.slice (some ⟨g2, 0, none⟩) (m' + 1) d) (m' + 1) (extCells (tidy (l.take j)))) := own_below HO.out (HA0.out.trans (HB5.out.mono (by omega)))
        obtain ⟨⟨p0, p1, p2, p3⟩, ⟨q0, q1, q2, q3⟩⟩ := HKA.out _ HB5.out
        have hpf : w5.frozen? ⟨g2, m' * 4 + 1, none⟩ = false := HO5.out.frozenAt _
        clear y0 y1 y2 y3
        cases htg : tog ⟨f', n', k', t'⟩ ⟨f, en, k, t⟩
        · have hpd : HTG = HTG := rfl
          clear hpd
          have HPU : Hid (extCells (tidy (l.take (j + 1))) = extCells (tidy (l.take j)) ++ [.int .i64 f, .int .i64 en, .int .i64 k, .int .i64 t] ∧ (tidy (l.take (j + 1))).length = (tidy (l.take j)).length + 1) := by
            show _ ∧ _
            rw [HTK.out, HT.out, push_snoc, htg, if_neg (by simp), extCells_snoc]
            exact ⟨rfl, by simp⟩
          clear htg
          have HOA := Lib.hid (HO5.out.alloc (.cells #[.int .i64 f, .int .i64 en, .int .i64 k, .int .i64 t] 39))
          have HB3 := Lib.hid (HBW.out.alloc HBW.out.size (.cells #[.int .i64 f, .int .i64 en, .int .i64 k, .int .i64 t] 39))
          have HNW : Hid (∀ (j' : Nat) (u : Value), ([.int .i64 f, .int .i64 en, .int .i64 k, .int .i64 t] : List Value)[j']? = some u → ((w5).alloc (.cells #[.int .i64 f, .int .i64 en, .int .i64 k, .int .i64 t] 39)).cell? ((⟨(w5).heap.size, 0, none⟩ : Addr).add j') = some u) := World.news_of_block (by simpa using heap_alloc_new (w5) (.cells #[.int .i64 f, .int .i64 en, .int .i64 k, .int .i64 t] 39))
          have hone : ∀ u ∈ ([.int .i64 f, .int .i64 en, .int .i64 k, .int .i64 t] : List Value), u.oneCell' = true := by simp [Value.oneCell']
          have HONE := Lib.hid hone
          have HSZ2 : Hid (w.heap.size ≤ ((w5).alloc (.cells #[.int .i64 f, .int .i64 en, .int .i64 k, .int .i64 t] 39)).heap.size) := by show _ ≤ _; have := HBW.out.size; simp only [World.size_alloc]; omega
          clear hone
          go_wp2_with (at_builtin; go_must (refine wpList_append_own _ rfl (.tmp 36) (.tmp 38) 32 rfl w.heap.size 39 i0 _ 4 32 Tryz.underlying32 HI0.out HZ0.out HZ1.out HZ2.out rfl (by omega) (.slice (some ⟨g2, 0, none⟩) (m' + 1) d) (m' + 1) (extCells (tidy (l.take j))) rfl HOA.out ⟨(w5).heap.size, 0, none⟩ 1 1 [.int .i64 f, .int .i64 en, .int .i64 k, .int .i64 t] rfl rfl HNW.out HONE.out (by simp only [maxLen]; omega) (by omega) HSZ2.out ?_; intro v2 w6 hown6 hg6 _; have HO6 := Lib.hid hown6; have HB6 := Lib.hid (below_append HO5.out hg6 HBW.out.size); obtain ⟨A2, c2, e2⟩ := own_slice hown6; subst e2; clear hown6 hg6))
          have hmeas : n - (intOf (.int .i64 ((j : Int) + 1))).toNat < n - (intOf (.int .i64 (j : Int))).toNat := by simp [intOf]; omega
          refine ⟨⟨j + 1, m' + 1 + 1, A2, c2, ?_, ?_, rfl, ?_, ?_, ?_, ?_⟩, hmeas⟩
          · omega
          · go_num
          · omega
          · show _ = _; rw [HPU.out.2, HM.out]
          · rw [HPU.out.1]; with_reducible exact HO6
          · exact HBW.out.trans HB6.out
        · have hone := one_spec (one_join HA1.out HE1.out htg)
          have hw : wrap64 (n' + en) = n' + en := by have := hone.1; have := hone.2.1; have := hone.2.2.1; have := (one_spec HA1.out).1; simp only at *; unfold wrap64; omega
          clear hone
          have HPU : Hid (extCells (tidy (l.take (j + 1))) = (extCells (tidy (l.take j))).set (m' * 4 + 1) (.int .i64 (n' + en)) ∧ (tidy (l.take (j + 1))).length = (tidy (l.take j)).length) := by
            show _ ∧ _
            rw [HTK.out, HT.out, push_snoc, htg, if_pos rfl, ← HM'.out, extCells_set]
            exact ⟨rfl, by simp⟩
          clear htg
          go_wp2_with fail
          go_region
          go_wp2_with fail
          have hmeas : n - (intOf (.int .i64 ((j : Int) + 1))).toNat < n - (intOf (.int .i64 (j : Int))).toNat := by simp [intOf]; omega
          refine ⟨⟨j + 1, m' + 1, _, d, ?_, ?_, rfl, ?_, ?_, ?_, ?_⟩, hmeas⟩
          · omega
          · go_num
          · omega
          · show _ = _; rw [HPU.out.2, HM.out]
          · rw [HPU.out.1]; exact (HO5.out.stored (m' * 4 + 1) (.int .i64 (n' + en))).1.drew
          · exact (HBW.out.setCell (p := ⟨g2, m' * 4 + 1, none⟩) hg2b _).drew
    · obtain rfl : j = n := by omega
      go_wp2_with fail
      go_ret
      have hfull : l.take j = l := by rw [← HN.out]; exact List.take_length
      rw [hfull] at HO HM
      exact ⟨_, rfl, by rw [HM.out]; exact HO.out, HB.out⟩
end Go.Proofs.YtneammhkgmkkfaaGreat.tr
