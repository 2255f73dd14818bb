/- tree: split, cut at []api.Ext and []tree.node. -/
import Derived.Test.YtneammhkgmkkfaaGreatTyD
namespace Go.Proofs.YtneammhkgmkkfaaGreat.tr
open Go.RowKit Go.Proofs.YtneammhkgmkkfaaGreat.er
set_option linter.unusedVariables false
set_option linter.unusedSimpArgs false

theorem bel_tr {a b c : World} (h : Below a.heap.size a b) (k : Below b.heap.size b c) : Below a.heap.size a c := h.trans (k.mono h.size)
/-- Two rows, the second one laid behind the first. -/
theorem two_own {B B1 n1 n2 k : Nat} {t : TypeId} {v1 v2 : Value} {x1 x2 : List Value} {a b : World} (h1 : a.ownsRow B1 t k v1 n1 x1) (hB : B ≤ B1) (hb : Below a.heap.size a b) (h2 : b.ownsRow a.heap.size t k v2 n2 x2) (hBa : B ≤ a.heap.size) :
    b.ownsRow B t k v1 n1 x1 ∧ b.ownsRow B t k v2 n2 x2 ∧ (∀ g, v1.ownBlock = some g → v2.ownBlock ≠ some g) ∧ ∀ g, v2.ownBlock = some g → v1.ownBlock ≠ some g := by
  refine ⟨own_base (own_below h1 hb) hB, own_base h2 hBa, fun g hg hg2 => ?_, fun g hg hg2 => ?_⟩
  · have := (h1.lt g hg).2; have := (h2.lt g hg2).1; omega
  · have := (h1.lt g hg2).2; have := (h2.lt g hg).1; omega
theorem SlAt.form {w : World} {v : Value} {n k : Nat} {xs : List Value} (h : SlAt w v n k xs) : ∃ A c, v = .slice A n c := by
  obtain ⟨h1, ⟨rfl, rfl⟩ | ⟨g, o, c, rfl, h3⟩⟩ := h
  · exact ⟨none, 0, rfl⟩
  · exact ⟨_, c, rfl⟩
/-- A part of a row, from an element on, reads as the rest of its cells. -/
theorem Row.drop {w : World} {g c n k q : Nat} {t : TypeId} {xs : List Value} (h : Row w g c k t xs) (hn : xs.length = n * k) (hq : q ≤ n) : SlAt w (.slice (some ⟨g, q * k, none⟩) (n - q) (c - q)) (n - q) k (xs.drop (q * k)) := by
  refine ⟨?_, .inr ⟨g, q * k, c - q, rfl, fun j u hj => ?_⟩⟩
  · rw [List.length_drop, hn, Nat.sub_mul]
  · rw [List.getElem?_drop] at hj
    exact h.cell hj
theorem Row.below {w w' : World} {g c k : Nat} {t : TypeId} {xs : List Value} (h : Row w g c k t xs) (hb : Below w.heap.size w w') : Row w' g c k t xs := by
  obtain ⟨cs, hw, h1, h2⟩ := h.blk
  exact ⟨⟨cs, hw.below hb hw.lt, h1, h2⟩, h.cap, h.fit⟩
/-- The first elements of a row. -/
theorem Row.front {w : World} {g c k q : Nat} {t : TypeId} {xs : List Value} (h : Row w g c k t xs) (hq : q ≤ c) (hl : (xs.take (q * k)).length = q * k) : Row w g q k t (xs.take (q * k)) := by
  obtain ⟨cs, hw, h1, h2⟩ := h.blk
  refine ⟨⟨cs, hw, Nat.le_trans (Nat.mul_le_mul_right k hq) h1, ?_⟩, Nat.le_trans hq h.cap, by omega⟩
  rw [hl]
  rw [List.length_take] at hl
  rw [← h2, List.take_take, Nat.min_eq_left (by omega)]
set_option maxHeartbeats 4000000 in
set_option maxRecDepth 100000 in
/-- split. -/
theorem splitE (n g c : Nat) (xs : List Value) (w : World) (h : Row w g c 4 39 xs) (hn : xs.length = n * 4) (h2 : 2 ≤ n) (hm : n ≤ 1000) (h1 : ∀ u ∈ xs, u.oneCell' = true) :
    Calls Tryz.prog 131 #[.slice (some ⟨g, 0, none⟩) n c] w fun e w' => ∃ v', e = .returned (.tuple #[.slice (some ⟨g, 0, none⟩) (n / 2) (n / 2), v']) ∧ w'.ownsRow w.heap.size 39 4 v' (n - n / 2) (xs.drop (n / 2 * 4)) ∧ Below w.heap.size w w' := by
  have hnc : n ≤ c := by have := h.fit; omega
  have hcm := h.cap
  unfold maxLen at hcm
  obtain ⟨q, hq⟩ : ∃ q, n / 2 = q := ⟨_, rfl⟩
  have HC : Hid (∀ wq, Below w.heap.size w wq → Calls Tryz.prog 153 #[.slice (some ⟨g, q * 4, none⟩) (n - q) (c - q)] wq fun e w' => ∃ v', e = .returned v' ∧ w'.ownsRow wq.heap.size 39 4 v' (n - q) (xs.drop (q * 4)) ∧ Below wq.heap.size wq w') := fun wq hb => by
    have hs := (h.below hb).drop hn (show q ≤ n by omega)
    (try simp only [Nat.mul_one] at hs); (try simp only [Nat.mul_one])
    first | exact cloneE (n - q) _ _ wq hs (by omega) (fun u hu => h1 u (List.mem_of_mem_drop hu))
  have hq2 : (n : Int) / 2 = (q : Int) := by omega
  have hqn : (q : Int) ≤ (n : Int) := by omega
  have hqc : (q : Int) ≤ (c : Int) := by omega
  have hq0 : (0 : Int) ≤ (q : Int) := by omega
  have hcq : ¬ (c = q) := by omega
  have hqn' : q ≤ n := by omega
  have hqc' : q ≤ c := by omega
  rw [hq]
  clear h hn h1 hq
  go_enter Tryz.func131, Tryz.ntmps131
  go_wp2_with fail
  go_region_held3 (fun w' => Below w.heap.size w w') (first | with_reducible exact Below.refl _ _ | with_reducible exact HB5.out | exact Below.drew (Below.refl _ _)) ((go_at_call 153; refine (HC.out _ (by first | with_reducible exact Below.refl _ _ | exact Below.drew (Below.refl _ _))).mono ?_; rintro e w5 ⟨v5, rfl, hown5, hb5⟩; have HO5 := Lib.hid hown5; have HB5 : Hid (Below w.heap.size w w5) := Below.trans (Below.drew (Below.refl _ _)) hb5; clear hown5 hb5))
  go_wp2_with fail
  go_ret2
  exact ⟨v5, rfl, HO5.out, HB5.out⟩
set_option maxHeartbeats 4000000 in
set_option maxRecDepth 100000 in
/-- split. -/
theorem splitN (n g c : Nat) (xs : List Value) (w : World) (h : Row w g c 1 78 xs) (hn : xs.length = n * 1) (h2 : 2 ≤ n) (hm : n ≤ 1000) (h1 : ∀ u ∈ xs, u.oneCell' = true) :
    Calls Tryz.prog 133 #[.slice (some ⟨g, 0, none⟩) n c] w fun e w' => ∃ v', e = .returned (.tuple #[.slice (some ⟨g, 0, none⟩) (n / 2) (n / 2), v']) ∧ w'.ownsRow w.heap.size 78 1 v' (n - n / 2) (xs.drop (n / 2 * 1)) ∧ Below w.heap.size w w' := by
  have hnc : n ≤ c := by have := h.fit; omega
  have hcm := h.cap
  unfold maxLen at hcm
  obtain ⟨q, hq⟩ : ∃ q, n / 2 = q := ⟨_, rfl⟩
  have HC : Hid (∀ wq, Below w.heap.size w wq → Calls Tryz.prog 156 #[.slice (some ⟨g, q, none⟩) (n - q) (c - q)] wq fun e w' => ∃ v', e = .returned v' ∧ w'.ownsRow wq.heap.size 78 1 v' (n - q) (xs.drop (q * 1)) ∧ Below wq.heap.size wq w') := fun wq hb => by
    have hs := (h.below hb).drop hn (show q ≤ n by omega)
    (try simp only [Nat.mul_one] at hs); (try simp only [Nat.mul_one])
    first | exact cloneN (n - q) _ _ wq hs (by omega) (fun u hu => h1 u (List.mem_of_mem_drop hu))
  have hq2 : (n : Int) / 2 = (q : Int) := by omega
  have hqn : (q : Int) ≤ (n : Int) := by omega
  have hqc : (q : Int) ≤ (c : Int) := by omega
  have hq0 : (0 : Int) ≤ (q : Int) := by omega
  have hcq : ¬ (c = q) := by omega
  have hqn' : q ≤ n := by omega
  have hqc' : q ≤ c := by omega
  rw [hq]
  clear h hn h1 hq
  go_enter Tryz.func133, Tryz.ntmps133
  go_wp2_with fail
  go_region_held3 (fun w' => Below w.heap.size w w') (first | with_reducible exact Below.refl _ _ | with_reducible exact HB5.out | exact Below.drew (Below.refl _ _)) ((go_at_call 156; refine (HC.out _ (by first | with_reducible exact Below.refl _ _ | exact Below.drew (Below.refl _ _))).mono ?_; rintro e w5 ⟨v5, rfl, hown5, hb5⟩; have HO5 := Lib.hid hown5; have HB5 : Hid (Below w.heap.size w w5) := Below.trans (Below.drew (Below.refl _ _)) hb5; clear hown5 hb5))
  go_wp2_with fail
  go_ret2
  exact ⟨v5, rfl, HO5.out, HB5.out⟩
set_option maxHeartbeats 4000000 in
set_option maxRecDepth 100000 in
/-- cut. -/
theorem cutE (na nb K : Nat) (va vb : Value) (xa xb : List Value) (w : World) (ha : SlAt w va na 4 xa) (hb : SlAt w vb nb 4 xb) (hK : K ≤ na + nb) (h0 : 0 < na + nb) (hm : na + nb ≤ 1000) (h1 : ∀ u ∈ xa ++ xb, u.oneCell' = true) :
    Calls Tryz.prog 167 #[va, vb, .int .i64 K] w fun e w' => ∃ v1 v2, e = .returned (.tuple #[v1, v2]) ∧ w'.ownsRow w.heap.size 39 4 v1 K ((xa ++ xb).take (K * 4)) ∧ w'.ownsRow w.heap.size 39 4 v2 (na + nb - K) ((xa ++ xb).drop (K * 4)) ∧ (∀ g, v1.ownBlock = some g → v2.ownBlock ≠ some g) ∧ Below w.heap.size w w' := by
  obtain ⟨A1, c1, rfl⟩ := ha.form
  obtain ⟨A2, c2, rfl⟩ := hb.form
  have HCC : Hid (Calls Tryz.prog 66 #[.slice (some ⟨w.heap.size, 0, none⟩) 2 2] (w.alloc (.cells #[.slice A1 na c1, .slice A2 nb c2] 32)) fun e w' => ∃ g c, e = .returned (.slice (some ⟨g, 0, none⟩) (na + nb) c) ∧ Row w' g c 4 39 (xa ++ xb) ∧ w.heap.size + 1 ≤ g ∧ Below w.heap.size w w') := by
    have hbl : Below w.heap.size w (w.alloc (.cells #[.slice A1 na c1, .slice A2 nb c2] 32)) := (Below.refl _ _).alloc (Nat.le_refl _) _
    refine (concatE [(.slice A1 na c1, na, xa), (.slice A2 nb c2, nb, xb)] w.heap.size 2 (w.alloc (.cells #[.slice A1 na c1, .slice A2 nb c2] 32)) ?_ (by simpa using (by omega : na + nb ≤ 100000000)) (by simp) (by simp)).mono ?_
    · have hw := Whole.new w 32 #[.slice A1 na c1, .slice A2 nb c2]
      intro j y hy
      match j, hy with
      | 0, hy => simp at hy; subst hy; exact ⟨hw.cell 0, ha.below hbl, fun u hu => h1 u (by simp [hu])⟩
      | 1, hy => simp at hy; subst hy; exact ⟨hw.cell 1, hb.below hbl, fun u hu => h1 u (by simp [hu])⟩
      | j + 2, hy => simp at hy
    · rintro e w' ⟨v', rfl, hown, hbe⟩
      simp only [List.map_cons, List.map_nil, List.sum_cons, List.sum_nil, Nat.add_zero, List.flatMap_cons, List.flatMap_nil, List.append_nil] at hown
      obtain ⟨g, c, rfl, hrow, hg⟩ := Row.own hown (by omega)
      exact ⟨g, c, rfl, hrow, by simpa using hg, hbl.trans (hbe.mono (by simp))⟩
  have hlen : (xa ++ xb).length = (na + nb) * 4 := by rw [List.length_append, ha.1, hb.1, Nat.add_mul]
  have HCL : Hid (∀ (g c : Nat) (w2 : World), Row w2 g c 4 39 (xa ++ xb) → (∀ wq, Below w2.heap.size w2 wq → Calls Tryz.prog 153 #[.slice (some ⟨g, 0, none⟩) K c] wq fun e w' => ∃ v', e = .returned v' ∧ w'.ownsRow wq.heap.size 39 4 v' K ((xa ++ xb).take (K * 4)) ∧ Below wq.heap.size wq w') ∧ ∀ o c', ((na + nb - K = 0) ∨ o = K * 4) → ∀ wq, Below w2.heap.size w2 wq → Calls Tryz.prog 153 #[.slice (some ⟨g, o, none⟩) (na + nb - K) c'] wq fun e w' => ∃ v', e = .returned v' ∧ w'.ownsRow wq.heap.size 39 4 v' (na + nb - K) ((xa ++ xb).drop (K * 4)) ∧ Below wq.heap.size wq w') := by
    intro g c w2 hr
    refine ⟨fun wq hbq => cloneE K _ _ wq ⟨by rw [List.length_take, hlen]; have := Nat.mul_le_mul_right 4 hK; omega, .inr ⟨g, 0, c, rfl, fun j u hj => ?_⟩⟩ (by omega) (fun u hu => h1 u (List.mem_of_mem_take hu)), fun o c' ho wq hbq => cloneE (na + nb - K) _ _ wq ⟨by rw [List.length_drop, hlen, Nat.sub_mul], .inr ⟨g, o, c', rfl, fun j u hj => ?_⟩⟩ (by omega) (fun u hu => h1 u (List.mem_of_mem_drop hu))⟩
    · rw [Nat.zero_add]
      rw [List.getElem?_take] at hj
      split at hj
      · exact (hr.below hbq).cell hj
      · cases hj
    · rcases ho with ho | ho
      · have : ((xa ++ xb).drop (K * 4)).length = 0 := by rw [List.length_drop, hlen, ← Nat.sub_mul, ho, Nat.zero_mul]
        rw [List.length_eq_zero_iff.1 this] at hj
        cases hj
      · subst ho
        rw [List.getElem?_drop] at hj
        exact (hr.below hbq).cell hj
  have HFIT : Hid (∀ (g c : Nat) (w2 : World), Row w2 g c 4 39 (xa ++ xb) → na + nb ≤ c) := by
    intro g c w2 hr
    have := hr.fit
    rw [hlen] at this
    omega
  obtain ⟨N, hN⟩ : ∃ N, na + nb = N := ⟨_, rfl⟩
  rw [hN] at HCC HCL HFIT hK hm h0 ⊢
  clear hN ha hb h1 hlen
  go_enter Tryz.func167, Tryz.ntmps167
  go_wp2_with fail
  refine HCC.out.mono ?_
  rintro e w2 ⟨g, c, rfl, hrow, hg, hb2⟩
  have HB2 := Lib.hid hb2
  have HC1 := Lib.hid (HCL.out g c w2 hrow).1
  have HC2 := Lib.hid (HCL.out g c w2 hrow).2
  have hNc : N ≤ c := HFIT.out g c w2 hrow
  have hcm := hrow.cap
  unfold maxLen at hcm
  have hk1 : (K : Int) ≤ (c : Int) := by omega
  have hk2 : (K : Int) ≤ (N : Int) := by omega
  have hk3 : K ≤ c := by omega
  have hk4 : (0 : Int) ≤ (K : Int) := by omega
  clear hb2 hrow
  by_cases hcK : c = K
  · obtain rfl : K = N := by omega
    subst hcK
    have HC3 := Lib.hid (HC2.out 0 (c - c) (.inl (by omega)))
    simp only [Nat.sub_self] at HC3
    go_wp2_with fail
    go_region_held3 (fun w' => Below w2.heap.size w2 w') (first | with_reducible exact Below.refl _ _ | with_reducible exact HB6.out | with_reducible exact HB5.out | exact Below.drew (Below.refl _ _)) ((first | (go_at_call 153; (with_reducible refine (HC1.out _ (by assumption)).mono ?_); rintro e w5 ⟨v5, rfl, hown5, hb5⟩; have HO5 := Lib.hid hown5; have HC5 := Lib.hid hb5; have HB5 : Hid (Below w2.heap.size w2 w5) := bel_tr (by assumption) hb5; clear hown5 hb5) | (go_at_call 153; (with_reducible refine (HC3.out _ (by assumption)).mono ?_); rintro e w6 ⟨v6, rfl, hown6, hb6⟩; have HO6 := Lib.hid hown6; have HC6 := Lib.hid hb6; have HB6 : Hid (Below w2.heap.size w2 w6) := bel_tr (by assumption) hb6; clear hown6 hb6)))
    all_goals go_wp2_with fail
    all_goals go_ret2
    all_goals have hsz := HB2.out.size
    · have h := two_own (B := w.heap.size) HO5.out (by have := HB2.out.size; exact this) HC6.out HO6.out (Nat.le_trans HB2.out.size HB5.out.size)
      exact ⟨v5, v6, rfl, h.1, (by first | exact h.2.1 | (rw [Nat.sub_self]; exact h.2.1)), h.2.2.1, bel_tr HB2.out HB6.out⟩
  · have HC3 := Lib.hid (HC2.out (K * 4) (c - K) (.inr rfl))
    go_wp2_with fail
    go_region_held3 (fun w' => Below w2.heap.size w2 w') (first | with_reducible exact Below.refl _ _ | with_reducible exact HB6.out | with_reducible exact HB5.out | exact Below.drew (Below.refl _ _)) ((first | (go_at_call 153; (with_reducible refine (HC1.out _ (by assumption)).mono ?_); rintro e w5 ⟨v5, rfl, hown5, hb5⟩; have HO5 := Lib.hid hown5; have HC5 := Lib.hid hb5; have HB5 : Hid (Below w2.heap.size w2 w5) := bel_tr (by assumption) hb5; clear hown5 hb5) | (go_at_call 153; (with_reducible refine (HC3.out _ (by assumption)).mono ?_); rintro e w6 ⟨v6, rfl, hown6, hb6⟩; have HO6 := Lib.hid hown6; have HC6 := Lib.hid hb6; have HB6 : Hid (Below w2.heap.size w2 w6) := bel_tr (by assumption) hb6; clear hown6 hb6)))
    all_goals go_wp2_with fail
    all_goals go_ret2
    all_goals have hsz := HB2.out.size
    · have h := two_own (B := w.heap.size) HO5.out (by have := HB2.out.size; exact this) HC6.out HO6.out (Nat.le_trans HB2.out.size HB5.out.size)
      exact ⟨v5, v6, rfl, h.1, (by first | exact h.2.1 | (rw [Nat.sub_self]; exact h.2.1)), h.2.2.1, bel_tr HB2.out HB6.out⟩
set_option maxHeartbeats 4000000 in
set_option maxRecDepth 100000 in
/-- cut. -/
theorem cutN (na nb K : Nat) (va vb : Value) (xa xb : List Value) (w : World) (ha : SlAt w va na 1 xa) (hb : SlAt w vb nb 1 xb) (hK : K ≤ na + nb) (h0 : 0 < na + nb) (hm : na + nb ≤ 1000) (h1 : ∀ u ∈ xa ++ xb, u.oneCell' = true) :
    Calls Tryz.prog 168 #[va, vb, .int .i64 K] w fun e w' => ∃ v1 v2, e = .returned (.tuple #[v1, v2]) ∧ w'.ownsRow w.heap.size 78 1 v1 K ((xa ++ xb).take (K * 1)) ∧ w'.ownsRow w.heap.size 78 1 v2 (na + nb - K) ((xa ++ xb).drop (K * 1)) ∧ (∀ g, v1.ownBlock = some g → v2.ownBlock ≠ some g) ∧ Below w.heap.size w w' := by
  obtain ⟨A1, c1, rfl⟩ := ha.form
  obtain ⟨A2, c2, rfl⟩ := hb.form
  have HCC : Hid (Calls Tryz.prog 175 #[.slice (some ⟨w.heap.size, 0, none⟩) 2 2] (w.alloc (.cells #[.slice A1 na c1, .slice A2 nb c2] 83)) fun e w' => ∃ g c, e = .returned (.slice (some ⟨g, 0, none⟩) (na + nb) c) ∧ Row w' g c 1 78 (xa ++ xb) ∧ w.heap.size + 1 ≤ g ∧ Below w.heap.size w w') := by
    have hbl : Below w.heap.size w (w.alloc (.cells #[.slice A1 na c1, .slice A2 nb c2] 83)) := (Below.refl _ _).alloc (Nat.le_refl _) _
    refine (concatN [(.slice A1 na c1, na, xa), (.slice A2 nb c2, nb, xb)] w.heap.size 2 (w.alloc (.cells #[.slice A1 na c1, .slice A2 nb c2] 83)) ?_ (by simpa using (by omega : na + nb ≤ 100000000)) (by simp) (by simp)).mono ?_
    · have hw := Whole.new w 83 #[.slice A1 na c1, .slice A2 nb c2]
      intro j y hy
      match j, hy with
      | 0, hy => simp at hy; subst hy; exact ⟨hw.cell 0, ha.below hbl, fun u hu => h1 u (by simp [hu])⟩
      | 1, hy => simp at hy; subst hy; exact ⟨hw.cell 1, hb.below hbl, fun u hu => h1 u (by simp [hu])⟩
      | j + 2, hy => simp at hy
    · rintro e w' ⟨v', rfl, hown, hbe⟩
      simp only [List.map_cons, List.map_nil, List.sum_cons, List.sum_nil, Nat.add_zero, List.flatMap_cons, List.flatMap_nil, List.append_nil] at hown
      obtain ⟨g, c, rfl, hrow, hg⟩ := Row.own hown (by omega)
      exact ⟨g, c, rfl, hrow, by simpa using hg, hbl.trans (hbe.mono (by simp))⟩
  have hlen : (xa ++ xb).length = (na + nb) * 1 := by rw [List.length_append, ha.1, hb.1, Nat.add_mul]
  have HCL : Hid (∀ (g c : Nat) (w2 : World), Row w2 g c 1 78 (xa ++ xb) → (∀ wq, Below w2.heap.size w2 wq → Calls Tryz.prog 156 #[.slice (some ⟨g, 0, none⟩) K c] wq fun e w' => ∃ v', e = .returned v' ∧ w'.ownsRow wq.heap.size 78 1 v' K ((xa ++ xb).take (K * 1)) ∧ Below wq.heap.size wq w') ∧ ∀ o c', ((na + nb - K = 0) ∨ o = K * 1) → ∀ wq, Below w2.heap.size w2 wq → Calls Tryz.prog 156 #[.slice (some ⟨g, o, none⟩) (na + nb - K) c'] wq fun e w' => ∃ v', e = .returned v' ∧ w'.ownsRow wq.heap.size 78 1 v' (na + nb - K) ((xa ++ xb).drop (K * 1)) ∧ Below wq.heap.size wq w') := by
    intro g c w2 hr
    refine ⟨fun wq hbq => cloneN K _ _ wq ⟨by rw [List.length_take, hlen]; have := Nat.mul_le_mul_right 1 hK; omega, .inr ⟨g, 0, c, rfl, fun j u hj => ?_⟩⟩ (by omega) (fun u hu => h1 u (List.mem_of_mem_take hu)), fun o c' ho wq hbq => cloneN (na + nb - K) _ _ wq ⟨by rw [List.length_drop, hlen, Nat.sub_mul], .inr ⟨g, o, c', rfl, fun j u hj => ?_⟩⟩ (by omega) (fun u hu => h1 u (List.mem_of_mem_drop hu))⟩
    · rw [Nat.zero_add]
      rw [List.getElem?_take] at hj
      split at hj
      · exact (hr.below hbq).cell hj
      · cases hj
    · rcases ho with ho | ho
      · have : ((xa ++ xb).drop (K * 1)).length = 0 := by rw [List.length_drop, hlen, ← Nat.sub_mul, ho, Nat.zero_mul]
        rw [List.length_eq_zero_iff.1 this] at hj
        cases hj
      · subst ho
        rw [List.getElem?_drop] at hj
        exact (hr.below hbq).cell hj
  have HFIT : Hid (∀ (g c : Nat) (w2 : World), Row w2 g c 1 78 (xa ++ xb) → na + nb ≤ c) := by
    intro g c w2 hr
    have := hr.fit
    rw [hlen] at this
    omega
  obtain ⟨N, hN⟩ : ∃ N, na + nb = N := ⟨_, rfl⟩
  rw [hN] at HCC HCL HFIT hK hm h0 ⊢
  clear hN ha hb h1 hlen
  go_enter Tryz.func168, Tryz.ntmps168
  go_wp2_with fail
  refine HCC.out.mono ?_
  rintro e w2 ⟨g, c, rfl, hrow, hg, hb2⟩
  have HB2 := Lib.hid hb2
  have HC1 := Lib.hid (HCL.out g c w2 hrow).1
  have HC2 := Lib.hid (HCL.out g c w2 hrow).2
  have hNc : N ≤ c := HFIT.out g c w2 hrow
  have hcm := hrow.cap
  unfold maxLen at hcm
  have hk1 : (K : Int) ≤ (c : Int) := by omega
  have hk2 : (K : Int) ≤ (N : Int) := by omega
  have hk3 : K ≤ c := by omega
  have hk4 : (0 : Int) ≤ (K : Int) := by omega
  clear hb2 hrow
  by_cases hcK : c = K
  · obtain rfl : K = N := by omega
    subst hcK
    have HC3 := Lib.hid (HC2.out 0 (c - c) (.inl (by omega)))
    simp only [Nat.sub_self] at HC3
    go_wp2_with fail
    go_region_held3 (fun w' => Below w2.heap.size w2 w') (first | with_reducible exact Below.refl _ _ | with_reducible exact HB6.out | with_reducible exact HB5.out | exact Below.drew (Below.refl _ _)) ((first | (go_at_call 156; (with_reducible refine (HC1.out _ (by assumption)).mono ?_); rintro e w5 ⟨v5, rfl, hown5, hb5⟩; have HO5 := Lib.hid hown5; have HC5 := Lib.hid hb5; have HB5 : Hid (Below w2.heap.size w2 w5) := bel_tr (by assumption) hb5; clear hown5 hb5) | (go_at_call 156; (with_reducible refine (HC3.out _ (by assumption)).mono ?_); rintro e w6 ⟨v6, rfl, hown6, hb6⟩; have HO6 := Lib.hid hown6; have HC6 := Lib.hid hb6; have HB6 : Hid (Below w2.heap.size w2 w6) := bel_tr (by assumption) hb6; clear hown6 hb6)))
    all_goals go_wp2_with fail
    all_goals go_ret2
    all_goals have hsz := HB2.out.size
    · have h := two_own (B := w.heap.size) HO5.out (by have := HB2.out.size; exact this) HC6.out HO6.out (Nat.le_trans HB2.out.size HB5.out.size)
      exact ⟨v5, v6, rfl, h.1, (by first | exact h.2.1 | (rw [Nat.sub_self]; exact h.2.1)), h.2.2.1, bel_tr HB2.out HB6.out⟩
  · have HC3 := Lib.hid (HC2.out (K) (c - K) (.inr (Nat.mul_one K).symm))
    go_wp2_with fail
    go_region_held3 (fun w' => Below w2.heap.size w2 w') (first | with_reducible exact Below.refl _ _ | with_reducible exact HB6.out | with_reducible exact HB5.out | exact Below.drew (Below.refl _ _)) ((first | (go_at_call 156; (with_reducible refine (HC1.out _ (by assumption)).mono ?_); rintro e w5 ⟨v5, rfl, hown5, hb5⟩; have HO5 := Lib.hid hown5; have HC5 := Lib.hid hb5; have HB5 : Hid (Below w2.heap.size w2 w5) := bel_tr (by assumption) hb5; clear hown5 hb5) | (go_at_call 156; (with_reducible refine (HC3.out _ (by assumption)).mono ?_); rintro e w6 ⟨v6, rfl, hown6, hb6⟩; have HO6 := Lib.hid hown6; have HC6 := Lib.hid hb6; have HB6 : Hid (Below w2.heap.size w2 w6) := bel_tr (by assumption) hb6; clear hown6 hb6)))
    all_goals go_wp2_with fail
    all_goals go_ret2
    all_goals have hsz := HB2.out.size
    · have h := two_own (B := w.heap.size) HO5.out (by have := HB2.out.size; exact this) HC6.out HO6.out (Nat.le_trans HB2.out.size HB5.out.size)
      exact ⟨v5, v6, rfl, h.1, (by first | exact h.2.1 | (rw [Nat.sub_self]; exact h.2.1)), h.2.2.1, bel_tr HB2.out HB6.out⟩
end Go.Proofs.YtneammhkgmkkfaaGreat.tr
