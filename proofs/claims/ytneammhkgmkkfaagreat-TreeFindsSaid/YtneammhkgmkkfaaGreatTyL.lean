/- slices.Delete of one element at []tree.node. -/
import Derived.Test.YtneammhkgmkkfaaGreatTyK
import Derived.Deep.RegionLaw
namespace Go.Proofs.YtneammhkgmkkfaaGreat.tr
open Go.RowKit Go.Proofs.YtneammhkgmkkfaaGreat.er
set_option linter.unusedVariables false
set_option linter.unusedSimpArgs false

theorem zeroNode : ∀ w, (zeroValue 78).run Tryz.prog w = .ok .nilIface w := fun w => by kernel_rfl
def DelNRet (T : TypeId) (g c n i : Nat) (xs : List Value) (w : World) (e : Ending) (w' : World) : Prop := e = .returned (.slice (some ⟨g, 0, none⟩) (n - 1) c) ∧ Row w' g c 1 T (xs.eraseIdx i) ∧ Keep (fun b => b = g) w w'
theorem delN_fin {T : TypeId} {g c n i : Nat} {xs : List Value} {w : World} (h : Row w g c 1 T xs) (hn : xs.length = n) (hi : i < n) (zs : List Value) :
    Row ((w.drew.setCells g i (xs.drop (i + 1))).setCells g (n - 1) zs) g c 1 T (xs.eraseIdx i) ∧ Keep (fun b => b = g) w ((w.drew.setCells g i (xs.drop (i + 1))).setCells g (n - 1) zs) := by
  obtain ⟨cs, hb, h1, h2⟩ := h.blk
  have hb' : Whole w.drew g T cs := hb
  obtain ⟨cs1, hb1, hl1⟩ := whole_setCells (xs.drop (i + 1)) i w.drew cs hb'
  obtain ⟨cs2, hb2, hl2⟩ := whole_setCells zs (n - 1) _ cs1 hb1
  have hf := h.fit
  have hel : (xs.eraseIdx i).length = n - 1 := by rw [List.length_eraseIdx]; simp [hn, hi]
  refine ⟨Row.of hb2 (by rw [hl2.size, hl1.size]; exact h1) h.cap (by omega) (fun j hj => ?_), keep_setCells _ _ _ _ (keep_setCells _ _ _ _ (Keep.drew (Keep.refl _ _)) (.inl rfl)) (.inl rfl)⟩
  rw [hl2.front j (by omega), List.getElem?_eraseIdx]
  have hc : ∀ q, q < n → cs[q]? = xs[q]? := fun q hq => by
    have : (cs.toList.take xs.length)[q]? = xs[q]? := by rw [h2]
    rw [List.getElem?_take_of_lt (by omega)] at this
    simpa using this
  by_cases hji : j < i
  · rw [if_pos hji, hl1.front j hji, hc j (by omega)]
  · rw [if_neg hji]
    obtain ⟨d, rfl⟩ : ∃ d, j = i + d := ⟨j - i, by omega⟩
    have hdl : (xs.drop (i + 1)).length = n - (i + 1) := by rw [List.length_drop, hn]
    rw [hl1.mid d (by omega) (by omega), List.getElem?_drop]
    congr 1; omega
set_option maxHeartbeats 4000000 in
set_option maxRecDepth 100000 in
theorem delN_any (n g c i : Nat) (a b : Int) (xs : List Value) (w : World) (h : Row w g c 1 78 xs) (hn : xs.length = n) (hi : i < n) (hm : n ≤ 1000) (ha : a = i) (hb : b = (i : Int) + 1) (h1 : ∀ u ∈ xs, u.oneCell' = true) :
    Calls Tryz.prog 169 #[.slice (some ⟨g, 0, none⟩) n c, .int .i64 a, .int .i64 b] w (DelNRet 78 g c n i xs w) := by
  subst ha hb
  obtain ⟨i0, hi0, hz0, hz1, hz2⟩ := info_parts infoN
  have hcm := h.cap
  have hnc : n ≤ c := by have := h.fit; omega
  unfold maxLen at hcm
  obtain ⟨news, hnews⟩ : ∃ news, xs.drop (i + 1) = news := ⟨_, rfl⟩
  have hlen : news.length = n - (i + 1) := by rw [← hnews, List.length_drop, hn]
  obtain ⟨A, hA, hsrc⟩ : ∃ A : Addr, (if c = i + 1 then some (⟨g, 0, none⟩ : Addr) else some ⟨g, i + 1, none⟩) = some A ∧ Hid (∀ t u, news[t]? = some u → w.drew.cell? (A.add t) = some u) := by
    by_cases hc : c = i + 1
    · refine ⟨⟨g, 0, none⟩, by simp [hc], fun t u hu => ?_⟩
      have h0 : news.length = 0 := by rw [hlen]; omega
      rw [List.length_eq_zero_iff.1 h0] at hu
      simp at hu
    · refine ⟨⟨g, i + 1, none⟩, by simp [hc], fun t u hu => ?_⟩
      rw [← hnews, List.getElem?_drop] at hu
      rw [Addr.add_lit]
      exact h.cell hu
  have s1 : Hid (news.length = (n - (i + 1)) * 1) := by show _ = _; rw [Nat.mul_one]; exact hlen
  have s2 : Hid (∀ u ∈ news, u.oneCell' = true) := fun u hu => h1 u (by rw [← hnews] at hu; exact List.mem_of_mem_drop hu)
  have s3 : Hid (∀ t, t < news.length → (w.drew.cell? ⟨g, 0 + i * 1 + t, none⟩).isSome = true ∧ w.drew.frozen? ⟨g, 0 + i * 1 + t, none⟩ = false) := by
    intro t ht
    rw [hlen] at ht
    rw [Nat.mul_one, Nat.zero_add]
    exact ⟨h.room (by omega), h.fz _⟩
  obtain ⟨W1, hW1⟩ : ∃ W1, W1 = w.drew.setCells g (0 + i * 1) news := ⟨_, rfl⟩
  have hW1' : W1 = w.drew.setCells g i (xs.drop (i + 1)) := by rw [hW1, hnews, Nat.mul_one, Nat.zero_add]
  have hR : Row W1 g c 1 78 (xs.eraseIdx i) := by
    have := (delN_fin h hn hi []).1
    rw [hW1']; exact this
  have hcl : ∀ ty, (Builtin.clear_ #[83] ty #[.slice (some ⟨g, n - 1, none⟩) (n - (n - 1)) (c - (n - 1))]).run Tryz.prog W1 = .ok (.tuple #[]) (W1.setCells g (n - 1) (Builtin.zeroCells (Value.cells .nilIface) (n - (n - 1))).toList) := fun ty =>
    run_clearK W1 _ _ ty _ 1 Tryz.underlying83 zeroNode rfl (by omega) (by simp [Value.cells, Value.oneCell']) g (n - 1) (n - (n - 1)) (c - (n - 1)) (by omega) (fun q hq => hR.room (by omega)) (fun q hq => hR.fz _)
  have HRET : Hid (DelNRet 78 g c n i xs w (.returned (.slice (some ⟨g, 0, none⟩) (n - 1) c)) (W1.setCells g (n - 1) (Builtin.zeroCells (Value.cells .nilIface) (n - (n - 1))).toList)) := by
    rw [hW1']
    exact ⟨rfl, delN_fin h hn hi _⟩
  obtain ⟨ZS, hZS⟩ : ∃ ZS, (Builtin.zeroCells (Value.cells .nilIface) (n - (n - 1))).toList = ZS := ⟨_, rfl⟩
  rw [hZS] at hcl HRET
  have HW : Hid (W1 = w.drew.setCells g (0 + i * 1) news) := hW1
  obtain ⟨n', rfl⟩ : ∃ n', n = n' + 1 := ⟨n - 1, by omega⟩
  have e1 : n' + 1 - 1 = n' := by omega
  have e2 : n' + 1 - n' = 1 := by omega
  simp only [e1, e2] at hcl HRET ⊢
  have hii : (0 : Int) ≤ (i : Int) + 1 := by omega
  have hi2 : (i : Int) + 1 ≤ (n' : Int) + 1 := by omega
  have hi3 : (i : Int) ≤ (n' : Int) + 1 := by omega
  have hi4 : (i : Int) ≤ (c : Int) := by omega
  have hi5 : (i : Int) + 1 ≤ (c : Int) := by omega
  have hne : ¬ ((i : Int) = (i : Int) + 1) := by omega
  have hne2 : ((i : Int) == (i : Int) + 1) = false := beq_eq_false_iff_ne.2 (by omega)
  have htn : ((i : Int) + 1).toNat = i + 1 := by omega
  have hci : ¬ (c = n') := by omega
  have hHI0 := Lib.hid hi0
  have hHZ1 := Lib.hid hz1
  have hlen1 : i + (n' - i) = n' := by omega
  clear hW1 hW1' hR hZS h hn h1 hnews hlen e1 e2 hi0 hz0 hz1 hz2
  go_enter Tryz.func169, Tryz.ntmps169
  go_wp2_with fail
  go_region_law (refine step_append_room rfl (.tmp 22) (.tmp 25) 83 rfl 78 i0 1 Tryz.underlying83 hHI0.out hHZ1.out g 0 i c (by simp [Act.eval, Act.put]) A (n' + 1 - (i + 1)) (c - (i + 1)) news (by simp [Act.eval, Act.put]) s1.out hsrc.out s2.out (by omega) s3.out ?_; rw [← HW.out])
  go_wp2_with fail
  go_ret
  exact HRET.out
end Go.Proofs.YtneammhkgmkkfaaGreat.tr
