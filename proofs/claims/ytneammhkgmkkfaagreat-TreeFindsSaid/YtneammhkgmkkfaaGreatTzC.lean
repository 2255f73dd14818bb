/- tree: from, walk. -/
import Derived.Test.YtneammhkgmkkfaaGreatTzB
import Derived.Test.YtneammhkgmkkfaaGreatTyT
namespace Go.Proofs.YtneammhkgmkkfaaGreat.tr
open Go.RowKit Go.Proofs.YtneammhkgmkkfaaGreat.er
set_option linter.unusedVariables false
set_option linter.unusedSimpArgs false

theorem pastF_take {h : Nat} {ks : List (Nd h)} {s : Int} {j : Nat} {k : Nd h} (hk : ks[j]? = some k) : pastL (flats (ks.take (j + 1))) s = pastL (flats (ks.take j)) s ++ pastL (flat k) s := by
  obtain ⟨hj, he⟩ := List.getElem?_eq_some_iff.1 hk
  rw [List.take_succ_eq_append_getElem hj, he, flats_append, past_append]
  simp
theorem pastF_split {h : Nat} {ks : List (Nd h)} {s : Int} {j : Nat} {k : Nd h} (hk : ks[j]? = some k) : ∃ r, pastL (flats ks) s = pastL (flats (ks.take j)) s ++ (pastL (flat k) s ++ r) := by
  obtain ⟨hj, he⟩ := List.getElem?_eq_some_iff.1 hk
  refine ⟨pastL (flats (ks.drop (j + 1))) s, ?_⟩
  have a1 : ks.drop j = k :: ks.drop (j + 1) := by rw [← he]; exact List.drop_eq_getElem_cons hj
  conv => lhs; rw [← List.take_append_drop j ks, a1]
  rw [flats_append, past_append, flats_cons, past_append]
set_option maxHeartbeats 4000000 in
set_option maxRecDepth 100000 in
theorem from_inner (h g : Nat) (lb : Array Value) (gd : Ext → Bool) (S : List Ext → World → Prop) (G : Nat → Prop) (w0 : World) (H : Hand g lb gd S G w0) (IH : FromCtr h g lb gd S G w0) (b q c : Nat) (a : Int) (ds : List (Kd h)) (s : Int) (done : List Ext) (w : World) (hin : InAt w0 b q c a ds) (hG : ∀ k ∈ b :: q :: dsF ds, ¬ G k)
    (hk : Kw (mkI a (ds.map fun d => d.2.2))) (h1 : 1 ≤ ds.length) (hm : ds.length ≤ 100) (hc : Chk (flats (ds.map fun d => d.2.2))) (hN : done.length + (flats (ds.map fun d => d.2.2)).length ≤ 16777216) (hS : S done w) :
    Calls Tryz.prog 72 #[ptrV (h + 1) b, .int .i64 s, .func (.func g) #[] lb] w fun x w' => x = .returned (.bool ((pastL (flats (ds.map fun d => d.2.2)) s).all gd)) ∧ S (done ++ handed gd (pastL (flats (ds.map fun d => d.2.2)) s)) w' := by
  have HH := Lib.hid H
  have HL : Hid (∀ done wq, S done wq → InAt wq b q c a ds) := fun done wq h => ⟨hin.1.keep (H.keep done wq h) (hG b (by simp)), hin.2.1.keep (H.keep done wq h) (hG q (by simp)), kids_keep (H.keep done wq h) hin.2.2 (fun k hk => hG k (by simp [hk]))⟩
  obtain ⟨u, hu⟩ : ∃ u, under (ds.map fun d => d.2.2) s = u := ⟨_, rfl⟩
  have hul : u < ds.length := by rw [← hu]; have := under_lt (ds.map fun d => d.2.2) s (by simpa using h1); simpa using this
  have hSd : S done w.drew := H.below _ _ _ hS (Below.drew (Below.refl _ _))
  have HUN : Hid (Calls Tryz.prog 95 #[.pointer (some ⟨b, 0, none⟩), .int .i64 s] w.drew fun e w' => e = .returned (.int .i64 u) ∧ w.drew = w') := by
    have := under_any w.drew h b _ _ s (inner_at (HL.out _ _ hSd)) hk (by show 1 ≤ (ds.map _).length; simpa using h1) (by show (ds.map _).length ≤ 100; simp; omega)
    rw [show under (mkI a (ds.map fun d => d.2.2)).ks s = u from hu] at this
    exact this
  have hpu : pastL (flats (ds.map fun d => d.2.2)) s = pastL (flats ((ds.map fun d => d.2.2).drop (under (ds.map fun d => d.2.2) s))) s := past_under (h := h) (s := s) (kw_mk.1 hk) hc
  rw [hu] at hpu
  obtain ⟨ks, hks⟩ : ∃ ks, (ds.map fun d => d.2.2).drop u = ks := ⟨_, rfl⟩
  rw [hks] at hpu
  obtain ⟨n, hn⟩ : ∃ n, ds.length = n := ⟨_, rfl⟩
  have HLN : Hid (∀ j k, ks[j]? = some k → (done ++ pastL (flats (ks.take j)) s).length + (flat k).length ≤ 16777216) := by
    intro j k hk2
    have e1 : (ds.map fun d => d.2.2) = (ds.map fun d => d.2.2).take u ++ ks := by rw [← hks, List.take_append_drop]
    obtain ⟨jl, je⟩ := List.getElem?_eq_some_iff.1 hk2
    have e2 : ks = ks.take j ++ k :: ks.drop (j + 1) := by
      have a1 : ks.drop j = k :: ks.drop (j + 1) := by rw [← je]; exact List.drop_eq_getElem_cons jl
      rw [← a1, List.take_append_drop]
    have e3 : (pastL (flats (ks.take j)) s).length ≤ (flats (ks.take j)).length := List.length_filter_le _ _
    rw [e1, e2] at hN
    simp only [flats_append, flats_cons, List.length_append] at hN ⊢
    omega
  have hkl : ks.length = n - u := by rw [← hks, List.length_drop, List.length_map, hn]
  have hcap : n ≤ c := by have := hin.2.1.fit; rw [List.length_map] at this; omega
  have hcm := hin.2.1.cap
  unfold maxLen at hcm
  have HKD : Hid (∀ j, j < n - u → ∃ (d : Kd h) (kb : Nat), ks[j]? = some d.2.2 ∧ (∀ done wq, S done wq → wq.cell? ⟨q, u + j, none⟩ = some (.iface (ndT h) (.pointer (some ⟨kb, 0, none⟩)))) ∧ ∀ done wq, done.length + (flat d.2.2).length ≤ 16777216 → S done wq → Calls Tryz.prog 72 #[.iface (ndT h) (.pointer (some ⟨kb, 0, none⟩)), .int .i64 s, .func (.func g) #[] lb] wq fun x w' => x = .returned (.bool ((pastL (flat d.2.2) s).all gd)) ∧ S (done ++ handed gd (pastL (flat d.2.2) s)) w') := by
    intro j hj
    have hjl : u + j < ds.length := by omega
    have hd := List.getElem?_eq_getElem hjl
    have hmem := List.getElem_mem hjl
    obtain ⟨kb, kF, f1, f2⟩ := (hin.2.2 _ hmem).form
    have hkw : Wf (ds[u + j]'hjl).2.2 := hk.mem (List.mem_map.2 ⟨_, hmem, rfl⟩)
    have hkc : Chk (flat (ds[u + j]'hjl).2.2) := by
      obtain ⟨e, _⟩ := (show ds = ds.take (u + j) ++ ds[u + j]'hjl :: ds.drop (u + j + 1) ∧ True from ⟨by rw [← List.drop_eq_getElem_cons hjl, List.take_append_drop], trivial⟩)
      rw [e] at hc
      simp only [List.map_append, List.map_cons, flats_append, flats_cons] at hc
      exact hc.right.left
    refine ⟨ds[u + j]'hjl, kb, ?_, fun done wq h => ?_, fun done wq hl h => ?_⟩
    · rw [← hks, List.getElem?_drop, List.getElem?_map, hd]; rfl
    · rw [← f2]
      exact (HL.out _ _ h).2.1.cell (by rw [List.getElem?_map, hd]; rfl)
    · rw [← f2]
      exact IH _ _ _ s done wq (hin.2.2 _ hmem) (fun k hk => hG k (List.mem_cons_of_mem _ (List.mem_cons_of_mem _ (mem_dsF hmem hk)))) hkw.2 (by have := hkw.1; omega) (by have := hkw.1; omega) hkc hl h
  have hun : u < n := by omega
  obtain ⟨m, hmm⟩ : ∃ m, n - u = m := ⟨_, rfl⟩
  have c1 : w.cell? ⟨b, 1, none⟩ = some (.slice (some ⟨q, 0, none⟩) n c) := by have := (HL.out done w hS).1.cell 1; rw [hn] at this; exact this
  have HS0 := Lib.hid hSd
  have hta := ta_ii
  have htb := ta_il
  obtain ⟨PL, hPL⟩ : ∃ PL, pastL (flats (ds.map fun d => d.2.2)) s = PL := ⟨_, rfl⟩
  rw [hPL]
  have HPL : Hid (pastL (flats ks) s = PL) := by show _ = _; rw [← hpu]; exact hPL
  have HKL := Lib.hid hkl
  have hcu : ¬ (c = u) := by omega
  have hu1 : (u : Int) ≤ (n : Int) := by omega
  have hu2 : (0 : Int) ≤ (u : Int) := by omega
  have hu3 : u ≤ n := by omega
  have hu4 : (n : Int) ≤ 100 := by omega
  rw [hmm] at HKD HKL
  have HMM := Lib.hid hmm
  have hmi : (m : Int) ≤ 100 := by omega
  have hmi2 : n - u = m := hmm
  clear hpu hks hkl hPL hmm hn hun hul hu hSd hcap hin hG hk h1 hm hc hN hS H IH
  show Calls Tryz.prog 72 #[.iface 81 (.pointer (some ⟨b, 0, none⟩)), .int .i64 s, .func (.func g) #[] lb] w _
  go_enter Tryz.func72, Tryz.ntmps72
  go_wp2_with fail
  go_region_held3 (fun w' => w'.cell? ⟨b, 1, none⟩ = some (.slice (some ⟨q, 0, none⟩) n c) ∧ w' = w.drew) (first | exact ⟨c1, rfl⟩ | exact ⟨c1, trivial⟩) ((go_at_call 95; (with_reducible refine (HUN.out).mono ?_); rintro e w5 ⟨rfl, rfl⟩))
  go_wp2_with fail
  go_loopw [12, 52] (fun s12 i wr => ∃ (j : Nat), j ≤ m ∧ i = .int .i64 j ∧ Hid ((pastL (flats (ks.take j)) s).all gd = true) ∧ Hid (S (done ++ pastL (flats (ks.take j)) s) wr)) (fun _ i _ => m - (intOf i).toNat)
  case atStart => exact ⟨0, Nat.zero_le _, rfl, rfl, by show S _ _; simpa [pastL] using HS0.out⟩
  case round =>
    obtain ⟨j, hj, rfl, HA, HS⟩ := hrel
    by_cases hlt : j < m
    · have hji : (j : Int) < (m : Int) := by omega
      obtain ⟨d, kb, d1, d2, d3⟩ := HKD.out j hlt
      have c2 := d2 _ _ HS.out
      have HCL := Lib.hid (d3 _ _ (HLN.out j _ d1) HS.out)
      have HT := Lib.hid (pastF_take (s := s) d1)
      have HSP := Lib.hid (pastF_split (s := s) d1)
      clear d1 d2 d3
      cases hg : (pastL (flat d.2.2) s).all gd
      · have HR : Hid (PL.all gd = false ∧ done ++ handed gd PL = done ++ pastL (flats (ks.take j)) s ++ handed gd (pastL (flat d.2.2) s)) := by
          obtain ⟨r, hr⟩ := HSP.out
          show _ ∧ _
          rw [← HPL.out, hr, handed_app, if_pos HA.out, handed_app, if_neg (by rw [hg]; decide)]
          refine ⟨?_, by rw [List.append_assoc]⟩
          rw [List.all_append, List.all_append, hg]; simp
        rw [hg] at HCL
        clear hg
        go_wp2_with fail
        with_reducible refine (HCL.out).mono ?_
        rintro e w5 ⟨rfl, hs5⟩
        have HS5 := Lib.hid hs5
        clear hs5
        go_wp2_with fail
        go_ret
        exact ⟨by rw [HR.out.1]; rfl, by rw [HR.out.2]; exact HS5.out⟩
      · have HA2 : Hid ((pastL (flats (ks.take (j + 1))) s).all gd = true) := by show _ = _; rw [HT.out, List.all_append, HA.out, hg]; rfl
        have HHA : Hid (handed gd (pastL (flat d.2.2) s) = pastL (flat d.2.2) s) := handed_all hg
        rw [hg] at HCL
        clear hg
        go_wp2_with fail
        with_reducible refine (HCL.out).mono ?_
        rintro e w5 ⟨rfl, hs5⟩
        have HS5 : Hid (S (done ++ pastL (flats (ks.take (j + 1))) s) w5) := by show S _ _; rw [HT.out, ← List.append_assoc]; rw [HHA.out] at hs5; exact hs5
        clear hs5
        go_wp2_with fail
        go_roundw
        case rel => exact ⟨j + 1, by omega, by go_num, HA2, HS5⟩
        case measure => simp [intOf]; omega
    · obtain rfl : j = m := by omega
      have hfull : ks.take j = ks := by rw [← HKL.out]; exact List.take_length
      rw [hfull, HPL.out] at HA HS
      have HR : Hid (handed gd PL = PL) := handed_all HA.out
      go_wp2_with fail
      go_ret
      exact ⟨by rw [HA.out]; rfl, by rw [HR.out]; exact HS.out⟩
theorem from_any (g : Nat) (lb : Array Value) (gd : Ext → Bool) (S : List Ext → World → Prop) (G : Nat → Prop) (w0 : World) (H : Hand g lb gd S G w0) : ∀ h, FromCtr h g lb gd S G w0
  | 0 => fun F v n s done w hn hG hk h1 h100 hc hN hS => by
    obtain ⟨b, q, c, rfl, rfl, hl⟩ := leaf_open hn
    exact from_leaf g lb gd S G w0 H b q c _ _ s done w hl (hG b (by simp)) (hG q (by simp)) hc h100 hN hS
  | h + 1 => fun F v n s done w hn hG hk h1 h100 hc hN hS => by
    obtain ⟨b, q, c, ds, rfl, rfl, hl, e⟩ := inner_open hn
    have hlen : n.ks.length = ds.length := by rw [e, List.length_map]
    have h1' : 1 ≤ n.ks.length := h1
    have h8' : n.ks.length ≤ 100 := h100
    have hf : flat n = flats (ds.map fun d => d.2.2) := by show flats n.ks = _; rw [e]
    rw [hf] at hc hN ⊢
    exact from_inner h g lb gd S G w0 H (from_any g lb gd S G w0 H h) b q c _ ds s done w hl hG (fun k hm => hk k (by rw [e]; exact hm)) (by omega) (by omega) hc hN hS
end Go.Proofs.YtneammhkgmkkfaaGreat.tr
