/- tree: from, walk: what is handed on. -/
import Derived.Test.YtneammhkgmkkfaaGreatTyM
import Derived.Test.YtneammhkgmkkfaaGreatTrMg
namespace Go.Proofs.YtneammhkgmkkfaaGreat.tr
open Go.RowKit Go.Proofs.YtneammhkgmkkfaaGreat.er
set_option linter.unusedVariables false
set_option linter.unusedSimpArgs false

/-- A function that is handed extents: what it answers, and what holds behind those that it was handed. -/
structure Hand (g : Nat) (lb : Array Value) (gd : Ext → Bool) (S : List Ext → World → Prop) (G : Nat → Prop) (w0 : World) : Prop where
  eg : ∀ args w, (callFunc g args).run Tryz.prog w = .ok (.enter g args) w
  call : ∀ done e w, done.length < 16777216 → oneB e = true → S done w → Calls Tryz.prog g (#[e.val] ++ lb) w fun x w' => x = .returned (.bool (gd e)) ∧ S (done ++ [e]) w'
  below : ∀ done w w', S done w → Below w.heap.size w w' → S done w'
  keep : ∀ done w, S done w → Keep G w0 w
def FromCtr (h g : Nat) (lb : Array Value) (gd : Ext → Bool) (S : List Ext → World → Prop) (G : Nat → Prop) (w0 : World) : Prop :=
  ∀ (F : List Nat) (v : Value) (n : Nd h) (s : Int) (done : List Ext) (w : World), NdAt w0 F v n → (∀ k ∈ F, ¬ G k) → Kw n → 1 ≤ n.size → n.size ≤ 100 → Chk (flat n) → done.length + (flat n).length ≤ 16777216 → S done w →
    Calls Tryz.prog 72 #[v, .int .i64 s, .func (.func g) #[] lb] w fun x w' => x = .returned (.bool ((pastL (flat n) s).all gd)) ∧ S (done ++ handed gd (pastL (flat n) s)) w'
theorem take_chk {l : List Ext} (h : Chk l) (j : Nat) : Chk (l.take j) := ⟨fun e he => h.one e (List.mem_of_mem_take he), h.ord.sublist (List.take_sublist _ _)⟩
theorem past_take {l : List Ext} {s : Int} {j : Nat} {e : Ext} (h : l[j]? = some e) : pastL (l.take (j + 1)) s = pastL (l.take j) s ++ (if s < e.end_ then [e] else []) := by
  obtain ⟨hj, he⟩ := List.getElem?_eq_some_iff.1 h
  rw [List.take_succ_eq_append_getElem hj, he, past_append]
  congr 1
  unfold pastL
  by_cases hs : s < e.end_ <;> simp [hs]
theorem past_split {l : List Ext} {s : Int} {j : Nat} {e : Ext} (h : l[j]? = some e) (hs : s < e.end_) : ∃ r, pastL l s = pastL (l.take j) s ++ e :: r := by
  obtain ⟨e1, _⟩ := (show l = l.take j ++ e :: l.drop (j + 1) ∧ True by
    obtain ⟨hj, he⟩ := List.getElem?_eq_some_iff.1 h
    refine ⟨?_, trivial⟩
    have a1 : l.drop j = e :: l.drop (j + 1) := by rw [← he]; exact List.drop_eq_getElem_cons hj
    rw [← a1, List.take_append_drop])
  refine ⟨pastL (l.drop (j + 1)) s, ?_⟩
  conv => lhs; rw [e1]
  rw [past_append]
  congr 1
  unfold pastL
  simp [hs]
set_option maxHeartbeats 4000000 in
set_option maxRecDepth 100000 in
theorem from_leaf (g : Nat) (lb : Array Value) (gd : Ext → Bool) (S : List Ext → World → Prop) (G : Nat → Prop) (w0 : World) (H : Hand g lb gd S G w0) (b q c : Nat) (a : Int) (l : List Ext) (s : Int) (done : List Ext) (w : World) (hl : LfAt w0 b q c a l) (hb : ¬ G b) (hq : ¬ G q) (hc : Chk l) (hm : l.length ≤ 100) (hN : done.length + l.length ≤ 16777216) (hS : S done w) :
    Calls Tryz.prog 72 #[ptrV 0 b, .int .i64 s, .func (.func g) #[] lb] w fun x w' => x = .returned (.bool ((pastL l s).all gd)) ∧ S (done ++ handed gd (pastL l s)) w' := by
  have eg := H.eg
  have HH := Lib.hid H
  have HL : Hid (∀ done wq, S done wq → LfAt wq b q c a l) := fun done wq h => hl.keep (H.keep done wq h) hb hq
  have HC := Lib.hid hc
  obtain ⟨n, hn⟩ : ∃ n, l.length = n := ⟨_, rfl⟩
  have HN := Lib.hid hn
  have c1 : w.cell? ⟨b, 1, none⟩ = some (.slice (some ⟨q, 0, none⟩) n c) := by have := (HL.out done w hS).1.cell 1; rw [hn] at this; exact this
  have HS0 := Lib.hid hS
  rw [hn] at hm hN
  have HLEN : Hid (∀ j, (pastL (l.take j) s).length ≤ j) := fun j => Nat.le_trans (List.length_filter_le _ _) (by rw [List.length_take]; omega)
  have hta := ta_ll
  have htb := ta_li
  obtain ⟨PL, hPL⟩ : ∃ PL, pastL l s = PL := ⟨_, rfl⟩
  have HPL := Lib.hid hPL
  rw [hPL]
  clear hPL hn hl hb hq hc hS H
  show Calls Tryz.prog 72 #[.iface 134 (.pointer (some ⟨b, 0, none⟩)), .int .i64 s, .func (.func g) #[] lb] w _
  go_enter Tryz.func72, Tryz.ntmps72
  go_wp2_with fail
  go_loopw [9, 22] (fun s9 i wr => ∃ (j : Nat), j ≤ n ∧ i = .int .i64 j ∧ Hid ((pastL (l.take j) s).all gd = true) ∧ Hid (S (done ++ pastL (l.take j) s) wr)) (fun _ i _ => n - (intOf i).toNat)
  case atStart => exact ⟨0, Nat.zero_le _, rfl, rfl, by show S _ _; simpa [pastL] using HS0.out⟩
  case round =>
    obtain ⟨j, hj, rfl, HA, HS⟩ := hrel
    by_cases hlt : j < n
    · have hji : (j : Int) < (n : Int) := by omega
      obtain ⟨e, hx⟩ : ∃ e, l[j]? = some e := ⟨l[j]'(by have := HN.out; omega), List.getElem?_eq_getElem (by have := HN.out; omega)⟩
      have HX := Lib.hid hx
      obtain ⟨k0, k1, k2, k3⟩ := extCells_at l j e hx
      have hrow := (HL.out _ wr HS.out).2
      have c0 := hrow.cell k0
      have c1' := hrow.cell k1
      have c2 := hrow.cell k2
      have c3 := hrow.cell k3
      have ho := HC.out.one e (List.mem_of_getElem? hx)
      have HO := Lib.hid ho
      obtain ⟨o1, o2, o3, o4⟩ := one_spec ho
      have HT1 : Hid (s < e.fr + e.n → pastL (l.take (j + 1)) s = pastL (l.take j) s ++ [e]) := fun h => by rw [past_take hx, if_pos (show s < e.end_ from h)]
      have HT0 : Hid (¬ s < e.fr + e.n → pastL (l.take (j + 1)) s = pastL (l.take j) s) := fun h => by rw [past_take hx, if_neg (show ¬ s < e.end_ from h), List.append_nil]
      have HSP : Hid (s < e.fr + e.n → ∃ r, pastL l s = pastL (l.take j) s ++ e :: r) := fun h => past_split hx h
      obtain ⟨f, en, k, t⟩ := e
      simp only at c0 c1' c2 c3 o1 o2 o3
      have HA0 : Hid (S (done ++ pastL (l.take j) s) (wr.alloc (.cells #[.int .i64 f, .int .i64 en, .int .i64 k, .int .i64 t] 39))) := HH.out.below _ _ _ HS.out ((Below.refl _ _).alloc (Nat.le_refl _) _)
      clear hx k0 k1 k2 k3 hrow ho o4
      by_cases hs : s < f + en
      · have HCL := Lib.hid (HH.out.call _ _ _ (by rw [List.length_append]; have := HLEN.out j; omega) HO.out HA0.out)
        simp only [Ext.val] at HCL
        cases hg : gd ⟨f, en, k, t⟩
        · have HR : Hid (PL.all gd = false ∧ done ++ handed gd PL = done ++ pastL (l.take j) s ++ [⟨f, en, k, t⟩]) := by
            obtain ⟨r, hr⟩ := HSP.out hs
            show _ ∧ _
            rw [← HPL.out, hr, handed_app, if_pos HA.out]
            refine ⟨by simp [hg], ?_⟩
            unfold handed
            rw [if_neg (by simp [hg])]
            simp
          rw [hg] at HCL
          clear hg
          go_wp2_with fail
          refine (HCL.out).mono ?_
          rintro e w5 ⟨rfl, hs5⟩
          have HS5 := Lib.hid hs5
          clear hs5
          go_wp2_with fail
          go_ret
          exact ⟨by rw [HR.out.1]; rfl, by rw [HR.out.2]; exact HS5.out⟩
        · have HA2 : Hid ((pastL (l.take (j + 1)) s).all gd = true) := by show _ = _; rw [HT1.out hs, List.all_append, HA.out]; simp [hg]
          rw [hg] at HCL
          clear hg
          go_wp2_with fail
          refine (HCL.out).mono ?_
          rintro e w5 ⟨rfl, hs5⟩
          have HS5 : Hid (S (done ++ pastL (l.take (j + 1)) s) w5) := by show S _ _; rw [HT1.out hs, ← List.append_assoc]; exact hs5
          clear hs5
          go_wp2_with fail
          go_roundw
          case rel => exact ⟨j + 1, by omega, by go_num, HA2, HS5⟩
          case measure => simp [intOf]; omega
      · have HA2 : Hid ((pastL (l.take (j + 1)) s).all gd = true) := by show _ = _; rw [HT0.out hs]; exact HA.out
        have HS5 : Hid (S (done ++ pastL (l.take (j + 1)) s) (wr.alloc (.cells #[.int .i64 f, .int .i64 en, .int .i64 k, .int .i64 t] 39))) := by show S _ _; rw [HT0.out hs]; exact HA0.out
        go_wp2_with fail
        go_roundw
        case rel => exact ⟨j + 1, by omega, by go_num, HA2, HS5⟩
        case measure => simp [intOf]; omega
    · obtain rfl : j = n := by omega
      have hfull : l.take j = l := by rw [← HN.out]; exact List.take_length
      rw [hfull, HPL.out] at HA HS
      have HR : Hid (handed gd PL = PL) := handed_all HA.out
      go_wp2_with fail
      go_ret
      exact ⟨by rw [HA.out]; rfl, by rw [HR.out]; exact HS.out⟩
theorem chk_low : ∀ (l : List Ext) (a : Int), Chk l → 0 ≤ a → a ≤ 16777216 → (∀ e ∈ l, a ≤ e.fr) → (l.length : Int) ≤ 16777216 - a
  | [], a, _, h0, h1, _ => by simp; omega
  | e :: l, a, hc, h0, h1, hl => by
    have ho := one_spec (hc.one e (by simp))
    have hp := List.pairwise_cons.1 hc.ord
    have he : e.end_ = e.fr + e.n := rfl
    have := chk_low l e.end_ hc.tail (by omega) (by omega) (fun x hx => (hp.1 x hx).1)
    have := hl e (by simp)
    simp only [List.length_cons]
    omega
theorem chk_len {l : List Ext} (h : Chk l) : l.length ≤ 16777216 := by
  have := chk_low l 0 h (by omega) (by omega) (fun e he => (one_spec (h.one e he)).1)
  omega
end Go.Proofs.YtneammhkgmkkfaaGreat.tr
