/- The document's put (scoriaref10). -/
import Derived.Test.YtneammhkgmkkfaaGreatTzI
import Derived.Test.YtneammhkgmkkfaaGreatTxH
namespace Go.Proofs.YtneammhkgmkkfaaGreat.tr
open Go.RowKit Go.Proofs.YtneammhkgmkkfaaGreat.er
set_option linter.unusedVariables false
set_option linter.unusedSimpArgs false

theorem infoR : (Tryz.prog.info? 49).map (fun i => (i.zero, i.size, i.bytes)) = some (some (.agg #[.int .i64 0, .int .i64 0, .int .i64 0, .int .i64 0]), 4, 32) := by kernel_rfl
theorem ExtsAt.ownT {w : World} {B n : Nat} {T : TypeId} {v : Value} {l : List Ext} (h : w.ownsRow B T 4 v n (extCells l)) : ExtsAt w v l ∧ l.length = n := SlAt.exts (SlAt.own h)
set_option maxHeartbeats 4000000 in
set_option maxRecDepth 100000 in
theorem rput_none (l : List Ext) (v : Value) (e : Ext) (w : World) (he : e.n < 1) : Calls Tryz.prog 50 #[v, e.val] w fun x w' => x = .returned v ∧ Below w.heap.size w w' := by
  obtain ⟨f, n, k, t⟩ := e
  simp only at he
  have HB : Hid (Below w.heap.size w (w.alloc (.cells #[.int .i64 f, .int .i64 n, .int .i64 k, .int .i64 t] 49))) := (Below.refl _ _).alloc (Nat.le_refl _) _
  show Calls Tryz.prog 50 #[v, .agg #[.int .i64 f, .int .i64 n, .int .i64 k, .int .i64 t]] w _
  go_enter Tryz.func50, Tryz.ntmps50
  go_wp2_with fail
  go_ret
  exact ⟨rfl, HB.out⟩
theorem take_cells {l : List Ext} {j : Nat} {e : Ext} (h : l[j]? = some e) : extCells (l.take (j + 1)) = extCells (l.take j) ++ [.int .i64 e.fr, .int .i64 e.n, .int .i64 e.kind, .int .i64 e.at_] := by
  obtain ⟨hj, rfl⟩ := List.getElem?_eq_some_iff.1 h
  rw [List.take_succ_eq_append_getElem hj, extCells_snoc]
def PutRet (l : List Ext) (w : World) (x : Ending) (w' : World) : Prop := ∃ v', x = .returned v' ∧ w'.ownsRow w.heap.size 49 4 v' l.length (extCells l) ∧ Below w.heap.size w w'
set_option maxHeartbeats 8000000 in
set_option maxRecDepth 100000 in
theorem rput_any (l : List Ext) (v : Value) (e : Ext) (w : World) (h : ExtsAt w v l) (hl : l.length ≤ 50000000) (h1 : ∀ x ∈ l, oneB x = true) (he : oneB e = true) :
    Calls Tryz.prog 50 #[v, e.val] w (PutRet (push l e) w) := by
  obtain ⟨A, c, rfl, hc⟩ := h
  obtain ⟨s1, s2, s3, s4⟩ := one_spec he
  have HC := Lib.hid hc
  obtain ⟨n, hn⟩ : ∃ n, l.length = n := ⟨_, rfl⟩
  have HN := Lib.hid hn
  rw [hn] at hl
  rw [hn]
  obtain ⟨i0, hi0, hz0, hz1, hz2⟩ := info_parts infoR
  have HI0 := Lib.hid hi0
  have HZ0 := Lib.hid hz0
  have HZ1 := Lib.hid hz1
  have HZ2 := Lib.hid hz2
  have HTG := Lib.hid (fun (a : Ext) (wq : World) (ha : oneB a = true) => rtog2_any a e wq ha he)
  have HOA1 := Lib.hid h1
  have HOE := Lib.hid he
  have HPU : Hid (∀ o a, l = o ++ [a] → push l e = if tog a e = true then o ++ [{ a with n := a.n + e.n }] else l ++ [e]) := fun o a hh => by rw [hh, push_snoc]
  have HPN : Hid (l = [] → push l e = [e]) := fun hh => by rw [hh]; rfl
  obtain ⟨P, hP⟩ : ∃ P, push l e = P := ⟨_, rfl⟩
  rw [hP] at HPU HPN
  rw [hP]
  obtain ⟨f, en, k, t⟩ := e
  simp only at s1 s2 s3 HPU
  simp only [Ext.val] at HTG
  obtain ⟨w1, hw1⟩ : ∃ w1, w.alloc (.cells #[.int .i64 f, .int .i64 en, .int .i64 k, .int .i64 t] 49) = w1 := ⟨_, rfl⟩
  have HB1 : Hid (Below w.heap.size w w1) := by show Below _ _ _; rw [← hw1]; exact (Below.refl _ _).alloc (Nat.le_refl _) _
  have hx : Whole w1 w.heap.size 49 #[.int .i64 f, .int .i64 en, .int .i64 k, .int .i64 t] := by rw [← hw1]; exact Whole.new _ _ _
  have hs1 : w1.heap.size = w.heap.size + 1 := by rw [← hw1]; simp
  have HXX : Hid (∀ wq, Below (w.heap.size + 1) w1 wq → (wq.cell? ⟨w.heap.size, 0, none⟩ = some (.int .i64 f) ∧ wq.cell? ⟨w.heap.size, 1, none⟩ = some (.int .i64 en) ∧ wq.cell? ⟨w.heap.size, 2, none⟩ = some (.int .i64 k) ∧ wq.cell? ⟨w.heap.size, 3, none⟩ = some (.int .i64 t)) ∧ Below w.heap.size w wq ∧ w.heap.size + 1 ≤ wq.heap.size) := fun wq hbq => ⟨(tmp4 (hx.below hbq (by omega))).1, HB1.out.trans (hbq.mono (by omega)), by have := hbq.size; omega⟩
  obtain ⟨x0, x1, x2, x3⟩ := (HXX.out w1 (Below.refl _ _)).1
  have HS1 := Lib.hid hs1
  have s2' : ¬ en < 1 := by omega
  clear hs1 hx hP s4 he h1 hc hn hi0 hz0 hz1 hz2
  show Calls Tryz.prog 50 #[.slice A n c, .agg #[.int .i64 f, .int .i64 en, .int .i64 k, .int .i64 t]] w _
  go_enter Tryz.func50, Tryz.ntmps50
  go_wp2_with fail
  go_loopw [5, 6] (fun nv i wr => ∃ (j : Nat) (B : Option Addr) (d : Nat), j ≤ n ∧ i = .int .i64 j ∧ nv = .slice B j d ∧ Hid (wr.ownsRow (w.heap.size + 1) 49 4 (.slice B j d) j (extCells (l.take j))) ∧ Hid (Below (w.heap.size + 1) w1 wr)) (fun _ i _ => n - (intOf i).toNat)
  case atStart => exact ⟨0, none, 0, Nat.zero_le _, rfl, rfl, ⟨rfl, .inl ⟨rfl, rfl⟩⟩, Below.refl _ _⟩
  case round =>
    obtain ⟨j, B, d, hj, rfl, rfl, HO, HB⟩ := hrel
    obtain ⟨⟨y0, y1, y2, y3⟩, hbw, hszr⟩ := HXX.out wr HB.out
    have HBW := Lib.hid hbw
    clear x0 x1 x2 x3 hbw
    by_cases hlt : j < n
    · have hji : (j : Int) < (n : Int) := by omega
      have hj0 : (0 : Int) ≤ (j : Int) := by omega
      have hln := HN.out
      obtain ⟨g, o, rfl, hcc⟩ := HC.out (by omega)
      obtain ⟨e', hx'⟩ : ∃ e', l[j]? = some e' := ⟨l[j]'(by omega), List.getElem?_eq_getElem (by omega)⟩
      obtain ⟨c0, c1, c2, c3⟩ := (hcc j e' hx').below HBW.out
      have HTC := Lib.hid (take_cells hx')
      obtain ⟨f', n', k', t'⟩ := e'
      simp only at c0 c1 c2 c3 HTC
      have HOA := Lib.hid (HO.out.alloc (.cells #[.int .i64 f', .int .i64 n', .int .i64 k', .int .i64 t'] 49))
      have HNW : Hid (∀ (j' : Nat) (u : Value), ([.int .i64 f', .int .i64 n', .int .i64 k', .int .i64 t'] : List Value)[j']? = some u → (wr.alloc (.cells #[.int .i64 f', .int .i64 n', .int .i64 k', .int .i64 t'] 49)).cell? ((⟨wr.heap.size, 0, none⟩ : Addr).add j') = some u) := World.news_of_block (by simpa using heap_alloc_new wr (.cells #[.int .i64 f', .int .i64 n', .int .i64 k', .int .i64 t'] 49))
      have hone : ∀ u ∈ ([.int .i64 f', .int .i64 n', .int .i64 k', .int .i64 t'] : List Value), u.oneCell' = true := by simp [Value.oneCell']
      have HONE := Lib.hid hone
      have HSZ2 : Hid (w.heap.size + 1 ≤ (wr.alloc (.cells #[.int .i64 f', .int .i64 n', .int .i64 k', .int .i64 t'] 49)).heap.size) := by show _ ≤ _; simp only [World.size_alloc]; omega
      have HSZ3 := Lib.hid hszr
      clear hone hcc hx' hln hszr
      go_wp2_with (at_builtin; go_must (refine wpList_append_own _ rfl (.tmp 18) (.tmp 23) 24 rfl (w.heap.size + 1) 49 i0 _ 4 32 Tryz.underlying24 HI0.out HZ0.out HZ1.out HZ2.out rfl (by omega) (.slice B j d) j (extCells (l.take j)) rfl HOA.out ⟨wr.heap.size, 0, none⟩ 1 1 [.int .i64 f', .int .i64 n', .int .i64 k', .int .i64 t'] rfl rfl HNW.out HONE.out (by simp only [maxLen]; omega) (by omega) HSZ2.out ?_; intro v2 w6 hown6 hg6 _; have HO6 := Lib.hid hown6; have HB6 := Lib.hid (below_append HO.out hg6 HSZ3.out); obtain ⟨A2, c2', e2⟩ := own_slice hown6; subst e2; clear hown6 hg6))
      have hmeas : n - (intOf (.int .i64 ((j : Int) + 1))).toNat < n - (intOf (.int .i64 (j : Int))).toNat := by simp [intOf]; omega
      refine ⟨⟨j + 1, A2, c2', ?_, ?_, rfl, ?_, ?_⟩, hmeas⟩
      · omega
      · go_num
      · rw [HTC.out]; with_reducible exact HO6
      · exact HB.out.trans HB6.out
    · obtain rfl : j = n := by omega
      have hfull : l.take j = l := by rw [← HN.out]; exact List.take_length
      rw [hfull] at HO
      clear hfull
      have HSZ3 := Lib.hid hszr
      have HNW : Hid (∀ wq : World, ∀ (j' : Nat) (u : Value), ([.int .i64 f, .int .i64 en, .int .i64 k, .int .i64 t] : List Value)[j']? = some u → (wq.alloc (.cells #[.int .i64 f, .int .i64 en, .int .i64 k, .int .i64 t] 49)).cell? ((⟨wq.heap.size, 0, none⟩ : Addr).add j') = some u) := fun wq => World.news_of_block (by simpa using heap_alloc_new wq (.cells #[.int .i64 f, .int .i64 en, .int .i64 k, .int .i64 t] 49))
      have hone : ∀ u ∈ ([.int .i64 f, .int .i64 en, .int .i64 k, .int .i64 t] : List Value), u.oneCell' = true := by simp [Value.oneCell']
      have HONE := Lib.hid hone
      clear hone
      rcases List.eq_nil_or_concat l with hT | ⟨o', a, hT⟩
      · obtain rfl : j = 0 := by rw [← HN.out, hT]; rfl
        have HPP : Hid (P = [⟨f, en, k, t⟩]) := HPN.out hT
        have HOC : Hid (extCells l = []) := by show _ = _; rw [hT]; rfl
        clear hT
        have hgd : decide ((0 : Int) ≤ -1) = false := by decide
        go_wp2_with fail
        go_quiet (fail)
        generalize hwq : World.drewN _ _ = wq
        have HBA : Hid (Below (w.heap.size + 1) w1 wq) := by show Below _ _ _; rw [← hwq]; exact below_drewN HB.out _
        have HO5 : Hid (wq.ownsRow (w.heap.size + 1) 49 4 (.slice B 0 d) 0 (extCells l)) := own_below HO.out (by rw [← hwq]; exact below_drewN (Below.refl _ _) _)
        clear hwq y0 y1 y2 y3
        obtain ⟨⟨y0, y1, y2, y3⟩, hbw, hsq⟩ := HXX.out wq HBA.out
        have HBW5 := Lib.hid hbw
        have HOA := Lib.hid (HO5.out.alloc (.cells #[.int .i64 f, .int .i64 en, .int .i64 k, .int .i64 t] 49))
        have HSZ2 : Hid (w.heap.size + 1 ≤ (wq.alloc (.cells #[.int .i64 f, .int .i64 en, .int .i64 k, .int .i64 t] 49)).heap.size) := by show _ ≤ _; simp only [World.size_alloc]; omega
        have HSQ := Lib.hid hsq
        clear hbw hsq
        go_wp2_with (at_builtin; go_must (refine wpList_append_own _ rfl (.tmp 51) (.tmp 53) 24 rfl (w.heap.size + 1) 49 i0 _ 4 32 Tryz.underlying24 HI0.out HZ0.out HZ1.out HZ2.out rfl (by omega) (.slice B 0 d) 0 (extCells l) rfl HOA.out ⟨wq.heap.size, 0, none⟩ 1 1 [.int .i64 f, .int .i64 en, .int .i64 k, .int .i64 t] rfl rfl (HNW.out wq) HONE.out (by simp only [maxLen]; omega) (by omega) HSZ2.out ?_; intro v2 w6 hown6 hg6 _; have HO6 := Lib.hid hown6; have HB6 := Lib.hid (below_append HO5.out hg6 HSQ.out); obtain ⟨A2, c2', e2⟩ := own_slice hown6; subst e2; clear hown6 hg6))
        go_ret
        refine ⟨_, rfl, ?_, (HXX.out _ (HBA.out.trans HB6.out)).2.1⟩
        rw [HPP.out]
        have := HO6.out
        rw [HOC.out] at this
        exact own_base this (by omega)
      · rw [List.concat_eq_append] at hT
        obtain ⟨m', hm'⟩ : ∃ m', o'.length = m' := ⟨_, rfl⟩
        obtain rfl : j = m' + 1 := by rw [← HN.out, hT, ← hm']; simp
        have HT := Lib.hid hT
        have HM' := Lib.hid hm'
        have hOw := HO.out
        obtain ⟨g2, rfl, hg2b, hg2, hmc, hgc, hgf⟩ := own_cell hOw (by omega)
        have hat : (o' ++ [a])[m']? = some a := by rw [← hm']; simp
        obtain ⟨z0, z1, z2, z3⟩ := extCells_at _ _ _ hat
        rw [← hT] at z0 z1 z2 z3
        have v0 := hgc _ _ z0
        have v1 := hgc _ _ z1
        have v2 := hgc _ _ z2
        have v3 := hgc _ _ z3
        have hA1 : oneB a = true := HOA1.out a (by rw [hT]; simp)
        have HA1 := Lib.hid hA1
        have HTA := Lib.hid (fun wq => HTG.out a wq hA1)
        have HPP := Lib.hid (HPU.out o' a hT)
        obtain ⟨f', n', k', t'⟩ := a
        simp only [Ext.val] at HTA
        simp only at v0 v1 v2 v3 HPP
        have SA : Hid ((wr.cell? ⟨g2, m' * 4, none⟩ = some (.int .i64 f') ∧ wr.cell? ⟨g2, m' * 4 + 1, none⟩ = some (.int .i64 n') ∧ wr.cell? ⟨g2, m' * 4 + 2, none⟩ = some (.int .i64 k') ∧ wr.cell? ⟨g2, m' * 4 + 3, none⟩ = some (.int .i64 t')) ∧ (wr.cell? ⟨w.heap.size, 0, none⟩ = some (.int .i64 f) ∧ wr.cell? ⟨w.heap.size, 1, none⟩ = some (.int .i64 en) ∧ wr.cell? ⟨w.heap.size, 2, none⟩ = some (.int .i64 k) ∧ wr.cell? ⟨w.heap.size, 3, none⟩ = some (.int .i64 t))) := ⟨⟨v0, v1, v2, v3⟩, y0, y1, y2, y3⟩
        have HKA : Hid (∀ w', Below wr.heap.size wr w' → (w'.cell? ⟨g2, m' * 4, none⟩ = some (.int .i64 f') ∧ w'.cell? ⟨g2, m' * 4 + 1, none⟩ = some (.int .i64 n') ∧ w'.cell? ⟨g2, m' * 4 + 2, none⟩ = some (.int .i64 k') ∧ w'.cell? ⟨g2, m' * 4 + 3, none⟩ = some (.int .i64 t')) ∧ (w'.cell? ⟨w.heap.size, 0, none⟩ = some (.int .i64 f) ∧ w'.cell? ⟨w.heap.size, 1, none⟩ = some (.int .i64 en) ∧ w'.cell? ⟨w.heap.size, 2, none⟩ = some (.int .i64 k) ∧ w'.cell? ⟨w.heap.size, 3, none⟩ = some (.int .i64 t))) := fun w' hb => ⟨⟨below_c hb SA.out.1.1, below_c hb SA.out.1.2.1, below_c hb SA.out.1.2.2.1, below_c hb SA.out.1.2.2.2⟩, below_c hb SA.out.2.1, below_c hb SA.out.2.2.1, below_c hb SA.out.2.2.2.1, below_c hb SA.out.2.2.2.2⟩
        have hmi1 : (0 : Int) ≤ (m' : Int) := by omega
        have hmi2 : (m' : Int) < (m' : Int) + 1 := by omega
        clear hT hm' hOw hgc hat z0 z1 z2 z3 hA1
        go_wp2_with fail
        go_region_held3 (fun w' => (w'.cell? ⟨g2, m' * 4, none⟩ = some (.int .i64 f') ∧ w'.cell? ⟨g2, m' * 4 + 1, none⟩ = some (.int .i64 n') ∧ w'.cell? ⟨g2, m' * 4 + 2, none⟩ = some (.int .i64 k') ∧ w'.cell? ⟨g2, m' * 4 + 3, none⟩ = some (.int .i64 t')) ∧ (w'.cell? ⟨w.heap.size, 0, none⟩ = some (.int .i64 f) ∧ w'.cell? ⟨w.heap.size, 1, none⟩ = some (.int .i64 en) ∧ w'.cell? ⟨w.heap.size, 2, none⟩ = some (.int .i64 k) ∧ w'.cell? ⟨w.heap.size, 3, none⟩ = some (.int .i64 t))) (first | with_reducible exact SA.out | exact HKA.out _ (by repeat (first | with_reducible exact HB5.out | with_reducible exact Below.refl _ _ | refine Below.drew ?_))) ((go_at_call 77; (with_reducible refine (HTA.out _).mono ?_); rintro e w5 ⟨rfl, hb5⟩; have HB5 : Hid (Below wr.heap.size wr w5) := Below.trans (Below.drew (Below.refl _ _)) hb5; clear hb5))
        have HBX : Hid (Below (w.heap.size + 1) w1 w5) := HB.out.trans (HB5.out.mono HSZ3.out)
        have HO5 : Hid (w5.ownsRow (w.heap.size + 1) 49 4 (.slice (some ⟨g2, 0, none⟩) (m' + 1) d) (m' + 1) (extCells l)) := own_below HO.out HB5.out
        obtain ⟨⟨p0, p1, p2, p3⟩, ⟨q0, q1, q2, q3⟩⟩ := HKA.out _ HB5.out
        have hpf : w5.frozen? ⟨g2, m' * 4 + 1, none⟩ = false := HO5.out.frozenAt _
        have HSZ5 : Hid (w.heap.size + 1 ≤ w5.heap.size) := (HXX.out w5 HBX.out).2.2
        have HBW5 : Hid (Below w.heap.size w w5) := (HXX.out w5 HBX.out).2.1
        clear v0 v1 v2 v3 y0 y1 y2 y3
        cases htg : tog ⟨f', n', k', t'⟩ ⟨f, en, k, t⟩
        · have HPQ : Hid (P = l ++ [⟨f, en, k, t⟩]) := by show _ = _; rw [HPP.out, htg, if_neg (by simp)]
          clear htg
          have HOA := Lib.hid (HO5.out.alloc (.cells #[.int .i64 f, .int .i64 en, .int .i64 k, .int .i64 t] 49))
          have HSZ2 : Hid (w.heap.size + 1 ≤ (w5.alloc (.cells #[.int .i64 f, .int .i64 en, .int .i64 k, .int .i64 t] 49)).heap.size) := by show _ ≤ _; have := HSZ5.out; simp only [World.size_alloc]; omega
          go_wp2_with (at_builtin; go_must (refine wpList_append_own _ rfl (.tmp 51) (.tmp 53) 24 rfl (w.heap.size + 1) 49 i0 _ 4 32 Tryz.underlying24 HI0.out HZ0.out HZ1.out HZ2.out rfl (by omega) (.slice (some ⟨g2, 0, none⟩) (m' + 1) d) (m' + 1) (extCells l) rfl HOA.out ⟨w5.heap.size, 0, none⟩ 1 1 [.int .i64 f, .int .i64 en, .int .i64 k, .int .i64 t] rfl rfl (HNW.out w5) HONE.out (by simp only [maxLen]; omega) (by omega) HSZ2.out ?_; intro v2 w6 hown6 hg6 _; have HO6 := Lib.hid hown6; have HB6 := Lib.hid (below_append HO5.out hg6 HSZ5.out); obtain ⟨A2, c2', e2⟩ := own_slice hown6; subst e2; clear hown6 hg6))
          go_ret
          refine ⟨_, rfl, ?_, (HXX.out _ (HBX.out.trans HB6.out)).2.1⟩
          rw [HPQ.out, extCells_snoc, List.length_append, HN.out]
          exact own_base HO6.out (by omega)
        · have hone := one_spec (one_join HA1.out HOE.out htg)
          have hw : wrap64 (n' + en) = n' + en := by have := hone.1; have := hone.2.1; have := hone.2.2.1; have := (one_spec HA1.out).1; simp only at *; unfold wrap64; omega
          clear hone
          have HPQ : Hid (extCells P = (extCells l).set (m' * 4 + 1) (.int .i64 (n' + en)) ∧ P.length = m' + 1) := by
            show _ ∧ _
            rw [HPP.out, htg, if_pos rfl, HT.out, ← HM'.out, extCells_set]
            exact ⟨rfl, by simp⟩
          clear htg
          go_wp2_with fail
          go_region
          go_wp2_with fail
          go_ret
          refine ⟨_, rfl, ?_, ?_⟩
          · rw [HPQ.out.1, HPQ.out.2]; exact own_base (HO5.out.stored (m' * 4 + 1) (.int .i64 (n' + en))).1.drew (by omega)
          · exact (HBW5.out.setCell (p := ⟨g2, m' * 4 + 1, none⟩) (by show w.heap.size ≤ g2; omega) _).drew
end Go.Proofs.YtneammhkgmkkfaaGreat.tr
