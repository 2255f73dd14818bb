/- StoreKept: the walk. -/
import Derived.Test.YtfacgeappbgldaaGreatDoorStYy
namespace Go.Proofs.YtfacgeappbgldaaGreatDoor.st
open Go.RowKit Go.Proofs.YtfacgeappbgldaaGreatDoor.er Go.Proofs.YtfacgeappbgldaaGreatDoor.nd Go.Proofs.YtfacgeappbgldaaGreatDoor.we Go.Proofs.YtfacgeappbgldaaGreatDoor.ge Go.Proofs.YtfacgeappbgldaaGreatDoor.pg
attribute [local go_sem ↓] Go.wp_at_zero Go.wp_at_succ
set_option linter.unusedVariables false

theorem fks_cells {w : World} {base m : Nat} {v : Value} {ks : List Fnd} (h : w.ownsRow base 51 6 v m (fndCells ks)) (j : Nat) (hj : j < m) (hm : ks.length = m) :
    ∃ g c a k sp y sq b, v = .slice (some ⟨g, 0, none⟩) m c ∧ (⟨a, ⟨k, sp, y, sq, b⟩⟩ : Fnd) ∈ ks ∧ w.cell? ⟨g, j * 6, none⟩ = some (.int .i64 a) ∧ w.cell? ⟨g, j * 6 + 1, none⟩ = some (.int .i64 k) ∧ w.cell? ⟨g, j * 6 + 2, none⟩ = some (.int .i64 sp) ∧ w.cell? ⟨g, j * 6 + 3, none⟩ = some (.int .i64 y) ∧ w.cell? ⟨g, j * 6 + 4, none⟩ = some (.int .i64 sq) ∧ w.cell? ⟨g, j * 6 + 5, none⟩ = some (.string b) := by
  obtain ⟨A, c, rfl⟩ := own_slice h
  obtain ⟨g, rfl, _, _, _, hc, _⟩ := own_cell h (by omega)
  obtain ⟨⟨a, ⟨k, sp, y, sq, b⟩⟩, hx⟩ : ∃ a, ks[j]? = some a := ⟨ks[j]'(by omega), List.getElem?_eq_getElem (by omega)⟩
  obtain ⟨f0, f1, f2, f3, f4, f5⟩ := fndCells_at _ _ _ hx
  exact ⟨g, c, a, k, sp, y, sq, b, rfl, List.mem_of_getElem? hx, hc _ _ f0, hc _ _ f1, hc _ _ f2, hc _ _ f3, hc _ _ f4, hc _ _ f5⟩
set_option maxHeartbeats 40000000 in
set_option maxRecDepth 100000 in
theorem kept_walk (w : World) (hg : LaidT w) (A : Option Addr) (n c : Nat) (l : List Page) (hl : l.length = n) (hn : n ≤ 9223372036854775807) (ha : 0 < n → ∃ b off, A = some ⟨b, off, none⟩ ∧ b < w.heap.size ∧ PageArg w b off l)
    (A2 : Option Addr) (n2 c2 : Nat) (l2 : List Pln) (hl2 : l2.length = n2) (hn2 : n2 ≤ 9223372036854775807) (ha2 : 0 < n2 → ∃ b off, A2 = some ⟨b, off, none⟩ ∧ b < w.heap.size ∧ PlnArg w b off l2) :
    Calls Tryz.prog 4 #[.slice A n c, .slice A2 n2 c2] w fun e w' => e = .returned (.bool true) ∧ Below w.heap.size w w' := by
  have HG := Lib.hid hg
  have HA := Lib.hid ha
  have HA2 := Lib.hid ha2
  clear hg ha ha2
  obtain ⟨i0, hi0, hz0, hz1, hz2⟩ := info_parts fndInfo
  have HI0 := Lib.hid hi0
  have HZ0 := Lib.hid hz0
  have HZ1 := Lib.hid hz1
  have HZ2 := Lib.hid hz2
  clear hi0 hz0 hz1 hz2
  go_enter Tryz.func4, Tryz.ntmps4
  go_wp2_with fail
  refine (plain_anyS _).mono ?_
  rintro e w1 ⟨rfl, hb1⟩
  have HB1 := Lib.hid hb1
  have HG1 := Lib.hid (HG.out.below hb1 HG.out.lt)
  clear hb1
  go_wp2_with fail
  refine (fresh_any w _ HB1.out HG1.out HG.out.lt).mono ?_
  rintro e w2 ⟨q, p, sv, vv, N2, rfl, L2, hb2⟩
  have HL := Lib.hid L2
  have hs := seql q
  clear L2 hb2
  go_wp2_with fail
  refine (awake_yes _ HL.out.laid).mono ?_
  rintro e w3 ⟨rfl, hb⟩
  have HL := Lib.hid (HL.out.below hb)
  clear hb
  go_wp2_with fail
  go_loopw [6, 7, 8] (fun sx kv i wr => ∃ (j m q : Nat) (sv vv : Value) (Nj : Nat → Prop) (s : Sto) (B : Option Addr) (d : Nat) (ks : List Fnd), j ≤ n ∧ j ≤ 100 ∧ sx = .pointer (some ⟨q, 0, none⟩) ∧ kv = .slice B m d ∧ i = .int .i64 j ∧ ks.length = m ∧ m ≤ j ∧ Hid (Law w wr q p sv vv Nj s) ∧ Hid (Kept s ks j) ∧ Hid (wr.ownsRow w.heap.size 51 6 (.slice B m d) m (fndCells ks)) ∧ Hid (∀ g, (Value.slice B m d).ownBlock = some g → ¬ foot q sv vv Nj g)) (fun _ _ i _ => 100 - (intOf i).toNat)
  case atStart => exact ⟨0, 0, q, sv, vv, N2, s0, none, 0, [], Nat.zero_le _, Nat.zero_le _, rfl, rfl, rfl, rfl, Nat.le_refl _, HL.out, fit_s0, ⟨rfl, .inl ⟨rfl, rfl⟩⟩, fun g hg => by simp [Value.ownBlock] at hg⟩
  case round =>
    clear HL hs
    obtain ⟨j, m, q, sv, vv, Nj, s, B, d, ks, hjn, hj60, rfl, rfl, rfl, hkl, hmj, HL, HK, HO, HF⟩ := hrel
    have hs := seql q
    by_cases hlt : j < n ∧ j < 100
    · have hji : (j : Int) < (n : Int) := by omega
      have hj6 : (j : Int) < 100 := by omega
      obtain ⟨b, off, rfl, hbw, hcb⟩ := HA.out (by omega)
      obtain ⟨pg0, hx⟩ : ∃ a, l[j]? = some a := ⟨l[j]'(by omega), List.getElem?_eq_getElem (by omega)⟩
      obtain ⟨a0, a1, a2, a3, a4⟩ := hcb j pg0 hx
      obtain ⟨k, sp, y, sq, bo⟩ := pg0
      simp only at a0 a1 a2 a3 a4
      have HPC : Hid (∀ wq, Below w.heap.size w wq → (wq.cell? ⟨b, off + j * 5, none⟩ = some (.int .i64 k) ∧ wq.cell? ⟨b, off + j * 5 + 1, none⟩ = some (.int .i64 sp) ∧ wq.cell? ⟨b, off + j * 5 + 2, none⟩ = some (.int .i64 y) ∧ wq.cell? ⟨b, off + j * 5 + 3, none⟩ = some (.int .i64 sq) ∧ wq.cell? ⟨b, off + j * 5 + 4, none⟩ = some (.string bo))) := fun wq hb =>
        ⟨(hb.cell (p := ⟨b, _, none⟩) hbw).trans a0, (hb.cell (p := ⟨b, _, none⟩) hbw).trans a1, (hb.cell (p := ⟨b, _, none⟩) hbw).trans a2, (hb.cell (p := ⟨b, _, none⟩) hbw).trans a3, (hb.cell (p := ⟨b, _, none⟩) hbw).trans a4⟩
      clear a0 a1 a2 a3 a4 hcb hx
      by_cases hj2 : j < n2
      · have hji2 : (j : Int) < (n2 : Int) := by omega
        obtain ⟨b2, off2, rfl, hbw2, hcb2⟩ := HA2.out (by omega)
        obtain ⟨pn, hx⟩ : ∃ a, l2[j]? = some a := ⟨l2[j]'(by omega), List.getElem?_eq_getElem (by omega)⟩
        obtain ⟨a0, a1, a2, a3⟩ := hcb2 j pn hx
        obtain ⟨A5, c5, l5⟩ := pn
        simp only at a0 a1 a2 a3
        have q0 := (HL.out.bel.cell (p := ⟨b2, _, none⟩) hbw2).trans a0
        obtain ⟨n5, hn5⟩ : ∃ n5, l5.length = n5 := ⟨_, rfl⟩
        rw [hn5] at q0 a1 a3
        have HM5 := Lib.hid a3
        have HJ5 := Lib.hid a2
        have HN5 := Lib.hid hn5
        clear a0 a2 a3 hcb2 hx hn5
        by_cases h5 : n5 ≤ 5
        · have h5i : (n5 : Int) ≤ 5 := by omega
          go_wp2_with fail
          have hop := HK.out.ops
          refine (PlanG HL.out (by omega) A5 n5 c5 l5 HN5.out (by omega) (fun h0 => by
            obtain ⟨b6, off6, rfl, hl6, hm6⟩ := HM5.out h0
            exact ⟨b6, off6, rfl, misArg_below hm6 HL.out.bel hl6, fun hf => by have := HL.out.base _ hf; omega⟩) HJ5.out).mono ?_
          rintro e wp ⟨rfl, Np, Lp, mp⟩
          have HOL : Hid (∀ g, (Value.slice B m d).ownBlock = some g → g < wr.heap.size) := fun g hg => (HO.out.lt g hg).2
          have HO := Lib.hid (own_keep HO.out mp.keep (fun g hg => HF.out g hg))
          have HF : Hid (∀ g, (Value.slice B m d).ownBlock = some g → ¬ foot q sv vv Np g) := fun g hg => foot_moved mp (HF.out g hg) (HOL.out g hg)
          have HL := Lib.hid Lp
          have HK := Lib.hid (kept_plan HK.out l5)
          obtain ⟨s, hsdef⟩ : ∃ s', ({ s with n := s.n.planned l5 } : Sto) = s' := ⟨_, rfl⟩
          rw [hsdef] at HL HK
          clear Lp mp q0 hop hsdef
          go_wp2_with fail
          refine (seq_anyW _ _ _ _ _ _ _ HL.out.st).mono ?_
          rintro e w5 ⟨rfl, rfl⟩
          obtain ⟨sq0, hsq⟩ : ∃ sq0, s.seq = sq0 := ⟨_, rfl⟩
          have HSQ := Lib.hid hsq
          rw [hsq]
          obtain ⟨e0, e1, e2, e3, e4⟩ := HPC.out _ HL.out.bel
          clear hsq
          go_wp2_with fail
          refine (KApp HL.out HK.out (by omega) ⟨k, sp, y, sq, bo⟩).mono ?_
          rintro e w6 ⟨s', a, c', v, N6, rfl, hko, L6, m6, hv⟩
          have HO6 := Lib.hid (own_keep HO.out m6.keep (fun g hg => HF.out g hg))
          have HF6 : Hid (∀ g, (Value.slice B m d).ownBlock = some g → ¬ foot q sv vv N6 g) := fun g hg => foot_moved m6 (HF.out g hg) (HO.out.lt g hg).2
          have HL6 := Lib.hid L6
          obtain ⟨f0, f1, f2, f3, f4⟩ := HPC.out _ L6.bel
          clear L6 m6 e0 e1 e2 e3 e4
          rcases hko with ⟨hc, hk1, hs1⟩ | ⟨hc, hk1⟩ | ⟨hc, hdn, hk1, hs1, hft⟩
          · obtain rfl : v = .nilIface := by
              rcases hv with ⟨_, h⟩ | ⟨h, _⟩
              · exact h
              · exact absurd hc h
            have HK1 := Lib.hid hk1
            have HS1 : Hid (s'.seq = sq0 + 1) := by show _ = _; rw [hs1, HSQ.out]
            have hup := hk1.up
            have HB7 : Hid (Below w6.heap.size w6 (w6.alloc (.cells #[.int .i64 k, .int .i64 sp, .int .i64 y, .int .i64 sq0, .string bo] 39))) := (Below.refl _ _).alloc (Nat.le_refl _) _
            have HL7 := Lib.hid (HL6.out.below HB7.out)
            have HO7 := Lib.hid (own_below HO6.out HB7.out)
            have HO8 := Lib.hid (HO7.out.alloc (.cells #[.int .i64 a, .int .i64 k, .int .i64 sp, .int .i64 y, .int .i64 sq0, .string bo] 51))
            have HNW : Hid (∀ (j' : Nat) (u : Value), ([.int .i64 a, .int .i64 k, .int .i64 sp, .int .i64 y, .int .i64 sq0, .string bo] : List Value)[j']? = some u → ((w6.alloc (.cells #[.int .i64 k, .int .i64 sp, .int .i64 y, .int .i64 sq0, .string bo] 39)).alloc (.cells #[.int .i64 a, .int .i64 k, .int .i64 sp, .int .i64 y, .int .i64 sq0, .string bo] 51)).cell? ((⟨w6.heap.size + 1, 0, none⟩ : Addr).add j') = some u) := World.news_of_block (by simpa using heap_alloc_new (w6.alloc (.cells #[.int .i64 k, .int .i64 sp, .int .i64 y, .int .i64 sq0, .string bo] 39)) (.cells #[.int .i64 a, .int .i64 k, .int .i64 sp, .int .i64 y, .int .i64 sq0, .string bo] 51))
            have hone : ∀ u ∈ ([.int .i64 a, .int .i64 k, .int .i64 sp, .int .i64 y, .int .i64 sq0, .string bo] : List Value), u.oneCell' = true := by simp [Value.oneCell']
            have HONE := Lib.hid hone
            have HSZ : Hid (w.heap.size ≤ ((w6.alloc (.cells #[.int .i64 k, .int .i64 sp, .int .i64 y, .int .i64 sq0, .string bo] 39)).alloc (.cells #[.int .i64 a, .int .i64 k, .int .i64 sp, .int .i64 y, .int .i64 sq0, .string bo] 51)).heap.size) := by show _ ≤ _; have := HL6.out.bel.size; simp only [World.size_alloc]; omega
            clear hk1 hs1 hone hv hc
            go_wp2_with (at_builtin; go_must (refine wpList_append_lies _ rfl (.tmp 76) (.tmp 80) 49 rfl w.heap.size 51 i0 _ 6 56 Tryz.underlying49 HI0.out HZ0.out HZ1.out HZ2.out rfl (by omega) (.slice B m d) m (fndCells ks) rfl HO8.out ⟨w6.heap.size + 1, 0, none⟩ 1 1 [.int .i64 a, .int .i64 k, .int .i64 sp, .int .i64 y, .int .i64 sq0, .string bo] rfl rfl HNW.out HONE.out (by omega) (by simp only [maxLen]; omega) (by omega) HSZ.out _ rfl ?_; intro g2 c2 w8 hown8 hg8 hat8 _; obtain ⟨l8, h8⟩ := kept_grow (n2 := m + 1) (c2 := c2) HL7.out HO7.out (fun g hg => HF6.out g hg) hg8 hat8; have HL8 := Lib.hid l8; have HF8 := Lib.hid h8; have HO9 := Lib.hid hown8; clear hown8 hg8 hat8 l8 h8))
            refine (seq_anyW _ _ _ _ _ _ _ HL8.out.st).mono ?_
            rintro e w9 ⟨rfl, rfl⟩
            rw [HS1.out]
            have hle : ¬ sq0 + 1 ≤ sq0 := by omega
            go_wp2_with fail
            refine (Down_any _ _ _ _ HL8.out.st.arr).mono ?_
            rw [hup]
            rintro e w9 ⟨rfl, rfl⟩
            go_wp2_with fail
            have hmeas : 100 - (intOf (.int .i64 ((j : Int) + 1))).toNat < 100 - (intOf (.int .i64 (j : Int))).toNat := by simp [intOf]; omega
            have HCE : Hid (fndCells (ks ++ [⟨a, { (⟨k, sp, y, sq, bo⟩ : Page) with seq := s.seq }⟩]) = fndCells ks ++ [.int .i64 a, .int .i64 k, .int .i64 sp, .int .i64 y, .int .i64 sq0, .string bo]) := by
              show _ = _
              rw [fndCells_snoc, HSQ.out]
            refine ⟨⟨j + 1, m + 1, q, sv, vv, N6, s', some ⟨g2, 0, none⟩, c2, ks ++ [⟨a, { (⟨k, sp, y, sq, bo⟩ : Page) with seq := s.seq }⟩], ?_, ?_, rfl, rfl, ?_, ?_, ?_, HL8, HK1, ?_, HF8⟩, hmeas⟩
            · omega
            · omega
            · go_num
            · simp [hkl]
            · omega
            · rw [HCE.out]; with_reducible exact HO9
          · obtain ⟨_, tv, xv, rfl⟩ : c' ≠ 0 ∧ ∃ t x, v = .iface t x := by
              rcases hv with ⟨h, _⟩ | h
              · exact absurd h hc
              · exact h
            have HK1 := Lib.hid hk1
            have hup := hk1.up
            clear hk1 hv hc f0 f1 f2 f3 f4
            go_wp2_with fail
            refine (Down_any _ _ _ _ HL6.out.st.arr).mono ?_
            rw [hup]
            rintro e w9 ⟨rfl, rfl⟩
            go_wp2_with fail
            have hmeas : 100 - (intOf (.int .i64 ((j : Int) + 1))).toNat < 100 - (intOf (.int .i64 (j : Int))).toNat := by simp [intOf]; omega
            refine ⟨⟨j + 1, m, q, sv, vv, N6, s', B, d, ks, ?_, ?_, rfl, rfl, ?_, hkl, ?_, HL6, HK1, HO6, HF6⟩, hmeas⟩
            · omega
            · omega
            · go_num
            · omega
          · obtain ⟨_, tv, xv, rfl⟩ : c' ≠ 0 ∧ ∃ t x, v = .iface t x := by
              rcases hv with ⟨h, _⟩ | h
              · exact absurd h hc
              · exact h
            have HK1 := Lib.hid hk1
            have HFT := Lib.hid hft
            obtain ⟨sq1, hsq1⟩ : ∃ sq1, (openS s'.n.up).seq = sq1 := ⟨_, rfl⟩
            have HSQ1 := Lib.hid hsq1
            have hge : ¬ sq1 < sq0 := by have := HSQ.out; omega
            clear hk1 hv hc hs1 hft hsq1 f0 f1 f2 f3 f4
            go_wp2_with fail
            refine (Down_any _ _ _ _ HL6.out.st.arr).mono ?_
            rw [hdn]
            rintro e w9 ⟨rfl, rfl⟩
            go_wp2_with fail
            refine (UpL HL6.out).mono ?_
            rintro e w10 ⟨rfl, N10, L10, m10⟩
            have HO10 := Lib.hid (own_keep HO6.out m10.keep (fun g hg => HF6.out g hg))
            have HF10 : Hid (∀ g, (Value.slice B m d).ownBlock = some g → ¬ foot q sv vv N10 g) := fun g hg => foot_moved m10 (HF6.out g hg) (HO6.out.lt g hg).2
            have HL10 := Lib.hid L10
            clear L10 m10
            go_wp2_with fail
            refine (OpenK HL10.out HFT.out).mono ?_
            rintro e w11 ⟨q', sv', vv', rfl, L11, hb11, hf11⟩
            have hs' := seql q'
            have HO11 := Lib.hid (own_below HO10.out hb11)
            have HF11 : Hid (∀ g, (Value.slice B m d).ownBlock = some g → ¬ foot q' sv' vv' N10 g) := fun g hg hf => HF10.out g hg (hf11 g (HO10.out.lt g hg).2 hf)
            have HL11 := Lib.hid L11
            clear L11 hb11 hf11
            go_wp2_with fail
            refine (seq_anyW _ _ _ _ _ _ _ HL11.out.st).mono ?_
            rintro e w12 ⟨rfl, rfl⟩
            rw [HSQ1.out]
            go_wp2_with fail
            have hmeas : 100 - (intOf (.int .i64 ((j : Int) + 1))).toNat < 100 - (intOf (.int .i64 (j : Int))).toNat := by simp [intOf]; omega
            refine ⟨⟨j + 1, m, q', sv', vv', N10, openS s'.n.up, B, d, ks, ?_, ?_, rfl, rfl, ?_, hkl, ?_, HL11, HK1, HO11, HF11⟩, hmeas⟩
            · omega
            · omega
            · go_num
            · omega
        · have h5i : ¬ (n5 : Int) ≤ 5 := by omega
          go_wp2_with fail
          refine (seq_anyW _ _ _ _ _ _ _ HL.out.st).mono ?_
          rintro e w5 ⟨rfl, rfl⟩
          obtain ⟨sq0, hsq⟩ : ∃ sq0, s.seq = sq0 := ⟨_, rfl⟩
          have HSQ := Lib.hid hsq
          rw [hsq]
          obtain ⟨e0, e1, e2, e3, e4⟩ := HPC.out _ HL.out.bel
          clear hsq
          go_wp2_with fail
          refine (KApp HL.out HK.out (by omega) ⟨k, sp, y, sq, bo⟩).mono ?_
          rintro e w6 ⟨s', a, c', v, N6, rfl, hko, L6, m6, hv⟩
          have HO6 := Lib.hid (own_keep HO.out m6.keep (fun g hg => HF.out g hg))
          have HF6 : Hid (∀ g, (Value.slice B m d).ownBlock = some g → ¬ foot q sv vv N6 g) := fun g hg => foot_moved m6 (HF.out g hg) (HO.out.lt g hg).2
          have HL6 := Lib.hid L6
          obtain ⟨f0, f1, f2, f3, f4⟩ := HPC.out _ L6.bel
          clear L6 m6 e0 e1 e2 e3 e4
          rcases hko with ⟨hc, hk1, hs1⟩ | ⟨hc, hk1⟩ | ⟨hc, hdn, hk1, hs1, hft⟩
          · obtain rfl : v = .nilIface := by
              rcases hv with ⟨_, h⟩ | ⟨h, _⟩
              · exact h
              · exact absurd hc h
            have HK1 := Lib.hid hk1
            have HS1 : Hid (s'.seq = sq0 + 1) := by show _ = _; rw [hs1, HSQ.out]
            have hup := hk1.up
            have HB7 : Hid (Below w6.heap.size w6 (w6.alloc (.cells #[.int .i64 k, .int .i64 sp, .int .i64 y, .int .i64 sq0, .string bo] 39))) := (Below.refl _ _).alloc (Nat.le_refl _) _
            have HL7 := Lib.hid (HL6.out.below HB7.out)
            have HO7 := Lib.hid (own_below HO6.out HB7.out)
            have HO8 := Lib.hid (HO7.out.alloc (.cells #[.int .i64 a, .int .i64 k, .int .i64 sp, .int .i64 y, .int .i64 sq0, .string bo] 51))
            have HNW : Hid (∀ (j' : Nat) (u : Value), ([.int .i64 a, .int .i64 k, .int .i64 sp, .int .i64 y, .int .i64 sq0, .string bo] : List Value)[j']? = some u → ((w6.alloc (.cells #[.int .i64 k, .int .i64 sp, .int .i64 y, .int .i64 sq0, .string bo] 39)).alloc (.cells #[.int .i64 a, .int .i64 k, .int .i64 sp, .int .i64 y, .int .i64 sq0, .string bo] 51)).cell? ((⟨w6.heap.size + 1, 0, none⟩ : Addr).add j') = some u) := World.news_of_block (by simpa using heap_alloc_new (w6.alloc (.cells #[.int .i64 k, .int .i64 sp, .int .i64 y, .int .i64 sq0, .string bo] 39)) (.cells #[.int .i64 a, .int .i64 k, .int .i64 sp, .int .i64 y, .int .i64 sq0, .string bo] 51))
            have hone : ∀ u ∈ ([.int .i64 a, .int .i64 k, .int .i64 sp, .int .i64 y, .int .i64 sq0, .string bo] : List Value), u.oneCell' = true := by simp [Value.oneCell']
            have HONE := Lib.hid hone
            have HSZ : Hid (w.heap.size ≤ ((w6.alloc (.cells #[.int .i64 k, .int .i64 sp, .int .i64 y, .int .i64 sq0, .string bo] 39)).alloc (.cells #[.int .i64 a, .int .i64 k, .int .i64 sp, .int .i64 y, .int .i64 sq0, .string bo] 51)).heap.size) := by show _ ≤ _; have := HL6.out.bel.size; simp only [World.size_alloc]; omega
            clear hk1 hs1 hone hv hc
            go_wp2_with (at_builtin; go_must (refine wpList_append_lies _ rfl (.tmp 76) (.tmp 80) 49 rfl w.heap.size 51 i0 _ 6 56 Tryz.underlying49 HI0.out HZ0.out HZ1.out HZ2.out rfl (by omega) (.slice B m d) m (fndCells ks) rfl HO8.out ⟨w6.heap.size + 1, 0, none⟩ 1 1 [.int .i64 a, .int .i64 k, .int .i64 sp, .int .i64 y, .int .i64 sq0, .string bo] rfl rfl HNW.out HONE.out (by omega) (by simp only [maxLen]; omega) (by omega) HSZ.out _ rfl ?_; intro g2 c2 w8 hown8 hg8 hat8 _; obtain ⟨l8, h8⟩ := kept_grow (n2 := m + 1) (c2 := c2) HL7.out HO7.out (fun g hg => HF6.out g hg) hg8 hat8; have HL8 := Lib.hid l8; have HF8 := Lib.hid h8; have HO9 := Lib.hid hown8; clear hown8 hg8 hat8 l8 h8))
            refine (seq_anyW _ _ _ _ _ _ _ HL8.out.st).mono ?_
            rintro e w9 ⟨rfl, rfl⟩
            rw [HS1.out]
            have hle : ¬ sq0 + 1 ≤ sq0 := by omega
            go_wp2_with fail
            refine (Down_any _ _ _ _ HL8.out.st.arr).mono ?_
            rw [hup]
            rintro e w9 ⟨rfl, rfl⟩
            go_wp2_with fail
            have hmeas : 100 - (intOf (.int .i64 ((j : Int) + 1))).toNat < 100 - (intOf (.int .i64 (j : Int))).toNat := by simp [intOf]; omega
            have HCE : Hid (fndCells (ks ++ [⟨a, { (⟨k, sp, y, sq, bo⟩ : Page) with seq := s.seq }⟩]) = fndCells ks ++ [.int .i64 a, .int .i64 k, .int .i64 sp, .int .i64 y, .int .i64 sq0, .string bo]) := by
              show _ = _
              rw [fndCells_snoc, HSQ.out]
            refine ⟨⟨j + 1, m + 1, q, sv, vv, N6, s', some ⟨g2, 0, none⟩, c2, ks ++ [⟨a, { (⟨k, sp, y, sq, bo⟩ : Page) with seq := s.seq }⟩], ?_, ?_, rfl, rfl, ?_, ?_, ?_, HL8, HK1, ?_, HF8⟩, hmeas⟩
            · omega
            · omega
            · go_num
            · simp [hkl]
            · omega
            · rw [HCE.out]; with_reducible exact HO9
          · obtain ⟨_, tv, xv, rfl⟩ : c' ≠ 0 ∧ ∃ t x, v = .iface t x := by
              rcases hv with ⟨h, _⟩ | h
              · exact absurd h hc
              · exact h
            have HK1 := Lib.hid hk1
            have hup := hk1.up
            clear hk1 hv hc f0 f1 f2 f3 f4
            go_wp2_with fail
            refine (Down_any _ _ _ _ HL6.out.st.arr).mono ?_
            rw [hup]
            rintro e w9 ⟨rfl, rfl⟩
            go_wp2_with fail
            have hmeas : 100 - (intOf (.int .i64 ((j : Int) + 1))).toNat < 100 - (intOf (.int .i64 (j : Int))).toNat := by simp [intOf]; omega
            refine ⟨⟨j + 1, m, q, sv, vv, N6, s', B, d, ks, ?_, ?_, rfl, rfl, ?_, hkl, ?_, HL6, HK1, HO6, HF6⟩, hmeas⟩
            · omega
            · omega
            · go_num
            · omega
          · obtain ⟨_, tv, xv, rfl⟩ : c' ≠ 0 ∧ ∃ t x, v = .iface t x := by
              rcases hv with ⟨h, _⟩ | h
              · exact absurd h hc
              · exact h
            have HK1 := Lib.hid hk1
            have HFT := Lib.hid hft
            obtain ⟨sq1, hsq1⟩ : ∃ sq1, (openS s'.n.up).seq = sq1 := ⟨_, rfl⟩
            have HSQ1 := Lib.hid hsq1
            have hge : ¬ sq1 < sq0 := by have := HSQ.out; omega
            clear hk1 hv hc hs1 hft hsq1 f0 f1 f2 f3 f4
            go_wp2_with fail
            refine (Down_any _ _ _ _ HL6.out.st.arr).mono ?_
            rw [hdn]
            rintro e w9 ⟨rfl, rfl⟩
            go_wp2_with fail
            refine (UpL HL6.out).mono ?_
            rintro e w10 ⟨rfl, N10, L10, m10⟩
            have HO10 := Lib.hid (own_keep HO6.out m10.keep (fun g hg => HF6.out g hg))
            have HF10 : Hid (∀ g, (Value.slice B m d).ownBlock = some g → ¬ foot q sv vv N10 g) := fun g hg => foot_moved m10 (HF6.out g hg) (HO6.out.lt g hg).2
            have HL10 := Lib.hid L10
            clear L10 m10
            go_wp2_with fail
            refine (OpenK HL10.out HFT.out).mono ?_
            rintro e w11 ⟨q', sv', vv', rfl, L11, hb11, hf11⟩
            have hs' := seql q'
            have HO11 := Lib.hid (own_below HO10.out hb11)
            have HF11 : Hid (∀ g, (Value.slice B m d).ownBlock = some g → ¬ foot q' sv' vv' N10 g) := fun g hg hf => HF10.out g hg (hf11 g (HO10.out.lt g hg).2 hf)
            have HL11 := Lib.hid L11
            clear L11 hb11 hf11
            go_wp2_with fail
            refine (seq_anyW _ _ _ _ _ _ _ HL11.out.st).mono ?_
            rintro e w12 ⟨rfl, rfl⟩
            rw [HSQ1.out]
            go_wp2_with fail
            have hmeas : 100 - (intOf (.int .i64 ((j : Int) + 1))).toNat < 100 - (intOf (.int .i64 (j : Int))).toNat := by simp [intOf]; omega
            refine ⟨⟨j + 1, m, q', sv', vv', N10, openS s'.n.up, B, d, ks, ?_, ?_, rfl, rfl, ?_, hkl, ?_, HL11, HK1, HO11, HF11⟩, hmeas⟩
            · omega
            · omega
            · go_num
            · omega
      · have hji2 : ¬ (j : Int) < (n2 : Int) := by omega
        go_wp2_with fail
        refine (seq_anyW _ _ _ _ _ _ _ HL.out.st).mono ?_
        rintro e w5 ⟨rfl, rfl⟩
        obtain ⟨sq0, hsq⟩ : ∃ sq0, s.seq = sq0 := ⟨_, rfl⟩
        have HSQ := Lib.hid hsq
        rw [hsq]
        obtain ⟨e0, e1, e2, e3, e4⟩ := HPC.out _ HL.out.bel
        clear hsq
        go_wp2_with fail
        refine (KApp HL.out HK.out (by omega) ⟨k, sp, y, sq, bo⟩).mono ?_
        rintro e w6 ⟨s', a, c', v, N6, rfl, hko, L6, m6, hv⟩
        have HO6 := Lib.hid (own_keep HO.out m6.keep (fun g hg => HF.out g hg))
        have HF6 : Hid (∀ g, (Value.slice B m d).ownBlock = some g → ¬ foot q sv vv N6 g) := fun g hg => foot_moved m6 (HF.out g hg) (HO.out.lt g hg).2
        have HL6 := Lib.hid L6
        obtain ⟨f0, f1, f2, f3, f4⟩ := HPC.out _ L6.bel
        clear L6 m6 e0 e1 e2 e3 e4
        rcases hko with ⟨hc, hk1, hs1⟩ | ⟨hc, hk1⟩ | ⟨hc, hdn, hk1, hs1, hft⟩
        · obtain rfl : v = .nilIface := by
            rcases hv with ⟨_, h⟩ | ⟨h, _⟩
            · exact h
            · exact absurd hc h
          have HK1 := Lib.hid hk1
          have HS1 : Hid (s'.seq = sq0 + 1) := by show _ = _; rw [hs1, HSQ.out]
          have hup := hk1.up
          have HB7 : Hid (Below w6.heap.size w6 (w6.alloc (.cells #[.int .i64 k, .int .i64 sp, .int .i64 y, .int .i64 sq0, .string bo] 39))) := (Below.refl _ _).alloc (Nat.le_refl _) _
          have HL7 := Lib.hid (HL6.out.below HB7.out)
          have HO7 := Lib.hid (own_below HO6.out HB7.out)
          have HO8 := Lib.hid (HO7.out.alloc (.cells #[.int .i64 a, .int .i64 k, .int .i64 sp, .int .i64 y, .int .i64 sq0, .string bo] 51))
          have HNW : Hid (∀ (j' : Nat) (u : Value), ([.int .i64 a, .int .i64 k, .int .i64 sp, .int .i64 y, .int .i64 sq0, .string bo] : List Value)[j']? = some u → ((w6.alloc (.cells #[.int .i64 k, .int .i64 sp, .int .i64 y, .int .i64 sq0, .string bo] 39)).alloc (.cells #[.int .i64 a, .int .i64 k, .int .i64 sp, .int .i64 y, .int .i64 sq0, .string bo] 51)).cell? ((⟨w6.heap.size + 1, 0, none⟩ : Addr).add j') = some u) := World.news_of_block (by simpa using heap_alloc_new (w6.alloc (.cells #[.int .i64 k, .int .i64 sp, .int .i64 y, .int .i64 sq0, .string bo] 39)) (.cells #[.int .i64 a, .int .i64 k, .int .i64 sp, .int .i64 y, .int .i64 sq0, .string bo] 51))
          have hone : ∀ u ∈ ([.int .i64 a, .int .i64 k, .int .i64 sp, .int .i64 y, .int .i64 sq0, .string bo] : List Value), u.oneCell' = true := by simp [Value.oneCell']
          have HONE := Lib.hid hone
          have HSZ : Hid (w.heap.size ≤ ((w6.alloc (.cells #[.int .i64 k, .int .i64 sp, .int .i64 y, .int .i64 sq0, .string bo] 39)).alloc (.cells #[.int .i64 a, .int .i64 k, .int .i64 sp, .int .i64 y, .int .i64 sq0, .string bo] 51)).heap.size) := by show _ ≤ _; have := HL6.out.bel.size; simp only [World.size_alloc]; omega
          clear hk1 hs1 hone hv hc
          go_wp2_with (at_builtin; go_must (refine wpList_append_lies _ rfl (.tmp 76) (.tmp 80) 49 rfl w.heap.size 51 i0 _ 6 56 Tryz.underlying49 HI0.out HZ0.out HZ1.out HZ2.out rfl (by omega) (.slice B m d) m (fndCells ks) rfl HO8.out ⟨w6.heap.size + 1, 0, none⟩ 1 1 [.int .i64 a, .int .i64 k, .int .i64 sp, .int .i64 y, .int .i64 sq0, .string bo] rfl rfl HNW.out HONE.out (by omega) (by simp only [maxLen]; omega) (by omega) HSZ.out _ rfl ?_; intro g2 c2 w8 hown8 hg8 hat8 _; obtain ⟨l8, h8⟩ := kept_grow (n2 := m + 1) (c2 := c2) HL7.out HO7.out (fun g hg => HF6.out g hg) hg8 hat8; have HL8 := Lib.hid l8; have HF8 := Lib.hid h8; have HO9 := Lib.hid hown8; clear hown8 hg8 hat8 l8 h8))
          refine (seq_anyW _ _ _ _ _ _ _ HL8.out.st).mono ?_
          rintro e w9 ⟨rfl, rfl⟩
          rw [HS1.out]
          have hle : ¬ sq0 + 1 ≤ sq0 := by omega
          go_wp2_with fail
          refine (Down_any _ _ _ _ HL8.out.st.arr).mono ?_
          rw [hup]
          rintro e w9 ⟨rfl, rfl⟩
          go_wp2_with fail
          have hmeas : 100 - (intOf (.int .i64 ((j : Int) + 1))).toNat < 100 - (intOf (.int .i64 (j : Int))).toNat := by simp [intOf]; omega
          have HCE : Hid (fndCells (ks ++ [⟨a, { (⟨k, sp, y, sq, bo⟩ : Page) with seq := s.seq }⟩]) = fndCells ks ++ [.int .i64 a, .int .i64 k, .int .i64 sp, .int .i64 y, .int .i64 sq0, .string bo]) := by
            show _ = _
            rw [fndCells_snoc, HSQ.out]
          refine ⟨⟨j + 1, m + 1, q, sv, vv, N6, s', some ⟨g2, 0, none⟩, c2, ks ++ [⟨a, { (⟨k, sp, y, sq, bo⟩ : Page) with seq := s.seq }⟩], ?_, ?_, rfl, rfl, ?_, ?_, ?_, HL8, HK1, ?_, HF8⟩, hmeas⟩
          · omega
          · omega
          · go_num
          · simp [hkl]
          · omega
          · rw [HCE.out]; with_reducible exact HO9
        · obtain ⟨_, tv, xv, rfl⟩ : c' ≠ 0 ∧ ∃ t x, v = .iface t x := by
            rcases hv with ⟨h, _⟩ | h
            · exact absurd h hc
            · exact h
          have HK1 := Lib.hid hk1
          have hup := hk1.up
          clear hk1 hv hc f0 f1 f2 f3 f4
          go_wp2_with fail
          refine (Down_any _ _ _ _ HL6.out.st.arr).mono ?_
          rw [hup]
          rintro e w9 ⟨rfl, rfl⟩
          go_wp2_with fail
          have hmeas : 100 - (intOf (.int .i64 ((j : Int) + 1))).toNat < 100 - (intOf (.int .i64 (j : Int))).toNat := by simp [intOf]; omega
          refine ⟨⟨j + 1, m, q, sv, vv, N6, s', B, d, ks, ?_, ?_, rfl, rfl, ?_, hkl, ?_, HL6, HK1, HO6, HF6⟩, hmeas⟩
          · omega
          · omega
          · go_num
          · omega
        · obtain ⟨_, tv, xv, rfl⟩ : c' ≠ 0 ∧ ∃ t x, v = .iface t x := by
            rcases hv with ⟨h, _⟩ | h
            · exact absurd h hc
            · exact h
          have HK1 := Lib.hid hk1
          have HFT := Lib.hid hft
          obtain ⟨sq1, hsq1⟩ : ∃ sq1, (openS s'.n.up).seq = sq1 := ⟨_, rfl⟩
          have HSQ1 := Lib.hid hsq1
          have hge : ¬ sq1 < sq0 := by have := HSQ.out; omega
          clear hk1 hv hc hs1 hft hsq1 f0 f1 f2 f3 f4
          go_wp2_with fail
          refine (Down_any _ _ _ _ HL6.out.st.arr).mono ?_
          rw [hdn]
          rintro e w9 ⟨rfl, rfl⟩
          go_wp2_with fail
          refine (UpL HL6.out).mono ?_
          rintro e w10 ⟨rfl, N10, L10, m10⟩
          have HO10 := Lib.hid (own_keep HO6.out m10.keep (fun g hg => HF6.out g hg))
          have HF10 : Hid (∀ g, (Value.slice B m d).ownBlock = some g → ¬ foot q sv vv N10 g) := fun g hg => foot_moved m10 (HF6.out g hg) (HO6.out.lt g hg).2
          have HL10 := Lib.hid L10
          clear L10 m10
          go_wp2_with fail
          refine (OpenK HL10.out HFT.out).mono ?_
          rintro e w11 ⟨q', sv', vv', rfl, L11, hb11, hf11⟩
          have hs' := seql q'
          have HO11 := Lib.hid (own_below HO10.out hb11)
          have HF11 : Hid (∀ g, (Value.slice B m d).ownBlock = some g → ¬ foot q' sv' vv' N10 g) := fun g hg hf => HF10.out g hg (hf11 g (HO10.out.lt g hg).2 hf)
          have HL11 := Lib.hid L11
          clear L11 hb11 hf11
          go_wp2_with fail
          refine (seq_anyW _ _ _ _ _ _ _ HL11.out.st).mono ?_
          rintro e w12 ⟨rfl, rfl⟩
          rw [HSQ1.out]
          go_wp2_with fail
          have hmeas : 100 - (intOf (.int .i64 ((j : Int) + 1))).toNat < 100 - (intOf (.int .i64 (j : Int))).toNat := by simp [intOf]; omega
          refine ⟨⟨j + 1, m, q', sv', vv', N10, openS s'.n.up, B, d, ks, ?_, ?_, rfl, rfl, ?_, hkl, ?_, HL11, HK1, HO11, HF11⟩, hmeas⟩
          · omega
          · omega
          · go_num
          · omega
    · clear HA HA2
      have hml : m ≤ 100 := by omega
      cases hjn2 : decide (j < n)
      · have hjj : j = n := by simp at hjn2; omega
        subst hjj
        obtain ⟨wo, hwo⟩ : ∃ wo, wo = wr := ⟨_, rfl⟩
        subst hwo
        go_wp2_with fail
        go_loopw [15] (fun i wx => ∃ j' : Nat, j' ≤ m ∧ i = .int .i64 j' ∧ Hid (Below wo.heap.size wo wx)) (fun i _ => m - (intOf i).toNat)
        case atStart => exact ⟨0, Nat.zero_le _, rfl, Below.refl _ _⟩
        case round =>
          obtain ⟨j', hj', rfl, HB⟩ := hrel
          by_cases hlt' : j' < m
          · have hji' : (j' : Int) < (m : Int) := by omega
            obtain ⟨gB, cB, a, k, sp, y, sq, bo, hBB, hmem, h0, h1, h2, h3, h4, h5⟩ := fks_cells HO.out j' hlt' hkl
            injection hBB with hBB _ hBC
            subst hBB hBC
            have HMEM := Lib.hid hmem
            have y0 := below_c HB.out h0
            have HY : Hid (∀ wq, Below wo.heap.size wo wq → wq.cell? ⟨gB, j' * 6 + 1, none⟩ = some (.int .i64 k) ∧ wq.cell? ⟨gB, j' * 6 + 2, none⟩ = some (.int .i64 sp) ∧ wq.cell? ⟨gB, j' * 6 + 3, none⟩ = some (.int .i64 y) ∧ wq.cell? ⟨gB, j' * 6 + 4, none⟩ = some (.int .i64 sq) ∧ wq.cell? ⟨gB, j' * 6 + 5, none⟩ = some (.string bo)) := fun wq hb => ⟨below_c hb h1, below_c hb h2, below_c hb h3, below_c hb h4, below_c hb h5⟩
            have hne := fun wq => neq_page k sp y sq bo wq
            have hgt := gt_page
            clear h0 h1 h2 h3 h4 h5 hmem
            go_wp2_with fail
            refine (ReadK (HL.out.below HB.out) HK.out a k sp y sq bo HMEM.out).mono ?_
            rintro e w5 ⟨rfl, hb5⟩
            have HB5 := Lib.hid (HB.out.trans (hb5.mono HB.out.size))
            have HB6 := Lib.hid (HB5.out.alloc HB5.out.size (.cells #[.int .i64 k, .int .i64 sp, .int .i64 y, .int .i64 sq, .string bo] 39))
            obtain ⟨y1, y2, y3, y4, y5⟩ := HY.out _ HB6.out
            obtain ⟨⟨p0, p1, p2, p3, p4⟩, _⟩ := tmp_cells (Whole.new w5 39 #[.int .i64 k, .int .i64 sp, .int .i64 y, .int .i64 sq, .string bo])
            clear hb5
            go_wp2_with fail
            go_region
            go_wp2_with fail
            exact ⟨⟨j' + 1, by omega, by go_num, HB6.out.drew⟩, by simp [intOf]; omega⟩
          · obtain rfl : j' = m := by omega
            go_wp2_with fail
            go_ret
            exact ⟨rfl, HL.out.bel.trans (HB.out.mono HL.out.bel.size)⟩
      · have hjj : j = 100 := by simp at hjn2; omega
        have hjn3 : (j : Int) < (n : Int) := by simp at hjn2; omega
        subst hjj
        obtain ⟨wo, hwo⟩ : ∃ wo, wo = wr := ⟨_, rfl⟩
        subst hwo
        go_wp2_with fail
        go_loopw [15] (fun i wx => ∃ j' : Nat, j' ≤ m ∧ i = .int .i64 j' ∧ Hid (Below wo.heap.size wo wx)) (fun i _ => m - (intOf i).toNat)
        case atStart => exact ⟨0, Nat.zero_le _, rfl, Below.refl _ _⟩
        case round =>
          obtain ⟨j', hj', rfl, HB⟩ := hrel
          by_cases hlt' : j' < m
          · have hji' : (j' : Int) < (m : Int) := by omega
            obtain ⟨gB, cB, a, k, sp, y, sq, bo, hBB, hmem, h0, h1, h2, h3, h4, h5⟩ := fks_cells HO.out j' hlt' hkl
            injection hBB with hBB _ hBC
            subst hBB hBC
            have HMEM := Lib.hid hmem
            have y0 := below_c HB.out h0
            have HY : Hid (∀ wq, Below wo.heap.size wo wq → wq.cell? ⟨gB, j' * 6 + 1, none⟩ = some (.int .i64 k) ∧ wq.cell? ⟨gB, j' * 6 + 2, none⟩ = some (.int .i64 sp) ∧ wq.cell? ⟨gB, j' * 6 + 3, none⟩ = some (.int .i64 y) ∧ wq.cell? ⟨gB, j' * 6 + 4, none⟩ = some (.int .i64 sq) ∧ wq.cell? ⟨gB, j' * 6 + 5, none⟩ = some (.string bo)) := fun wq hb => ⟨below_c hb h1, below_c hb h2, below_c hb h3, below_c hb h4, below_c hb h5⟩
            have hne := fun wq => neq_page k sp y sq bo wq
            have hgt := gt_page
            clear h0 h1 h2 h3 h4 h5 hmem
            go_wp2_with fail
            refine (ReadK (HL.out.below HB.out) HK.out a k sp y sq bo HMEM.out).mono ?_
            rintro e w5 ⟨rfl, hb5⟩
            have HB5 := Lib.hid (HB.out.trans (hb5.mono HB.out.size))
            have HB6 := Lib.hid (HB5.out.alloc HB5.out.size (.cells #[.int .i64 k, .int .i64 sp, .int .i64 y, .int .i64 sq, .string bo] 39))
            obtain ⟨y1, y2, y3, y4, y5⟩ := HY.out _ HB6.out
            obtain ⟨⟨p0, p1, p2, p3, p4⟩, _⟩ := tmp_cells (Whole.new w5 39 #[.int .i64 k, .int .i64 sp, .int .i64 y, .int .i64 sq, .string bo])
            clear hb5
            go_wp2_with fail
            go_region
            go_wp2_with fail
            exact ⟨⟨j' + 1, by omega, by go_num, HB6.out.drew⟩, by simp [intOf]; omega⟩
          · obtain rfl : j' = m := by omega
            go_wp2_with fail
            go_ret
            exact ⟨rfl, HL.out.bel.trans (HB.out.mono HL.out.bel.size)⟩
end Go.Proofs.YtfacgeappbgldaaGreatDoor.st
