/- The contract of nand's erase. -/
import Derived.Test.YtfacgeappbgldaaGreatDoorNdH
namespace Go.Proofs.YtfacgeappbgldaaGreatDoor.nd
open Go.RowKit Go.Proofs.YtfacgeappbgldaaGreatDoor.er
attribute [local go_sem ↓] Go.wp_at_zero Go.wp_at_succ
set_option linter.unusedVariables false

theorem MvSet {F : Nat → Prop} {p : Nat} (hp : F p) {w : World} (i : Nat) (u : Value) : Mv F w F (w.setCell ⟨p, i, none⟩ u) := ⟨(Keep.set1 _ _ _ _).mono (fun k _ hk => (hk ▸ hp : F k)), fun _ h => .inl h⟩
theorem Nand.setB_same {s : Nand} {i : Nat} {b : Blk} (h : s.b[i]? = some b) : (s.setB i b).b = s.b := by
  show s.b.set i b = s.b
  apply List.ext_getElem?
  intro j
  rw [List.getElem?_set]
  split
  · rename_i e
    subst e
    have := (List.getElem?_eq_some_iff.1 h).1
    rw [if_pos this, h]
  · rfl
theorem own_filled {w : World} {g n : Nat} {x : ByteArray} (hh : w.heap[g]? = some (.cells (List.replicate n (Value.string x)).toArray 9 (0, 0))) (hn : n ≤ maxLen) :
    w.ownsRow 0 9 1 (.slice (some ⟨g, 0, none⟩) n n) n ((List.replicate n x).map .string) := by
  refine ⟨by simp, .inr ⟨g, n, _, rfl, Nat.zero_le _, hh, Nat.le_refl _, hn, by simp, ?_⟩⟩
  simp

set_option maxHeartbeats 4000000 in
set_option maxRecDepth 100000 in
theorem erase_any (w : World) (F : Nat → Prop) (p : Nat) (s : Nand) (q : Int) (h : NandAt w F p s) (ho : s.ops ≤ 1000000000000000000) :
    Calls Tryz.prog 78 #[.pointer (some ⟨p, 0, none⟩), .int .i64 q] w fun e w' => e = .returned (errV (s.erase q).1) ∧ MvAt w F p (s.erase q).2 w' := by
  have B0 : Hid (Below w.heap.size w ((w.alloc (.cells #[.pointer (some ⟨p, 0, none⟩)] 22)).alloc (.cells #[.int .i64 q] 3))) := ((Below.refl _ _).alloc (Nat.le_refl _) _).alloc (by simp) _
  have H1 := Lib.hid (h.below B0.out)
  have X0 : Hid (Whole ((w.alloc (.cells #[.pointer (some ⟨p, 0, none⟩)] 22)).alloc (.cells #[.int .i64 q] 3)) w.heap.size 22 #[.pointer (some ⟨p, 0, none⟩)]) := (Whole.new _ _ _).alloc _
  have X1 : Hid (Whole ((w.alloc (.cells #[.pointer (some ⟨p, 0, none⟩)] 22)).alloc (.cells #[.int .i64 q] 3)) (w.heap.size + 1) 3 #[.int .i64 q]) := Whole.new' _ _ _ _ (by simp)
  have H := Lib.hid h
  clear h
  cases hd : s.down
  · cases hq : s.has q
    · have hpr : s.erase q = (1, s) := by
        unfold Nand.erase
        rw [hd, if_neg (by decide), if_pos]
        unfold Nand.has at hq
        simp at hq
        intro ⟨h1, h2⟩
        have := hq h1
        omega
      have HPR := Lib.hid hpr
      have HD := Lib.hid hd
      have HQ := Lib.hid hq
      clear hpr hd hq
      go_enter Tryz.func78, Tryz.ntmps78
      go_wp2_with (go_at_call 62; refine (erase_ready _ F p s q w.heap.size (w.heap.size + 1) H1.out (X0.out.cell 0) (X1.out.cell 0)).mono ?_; rw [HD.out, HQ.out]; rintro e w' ⟨rfl, n, rfl⟩; rw [show errV (readyC false false) = .iface 44 (.int .i64 1) from rfl])
      go_ret
      rw [HPR.out]
      exact ⟨rfl, MvAt.same H.out (below_drewN B0.out _)⟩
    · have hq1 : 0 ≤ q ∧ q < (s.blocks : Int) := by
        unfold Nand.has at hq
        simp only [Bool.and_eq_true, decide_eq_true_eq] at hq
        exact hq
      obtain ⟨n, rfl⟩ := Int.eq_ofNat_of_zero_le hq1.1
      have hOk := H.out.ok
      have hper0 : 8 ≤ s.per := hOk.p0
      have hper1 : s.per ≤ 32 := hOk.p1
      have hb64 : s.blocks ≤ 64 := hOk.b1
      have hnlt : n < s.blocks := by omega
      have hb := Nand.blk_at hOk hnlt
      have hbl := hOk.pl _ _ hb
      have hpr : s.erase n = (let b := s.blk n; if b.bad then (41, s) else
          let m := waits s.plan (s.ops + 1)
          if m.kind = 1 then (9, { s.count.setB n { b with pages := if 0 < m.keep then List.replicate s.per (spoilt m ⟨#[]⟩) else b.pages } with down := true })
          else if m.kind = 3 then (41, s.count.setB n { b with bad := true })
          else (0, s.count.setB n { b with pages := [], worn := b.worn + 1 })) := by
        unfold Nand.erase
        rw [hd, if_neg (by decide), if_neg (by intro h; exact h ⟨hq1.1, hq1.2⟩)]
        rfl
      generalize hbb : s.blk n = b at *
      have HPR := Lib.hid hpr
      have HD := Lib.hid hd
      have HQ := Lib.hid hq
      have HBB := Lib.hid hbb
      have HOK := Lib.hid hOk
      have HB := Lib.hid hb
      have hdi0 : (0 : Int) ≤ (n : Int) := Int.natCast_nonneg _
      have hdi1 : (n : Int) < (s.blocks : Int) := hq1.2
      clear hpr hd hq hq1 hbb hOk hb
      go_enter Tryz.func78, Tryz.ntmps78
      go_wp2_with fail
      refine (erase_ready _ F p s n w.heap.size (w.heap.size + 1) H1.out (X0.out.cell 0) (X1.out.cell 0)).mono ?_
      rw [HD.out, HQ.out]
      rintro e W ⟨rfl, nd, hW⟩
      rw [show errV (readyC false true) = .nilIface from rfl]
      have BW : Hid (Below w.heap.size w W) := by subst hW; exact below_drewN B0.out _
      have x0 : W.cell? ⟨w.heap.size, 0, none⟩ = some (.pointer (some ⟨p, 0, none⟩)) := by subst hW; exact X0.out.cell 0
      have x1 : W.cell? ⟨w.heap.size + 1, 0, none⟩ = some (.int .i64 n) := by subst hW; exact X1.out.cell 0
      obtain ⟨pb, pv, vs, IN0⟩ : ∃ pb pv vs, NandIn W F p s pb pv vs := by subst hW; exact H1.out.below (below_drewN (Below.refl _ _) nd)
      clear hW
      have IN := Lib.hid IN0
      obtain ⟨c0, c1, c2, c3, c4, c5, hpl, hfz⟩ := IN0.hide
      obtain ⟨v, hv⟩ : ∃ v, vs[n]? = some v := ⟨vs[n]'(by rw [IN0.len, HOK.out.bl]; exact hnlt), List.getElem?_eq_getElem _⟩
      obtain ⟨e0, e1, e2⟩ := blkCells_at vs s.b n v b hv HB.out
      have k2 : W.cell? ⟨pb, n * 3 + 2, none⟩ = some (.bool b.bad) := by rw [IN0.blk.cell]; simpa using e2
      have HV := Lib.hid hv
      clear hv e0 e1 e2 IN0 c0 c1 c3 c4 c5 hfz
      go_wp2_with fail
      go_quiet (fail)
      cases hbad : b.bad
      · obtain ⟨A, cap, hvA⟩ := own_slice (IN.out.row _ _ _ HB.out HV.out)
        subst hvA
        rw [hbad] at k2
        have HBAD := Lib.hid hbad
        clear hbad
        have hmj := waits_junk HOK.out (s.ops + 1)
        have HPR2 : Hid (s.erase n = (let m := waits s.plan (s.ops + 1)
            if m.kind = 1 then (9, { s.count.setB n { b with pages := if 0 < m.keep then List.replicate s.per (spoilt m ⟨#[]⟩) else b.pages } with down := true })
            else if m.kind = 3 then (41, s.count.setB n { b with bad := true })
            else (0, s.count.setB n { b with pages := [], worn := b.worn + 1 }))) := by
          show _ = _
          rw [HPR.out]
          simp only [HBAD.out, Bool.false_eq_true, if_false]
        go_wp2_with fail
        refine (count_any _ F p s pb pv vs (IN.out.below (below_drewN (Below.refl _ _) _)) ho).mono ?_
        rintro e W2 ⟨rfl, IN2, KP⟩
        have KW : Hid (Keep (fun k => k = p) W W2) := (Keep.below (below_drewN (Below.refl _ _) _)).trans KP (fun x hx => .inl hx)
        have HLT : Hid (∀ k, F k → k < w.heap.size) := by obtain ⟨_, _, _, h⟩ := H.out; exact h.lt
        have np : ∀ k, w.heap.size ≤ k → ¬ (k = p) := fun k hk e => by have := HLT.out p IN.out.fp; omega
        have y0 := KW.out.cell x0 (np _ (Nat.le_refl _))
        have hsz2 : w.heap.size < W2.heap.size := World.block_lt_of_cell? _ _ y0
        have IN2h := Lib.hid IN2
        have MV2 : Hid (Mv F w F W2) := ⟨(Keep.below BW.out).trans (KW.out.mono (fun k _ hk => (hk ▸ IN.out.fp : F k))) (fun x hx => .inl hx), fun _ h => .inl h⟩
        have ROW := Lib.hid (IN2.row _ _ _ HB.out HV.out)
        obtain ⟨e0, e1, e2⟩ := blkCells_at vs s.b n (.slice A b.pages.length cap) b HV.out HB.out
        have m0 : W2.cell? ⟨pb, n * 3, none⟩ = some (.slice A b.pages.length cap) := (IN2.blk.cell _).trans (by simpa [Nand.count] using e0)
        have m1 : W2.cell? ⟨pb, n * 3 + 1, none⟩ = some (.int .i64 b.worn) := (IN2.blk.cell _).trans (by simpa [Nand.count] using e1)
        have m2 : W2.cell? ⟨pb, n * 3 + 2, none⟩ = some (.bool b.bad) := (IN2.blk.cell _).trans (by simpa [Nand.count] using e2)
        have mlt := IN2.blk.lt
        have z0 := IN2.blk.fz (n * 3)
        have z1 := IN2.blk.fz (n * 3 + 1)
        have z2 := IN2.blk.fz (n * 3 + 2)
        obtain ⟨d0, d1, d2, d3, d4, d5, dpl, dfz⟩ := IN2.hide
        have z5 := dfz 5
        have hbp : pb ≠ p := whole_apart IN2.blk IN2.obj (by decide)
        have CNT : Hid s.count.Ok := HOK.out.count
        clear IN2 KP e0 e1 e2 dfz d0 d2 d3 d4
        generalize waits s.plan (s.ops + 1) = m at *
        unfold misVal
        by_cases hk1 : m.kind = 1
        · have t1 : (m.kind == 1) = true := by simp [hk1]
          have HK1 := Lib.hid hk1
          clear hk1
          by_cases hkp : 0 < m.keep
          · have HKP := Lib.hid hkp
            have IN3 : Hid (NandIn ((W2.setCell ⟨p, 5, none⟩ (.bool true)).alloc (.cells #[.int .i64 m.at_, .int .i64 m.kind, .int .i64 m.keep, .string m.junk] 32)) F p { s.count with down := true } pb pv vs) := NandIn.alloc (IN2h.out.setObj (s' := { s.count with down := true }) 5 (.bool true) rfl rfl rfl ⟨CNT.out.b0, CNT.out.b1, CNT.out.p0, CNT.out.p1, CNT.out.bl, CNT.out.pl, CNT.out.o0, CNT.out.jk⟩) _
            have MV3 : Hid (Mv F w F ((W2.setCell ⟨p, 5, none⟩ (.bool true)).alloc (.cells #[.int .i64 m.at_, .int .i64 m.kind, .int .i64 m.keep, .string m.junk] 32))) := MV2.out.trans ((MvSet IN2h.out.fp _ _).trans (Mv.below ((Below.refl _ _).alloc (Nat.le_refl _) _)))
            have WM : Hid (Whole ((W2.setCell ⟨p, 5, none⟩ (.bool true)).alloc (.cells #[.int .i64 m.at_, .int .i64 m.kind, .int .i64 m.keep, .string m.junk] 32)) W2.heap.size 32 #[.int .i64 m.at_, .int .i64 m.kind, .int .i64 m.keep, .string m.junk]) := Whole.new' _ _ _ _ (by rw [size_set])
            have hx0 : ((W2.setCell ⟨p, 5, none⟩ (.bool true)).alloc (.cells #[.int .i64 m.at_, .int .i64 m.kind, .int .i64 m.keep, .string m.junk] 32)).cell? ⟨w.heap.size, 0, none⟩ = some (.pointer (some ⟨p, 0, none⟩)) := by
              rw [World.cell?_alloc_lt _ _ _ (by rw [size_set]; exact hsz2)]
              exact (Keep.set1 W2 p 5 (.bool true)).cell y0 (np _ (Nat.le_refl _))
            have HX0 := Lib.hid hx0
            clear hx0
            have hq0 := (IN3.out.blk.cell (n * 3)).trans (by simpa [Nand.count] using (blkCells_at vs s.b n (.slice A b.pages.length cap) b HV.out HB.out).1)
            have HQ0 := Lib.hid hq0
            clear hq0
            have HK : Hid (∀ w', Below ((W2.setCell ⟨p, 5, none⟩ (.bool true)).alloc (.cells #[.int .i64 m.at_, .int .i64 m.kind, .int .i64 m.keep, .string m.junk] 32)).heap.size ((W2.setCell ⟨p, 5, none⟩ (.bool true)).alloc (.cells #[.int .i64 m.at_, .int .i64 m.kind, .int .i64 m.keep, .string m.junk] 32)) w' → w'.cell? ⟨w.heap.size, 0, none⟩ = some (.pointer (some ⟨p, 0, none⟩)) ∧ w'.cell? ⟨p, 1, none⟩ = some (.int .i64 s.per) ∧ w'.cell? ⟨W2.heap.size, 0, none⟩ = some (.int .i64 m.at_) ∧ w'.cell? ⟨W2.heap.size, 1, none⟩ = some (.int .i64 m.kind) ∧ w'.cell? ⟨W2.heap.size, 2, none⟩ = some (.int .i64 m.keep) ∧ w'.cell? ⟨W2.heap.size, 3, none⟩ = some (.string m.junk)) := fun w' hb => by
              have hm := WM.out.below hb WM.out.lt
              have ho := IN3.out.obj.below hb IN3.out.obj.lt
              exact ⟨below_c hb HX0.out, ho.cell 1, hm.cell 0, hm.cell 1, hm.cell 2, hm.cell 3⟩
            have HK2 : Hid (∀ w' u, Below ((W2.setCell ⟨p, 5, none⟩ (.bool true)).alloc (.cells #[.int .i64 m.at_, .int .i64 m.kind, .int .i64 m.keep, .string m.junk] 32)).heap.size ((W2.setCell ⟨p, 5, none⟩ (.bool true)).alloc (.cells #[.int .i64 m.at_, .int .i64 m.kind, .int .i64 m.keep, .string m.junk] 32)) w' → (fun w' => w'.cell? ⟨w.heap.size, 0, none⟩ = some (.pointer (some ⟨p, 0, none⟩)) ∧ w'.cell? ⟨p, 1, none⟩ = some (.int .i64 s.per) ∧ w'.cell? ⟨W2.heap.size, 0, none⟩ = some (.int .i64 m.at_) ∧ w'.cell? ⟨W2.heap.size, 1, none⟩ = some (.int .i64 m.kind) ∧ w'.cell? ⟨W2.heap.size, 2, none⟩ = some (.int .i64 m.keep) ∧ w'.cell? ⟨W2.heap.size, 3, none⟩ = some (.string m.junk)) (w'.setCell ⟨pb, n * 3, none⟩ u)) := fun w' u hb => by
              obtain ⟨q0, q1, q2, q3, q4, q5⟩ := HK.out w' hb
              have hks : Keep (fun k => k = pb) w' (w'.setCell ⟨pb, n * 3, none⟩ u) := Keep.set1 _ _ _ _
              have hpb1 : ¬ (w.heap.size = pb) := by have := HLT.out pb IN3.out.fb; omega
              have hpb2 : ¬ (W2.heap.size = pb) := by omega
              exact ⟨hks.cell q0 hpb1, hks.cell q1 (fun h => hbp h.symm), hks.cell q2 hpb2, hks.cell q3 hpb2, hks.cell q4 hpb2, hks.cell q5 hpb2⟩
            have B3 : Hid (Below ((W2.setCell ⟨p, 5, none⟩ (.bool true)).alloc (.cells #[.int .i64 m.at_, .int .i64 m.kind, .int .i64 m.keep, .string m.junk] 32)).heap.size ((W2.setCell ⟨p, 5, none⟩ (.bool true)).alloc (.cells #[.int .i64 m.at_, .int .i64 m.kind, .int .i64 m.keep, .string m.junk] 32)) ((W2.setCell ⟨p, 5, none⟩ (.bool true)).alloc (.cells #[.int .i64 m.at_, .int .i64 m.kind, .int .i64 m.keep, .string m.junk] 32)).drew) := (Below.refl _ _).drew
            have hpe : (0 : Nat) ≤ 128 := by omega
            have hpe2 : (⟨#[]⟩ : ByteArray).size ≤ 128 := hpe
            have HPE := Lib.hid hpe2
            clear hpe2 hpe
            have q3 := HK.out _ B3.out
            go_wp2_with fail
            go_region_held3 (fun w' => w'.cell? ⟨w.heap.size, 0, none⟩ = some (.pointer (some ⟨p, 0, none⟩)) ∧ w'.cell? ⟨p, 1, none⟩ = some (.int .i64 s.per) ∧ w'.cell? ⟨W2.heap.size, 0, none⟩ = some (.int .i64 m.at_) ∧ w'.cell? ⟨W2.heap.size, 1, none⟩ = some (.int .i64 m.kind) ∧ w'.cell? ⟨W2.heap.size, 2, none⟩ = some (.int .i64 m.keep) ∧ w'.cell? ⟨W2.heap.size, 3, none⟩ = some (.string m.junk)) (first | exact q3 | exact q4 | exact HK.out _ (B4.out.alloc B4.out.size _) | exact HK.out _ B5.out | exact HK2.out _ _ B5.out)
              (first | (go_at_call 66; refine (spoilt_any _ m ⟨#[]⟩ HPE.out hmj).mono ?_; rintro e w4 ⟨rfl, hb4⟩; have B4 := Lib.hid (B3.out.trans (hb4.mono B3.out.size)); have q4 := HK.out _ B4.out; clear hb4) | (go_at_call 95; refine (repeat_any (spoilt m ⟨#[]⟩) s.per hper0 hper1 w4.heap.size 1 _ (by simp)).mono ?_; rintro e w5 ⟨g, rfl, hg5, hh5, hb5⟩; have B5 := Lib.hid (B4.out.trans ((((Below.refl _ _).alloc (Nat.le_refl _) _).trans (hb5.mono (by simp))).mono B4.out.size)); have q50 := below_c B5.out HQ0.out; have q51 := below_f (b := false) B5.out HQ0.out (IN3.out.blk.fz _); have HG5 := Lib.hid hg5; have HH5 := Lib.hid hh5; clear hg5 hh5 hb5))
            clear q3 q4
            go_wp2_with fail
            go_ret
            rw [HPR2.out]
            simp only [HK1.out, if_true, if_pos (show 0 < m.keep from HKP.out)]
            have hOk3 : (Nand.setB { s.count with down := true } n { b with pages := List.replicate s.per (spoilt m ⟨#[]⟩) }).Ok := Nand.setB_Ok IN3.out.ok (by show (List.replicate s.per _).length ≤ s.per; simp) hbl.2.1 (by show b.worn ≤ s.ops + 1; have := hbl.2.2; omega)
            obtain ⟨r1, r2⟩ := IN3.out.newRow (b' := { b with pages := List.replicate s.per (spoilt m ⟨#[]⟩) }) HB.out HV.out rfl rfl (Keep.below B5.out) (by
              show World.ownsRow _ 0 _ 1 _ (List.replicate s.per (spoilt m ⟨#[]⟩)).length ((List.replicate s.per (spoilt m ⟨#[]⟩)).map .string)
              rw [List.length_replicate]
              exact own_filled HH5.out (by unfold maxLen; omega)) (.inr (fun g' hg' => by
              have : g = g' := by simpa [Value.ownBlock] using hg'
              subst this
              have h1 := HG5.out
              have h2 := B4.out.size
              simp only [World.size_alloc] at h1 h2 ⊢
              omega)) hOk3
            exact ⟨rfl, _, ⟨pb, _, _, r1⟩, MV3.out.trans r2⟩
          · have HKP := Lib.hid hkp
            go_wp2_with fail
            go_ret
            rw [HPR2.out]
            simp only [HK1.out, if_true, if_neg (show ¬ 0 < m.keep by have := HKP.out; omega)]
            refine ⟨rfl, F, ⟨pb, pv, vs, ?_⟩, MV2.out.trans ((MvSet IN2h.out.fp 5 (.bool true)).trans (Mv.below ((Below.refl _ _).alloc (Nat.le_refl _) _)))⟩
            refine NandIn.alloc (IN2h.out.setObj (s' := { s.count.setB n b with down := true }) 5 (.bool true) (by rfl) ?_ (by rfl) ?_) _
            · exact Nand.setB_same (s := s.count) HB.out
            · exact ⟨CNT.out.b0, CNT.out.b1, CNT.out.p0, CNT.out.p1, (Nand.setB_Ok (i := n) (b := b) CNT.out hbl.1 hbl.2.1 (by show b.worn ≤ s.ops + 1; have := hbl.2.2; omega)).bl, (Nand.setB_Ok (i := n) (b := b) CNT.out hbl.1 hbl.2.1 (by show b.worn ≤ s.ops + 1; have := hbl.2.2; omega)).pl, CNT.out.o0, CNT.out.jk⟩
        · have t1 : (m.kind == 1) = false := by simp [hk1]
          have HK1 := Lib.hid hk1
          clear hk1
          by_cases hk3 : m.kind = 3
          · have t3 : (m.kind == 3) = true := by simp [hk3]
            have HK3 := Lib.hid hk3
            clear hk3
            go_wp2_with fail
            go_ret
            rw [HPR2.out]
            simp only [if_neg HK1.out, if_pos HK3.out]
            obtain ⟨r1, r2⟩ := IN2h.out.setBlk (b' := { b with bad := true }) HB.out rfl 2 (.bool true) (blkSet_bad _ _ _ _ _ IN2h.out.len HB.out) (Nand.setB_Ok CNT.out hbl.1 hbl.2.1 (by show b.worn ≤ s.ops + 1; have := hbl.2.2; omega))
            exact ⟨rfl, F, ⟨pb, _, vs, r1.alloc _⟩, MV2.out.trans ((MvSet IN2h.out.fb _ _).trans (Mv.below ((Below.refl _ _).alloc (Nat.le_refl _) _)))⟩
          · have t3 : (m.kind == 3) = false := by simp [hk3]
            have HK3 := Lib.hid hk3
            clear hk3
            have hwn : b.worn < 1000000000000000000 + 1 := by have := hbl.2.2; omega
            have hwn0 := hbl.2.1
            go_wp2_with fail
            go_ret
            rw [HPR2.out]
            simp only [if_neg HK1.out, if_neg HK3.out]
            obtain ⟨r1, r2⟩ := IN2h.out.newRow (b' := { b with pages := [] }) (v' := .slice none 0 0) HB.out HV.out rfl rfl (Keep.refl _ _) (World.ownsRow_nil _ _ _ _) (.inr (fun g hg => by simp [Value.ownBlock] at hg)) (Nand.setB_Ok CNT.out (Nat.zero_le _) hbl.2.1 (by show b.worn ≤ s.ops + 1; have := hbl.2.2; omega))
            have hil : n < s.b.length := (List.getElem?_eq_some_iff.1 HB.out).1
            have hb6 : (s.count.setB n { b with pages := [] }).b[n]? = some { b with pages := [] } := by simp [Nand.setB, Nand.count, hil]
            obtain ⟨r3, r4⟩ := r1.setBlk (b' := { b with pages := [], worn := b.worn + 1 }) hb6 rfl 1 (.int .i64 (b.worn + 1)) (blkSet_worn _ _ _ _ _ r1.len hb6) (Nand.setB_Ok r1.ok (Nat.zero_le _) (by show 0 ≤ b.worn + 1; omega) (by show b.worn + 1 ≤ s.ops + 1; have := hbl.2.2; omega))
            rw [Nand.setB_setB] at r3
            exact ⟨rfl, _, ⟨pb, _, _, r3.alloc _⟩, MV2.out.trans (r2.trans ((MvSet r1.fb _ _).trans (Mv.below ((Below.refl _ _).alloc (Nat.le_refl _) _))))⟩
      · rw [hbad] at k2
        have HBAD := Lib.hid hbad
        clear hbad
        go_wp2_with fail
        go_ret
        rw [HPR.out]
        simp only [HBAD.out, if_true]
        exact ⟨rfl, MvAt.same H.out (below_drewN BW.out _)⟩
  · have hpr : s.erase q = (9, s) := by
      unfold Nand.erase
      rw [hd, if_pos rfl]
    have HPR := Lib.hid hpr
    have HD := Lib.hid hd
    clear hpr hd
    go_enter Tryz.func78, Tryz.ntmps78
    go_wp2_with (go_at_call 62; refine (erase_ready _ F p s q w.heap.size (w.heap.size + 1) H1.out (X0.out.cell 0) (X1.out.cell 0)).mono ?_; rw [HD.out]; rintro e w' ⟨rfl, n, rfl⟩; rw [show errV (readyC true (s.has q)) = .iface 44 (.int .i64 9) from rfl])
    go_ret
    rw [HPR.out]
    exact ⟨rfl, MvAt.same H.out (below_drewN B0.out _)⟩
end Go.Proofs.YtfacgeappbgldaaGreatDoor.nd
