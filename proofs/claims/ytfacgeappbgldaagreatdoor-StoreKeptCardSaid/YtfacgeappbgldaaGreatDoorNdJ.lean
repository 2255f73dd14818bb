/- Contracts of nand's Erase, read, Read. (By wip/tools/gen_ndj.py.) -/
import Derived.Test.YtfacgeappbgldaaGreatDoorNdI
namespace Go.Proofs.YtfacgeappbgldaaGreatDoor.nd
open Go.RowKit Go.Proofs.YtfacgeappbgldaaGreatDoor.er
set_option linter.unusedVariables false

theorem erase_nil (q : Int) (w : World) :
    Calls Tryz.prog 78 #[.pointer none, .int .i64 q] w fun e w' => e = .returned (errV 1) ∧ Below w.heap.size w w' := by
  have HB : Hid (Below w.heap.size w ((w.alloc (.cells #[.pointer none] 22)).alloc (.cells #[.int .i64 q] 3))) := by show Below _ _ _; exact ((Below.refl _ _).alloc (Nat.le_refl _) _).alloc (by simp) _
  go_enter Tryz.func78, Tryz.ntmps78
  go_wp2_with (go_at_call 62; refine (ready_nil _ _).mono ?_; rintro e w' ⟨rfl, rfl⟩; rw [show errV 1 = .iface 44 (.int .i64 1) from rfl])
  go_ret
  exact ⟨rfl, HB.out⟩

set_option maxHeartbeats 1000000 in
theorem Erase_any (w : World) (F : Nat → Prop) (p : Nat) (s : Nand) (q : Int) (h : NandAt w F p s) (ho : s.ops ≤ 1000000000000000000) :
    Calls Tryz.prog 59 #[.pointer (some ⟨p, 0, none⟩), .int .i64 q] w (NdPost w F p (s.erase q).2 [(⟨#[101, 114, 97, 115, 101]⟩, q)] (s.erase q).1) := by
  have H := Lib.hid h
  clear h
  by_cases hc : (s.erase q).1 = 0
  · have HC := Lib.hid hc
    have he : errV (s.erase q).1 = .nilIface := by rw [hc]; rfl
    have HE := Lib.hid he
    clear hc he
    go_enter Tryz.func59, Tryz.ntmps59
    go_wp2_with fail
    refine (erase_any _ F p s q H.out ho).mono ?_
    rw [HE.out]
    rintro e w1 ⟨rfl, F', hn, hm⟩
    have HN := Lib.hid hn
    have HM := Lib.hid hm
    clear hn hm
    go_wp2_with (go_at_call 34; refine (wrap_nil _ _ _).mono ?_; rintro e w' ⟨rfl, rfl⟩)
    go_ret
    exact ⟨_, F', rfl, HN.out, HM.out, .inl ⟨HC.out, rfl⟩⟩
  · have HC := Lib.hid hc
    have HE := Lib.hid (errV_ne hc)
    clear hc
    go_enter Tryz.func59, Tryz.ntmps59
    go_wp2_with fail
    refine (erase_any _ F p s q H.out ho).mono ?_
    rw [HE.out]
    rintro e w1 ⟨rfl, F', hn, hm⟩
    have W := Lib.hid (wrapped ⟨#[101, 114, 97, 115, 101]⟩ q _ HC.out hn hm)
    clear hn hm
    go_wp2_with (go_at_call 34; refine (wrap_err _ _ _ _ _).mono ?_; rintro e w' ⟨rfl, rfl⟩)
    go_ret
    exact ⟨_, F', rfl, W.out.1, W.out.2.1, W.out.2.2⟩
theorem Erase_nil (q : Int) (w : World) :
    Calls Tryz.prog 59 #[.pointer none, .int .i64 q] w fun e w' => ∃ v b, e = .returned v ∧ Below w.heap.size w w' ∧ ErrAt w' [b] [(⟨#[101, 114, 97, 115, 101]⟩, q)] 1 v := by
  go_enter Tryz.func59, Tryz.ntmps59
  go_wp2_with fail
  refine (erase_nil q _).mono ?_
  rintro e w1 ⟨rfl, hb⟩
  have HB := Lib.hid hb
  rw [show errV 1 = .iface 44 (.int .i64 1) from rfl]
  clear hb
  go_wp2_with (go_at_call 34; refine (wrap_err _ _ _ _ _).mono ?_; rintro e w' ⟨rfl, rfl⟩)
  go_ret
  exact ⟨_, _, rfl, HB.out.trans ((Below.refl _ _).alloc HB.out.size _), rfl, _, Whole.new _ _ _, rfl⟩

set_option maxHeartbeats 4000000 in
set_option maxRecDepth 100000 in
theorem read_any (w : World) (F : Nat → Prop) (p : Nat) (s : Nand) (q : Int) (h : NandAt w F p s) :
    Calls Tryz.prog 72 #[.pointer (some ⟨p, 0, none⟩), .int .i64 q] w fun e w' => e = .returned (.tuple #[.string (s.read q).2, errV (s.read q).1]) ∧ Below w.heap.size w w' := by
  have B0 : Hid (Below w.heap.size w ((w.alloc (.cells #[.pointer (some ⟨p, 0, none⟩)] 22)).alloc (.cells #[.int .i64 q] 3))) := ((Below.refl _ _).alloc (Nat.le_refl _) _).alloc (by simp) _
  have H1 := Lib.hid (h.below B0.out)
  have X0 : Hid (Whole ((w.alloc (.cells #[.pointer (some ⟨p, 0, none⟩)] 22)).alloc (.cells #[.int .i64 q] 3)) w.heap.size 22 #[.pointer (some ⟨p, 0, none⟩)]) := (Whole.new _ _ _).alloc _
  have X1 : Hid (Whole ((w.alloc (.cells #[.pointer (some ⟨p, 0, none⟩)] 22)).alloc (.cells #[.int .i64 q] 3)) (w.heap.size + 1) 3 #[.int .i64 q]) := Whole.new' _ _ _ _ (by simp)
  have H := Lib.hid h
  clear h
  cases hd : s.down
  · cases hq : hasPage s q
    · have hpr : s.read q = (1, ⟨#[]⟩) := by
        unfold Nand.read
        rw [hd, if_neg (by decide), if_pos]
        unfold hasPage at hq
        simp at hq
        intro ⟨h1, h2⟩
        have := hq h1
        omega
      have HPR := Lib.hid hpr
      have HD := Lib.hid hd
      have HQ := Lib.hid hq
      clear hpr hd hq
      go_enter Tryz.func72, Tryz.ntmps72
      go_wp2_with (go_at_call 62; refine (read_ready _ F p s q w.heap.size (w.heap.size + 1) H1.out (X0.out.cell 0) (X1.out.cell 0)).mono ?_; rw [HD.out, HQ.out]; rintro e w' ⟨rfl, n, rfl⟩; rw [show errV (readyC false false) = .iface 44 (.int .i64 1) from rfl])
      go_ret2
      rw [HPR.out]
      exact ⟨rfl, below_drewN B0.out _⟩
    · have hq1 : 0 ≤ q ∧ q < (s.blocks : Int) * s.per := by
        unfold hasPage at hq
        simp only [Bool.and_eq_true, decide_eq_true_eq] at hq
        exact hq
      obtain ⟨n, rfl⟩ := Int.eq_ofNat_of_zero_le hq1.1
      have hOk := H.out.ok
      have hper0 : 0 < s.per := by have := hOk.p0; omega
      have hper1 : s.per ≤ 32 := hOk.p1
      have hb64 : s.blocks ≤ 64 := hOk.b1
      have hnlt : n < s.blocks * s.per := by have := hq1.2; exact_mod_cast this
      have hdiv : n / s.per < s.blocks := Nat.div_lt_of_lt_mul (by rw [Nat.mul_comm]; exact hnlt)
      have hn : n < 2048 := Nat.lt_of_lt_of_le hnlt (by have := Nat.mul_le_mul hb64 hper1; omega)
      have hb := Nand.blk_at hOk hdiv
      have hbl := hOk.pl _ _ hb
      have hpr : s.read n = (match (s.blk (n / s.per)).pages[n % s.per]? with | none => (42, ⟨#[]⟩) | some t => (0, t)) := by
        unfold Nand.read
        rw [hd, if_neg (by decide), if_neg (by intro h; exact h ⟨hq1.1, hq1.2⟩)]
        rfl
      generalize hbb : s.blk (n / s.per) = b at *
      have HPR := Lib.hid hpr
      have HD := Lib.hid hd
      have HQ := Lib.hid hq
      have HBB := Lib.hid hbb
      have HOK := Lib.hid hOk
      have HB := Lib.hid hb
      have hdi0 : (0 : Int) ≤ ((n / s.per : Nat) : Int) := Int.natCast_nonneg _
      have hdi1 : ((n / s.per : Nat) : Int) < (s.blocks : Int) := by exact_mod_cast hdiv
      have hmi0 : (0 : Int) ≤ ((n % s.per : Nat) : Int) := Int.natCast_nonneg _
      have hwd : IntKind.i64.wrap ((n : Int).tdiv (s.per : Int)) = ((n / s.per : Nat) : Int) := by
        rw [← Int.ofNat_tdiv, IntKind.wrap_i64]
        have : n / s.per ≤ n := Nat.div_le_self _ _
        omega
      have hwm : IntKind.i64.wrap ((n : Int).tmod (s.per : Int)) = ((n % s.per : Nat) : Int) := by
        rw [← Int.ofNat_tmod, IntKind.wrap_i64]
        have : n % s.per ≤ n := Nat.mod_le _ _
        omega
      clear hpr hd hq hq1 hbb hOk hb
      go_enter Tryz.func72, Tryz.ntmps72
      go_wp2_with fail
      refine (read_ready _ F p s n w.heap.size (w.heap.size + 1) H1.out (X0.out.cell 0) (X1.out.cell 0)).mono ?_
      rw [HD.out, HQ.out]
      rintro e W ⟨rfl, nd, hW⟩
      rw [show errV (readyC false true) = .nilIface from rfl]
      have BW : Hid (Below w.heap.size w W) := by subst hW; exact below_drewN B0.out _
      have x0 : W.cell? ⟨w.heap.size, 0, none⟩ = some (.pointer (some ⟨p, 0, none⟩)) := by subst hW; exact X0.out.cell 0
      have x1 : W.cell? ⟨w.heap.size + 1, 0, none⟩ = some (.int .i64 n) := by subst hW; exact X1.out.cell 0
      obtain ⟨pb, pv, vs, IN0⟩ : ∃ pb pv vs, NandIn W F p s pb pv vs := by subst hW; exact H1.out.below (below_drewN (Below.refl _ _) nd)
      clear hW
      have IN := Lib.hid IN0
      obtain ⟨c0, c1, c2, c3, c4, c5, hpl, hfz⟩ := IN0.hide
      obtain ⟨v, hv⟩ : ∃ v, vs[n / s.per]? = some v := ⟨vs[n / s.per]'(by rw [IN0.len, HOK.out.bl]; exact hdiv), List.getElem?_eq_getElem _⟩
      obtain ⟨e0, e1, e2⟩ := blkCells_at vs s.b (n / s.per) v b hv HB.out
      obtain ⟨A, cap, hvA⟩ := own_slice (IN0.row _ _ _ HB.out hv)
      subst hvA
      have k0 : W.cell? ⟨pb, n / s.per * 3, none⟩ = some (.slice A b.pages.length cap) := by rw [IN0.blk.cell]; simpa using e0
      have ROW := Lib.hid (IN0.row _ _ _ HB.out hv)
      have hlen32 : b.pages.length ≤ 32 := by have := hbl.1; omega
      clear hv e0 e1 e2 IN0 c0 c3 c4 c5 hfz
      cases hpg : b.pages[n % s.per]? with
      | none =>
        have hge : ((b.pages.length : Nat) : Int) ≤ ((n % s.per : Nat) : Int) := by
          have := List.getElem?_eq_none_iff.1 hpg
          exact_mod_cast this
        have HPG := Lib.hid hpg
        clear hpg
        go_wp2_with fail
        go_quiet (fail)
        go_wp2_with fail
        go_ret2
        rw [HPR.out, HPG.out]
        exact ⟨rfl, below_drewN BW.out _⟩
      | some t =>
        have hlt : n % s.per < b.pages.length := (List.getElem?_eq_some_iff.1 hpg).1
        have hlt' : ((n % s.per : Nat) : Int) < ((b.pages.length : Nat) : Int) := by exact_mod_cast hlt
        obtain ⟨g, rfl, hg0, hgl, hgc, hcells, _⟩ := own_cell ROW.out (by omega)
        have kc := hcells (n % s.per) (.string t) (by rw [List.getElem?_map, hpg]; rfl)
        have HPG := Lib.hid hpg
        clear hpg hcells
        go_wp2_with fail
        go_quiet (fail)
        go_wp2_with fail
        go_ret2
        rw [HPR.out, HPG.out]
        exact ⟨rfl, below_drewN BW.out _⟩
  · have hpr : s.read q = (9, ⟨#[]⟩) := by
      unfold Nand.read
      rw [hd, if_pos rfl]
    have HPR := Lib.hid hpr
    have HD := Lib.hid hd
    clear hpr hd
    go_enter Tryz.func72, Tryz.ntmps72
    go_wp2_with (go_at_call 62; refine (read_ready _ F p s q w.heap.size (w.heap.size + 1) H1.out (X0.out.cell 0) (X1.out.cell 0)).mono ?_; rw [HD.out]; rintro e w' ⟨rfl, n, rfl⟩; rw [show errV (readyC true (hasPage s q)) = .iface 44 (.int .i64 9) from rfl])
    go_ret2
    rw [HPR.out]
    exact ⟨rfl, below_drewN B0.out _⟩
end Go.Proofs.YtfacgeappbgldaaGreatDoor.nd
