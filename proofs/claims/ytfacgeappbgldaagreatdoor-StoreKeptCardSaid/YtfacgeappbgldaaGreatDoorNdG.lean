/- Contracts of nand's Program, Read, Next, Bad, Worn, Ops, Up, Down, Geometry. (By wip/tools/gen_ndg.py.) -/
import Derived.Test.YtfacgeappbgldaaGreatDoorNdF
namespace Go.Proofs.YtfacgeappbgldaaGreatDoor.nd
open Go.RowKit Go.Proofs.YtfacgeappbgldaaGreatDoor.er
set_option linter.unusedVariables false

/-- What a call leaves that answers an error: the array s', the error c wrapped so. -/
def NdPost (w : World) (F : Nat → Prop) (p : Nat) (s' : Nand) (l : List (ByteArray × Int)) (c : Int) (e : Ending) (w' : World) : Prop :=
  ∃ v F', e = .returned v ∧ NandAt w' F' p s' ∧ Mv F w F' w' ∧ ErrW w' F' l c v
theorem wrapped {w w1 : World} {F F' : Nat → Prop} {p : Nat} {s' : Nand} (op : ByteArray) (k c : Int) (hc : c ≠ 0) (hn : NandAt w1 F' p s') (hm : Mv F w F' w1) :
    NandAt (w1.alloc (.cells #[.string op, .int .i64 k, .iface 44 (.int .i64 c)] 98)) F' p s' ∧ Mv F w F' (w1.alloc (.cells #[.string op, .int .i64 k, .iface 44 (.int .i64 c)] 98)) ∧
      ErrW (w1.alloc (.cells #[.string op, .int .i64 k, .iface 44 (.int .i64 c)] 98)) F' [(op, k)] c (.iface 94 (.pointer (some ⟨w1.heap.size, 0, none⟩))) := by
  have hb : Below w1.heap.size w1 (w1.alloc (.cells #[.string op, .int .i64 k, .iface 44 (.int .i64 c)] 98)) := (Below.refl _ _).alloc (Nat.le_refl _) _
  refine ⟨hn.below hb, hm.trans (Mv.below hb), .inr ⟨hc, [w1.heap.size], ⟨rfl, _, Whole.new _ _ _, rfl⟩, fun b hb => ?_⟩⟩
  obtain rfl : b = w1.heap.size := by simpa using hb
  obtain ⟨_, _, _, h⟩ := hn
  intro hf
  exact absurd (h.lt _ hf) (Nat.lt_irrefl _)
theorem hneq (p : Nat) (w : World) : (binOp .neq 22 (.pointer (some ⟨p, 0, none⟩)) (.pointer none)).run Tryz.prog w = .ok (.bool true) w := by kernel_rfl
theorem heql (p : Nat) (w : World) : (binOp .eql 22 (.pointer (some ⟨p, 0, none⟩)) (.pointer none)).run Tryz.prog w = .ok (.bool false) w := by kernel_rfl

theorem program_nil (q : Int) (t : ByteArray) (w : World) :
    Calls Tryz.prog 47 #[.pointer none, .int .i64 q, .string t] w fun e w' => e = .returned (errV 1) ∧ Below w.heap.size w w' := by
  have HB : Hid (Below w.heap.size w (((w.alloc (.cells #[.pointer none] 22)).alloc (.cells #[.int .i64 q] 3)).alloc (.cells #[.string t] 9))) := by show Below _ _ _; exact (((Below.refl _ _).alloc (Nat.le_refl _) _).alloc (by simp) _).alloc (by simp; omega) _
  go_enter Tryz.func47, Tryz.ntmps47
  go_wp2_with (go_at_call 62; refine (ready_nil _ _).mono ?_; rintro e w' ⟨rfl, rfl⟩; rw [show errV 1 = .iface 44 (.int .i64 1) from rfl])
  go_ret
  exact ⟨rfl, HB.out⟩

set_option maxHeartbeats 1000000 in
theorem Program_any (w : World) (F : Nat → Prop) (p : Nat) (s : Nand) (q : Int) (t : ByteArray) (h : NandAt w F p s) (ho : s.ops ≤ 1000000000000000000) (hts : t.size ≤ 9223372036854775807) :
    Calls Tryz.prog 31 #[.pointer (some ⟨p, 0, none⟩), .int .i64 q, .string t] w (NdPost w F p (s.program q t).2 [(⟨#[112, 114, 111, 103, 114, 97, 109]⟩, q)] (s.program q t).1) := by
  have H := Lib.hid h
  clear h
  by_cases hc : (s.program q t).1 = 0
  · have HC := Lib.hid hc
    have he : errV (s.program q t).1 = .nilIface := by rw [hc]; rfl
    have HE := Lib.hid he
    clear hc he
    go_enter Tryz.func31, Tryz.ntmps31
    go_wp2_with fail
    refine (program_any _ F p s q t H.out ho hts).mono ?_
    rw [HE.out]
    rintro e w1 ⟨rfl, F', hn, hm⟩
    have HN := Lib.hid hn
    have HM := Lib.hid hm
    clear hn hm
    go_wp2_with (go_at_call 34; refine (wrap_nil _ _ _).mono ?_; rintro e w' ⟨rfl, rfl⟩)
    go_ret
    exact ⟨_, F', rfl, HN.out, HM.out, .inl ⟨HC.out, rfl⟩⟩
  · have HC := Lib.hid hc
    have HE := Lib.hid (errV_ne hc)
    clear hc
    go_enter Tryz.func31, Tryz.ntmps31
    go_wp2_with fail
    refine (program_any _ F p s q t H.out ho hts).mono ?_
    rw [HE.out]
    rintro e w1 ⟨rfl, F', hn, hm⟩
    have W := Lib.hid (wrapped ⟨#[112, 114, 111, 103, 114, 97, 109]⟩ q _ HC.out hn hm)
    clear hn hm
    go_wp2_with (go_at_call 34; refine (wrap_err _ _ _ _ _).mono ?_; rintro e w' ⟨rfl, rfl⟩)
    go_ret
    exact ⟨_, F', rfl, W.out.1, W.out.2.1, W.out.2.2⟩
theorem Program_nil (q : Int) (t : ByteArray) (w : World) :
    Calls Tryz.prog 31 #[.pointer none, .int .i64 q, .string t] w fun e w' => ∃ v b, e = .returned v ∧ Below w.heap.size w w' ∧ ErrAt w' [b] [(⟨#[112, 114, 111, 103, 114, 97, 109]⟩, q)] 1 v := by
  go_enter Tryz.func31, Tryz.ntmps31
  go_wp2_with fail
  refine (program_nil q t _).mono ?_
  rintro e w1 ⟨rfl, hb⟩
  have HB := Lib.hid hb
  rw [show errV 1 = .iface 44 (.int .i64 1) from rfl]
  clear hb
  go_wp2_with (go_at_call 34; refine (wrap_err _ _ _ _ _).mono ?_; rintro e w' ⟨rfl, rfl⟩)
  go_ret
  exact ⟨_, _, rfl, HB.out.trans ((Below.refl _ _).alloc HB.out.size _), rfl, _, Whole.new _ _ _, rfl⟩

theorem Ops_any (w : World) (F : Nat → Prop) (p : Nat) (s : Nand) (h : NandAt w F p s) : Calls Tryz.prog 18 #[.pointer (some ⟨p, 0, none⟩)] w fun e w' => e = .returned (.int .i64 s.ops) ∧ w = w' := by
  obtain ⟨pb, pv, vs, h⟩ := h
  obtain ⟨c0, c1, c2, c3, c4, c5, hpl, hfz⟩ := h.hide
  have hn := heql p
  clear h c0 c1 c2 c4 c5 hfz
  go_enter Tryz.func18, Tryz.ntmps18
  go_wp2
  go_ret
  exact ⟨rfl, rfl⟩
theorem Ops_nil (w : World) : Calls Tryz.prog 18 #[.pointer none] w fun e w' => e = .returned (.int .i64 0) ∧ w = w' := by
  go_enter Tryz.func18, Tryz.ntmps18
  go_wp2
  go_ret
  exact ⟨rfl, rfl⟩
theorem Down_any (w : World) (F : Nat → Prop) (p : Nat) (s : Nand) (h : NandAt w F p s) : Calls Tryz.prog 20 #[.pointer (some ⟨p, 0, none⟩)] w fun e w' => e = .returned (.bool s.down) ∧ w = w' := by
  obtain ⟨pb, pv, vs, h⟩ := h
  obtain ⟨c0, c1, c2, c3, c4, c5, hpl, hfz⟩ := h.hide
  have hn := heql p
  clear h c0 c1 c2 c3 c4 hfz
  go_enter Tryz.func20, Tryz.ntmps20
  go_wp2
  go_ret
  exact ⟨rfl, rfl⟩
theorem Down_nil (w : World) : Calls Tryz.prog 20 #[.pointer none] w fun e w' => e = .returned (.bool true) ∧ w = w' := by
  go_enter Tryz.func20, Tryz.ntmps20
  go_wp2
  go_ret
  exact ⟨rfl, rfl⟩
theorem Up_nil (w : World) : Calls Tryz.prog 21 #[.pointer none] w fun e w' => e = .returned (.tuple #[]) ∧ w = w' := by
  go_enter Tryz.func21, Tryz.ntmps21
  go_wp2
  go_end0
  exact ⟨rfl, rfl⟩

set_option maxHeartbeats 1000000 in
theorem Next_any (w : World) (F : Nat → Prop) (p : Nat) (s : Nand) (q : Int) (h : NandAt w F p s) : Calls Tryz.prog 24 #[.pointer (some ⟨p, 0, none⟩), .int .i64 q] w fun e w' => e = .returned (.int .i64 (s.next q)) ∧ ∃ n, w' = w.drewN n := by
  have H := Lib.hid h
  obtain ⟨pb, pv, vs, h⟩ := h
  cases hq : s.has q
  · have HQ := Lib.hid hq
    clear h hq
    go_enter Tryz.func24, Tryz.ntmps24
    go_wp2_with (go_at_call 42; refine (block_any _ F p s q H.out).mono ?_; rw [HQ.out]; rintro e w' ⟨rfl, rfl⟩)
    go_ret
    exact ⟨by simp [Nand.next, HQ.out], 0, rfl⟩
  · have hq' := hq
    unfold Nand.has at hq'
    simp only [Bool.and_eq_true, decide_eq_true_eq] at hq'
    obtain ⟨n, rfl⟩ := Int.eq_ofNat_of_zero_le hq'.1
    have hlt : n < s.blocks := by omega
    have h64 : s.blocks ≤ 64 := h.ok.b1
    have hb := Nand.blk_at h.ok hlt
    have hbl := h.ok.pl _ _ hb
    have hp32 := h.ok.p1
    obtain ⟨c0, c1, c2, c3, c4, c5, hpl, hfz⟩ := h.hide
    obtain ⟨v, hv⟩ : ∃ v, vs[n]? = some v := ⟨vs[n]'(by rw [h.len, h.ok.bl]; exact hlt), List.getElem?_eq_getElem _⟩
    obtain ⟨e0, e1, e2⟩ := blkCells_at vs s.b n v _ hv hb
    obtain ⟨A, cap, rfl⟩ := own_slice (h.row _ _ _ hb hv)
    have k0 : w.cell? ⟨pb, n * 3, none⟩ = some (.slice A (s.blk n).pages.length cap) := by rw [h.blk.cell]; simpa using e0
    have k1 : w.cell? ⟨pb, n * 3 + 1, none⟩ = some (.int .i64 (s.blk n).worn) := by rw [h.blk.cell]; simpa using e1
    have k2 : w.cell? ⟨pb, n * 3 + 2, none⟩ = some (.bool (s.blk n).bad) := by rw [h.blk.cell]; simpa using e2
    have HQ := Lib.hid hq
    have hn0 : (0 : Int) ≤ (n : Int) := by omega
    have hn1 : (n : Int) < (s.blocks : Int) := by omega
    clear h hq hq' hb e0 e1 e2 hv c0 c1 c3 c4 c5 hfz
    go_enter Tryz.func24, Tryz.ntmps24
    go_wp2_with (go_at_call 42; refine (block_any _ F p s n H.out).mono ?_; rw [HQ.out]; rintro e w' ⟨rfl, rfl⟩)
    go_ret
    exact ⟨by simp [Nand.next, HQ.out], 0, rfl⟩

set_option maxHeartbeats 1000000 in
theorem Worn_any (w : World) (F : Nat → Prop) (p : Nat) (s : Nand) (q : Int) (h : NandAt w F p s) : Calls Tryz.prog 45 #[.pointer (some ⟨p, 0, none⟩), .int .i64 q] w fun e w' => e = .returned (.int .i64 (s.wornB q)) ∧ ∃ n, w' = w.drewN n := by
  have H := Lib.hid h
  obtain ⟨pb, pv, vs, h⟩ := h
  cases hq : s.has q
  · have HQ := Lib.hid hq
    clear h hq
    go_enter Tryz.func45, Tryz.ntmps45
    go_wp2_with (go_at_call 42; refine (block_any _ F p s q H.out).mono ?_; rw [HQ.out]; rintro e w' ⟨rfl, rfl⟩)
    go_ret
    exact ⟨by simp [Nand.wornB, HQ.out], 0, rfl⟩
  · have hq' := hq
    unfold Nand.has at hq'
    simp only [Bool.and_eq_true, decide_eq_true_eq] at hq'
    obtain ⟨n, rfl⟩ := Int.eq_ofNat_of_zero_le hq'.1
    have hlt : n < s.blocks := by omega
    have h64 : s.blocks ≤ 64 := h.ok.b1
    have hb := Nand.blk_at h.ok hlt
    have hbl := h.ok.pl _ _ hb
    have hp32 := h.ok.p1
    obtain ⟨c0, c1, c2, c3, c4, c5, hpl, hfz⟩ := h.hide
    obtain ⟨v, hv⟩ : ∃ v, vs[n]? = some v := ⟨vs[n]'(by rw [h.len, h.ok.bl]; exact hlt), List.getElem?_eq_getElem _⟩
    obtain ⟨e0, e1, e2⟩ := blkCells_at vs s.b n v _ hv hb
    obtain ⟨A, cap, rfl⟩ := own_slice (h.row _ _ _ hb hv)
    have k0 : w.cell? ⟨pb, n * 3, none⟩ = some (.slice A (s.blk n).pages.length cap) := by rw [h.blk.cell]; simpa using e0
    have k1 : w.cell? ⟨pb, n * 3 + 1, none⟩ = some (.int .i64 (s.blk n).worn) := by rw [h.blk.cell]; simpa using e1
    have k2 : w.cell? ⟨pb, n * 3 + 2, none⟩ = some (.bool (s.blk n).bad) := by rw [h.blk.cell]; simpa using e2
    have HQ := Lib.hid hq
    have hn0 : (0 : Int) ≤ (n : Int) := by omega
    have hn1 : (n : Int) < (s.blocks : Int) := by omega
    clear h hq hq' hb e0 e1 e2 hv c0 c1 c3 c4 c5 hfz
    go_enter Tryz.func45, Tryz.ntmps45
    go_wp2_with (go_at_call 42; refine (block_any _ F p s n H.out).mono ?_; rw [HQ.out]; rintro e w' ⟨rfl, rfl⟩)
    go_ret
    exact ⟨by simp [Nand.wornB, HQ.out], 0, rfl⟩

set_option maxHeartbeats 1000000 in
theorem Bad_any (w : World) (F : Nat → Prop) (p : Nat) (s : Nand) (q : Int) (h : NandAt w F p s) : Calls Tryz.prog 58 #[.pointer (some ⟨p, 0, none⟩), .int .i64 q] w fun e w' => e = .returned (.bool (s.badB q)) ∧ ∃ n, w' = w.drewN n := by
  have H := Lib.hid h
  obtain ⟨pb, pv, vs, h⟩ := h
  cases hq : s.has q
  · have HQ := Lib.hid hq
    clear h hq
    go_enter Tryz.func58, Tryz.ntmps58
    go_wp2_with (go_at_call 42; refine (block_any _ F p s q H.out).mono ?_; rw [HQ.out]; rintro e w' ⟨rfl, rfl⟩)
    go_ret
    exact ⟨by simp [Nand.badB, HQ.out], 0, rfl⟩
  · have hq' := hq
    unfold Nand.has at hq'
    simp only [Bool.and_eq_true, decide_eq_true_eq] at hq'
    obtain ⟨n, rfl⟩ := Int.eq_ofNat_of_zero_le hq'.1
    have hlt : n < s.blocks := by omega
    have h64 : s.blocks ≤ 64 := h.ok.b1
    have hb := Nand.blk_at h.ok hlt
    have hbl := h.ok.pl _ _ hb
    have hp32 := h.ok.p1
    obtain ⟨c0, c1, c2, c3, c4, c5, hpl, hfz⟩ := h.hide
    obtain ⟨v, hv⟩ : ∃ v, vs[n]? = some v := ⟨vs[n]'(by rw [h.len, h.ok.bl]; exact hlt), List.getElem?_eq_getElem _⟩
    obtain ⟨e0, e1, e2⟩ := blkCells_at vs s.b n v _ hv hb
    obtain ⟨A, cap, rfl⟩ := own_slice (h.row _ _ _ hb hv)
    have k0 : w.cell? ⟨pb, n * 3, none⟩ = some (.slice A (s.blk n).pages.length cap) := by rw [h.blk.cell]; simpa using e0
    have k1 : w.cell? ⟨pb, n * 3 + 1, none⟩ = some (.int .i64 (s.blk n).worn) := by rw [h.blk.cell]; simpa using e1
    have k2 : w.cell? ⟨pb, n * 3 + 2, none⟩ = some (.bool (s.blk n).bad) := by rw [h.blk.cell]; simpa using e2
    have HQ := Lib.hid hq
    have hn0 : (0 : Int) ≤ (n : Int) := by omega
    have hn1 : (n : Int) < (s.blocks : Int) := by omega
    clear h hq hq' hb e0 e1 e2 hv c0 c1 c3 c4 c5 hfz
    go_enter Tryz.func58, Tryz.ntmps58
    go_wp2_with (go_at_call 42; refine (block_any _ F p s n H.out).mono ?_; rw [HQ.out]; rintro e w' ⟨rfl, rfl⟩)
    go_ret
    exact ⟨by simp [Nand.badB, HQ.out], 0, rfl⟩

theorem Next_nil (q : Int) (w : World) : Calls Tryz.prog 24 #[.pointer none, .int .i64 q] w fun e w' => e = .returned (.int .i64 0) ∧ w = w' := by
  go_enter Tryz.func24, Tryz.ntmps24
  go_wp2_with (go_at_call 42; refine (block_nil _ _).mono ?_; rintro e w' ⟨rfl, rfl⟩)
  go_ret
  exact ⟨rfl, rfl⟩

theorem Worn_nil (q : Int) (w : World) : Calls Tryz.prog 45 #[.pointer none, .int .i64 q] w fun e w' => e = .returned (.int .i64 0) ∧ w = w' := by
  go_enter Tryz.func45, Tryz.ntmps45
  go_wp2_with (go_at_call 42; refine (block_nil _ _).mono ?_; rintro e w' ⟨rfl, rfl⟩)
  go_ret
  exact ⟨rfl, rfl⟩

theorem Bad_nil (q : Int) (w : World) : Calls Tryz.prog 58 #[.pointer none, .int .i64 q] w fun e w' => e = .returned (.bool false) ∧ w = w' := by
  go_enter Tryz.func58, Tryz.ntmps58
  go_wp2_with (go_at_call 42; refine (block_nil _ _).mono ?_; rintro e w' ⟨rfl, rfl⟩)
  go_ret
  exact ⟨rfl, rfl⟩
end Go.Proofs.YtfacgeappbgldaaGreatDoor.nd
