/- store: place, where the open block is full, and where no block is free. -/
import Derived.Test.YtfacgeappbgldaaGreatDoorStC
namespace Go.Proofs.YtfacgeappbgldaaGreatDoor.st
open Go.RowKit Go.Proofs.YtfacgeappbgldaaGreatDoor.er Go.Proofs.YtfacgeappbgldaaGreatDoor.nd Go.Proofs.YtfacgeappbgldaaGreatDoor.we Go.Proofs.YtfacgeappbgldaaGreatDoor.ge Go.Proofs.YtfacgeappbgldaaGreatDoor.pg
attribute [local go_sem ↓] Go.wp_at_zero Go.wp_at_succ
set_option linter.unusedVariables false

set_option maxHeartbeats 4000000 in
set_option maxRecDepth 100000 in
/-- The open block is full: it is sealed, a free one is opened. -/
theorem place_full (w : World) (q p : Nat) (sv vv : Value) (N : Nat → Prop) (s : Sto) (o b : Nat) (h : StoIn w q p sv vv N s) (ho : s.op = (o : Int)) (hr : (s.n.per : Int) ≤ s.n.next (o : Int)) (hp : pickL (tabOf s.sealed) = (b : Int)) (hb : b < s.sealed.n.blocks) :
    Calls Tryz.prog 71 #[.pointer (some ⟨q, 0, none⟩)] w fun e w' => e = .returned (.tuple #[.int .i64 ((b : Int) * s.sealed.n.per + s.sealed.n.next (b : Int)), .nilIface]) ∧ StoIn w' q p sv vv N (s.sealed.opened b) ∧ Moved w q sv vv N w' N := by
  have H := Lib.hid h
  have hok := h.arr.ok
  have hB0 := hok.b0
  have hB1 := hok.b1
  have hP0 := hok.p0
  have hP1 := hok.p1
  have h1 := h.o1
  rw [ho] at h1
  have hop : 0 ≤ s.op := by omega
  have hnx := next_le hok (o : Int)
  obtain ⟨x, hx⟩ : ∃ x, s.n.next (o : Int) = x := ⟨_, rfl⟩
  rw [hx] at hr hnx
  have HX := Lib.hid hx
  obtain ⟨c0, c1, c2, _, _, _, _, c10, _⟩ := h.cells
  rw [ho] at c10
  have B0 := Lib.hid (Below.refl w.heap.size w).drew
  have HK : Hid (∀ w', Below w.heap.size w w' → (w'.cell? ⟨q, 0, none⟩ = some (.pointer (some ⟨p, 0, none⟩)) ∧ w'.cell? ⟨q, 1, none⟩ = some (.int .i64 s.n.blocks) ∧ w'.cell? ⟨q, 2, none⟩ = some (.int .i64 s.n.per) ∧ w'.cell? ⟨q, 10, none⟩ = some (.int .i64 (o : Int)))) := fun w' hb => ⟨below_c hb c0, below_c hb c1, below_c hb c2, below_c hb c10⟩
  have SA := Lib.hid (HK.out _ (Below.refl _ _))
  obtain ⟨s1, hs1⟩ : ∃ s1, s.sealed = s1 := ⟨_, rfl⟩
  have ho1 : s1.op = -1 := by rw [← hs1, Sto.sealed, if_pos hop]
  have HSE : Hid (∀ wq, StoIn wq q p sv vv N s → Calls Tryz.prog 29 #[.pointer (some ⟨q, 0, none⟩)] wq fun e w' => e = .returned (.tuple #[]) ∧ StoIn w' q p sv vv N s1 ∧ Moved wq q sv vv N w' N) := fun wq hq => hs1 ▸ seal_yes wq q p sv vv N s hq hop
  rw [hs1] at hp hb ⊢
  obtain ⟨X, hX⟩ : ∃ X, s1.n.next (b : Int) = X := ⟨_, rfl⟩
  obtain ⟨y, hy⟩ : ∃ y, (b : Int) * (s1.n.per : Int) = y := ⟨_, rfl⟩
  rw [hX, hy]
  clear h hok hx ho hs1 hop
  go_enter Tryz.func71, Tryz.ntmps71
  go_wp2_with fail
  go_region_held3 (fun w' => w'.cell? ⟨q, 0, none⟩ = some (.pointer (some ⟨p, 0, none⟩)) ∧ w'.cell? ⟨q, 1, none⟩ = some (.int .i64 s.n.blocks) ∧ w'.cell? ⟨q, 2, none⟩ = some (.int .i64 s.n.per) ∧ w'.cell? ⟨q, 10, none⟩ = some (.int .i64 (o : Int))) (first | exact SA.out | exact HK.out _ HB1.out) ((go_at_call 24; refine (Next_any _ N p s.n (o : Int) (H.out.below B0.out).arr).mono ?_; rw [HX.out]; rintro e w1 ⟨rfl, d, rfl⟩; have HB1 := Lib.hid (below_drewN B0.out d)))
  go_wp2_with fail
  have HBk := Lib.hid (below_drewN (Below.refl w.heap.size w) (1 + d))
  refine (HSE.out _ (H.out.below HBk.out)).mono ?_
  rintro e wt ⟨rfl, hst, hmt⟩
  have H1 := Lib.hid hst
  have M1 := Lib.hid ((Moved.below HBk.out).trans hmt)
  have c10 := hst.cells.c10
  rw [ho1] at c10
  have hokt := H1.out.arr.ok
  have tB0 := hokt.b0
  have tB1 := hokt.b1
  have tP0 := hokt.p0
  have tP1 := hokt.p1
  have hlst := H1.out.ls
  have tb1 : (b : Int) < (s1.n.blocks : Int) := by omega
  have hbl : b < s1.state.length := by omega
  have hbli : (b : Int) < (s1.state.length : Int) := by omega
  have tnx := next_le hokt (b : Int)
  have hpr := prod_nat (Int.natCast_nonneg b) tb1 (by omega) (show (8 : Int) ≤ (s1.n.per : Int) by omega) (by omega)
  rw [hX] at tnx
  rw [hy] at hpr
  have HX2 := Lib.hid hX
  have HFI : Hid (∀ wq, Calls Tryz.prog 91 #[.agg #[.int .i64 s1.n.blocks, .int .i64 s1.n.per], .int .i64 (b : Int)] wq fun e w' => e = .returned (.int .i64 y) ∧ Below wq.heap.size wq w') := fun wq => hy ▸ first_in s1.n.blocks s1.n.per b wq (by omega) (by omega) (by omega) (by omega) (Int.natCast_nonneg b) tb1
  have HP : Hid (∀ wq v, TabAt wq v (tabOf s1) → Calls Tryz.prog 90 #[v] wq fun e w' => e = .returned (.int .i64 (b : Int)) ∧ Below wq.heap.size wq w') := fun wq v ht => hp ▸ pick_any (tabOf s1) v wq ht
  clear hokt hX hy hp
  clear hst hmt
  go_wp2_with fail
  refine (table_any _ _ _ _ _ N s1 H1.out).mono ?_
  rintro e w1b ⟨v, rfl, ht, hb1⟩
  have HT := Lib.hid ht
  have HB1b := Lib.hid hb1
  clear hb1 ht
  go_wp2_with fail
  refine (HP.out _ _ HT.out).mono ?_
  rintro e w2 ⟨rfl, hb2⟩
  have HB2 := Lib.hid (HB1b.out.trans (hb2.mono HB1b.out.size))
  have H2 := Lib.hid (H1.out.below HB2.out)
  have M2 := Lib.hid (M1.out.trans (Moved.below HB2.out))
  obtain ⟨A, c, rfl⟩ := own_slice H2.out.st
  obtain ⟨g, rfl, _, _, _, _, _⟩ := own_cell H2.out.st (by omega)
  have hgq := (H2.out.ds g rfl).2
  have d10 := H2.out.cells.c10
  have f10 := H2.out.obj.fz 10
  have H3 := Lib.hid (H2.out.setOp (b : Int) (by omega) tb1)
  obtain ⟨e0, e1, e2, _, _, e8, _, e10, _⟩ := H3.out.cells
  obtain ⟨gx, hgx, _, _, _, hcs, hfs⟩ := own_cell H3.out.st (by show 0 < s1.state.length; omega)
  obtain rfl : g = gx := by injection hgx with hgx; injection hgx with hgx
  obtain ⟨z, hz⟩ : ∃ z, s1.state[b]? = some z := ⟨s1.state[b], List.getElem?_eq_getElem hbl⟩
  have a0 := hcs b _ (ints_at _ _ _ hz)
  have a1 := hfs b
  have SA3 : Hid (((w2.setCell ⟨q, 10, none⟩ (.int .i64 b)).cell? ⟨q, 0, none⟩ = some (.pointer (some ⟨p, 0, none⟩)) ∧ (w2.setCell ⟨q, 10, none⟩ (.int .i64 b)).cell? ⟨q, 1, none⟩ = some (.int .i64 s1.n.blocks) ∧ (w2.setCell ⟨q, 10, none⟩ (.int .i64 b)).cell? ⟨q, 2, none⟩ = some (.int .i64 s1.n.per) ∧ (w2.setCell ⟨q, 10, none⟩ (.int .i64 b)).cell? ⟨q, 8, none⟩ = some (.slice (some ⟨g, 0, none⟩) s1.state.length c) ∧ (w2.setCell ⟨q, 10, none⟩ (.int .i64 b)).cell? ⟨q, 10, none⟩ = some (.int .i64 (b : Int)))) := ⟨e0, e1, e2, e8, e10⟩
  have KS := Keep.set1 (w2.setCell ⟨q, 10, none⟩ (.int .i64 b)) g b (.int .i64 1)
  have SB3 : Hid ((((w2.setCell ⟨q, 10, none⟩ (.int .i64 b)).setCell ⟨g, b, none⟩ (.int .i64 1)).cell? ⟨q, 0, none⟩ = some (.pointer (some ⟨p, 0, none⟩)) ∧ ((w2.setCell ⟨q, 10, none⟩ (.int .i64 b)).setCell ⟨g, b, none⟩ (.int .i64 1)).cell? ⟨q, 1, none⟩ = some (.int .i64 s1.n.blocks) ∧ ((w2.setCell ⟨q, 10, none⟩ (.int .i64 b)).setCell ⟨g, b, none⟩ (.int .i64 1)).cell? ⟨q, 2, none⟩ = some (.int .i64 s1.n.per) ∧ ((w2.setCell ⟨q, 10, none⟩ (.int .i64 b)).setCell ⟨g, b, none⟩ (.int .i64 1)).cell? ⟨q, 8, none⟩ = some (.slice (some ⟨g, 0, none⟩) s1.state.length c) ∧ ((w2.setCell ⟨q, 10, none⟩ (.int .i64 b)).setCell ⟨g, b, none⟩ (.int .i64 1)).cell? ⟨q, 10, none⟩ = some (.int .i64 (b : Int)))) := ⟨KS.cell e0 (fun e => hgq e.symm), KS.cell e1 (fun e => hgq e.symm), KS.cell e2 (fun e => hgq e.symm), KS.cell e8 (fun e => hgq e.symm), KS.cell e10 (fun e => hgq e.symm)⟩
  have H4 := Lib.hid (StoIn.setState (s := { s1 with op := (b : Int) }) H3.out b 1 hbl)
  have HK4 : Hid (∀ w', Below ((w2.setCell ⟨q, 10, none⟩ (.int .i64 b)).setCell ⟨g, b, none⟩ (.int .i64 1)).heap.size ((w2.setCell ⟨q, 10, none⟩ (.int .i64 b)).setCell ⟨g, b, none⟩ (.int .i64 1)) w' → (w'.cell? ⟨q, 0, none⟩ = some (.pointer (some ⟨p, 0, none⟩)) ∧ w'.cell? ⟨q, 1, none⟩ = some (.int .i64 s1.n.blocks) ∧ w'.cell? ⟨q, 2, none⟩ = some (.int .i64 s1.n.per) ∧ w'.cell? ⟨q, 8, none⟩ = some (.slice (some ⟨g, 0, none⟩) s1.state.length c) ∧ w'.cell? ⟨q, 10, none⟩ = some (.int .i64 (b : Int)))) := fun w' hb => ⟨below_c hb SB3.out.1, below_c hb SB3.out.2.1, below_c hb SB3.out.2.2.1, below_c hb SB3.out.2.2.2.1, below_c hb SB3.out.2.2.2.2⟩
  have HBT4 : Hid (∀ wq, Below ((w2.setCell ⟨q, 10, none⟩ (.int .i64 b)).setCell ⟨g, b, none⟩ (.int .i64 1)).drew.drew.heap.size ((w2.setCell ⟨q, 10, none⟩ (.int .i64 b)).setCell ⟨g, b, none⟩ (.int .i64 1)).drew.drew wq → Below ((w2.setCell ⟨q, 10, none⟩ (.int .i64 b)).setCell ⟨g, b, none⟩ (.int .i64 1)).heap.size ((w2.setCell ⟨q, 10, none⟩ (.int .i64 b)).setCell ⟨g, b, none⟩ (.int .i64 1)) wq) := fun wq hb => (Below.refl _ _).drew.drew.trans hb
  clear hb2 hcs hfs hgx KS hz
  go_wp2_with fail
  go_region_held3 (fun w' => w'.cell? ⟨q, 0, none⟩ = some (.pointer (some ⟨p, 0, none⟩)) ∧ w'.cell? ⟨q, 1, none⟩ = some (.int .i64 s1.n.blocks) ∧ w'.cell? ⟨q, 2, none⟩ = some (.int .i64 s1.n.per) ∧ w'.cell? ⟨q, 8, none⟩ = some (.slice (some ⟨g, 0, none⟩) s1.state.length c) ∧ w'.cell? ⟨q, 10, none⟩ = some (.int .i64 (b : Int))) (first | exact SA3.out | exact SB3.out) (fail)
  go_wp2_with fail
  go_region_held3 (fun w' => w'.cell? ⟨q, 0, none⟩ = some (.pointer (some ⟨p, 0, none⟩)) ∧ w'.cell? ⟨q, 1, none⟩ = some (.int .i64 s1.n.blocks) ∧ w'.cell? ⟨q, 2, none⟩ = some (.int .i64 s1.n.per) ∧ w'.cell? ⟨q, 8, none⟩ = some (.slice (some ⟨g, 0, none⟩) s1.state.length c) ∧ w'.cell? ⟨q, 10, none⟩ = some (.int .i64 (b : Int))) (first | exact SB3.out | exact HK4.out _ HB5.out | exact HK4.out _ (below_drewN HB5.out _)) (first | (go_at_call 24; refine (Next_any _ N p s1.n (b : Int) (H4.out.below HB5.out).arr).mono ?_; rw [HX2.out]; rintro e w6 ⟨rfl, d6, rfl⟩) | (go_at_call 91; refine (HFI.out _).mono ?_; rintro e w5 ⟨rfl, hb5⟩; have HB5 := Lib.hid (HBT4.out _ hb5); clear hb5))
  go_wp2_with fail
  have hw : IntKind.i64.wrap (y + X) = y + X := by rw [IntKind.wrap_i64]; omega
  refine bodyPost_ret (v := .tuple #[.int .i64 (y + X), .nilIface]) (by simp [results, Tryz.results71, go_sem, hw]) rfl ⟨rfl, (H4.out.below HB5.out).drewN _, ((((M2.out).setQ 10 _).setS rfl b _).trans (Moved.below HB5.out)).drewN _⟩
set_option maxHeartbeats 4000000 in
set_option maxRecDepth 100000 in
/-- None is open, none is free. -/
theorem place_no (w : World) (q p : Nat) (sv vv : Value) (N : Nat → Prop) (s : Sto) (h : StoIn w q p sv vv N s) (ho : s.op = -1) (hp : pickL (tabOf s) = -1) :
    Calls Tryz.prog 71 #[.pointer (some ⟨q, 0, none⟩)] w fun e w' => e = .returned (.tuple #[.int .i64 0, .iface 44 (.int .i64 60)]) ∧ StoIn w' q p sv vv N (s) ∧ Moved w q sv vv N w' N := by
  have H := Lib.hid h
  have c10 := h.cells.c10
  rw [ho] at c10
  have H1 := Lib.hid (h.drewN 1)
  have M1 := Lib.hid (Moved.below (q := q) (sv := sv) (vv := vv) (N := N) (below_drewN (Below.refl w.heap.size w) 1))
  have ho1 := ho
  have HP : Hid (∀ wq v, TabAt wq v (tabOf s) → Calls Tryz.prog 90 #[v] wq fun e w' => e = .returned (.int .i64 (-1)) ∧ Below wq.heap.size wq w') := fun wq v ht => hp ▸ pick_any (tabOf s) v wq ht
  clear hp
  clear h ho
  go_enter Tryz.func71, Tryz.ntmps71
  go_wp2_with fail
  refine wp_region_held_drew (S := fun w' => w'.cell? ⟨q, 10, none⟩ = some (.int .i64 (-1))) (by kernel_rfl) c10 (fun hHeld => ?_)
  refine wpAnyH_take (i := 0) (oi := { dst := some 4, op := _, type := _, pos := _, after := _, guard := _ }) (v := ?_) rfl (by kernel_rfl) (by kernel_rfl) (by kernel_rfl) (fun _ _ _ h => h) (Or.inl ⟨by rfl, ?_⟩) (by assumption) ?_
  rotate_left
  · intro wz hSw; (try dsimp only at hSw); go_simp; (try with_reducible rfl)
  try simp only [Act.put, List.setIfInBounds_toArray, List.set_cons_zero, List.set_cons_succ]
  refine wpAnyH_take (i := 1) (oi := { dst := some 5, op := _, type := _, pos := _, after := _, guard := _ }) (v := ?_) rfl (by kernel_rfl) (by kernel_rfl) (by kernel_rfl) (fun _ _ _ h => h) (Or.inl ⟨by rfl, ?_⟩) (by assumption) ?_
  rotate_left
  · intro wz hSw; (try dsimp only at hSw); go_simp; (try with_reducible rfl)
  try simp only [Act.put, List.setIfInBounds_toArray, List.set_cons_zero, List.set_cons_succ]
  refine wpAnyH_take (i := 2) (oi := { dst := some 6, op := _, type := _, pos := _, after := _, guard := _ }) (v := ?_) rfl (by kernel_rfl) (by kernel_rfl) (by kernel_rfl) (fun _ _ _ h => h) (Or.inl ⟨by rfl, ?_⟩) (by assumption) ?_
  rotate_left
  · intro wz hSw; (try dsimp only at hSw); go_simp; (try with_reducible rfl)
  try simp only [Act.put, List.setIfInBounds_toArray, List.set_cons_zero, List.set_cons_succ]
  refine wpAnyH_take (i := 3) (oi := { dst := some 7, op := _, type := _, pos := _, after := _, guard := _ }) (v := ?_) rfl (by kernel_rfl) (by kernel_rfl) (by kernel_rfl) (fun _ _ _ h => h) (Or.inl ⟨by rfl, ?_⟩) (by assumption) ?_
  rotate_left
  · intro wz hSw; (try dsimp only at hSw); go_simp; (try with_reducible rfl)
  try simp only [Act.put, List.setIfInBounds_toArray, List.set_cons_zero, List.set_cons_succ]
  refine wpAnyH_take (i := 4) (oi := { dst := some 8, op := _, type := _, pos := _, after := _, guard := _ }) (v := ?_) rfl (by kernel_rfl) (by kernel_rfl) (by kernel_rfl) (fun _ _ _ h => h) (Or.inl ⟨by rfl, ?_⟩) (by assumption) ?_
  rotate_left
  · intro wz hSw; (try dsimp only at hSw); go_simp; (try with_reducible rfl)
  try simp only [Act.put, List.setIfInBounds_toArray, List.set_cons_zero, List.set_cons_succ]
  refine wpAnyH_take (i := 5) (oi := { dst := some 9, op := _, type := _, pos := _, after := _, guard := _ }) (v := ?_) rfl (by kernel_rfl) (by kernel_rfl) (by kernel_rfl) (fun _ _ _ h => h) (Or.inl ⟨by rfl, ?_⟩) (by assumption) ?_
  rotate_left
  · intro wz hSw; (try dsimp only at hSw); go_simp; (try with_reducible rfl)
  try simp only [Act.put, List.setIfInBounds_toArray, List.set_cons_zero, List.set_cons_succ]
  refine wpAnyH_take (i := 6) (oi := { dst := some 10, op := _, type := _, pos := _, after := _, guard := _ }) (v := undef) rfl (by kernel_rfl) (by kernel_rfl) (by kernel_rfl) (fun _ _ _ h => h) (Or.inr ⟨by rfl, rfl⟩) (by assumption) ?_
  try simp only [Act.put, List.setIfInBounds_toArray, List.set_cons_zero, List.set_cons_succ]
  refine wpAnyH_take (i := 7) (oi := { dst := some 11, op := _, type := _, pos := _, after := _, guard := _ }) (v := undef) rfl (by kernel_rfl) (by kernel_rfl) (by kernel_rfl) (fun _ _ _ h => h) (Or.inr ⟨by rfl, rfl⟩) (by assumption) ?_
  try simp only [Act.put, List.setIfInBounds_toArray, List.set_cons_zero, List.set_cons_succ]
  refine wpAnyH_take (i := 8) (oi := { dst := some 12, op := _, type := _, pos := _, after := _, guard := _ }) (v := undef) rfl (by kernel_rfl) (by kernel_rfl) (by kernel_rfl) (fun _ _ _ h => h) (Or.inr ⟨by rfl, rfl⟩) (by assumption) ?_
  try simp only [Act.put, List.setIfInBounds_toArray, List.set_cons_zero, List.set_cons_succ]
  refine wpAnyH_take (i := 9) (oi := { dst := some 13, op := _, type := _, pos := _, after := _, guard := _ }) (v := undef) rfl (by kernel_rfl) (by kernel_rfl) (by kernel_rfl) (fun _ _ _ h => h) (Or.inr ⟨by rfl, rfl⟩) (by assumption) ?_
  try simp only [Act.put, List.setIfInBounds_toArray, List.set_cons_zero, List.set_cons_succ]
  refine wpAnyH_take (i := 10) (oi := { dst := some 14, op := _, type := _, pos := _, after := _, guard := _ }) (v := undef) rfl (by kernel_rfl) (by kernel_rfl) (by kernel_rfl) (fun _ _ _ h => h) (Or.inr ⟨by rfl, rfl⟩) (by assumption) ?_
  try simp only [Act.put, List.setIfInBounds_toArray, List.set_cons_zero, List.set_cons_succ]
  refine wpAnyH_take (i := 11) (oi := { dst := some 15, op := _, type := _, pos := _, after := _, guard := _ }) (v := undef) rfl (by kernel_rfl) (by kernel_rfl) (by kernel_rfl) (fun _ _ _ h => h) (Or.inr ⟨by rfl, rfl⟩) (by assumption) ?_
  try simp only [Act.put, List.setIfInBounds_toArray, List.set_cons_zero, List.set_cons_succ]
  refine wpAnyH_take (i := 12) (oi := { dst := some 16, op := _, type := _, pos := _, after := _, guard := _ }) (v := undef) rfl (by kernel_rfl) (by kernel_rfl) (by kernel_rfl) (fun _ _ _ h => h) (Or.inr ⟨by rfl, rfl⟩) (by assumption) ?_
  try simp only [Act.put, List.setIfInBounds_toArray, List.set_cons_zero, List.set_cons_succ]
  refine wpAnyH_take (i := 13) (oi := { dst := some 17, op := _, type := _, pos := _, after := _, guard := _ }) (v := undef) rfl (by kernel_rfl) (by kernel_rfl) (by kernel_rfl) (fun _ _ _ h => h) (Or.inr ⟨by rfl, rfl⟩) (by assumption) ?_
  try simp only [Act.put, List.setIfInBounds_toArray, List.set_cons_zero, List.set_cons_succ]
  refine wpAnyH_take (i := 14) (oi := { dst := some 18, op := _, type := _, pos := _, after := _, guard := _ }) (v := undef) rfl (by kernel_rfl) (by kernel_rfl) (by kernel_rfl) (fun _ _ _ h => h) (Or.inr ⟨by rfl, rfl⟩) (by assumption) ?_
  try simp only [Act.put, List.setIfInBounds_toArray, List.set_cons_zero, List.set_cons_succ]
  refine wpAnyH_take (i := 15) (oi := { dst := some 19, op := _, type := _, pos := _, after := _, guard := _ }) (v := undef) rfl (by kernel_rfl) (by kernel_rfl) (by kernel_rfl) (fun _ _ _ h => h) (Or.inr ⟨by rfl, rfl⟩) (by assumption) ?_
  try simp only [Act.put, List.setIfInBounds_toArray, List.set_cons_zero, List.set_cons_succ]
  refine wpAnyH_take (i := 16) (oi := { dst := some 20, op := _, type := _, pos := _, after := _, guard := _ }) (v := undef) rfl (by kernel_rfl) (by kernel_rfl) (by kernel_rfl) (fun _ _ _ h => h) (Or.inr ⟨by rfl, rfl⟩) (by assumption) ?_
  try simp only [Act.put, List.setIfInBounds_toArray, List.set_cons_zero, List.set_cons_succ]
  refine wpAnyH_take (i := 17) (oi := { dst := some 21, op := _, type := _, pos := _, after := _, guard := _ }) (v := undef) rfl (by kernel_rfl) (by kernel_rfl) (by kernel_rfl) (fun _ _ _ h => h) (Or.inr ⟨by rfl, rfl⟩) (by assumption) ?_
  try simp only [Act.put, List.setIfInBounds_toArray, List.set_cons_zero, List.set_cons_succ]
  refine wpAnyH_take (i := 18) (oi := { dst := some 22, op := _, type := _, pos := _, after := _, guard := _ }) (v := undef) rfl (by kernel_rfl) (by kernel_rfl) (by kernel_rfl) (fun _ _ _ h => h) (Or.inr ⟨by rfl, rfl⟩) (by assumption) ?_
  try simp only [Act.put, List.setIfInBounds_toArray, List.set_cons_zero, List.set_cons_succ]
  refine wpAnyH_take (i := 19) (oi := { dst := some 23, op := _, type := _, pos := _, after := _, guard := _ }) (v := undef) rfl (by kernel_rfl) (by kernel_rfl) (by kernel_rfl) (fun _ _ _ h => h) (Or.inr ⟨by rfl, rfl⟩) (by assumption) ?_
  try simp only [Act.put, List.setIfInBounds_toArray, List.set_cons_zero, List.set_cons_succ]
  refine wpAnyH_take (i := 20) (oi := { dst := some 24, op := _, type := _, pos := _, after := _, guard := _ }) (v := undef) rfl (by kernel_rfl) (by kernel_rfl) (by kernel_rfl) (fun _ _ _ h => h) (Or.inr ⟨by rfl, rfl⟩) (by assumption) ?_
  try simp only [Act.put, List.setIfInBounds_toArray, List.set_cons_zero, List.set_cons_succ]
  refine wpAnyH_take (i := 21) (oi := { dst := some 25, op := _, type := _, pos := _, after := _, guard := _ }) (v := ?_) rfl (by kernel_rfl) (by kernel_rfl) (by kernel_rfl) (fun _ _ _ h => h) (Or.inl ⟨by rfl, ?_⟩) (by assumption) ?_
  rotate_left
  · intro wz hSw; (try dsimp only at hSw); go_simp; (try with_reducible rfl)
  try simp only [Act.put, List.setIfInBounds_toArray, List.set_cons_zero, List.set_cons_succ]
  refine wpAnyH_done (by kernel_rfl) ?_ _
  go_wp2_with fail
  refine (table_any _ _ _ _ _ N s H1.out).mono ?_
  rintro e w1b ⟨v, rfl, ht, hb1⟩
  have HT := Lib.hid ht
  have HB1b := Lib.hid hb1
  clear hb1 ht
  go_wp2_with fail
  refine (HP.out _ _ HT.out).mono ?_
  rintro e w2 ⟨rfl, hb2⟩
  have HB2 := Lib.hid (HB1b.out.trans (hb2.mono HB1b.out.size))
  have H2 := Lib.hid (H1.out.below HB2.out)
  have M2 := Lib.hid (M1.out.trans (Moved.below HB2.out))
  have d10 := H2.out.cells.c10
  have f10 := H2.out.obj.fz 10
  have hE : ({ s with op := -1 } : Sto) = s := by rw [← ho1]
  have H3 := Lib.hid (H2.out.setOp (-1) (by omega) (by omega))
  have H4 : Hid (StoIn (w2.setCell ⟨q, 10, none⟩ (.int .i64 (-1))) q p sv vv N s) := hE ▸ H3.out
  have M3 := Lib.hid (M2.out.setQ 10 (.int .i64 (-1)))
  have c3 := H3.out.cells.c10
  clear hb2 hE
  go_wp2_with fail
  refine bodyPost_ret (v := .tuple #[.int .i64 0, .iface 44 (.int .i64 60)]) (by simp [results, Tryz.results71, go_sem]) rfl ⟨rfl, H4.out, M3.out⟩
set_option maxHeartbeats 4000000 in
set_option maxRecDepth 100000 in
/-- The open block is full, none is free. -/
theorem place_fullno (w : World) (q p : Nat) (sv vv : Value) (N : Nat → Prop) (s : Sto) (o : Nat) (h : StoIn w q p sv vv N s) (ho : s.op = (o : Int)) (hr : (s.n.per : Int) ≤ s.n.next (o : Int)) (hp : pickL (tabOf s.sealed) = -1) :
    Calls Tryz.prog 71 #[.pointer (some ⟨q, 0, none⟩)] w fun e w' => e = .returned (.tuple #[.int .i64 0, .iface 44 (.int .i64 60)]) ∧ StoIn w' q p sv vv N (s.sealed) ∧ Moved w q sv vv N w' N := by
  have H := Lib.hid h
  have hok := h.arr.ok
  have hB0 := hok.b0
  have hB1 := hok.b1
  have hP0 := hok.p0
  have hP1 := hok.p1
  have h1 := h.o1
  rw [ho] at h1
  have hop : 0 ≤ s.op := by omega
  have hnx := next_le hok (o : Int)
  obtain ⟨x, hx⟩ : ∃ x, s.n.next (o : Int) = x := ⟨_, rfl⟩
  rw [hx] at hr hnx
  have HX := Lib.hid hx
  obtain ⟨c0, c1, c2, _, _, _, _, c10, _⟩ := h.cells
  rw [ho] at c10
  have B0 := Lib.hid (Below.refl w.heap.size w).drew
  have HK : Hid (∀ w', Below w.heap.size w w' → (w'.cell? ⟨q, 0, none⟩ = some (.pointer (some ⟨p, 0, none⟩)) ∧ w'.cell? ⟨q, 1, none⟩ = some (.int .i64 s.n.blocks) ∧ w'.cell? ⟨q, 2, none⟩ = some (.int .i64 s.n.per) ∧ w'.cell? ⟨q, 10, none⟩ = some (.int .i64 (o : Int)))) := fun w' hb => ⟨below_c hb c0, below_c hb c1, below_c hb c2, below_c hb c10⟩
  have SA := Lib.hid (HK.out _ (Below.refl _ _))
  obtain ⟨s1, hs1⟩ : ∃ s1, s.sealed = s1 := ⟨_, rfl⟩
  have ho1 : s1.op = -1 := by rw [← hs1, Sto.sealed, if_pos hop]
  have HSE : Hid (∀ wq, StoIn wq q p sv vv N s → Calls Tryz.prog 29 #[.pointer (some ⟨q, 0, none⟩)] wq fun e w' => e = .returned (.tuple #[]) ∧ StoIn w' q p sv vv N s1 ∧ Moved wq q sv vv N w' N) := fun wq hq => hs1 ▸ seal_yes wq q p sv vv N s hq hop
  rw [hs1] at hp ⊢
  clear h hok hx ho hs1 hop
  go_enter Tryz.func71, Tryz.ntmps71
  go_wp2_with fail
  go_region_held3 (fun w' => w'.cell? ⟨q, 0, none⟩ = some (.pointer (some ⟨p, 0, none⟩)) ∧ w'.cell? ⟨q, 1, none⟩ = some (.int .i64 s.n.blocks) ∧ w'.cell? ⟨q, 2, none⟩ = some (.int .i64 s.n.per) ∧ w'.cell? ⟨q, 10, none⟩ = some (.int .i64 (o : Int))) (first | exact SA.out | exact HK.out _ HB1.out) ((go_at_call 24; refine (Next_any _ N p s.n (o : Int) (H.out.below B0.out).arr).mono ?_; rw [HX.out]; rintro e w1 ⟨rfl, d, rfl⟩; have HB1 := Lib.hid (below_drewN B0.out d)))
  go_wp2_with fail
  have HBk := Lib.hid (below_drewN (Below.refl w.heap.size w) (1 + d))
  refine (HSE.out _ (H.out.below HBk.out)).mono ?_
  rintro e wt ⟨rfl, hst, hmt⟩
  have H1 := Lib.hid hst
  have M1 := Lib.hid ((Moved.below HBk.out).trans hmt)
  have c10 := hst.cells.c10
  rw [ho1] at c10
  have HP : Hid (∀ wq v, TabAt wq v (tabOf s1) → Calls Tryz.prog 90 #[v] wq fun e w' => e = .returned (.int .i64 (-1)) ∧ Below wq.heap.size wq w') := fun wq v ht => hp ▸ pick_any (tabOf s1) v wq ht
  clear hp
  clear hst hmt
  go_wp2_with fail
  refine (table_any _ _ _ _ _ N s1 H1.out).mono ?_
  rintro e w1b ⟨v, rfl, ht, hb1⟩
  have HT := Lib.hid ht
  have HB1b := Lib.hid hb1
  clear hb1 ht
  go_wp2_with fail
  refine (HP.out _ _ HT.out).mono ?_
  rintro e w2 ⟨rfl, hb2⟩
  have HB2 := Lib.hid (HB1b.out.trans (hb2.mono HB1b.out.size))
  have H2 := Lib.hid (H1.out.below HB2.out)
  have M2 := Lib.hid (M1.out.trans (Moved.below HB2.out))
  have d10 := H2.out.cells.c10
  have f10 := H2.out.obj.fz 10
  have hE : ({ s1 with op := -1 } : Sto) = s1 := by rw [← ho1]
  have H3 := Lib.hid (H2.out.setOp (-1) (by omega) (by omega))
  have H4 : Hid (StoIn (w2.setCell ⟨q, 10, none⟩ (.int .i64 (-1))) q p sv vv N s1) := hE ▸ H3.out
  have M3 := Lib.hid (M2.out.setQ 10 (.int .i64 (-1)))
  have c3 := H3.out.cells.c10
  clear hb2 hE
  go_wp2_with fail
  refine bodyPost_ret (v := .tuple #[.int .i64 0, .iface 44 (.int .i64 60)]) (by simp [results, Tryz.results71, go_sem]) rfl ⟨rfl, H4.out, M3.out⟩
end Go.Proofs.YtfacgeappbgldaaGreatDoor.st
