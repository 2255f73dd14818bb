/- store: place, retire. -/
import Derived.Test.YtfacgeappbgldaaGreatDoorStB
namespace Go.Proofs.YtfacgeappbgldaaGreatDoor.st
open Go.RowKit Go.Proofs.YtfacgeappbgldaaGreatDoor.er Go.Proofs.YtfacgeappbgldaaGreatDoor.nd Go.Proofs.YtfacgeappbgldaaGreatDoor.we Go.Proofs.YtfacgeappbgldaaGreatDoor.ge Go.Proofs.YtfacgeappbgldaaGreatDoor.pg
attribute [local go_sem ↓] Go.wp_at_zero Go.wp_at_succ
set_option linter.unusedVariables false

theorem next_le {n : Nand} (h : n.Ok) (i : Int) : 0 ≤ n.next i ∧ n.next i ≤ n.per := by
  unfold Nand.next
  split
  · have hp := h.pl i.toNat (n.blk i.toNat)
    unfold Nand.blk at hp ⊢
    rw [List.getD]
    cases hb : n.b[i.toNat]? with
    | none => simp
    | some b =>
      rw [List.getD, hb] at hp
      have := hp rfl
      simp
      have h2 := this.1
      simp at h2
      omega
  · omega
theorem prod_nat {b B P : Int} (h0 : 0 ≤ b) (h1 : b < B) (h2 : B ≤ 64) (h3 : 8 ≤ P) (h4 : P ≤ 32) : 0 ≤ b * P ∧ b * P ≤ 2048 :=
  ⟨Int.mul_nonneg h0 (by omega), by
    calc b * P ≤ 64 * P := Int.mul_le_mul_of_nonneg_right (by omega) (by omega)
      _ ≤ 2048 := by omega⟩
set_option maxHeartbeats 4000000 in
set_option maxRecDepth 100000 in
/-- The open block has room. -/
theorem place_a (w : World) (q p : Nat) (sv vv : Value) (N : Nat → Prop) (s : Sto) (b : Nat) (h : StoIn w q p sv vv N s) (ho : s.op = (b : Int)) (hr : s.n.next (b : Int) < s.n.per) :
    Calls Tryz.prog 71 #[.pointer (some ⟨q, 0, none⟩)] w fun e w' => e = .returned (.tuple #[.int .i64 ((b : Int) * s.n.per + s.n.next (b : Int)), .nilIface]) ∧ Below w.heap.size w w' := by
  have H := Lib.hid h
  have hok := h.arr.ok
  have hB0 := hok.b0
  have hB1 := hok.b1
  have hP0 := hok.p0
  have hP1 := hok.p1
  have h1 := h.o1
  rw [ho] at h1
  have hnx := next_le hok (b : Int)
  have hpr := prod_nat (Int.natCast_nonneg b) h1 (by omega) (show (8 : Int) ≤ (s.n.per : Int) by omega) (by omega)
  obtain ⟨x, hx⟩ : ∃ x, s.n.next (b : Int) = x := ⟨_, rfl⟩
  obtain ⟨y, hy⟩ : ∃ y, (b : Int) * (s.n.per : Int) = y := ⟨_, rfl⟩
  rw [hx] at hr hnx
  rw [hy] at hpr
  have HX := Lib.hid hx
  have HFI : Hid (∀ wq, Calls Tryz.prog 91 #[.agg #[.int .i64 s.n.blocks, .int .i64 s.n.per], .int .i64 (b : Int)] wq fun e w' => e = .returned (.int .i64 y) ∧ Below wq.heap.size wq w') := fun wq => hy ▸ first_in s.n.blocks s.n.per b wq (by omega) (by omega) (by omega) (by omega) (Int.natCast_nonneg b) h1
  obtain ⟨c0, c1, c2, _, _, _, _, c10, _⟩ := h.cells
  rw [ho] at c10
  have B0 := Lib.hid (Below.refl w.heap.size w).drew
  have HK : Hid (∀ w', Below w.heap.size w w' → (w'.cell? ⟨q, 0, none⟩ = some (.pointer (some ⟨p, 0, none⟩)) ∧ w'.cell? ⟨q, 1, none⟩ = some (.int .i64 s.n.blocks) ∧ w'.cell? ⟨q, 2, none⟩ = some (.int .i64 s.n.per) ∧ w'.cell? ⟨q, 10, none⟩ = some (.int .i64 (b : Int)))) := fun w' hb => ⟨below_c hb c0, below_c hb c1, below_c hb c2, below_c hb c10⟩
  have SA := Lib.hid (HK.out _ (Below.refl _ _))
  have HBT : Hid (∀ k wq, Below (w.drewN k).heap.size (w.drewN k) wq → Below w.heap.size w wq) := fun k wq hb => (below_drewN (Below.refl _ _) k).trans hb
  rw [hx, hy]
  clear h hok hx hy ho
  go_enter Tryz.func71, Tryz.ntmps71
  go_wp2_with fail
  go_region_held3 (fun w' => w'.cell? ⟨q, 0, none⟩ = some (.pointer (some ⟨p, 0, none⟩)) ∧ w'.cell? ⟨q, 1, none⟩ = some (.int .i64 s.n.blocks) ∧ w'.cell? ⟨q, 2, none⟩ = some (.int .i64 s.n.per) ∧ w'.cell? ⟨q, 10, none⟩ = some (.int .i64 (b : Int))) (first | exact SA.out | exact HK.out _ HB1.out) ((go_at_call 24; refine (Next_any _ N p s.n (b : Int) (H.out.below B0.out).arr).mono ?_; rw [HX.out]; rintro e w1 ⟨rfl, d, rfl⟩; have HB1 := Lib.hid (below_drewN B0.out d)))
  go_wp2_with fail
  go_region_held3 (fun w' => w'.cell? ⟨q, 0, none⟩ = some (.pointer (some ⟨p, 0, none⟩)) ∧ w'.cell? ⟨q, 1, none⟩ = some (.int .i64 s.n.blocks) ∧ w'.cell? ⟨q, 2, none⟩ = some (.int .i64 s.n.per) ∧ w'.cell? ⟨q, 10, none⟩ = some (.int .i64 (b : Int))) (first | exact SA.out | exact HK.out _ HB5.out | exact HK.out _ (below_drewN HB5.out _)) (first | (go_at_call 24; refine (Next_any _ N p s.n (b : Int) (H.out.below HB5.out).arr).mono ?_; rw [HX.out]; rintro e w6 ⟨rfl, d6, rfl⟩) | (go_at_call 91; refine (HFI.out _).mono ?_; rintro e w5 ⟨rfl, hb5⟩; have HB5 := Lib.hid (HBT.out _ _ hb5); clear hb5))
  go_wp2_with fail
  have hw : IntKind.i64.wrap (y + x) = y + x := by rw [IntKind.wrap_i64]; omega
  refine bodyPost_ret (v := .tuple #[.int .i64 (y + x), .nilIface]) (by simp [results, Tryz.results71, go_sem, hw]) rfl ⟨rfl, below_drewN HB5.out _⟩
/-! ### place_b -/
def Sto.opened (s : Sto) (b : Nat) : Sto := { s with op := b, state := s.state.set b 1 }
set_option maxHeartbeats 4000000 in
set_option maxRecDepth 100000 in
/-- None is open: a free block is. -/
theorem place_b (w : World) (q p : Nat) (sv vv : Value) (N : Nat → Prop) (s : Sto) (b : Nat) (h : StoIn w q p sv vv N s) (ho : s.op = -1) (hp : pickL (tabOf s) = (b : Int)) (hb : b < s.n.blocks) :
    Calls Tryz.prog 71 #[.pointer (some ⟨q, 0, none⟩)] w fun e w' => e = .returned (.tuple #[.int .i64 ((b : Int) * s.n.per + s.n.next (b : Int)), .nilIface]) ∧ StoIn w' q p sv vv N (s.opened b) ∧ Moved w q sv vv N w' N := by
  have H := Lib.hid h
  have hok := h.arr.ok
  have hB0 := hok.b0
  have hB1 := hok.b1
  have hP0 := hok.p0
  have hP1 := hok.p1
  have hls := h.ls
  have h1 : (b : Int) < (s.n.blocks : Int) := by omega
  have hbl : b < s.state.length := by omega
  have hbli : (b : Int) < (s.state.length : Int) := by omega
  have hnx := next_le hok (b : Int)
  have hpr := prod_nat (Int.natCast_nonneg b) h1 (by omega) (show (8 : Int) ≤ (s.n.per : Int) by omega) (by omega)
  obtain ⟨x, hx⟩ : ∃ x, s.n.next (b : Int) = x := ⟨_, rfl⟩
  obtain ⟨y, hy⟩ : ∃ y, (b : Int) * (s.n.per : Int) = y := ⟨_, rfl⟩
  rw [hx] at hnx
  rw [hy] at hpr
  have HX := Lib.hid hx
  have HFI : Hid (∀ wq, Calls Tryz.prog 91 #[.agg #[.int .i64 s.n.blocks, .int .i64 s.n.per], .int .i64 (b : Int)] wq fun e w' => e = .returned (.int .i64 y) ∧ Below wq.heap.size wq w') := fun wq => hy ▸ first_in s.n.blocks s.n.per b wq (by omega) (by omega) (by omega) (by omega) (Int.natCast_nonneg b) h1
  obtain ⟨A, c, rfl⟩ := own_slice h.st
  obtain ⟨g, rfl, _, _, _, _, _⟩ := own_cell h.st (by omega)
  obtain ⟨c0, c1, c2, _, _, c8, _, c10, _⟩ := h.cells
  rw [ho] at c10
  have hgq := (h.ds g rfl).2
  have HP : Hid (∀ wq v, TabAt wq v (tabOf s) → Calls Tryz.prog 90 #[v] wq fun e w' => e = .returned (.int .i64 (b : Int)) ∧ Below wq.heap.size wq w') := fun wq v ht => hp ▸ pick_any (tabOf s) v wq ht
  have HBT : Hid (∀ k wq, Below (w.drewN k).heap.size (w.drewN k) wq → Below w.heap.size w wq) := fun k wq hb => (below_drewN (Below.refl _ _) k).trans hb
  have HK : Hid (∀ w', Below w.heap.size w w' → (w'.cell? ⟨q, 0, none⟩ = some (.pointer (some ⟨p, 0, none⟩)) ∧ w'.cell? ⟨q, 1, none⟩ = some (.int .i64 s.n.blocks) ∧ w'.cell? ⟨q, 2, none⟩ = some (.int .i64 s.n.per) ∧ w'.cell? ⟨q, 8, none⟩ = some (.slice (some ⟨g, 0, none⟩) s.state.length c))) := fun w' hb => ⟨below_c hb c0, below_c hb c1, below_c hb c2, below_c hb c8⟩
  have SA := Lib.hid (HK.out _ (Below.refl _ _))
  rw [hx, hy]
  clear h hok hx hy hp
  go_enter Tryz.func71, Tryz.ntmps71
  go_wp2_with fail
  refine wp_region_held_drew (S := fun w' => w'.cell? ⟨q, 10, none⟩ = some (.int .i64 (-1))) (by kernel_rfl) c10 (fun hHeld => ?_)
  refine wpAnyH_take (i := 0) (oi := { dst := some 4, op := _, type := _, pos := _, after := _, guard := _ }) (v := ?_) rfl (by kernel_rfl) (by kernel_rfl) (by kernel_rfl) (fun _ _ _ h => h) (Or.inl ⟨by rfl, ?_⟩) (by assumption) ?_
  rotate_left
  · intro wz hSw; (try dsimp only at hSw); go_simp; (try with_reducible rfl)
  try simp only [Act.put, List.setIfInBounds_toArray, List.set_cons_zero, List.set_cons_succ]
  refine wpAnyH_take (i := 1) (oi := { dst := some 5, op := _, type := _, pos := _, after := _, guard := _ }) (v := ?_) rfl (by kernel_rfl) (by kernel_rfl) (by kernel_rfl) (fun _ _ _ h => h) (Or.inl ⟨by rfl, ?_⟩) (by assumption) ?_
  rotate_left
  · intro wz hSw; (try dsimp only at hSw); go_simp; (try with_reducible rfl)
  try simp only [Act.put, List.setIfInBounds_toArray, List.set_cons_zero, List.set_cons_succ]
  refine wpAnyH_take (i := 2) (oi := { dst := some 6, op := _, type := _, pos := _, after := _, guard := _ }) (v := ?_) rfl (by kernel_rfl) (by kernel_rfl) (by kernel_rfl) (fun _ _ _ h => h) (Or.inl ⟨by rfl, ?_⟩) (by assumption) ?_
  rotate_left
  · intro wz hSw; (try dsimp only at hSw); go_simp; (try with_reducible rfl)
  try simp only [Act.put, List.setIfInBounds_toArray, List.set_cons_zero, List.set_cons_succ]
  refine wpAnyH_take (i := 3) (oi := { dst := some 7, op := _, type := _, pos := _, after := _, guard := _ }) (v := ?_) rfl (by kernel_rfl) (by kernel_rfl) (by kernel_rfl) (fun _ _ _ h => h) (Or.inl ⟨by rfl, ?_⟩) (by assumption) ?_
  rotate_left
  · intro wz hSw; (try dsimp only at hSw); go_simp; (try with_reducible rfl)
  try simp only [Act.put, List.setIfInBounds_toArray, List.set_cons_zero, List.set_cons_succ]
  refine wpAnyH_take (i := 4) (oi := { dst := some 8, op := _, type := _, pos := _, after := _, guard := _ }) (v := ?_) rfl (by kernel_rfl) (by kernel_rfl) (by kernel_rfl) (fun _ _ _ h => h) (Or.inl ⟨by rfl, ?_⟩) (by assumption) ?_
  rotate_left
  · intro wz hSw; (try dsimp only at hSw); go_simp; (try with_reducible rfl)
  try simp only [Act.put, List.setIfInBounds_toArray, List.set_cons_zero, List.set_cons_succ]
  refine wpAnyH_take (i := 5) (oi := { dst := some 9, op := _, type := _, pos := _, after := _, guard := _ }) (v := ?_) rfl (by kernel_rfl) (by kernel_rfl) (by kernel_rfl) (fun _ _ _ h => h) (Or.inl ⟨by rfl, ?_⟩) (by assumption) ?_
  rotate_left
  · intro wz hSw; (try dsimp only at hSw); go_simp; (try with_reducible rfl)
  try simp only [Act.put, List.setIfInBounds_toArray, List.set_cons_zero, List.set_cons_succ]
  refine wpAnyH_take (i := 6) (oi := { dst := some 10, op := _, type := _, pos := _, after := _, guard := _ }) (v := undef) rfl (by kernel_rfl) (by kernel_rfl) (by kernel_rfl) (fun _ _ _ h => h) (Or.inr ⟨by rfl, rfl⟩) (by assumption) ?_
  try simp only [Act.put, List.setIfInBounds_toArray, List.set_cons_zero, List.set_cons_succ]
  refine wpAnyH_take (i := 7) (oi := { dst := some 11, op := _, type := _, pos := _, after := _, guard := _ }) (v := undef) rfl (by kernel_rfl) (by kernel_rfl) (by kernel_rfl) (fun _ _ _ h => h) (Or.inr ⟨by rfl, rfl⟩) (by assumption) ?_
  try simp only [Act.put, List.setIfInBounds_toArray, List.set_cons_zero, List.set_cons_succ]
  refine wpAnyH_take (i := 8) (oi := { dst := some 12, op := _, type := _, pos := _, after := _, guard := _ }) (v := undef) rfl (by kernel_rfl) (by kernel_rfl) (by kernel_rfl) (fun _ _ _ h => h) (Or.inr ⟨by rfl, rfl⟩) (by assumption) ?_
  try simp only [Act.put, List.setIfInBounds_toArray, List.set_cons_zero, List.set_cons_succ]
  refine wpAnyH_take (i := 9) (oi := { dst := some 13, op := _, type := _, pos := _, after := _, guard := _ }) (v := undef) rfl (by kernel_rfl) (by kernel_rfl) (by kernel_rfl) (fun _ _ _ h => h) (Or.inr ⟨by rfl, rfl⟩) (by assumption) ?_
  try simp only [Act.put, List.setIfInBounds_toArray, List.set_cons_zero, List.set_cons_succ]
  refine wpAnyH_take (i := 10) (oi := { dst := some 14, op := _, type := _, pos := _, after := _, guard := _ }) (v := undef) rfl (by kernel_rfl) (by kernel_rfl) (by kernel_rfl) (fun _ _ _ h => h) (Or.inr ⟨by rfl, rfl⟩) (by assumption) ?_
  try simp only [Act.put, List.setIfInBounds_toArray, List.set_cons_zero, List.set_cons_succ]
  refine wpAnyH_take (i := 11) (oi := { dst := some 15, op := _, type := _, pos := _, after := _, guard := _ }) (v := undef) rfl (by kernel_rfl) (by kernel_rfl) (by kernel_rfl) (fun _ _ _ h => h) (Or.inr ⟨by rfl, rfl⟩) (by assumption) ?_
  try simp only [Act.put, List.setIfInBounds_toArray, List.set_cons_zero, List.set_cons_succ]
  refine wpAnyH_take (i := 12) (oi := { dst := some 16, op := _, type := _, pos := _, after := _, guard := _ }) (v := undef) rfl (by kernel_rfl) (by kernel_rfl) (by kernel_rfl) (fun _ _ _ h => h) (Or.inr ⟨by rfl, rfl⟩) (by assumption) ?_
  try simp only [Act.put, List.setIfInBounds_toArray, List.set_cons_zero, List.set_cons_succ]
  refine wpAnyH_take (i := 13) (oi := { dst := some 17, op := _, type := _, pos := _, after := _, guard := _ }) (v := undef) rfl (by kernel_rfl) (by kernel_rfl) (by kernel_rfl) (fun _ _ _ h => h) (Or.inr ⟨by rfl, rfl⟩) (by assumption) ?_
  try simp only [Act.put, List.setIfInBounds_toArray, List.set_cons_zero, List.set_cons_succ]
  refine wpAnyH_take (i := 14) (oi := { dst := some 18, op := _, type := _, pos := _, after := _, guard := _ }) (v := undef) rfl (by kernel_rfl) (by kernel_rfl) (by kernel_rfl) (fun _ _ _ h => h) (Or.inr ⟨by rfl, rfl⟩) (by assumption) ?_
  try simp only [Act.put, List.setIfInBounds_toArray, List.set_cons_zero, List.set_cons_succ]
  refine wpAnyH_take (i := 15) (oi := { dst := some 19, op := _, type := _, pos := _, after := _, guard := _ }) (v := undef) rfl (by kernel_rfl) (by kernel_rfl) (by kernel_rfl) (fun _ _ _ h => h) (Or.inr ⟨by rfl, rfl⟩) (by assumption) ?_
  try simp only [Act.put, List.setIfInBounds_toArray, List.set_cons_zero, List.set_cons_succ]
  refine wpAnyH_take (i := 16) (oi := { dst := some 20, op := _, type := _, pos := _, after := _, guard := _ }) (v := undef) rfl (by kernel_rfl) (by kernel_rfl) (by kernel_rfl) (fun _ _ _ h => h) (Or.inr ⟨by rfl, rfl⟩) (by assumption) ?_
  try simp only [Act.put, List.setIfInBounds_toArray, List.set_cons_zero, List.set_cons_succ]
  refine wpAnyH_take (i := 17) (oi := { dst := some 21, op := _, type := _, pos := _, after := _, guard := _ }) (v := undef) rfl (by kernel_rfl) (by kernel_rfl) (by kernel_rfl) (fun _ _ _ h => h) (Or.inr ⟨by rfl, rfl⟩) (by assumption) ?_
  try simp only [Act.put, List.setIfInBounds_toArray, List.set_cons_zero, List.set_cons_succ]
  refine wpAnyH_take (i := 18) (oi := { dst := some 22, op := _, type := _, pos := _, after := _, guard := _ }) (v := undef) rfl (by kernel_rfl) (by kernel_rfl) (by kernel_rfl) (fun _ _ _ h => h) (Or.inr ⟨by rfl, rfl⟩) (by assumption) ?_
  try simp only [Act.put, List.setIfInBounds_toArray, List.set_cons_zero, List.set_cons_succ]
  refine wpAnyH_take (i := 19) (oi := { dst := some 23, op := _, type := _, pos := _, after := _, guard := _ }) (v := undef) rfl (by kernel_rfl) (by kernel_rfl) (by kernel_rfl) (fun _ _ _ h => h) (Or.inr ⟨by rfl, rfl⟩) (by assumption) ?_
  try simp only [Act.put, List.setIfInBounds_toArray, List.set_cons_zero, List.set_cons_succ]
  refine wpAnyH_take (i := 20) (oi := { dst := some 24, op := _, type := _, pos := _, after := _, guard := _ }) (v := undef) rfl (by kernel_rfl) (by kernel_rfl) (by kernel_rfl) (fun _ _ _ h => h) (Or.inr ⟨by rfl, rfl⟩) (by assumption) ?_
  try simp only [Act.put, List.setIfInBounds_toArray, List.set_cons_zero, List.set_cons_succ]
  refine wpAnyH_take (i := 21) (oi := { dst := some 25, op := _, type := _, pos := _, after := _, guard := _ }) (v := ?_) rfl (by kernel_rfl) (by kernel_rfl) (by kernel_rfl) (fun _ _ _ h => h) (Or.inl ⟨by rfl, ?_⟩) (by assumption) ?_
  rotate_left
  · intro wz hSw; (try dsimp only at hSw); go_simp; (try with_reducible rfl)
  try simp only [Act.put, List.setIfInBounds_toArray, List.set_cons_zero, List.set_cons_succ]
  refine wpAnyH_done (by kernel_rfl) ?_ _
  go_wp2_with fail
  refine (table_any _ _ _ _ _ N s (H.out.drewN 1)).mono ?_
  rintro e w1 ⟨v, rfl, ht, hb1⟩
  have HT := Lib.hid ht
  have HB1 := Lib.hid (HBT.out 1 _ hb1)
  clear hb1 ht
  go_wp2_with fail
  refine (HP.out _ _ HT.out).mono ?_
  rintro e w2 ⟨rfl, hb2⟩
  have HB2 := Lib.hid (HB1.out.trans (hb2.mono HB1.out.size))
  have H2 := Lib.hid (H.out.below HB2.out)
  have d10 := H2.out.cells.c10
  have f10 := H2.out.obj.fz 10
  have H3 := Lib.hid (H2.out.setOp (b : Int) (by omega) h1)
  obtain ⟨e0, e1, e2, _, _, e8, _, e10, _⟩ := H3.out.cells
  obtain ⟨gx, hgx, _, _, _, hcs, hfs⟩ := own_cell H3.out.st (by show 0 < s.state.length; omega)
  obtain rfl : g = gx := by injection hgx with hgx; injection hgx with hgx
  obtain ⟨z, hz⟩ : ∃ z, s.state[b]? = some z := ⟨s.state[b], List.getElem?_eq_getElem hbl⟩
  have a0 := hcs b _ (ints_at _ _ _ hz)
  have a1 := hfs b
  have SA3 : Hid (((w2.setCell ⟨q, 10, none⟩ (.int .i64 b)).cell? ⟨q, 0, none⟩ = some (.pointer (some ⟨p, 0, none⟩)) ∧ (w2.setCell ⟨q, 10, none⟩ (.int .i64 b)).cell? ⟨q, 1, none⟩ = some (.int .i64 s.n.blocks) ∧ (w2.setCell ⟨q, 10, none⟩ (.int .i64 b)).cell? ⟨q, 2, none⟩ = some (.int .i64 s.n.per) ∧ (w2.setCell ⟨q, 10, none⟩ (.int .i64 b)).cell? ⟨q, 8, none⟩ = some (.slice (some ⟨g, 0, none⟩) s.state.length c) ∧ (w2.setCell ⟨q, 10, none⟩ (.int .i64 b)).cell? ⟨q, 10, none⟩ = some (.int .i64 (b : Int)))) := ⟨e0, e1, e2, e8, e10⟩
  have KS := Keep.set1 (w2.setCell ⟨q, 10, none⟩ (.int .i64 b)) g b (.int .i64 1)
  have SB3 : Hid ((((w2.setCell ⟨q, 10, none⟩ (.int .i64 b)).setCell ⟨g, b, none⟩ (.int .i64 1)).cell? ⟨q, 0, none⟩ = some (.pointer (some ⟨p, 0, none⟩)) ∧ ((w2.setCell ⟨q, 10, none⟩ (.int .i64 b)).setCell ⟨g, b, none⟩ (.int .i64 1)).cell? ⟨q, 1, none⟩ = some (.int .i64 s.n.blocks) ∧ ((w2.setCell ⟨q, 10, none⟩ (.int .i64 b)).setCell ⟨g, b, none⟩ (.int .i64 1)).cell? ⟨q, 2, none⟩ = some (.int .i64 s.n.per) ∧ ((w2.setCell ⟨q, 10, none⟩ (.int .i64 b)).setCell ⟨g, b, none⟩ (.int .i64 1)).cell? ⟨q, 8, none⟩ = some (.slice (some ⟨g, 0, none⟩) s.state.length c) ∧ ((w2.setCell ⟨q, 10, none⟩ (.int .i64 b)).setCell ⟨g, b, none⟩ (.int .i64 1)).cell? ⟨q, 10, none⟩ = some (.int .i64 (b : Int)))) := ⟨KS.cell e0 (fun e => hgq e.symm), KS.cell e1 (fun e => hgq e.symm), KS.cell e2 (fun e => hgq e.symm), KS.cell e8 (fun e => hgq e.symm), KS.cell e10 (fun e => hgq e.symm)⟩
  have H4 := Lib.hid (StoIn.setState (s := { s with op := (b : Int) }) H3.out b 1 hbl)
  have HK4 : Hid (∀ w', Below ((w2.setCell ⟨q, 10, none⟩ (.int .i64 b)).setCell ⟨g, b, none⟩ (.int .i64 1)).heap.size ((w2.setCell ⟨q, 10, none⟩ (.int .i64 b)).setCell ⟨g, b, none⟩ (.int .i64 1)) w' → (w'.cell? ⟨q, 0, none⟩ = some (.pointer (some ⟨p, 0, none⟩)) ∧ w'.cell? ⟨q, 1, none⟩ = some (.int .i64 s.n.blocks) ∧ w'.cell? ⟨q, 2, none⟩ = some (.int .i64 s.n.per) ∧ w'.cell? ⟨q, 8, none⟩ = some (.slice (some ⟨g, 0, none⟩) s.state.length c) ∧ w'.cell? ⟨q, 10, none⟩ = some (.int .i64 (b : Int)))) := fun w' hb => ⟨below_c hb SB3.out.1, below_c hb SB3.out.2.1, below_c hb SB3.out.2.2.1, below_c hb SB3.out.2.2.2.1, below_c hb SB3.out.2.2.2.2⟩
  have HBT4 : Hid (∀ wq, Below ((w2.setCell ⟨q, 10, none⟩ (.int .i64 b)).setCell ⟨g, b, none⟩ (.int .i64 1)).drew.drew.heap.size ((w2.setCell ⟨q, 10, none⟩ (.int .i64 b)).setCell ⟨g, b, none⟩ (.int .i64 1)).drew.drew wq → Below ((w2.setCell ⟨q, 10, none⟩ (.int .i64 b)).setCell ⟨g, b, none⟩ (.int .i64 1)).heap.size ((w2.setCell ⟨q, 10, none⟩ (.int .i64 b)).setCell ⟨g, b, none⟩ (.int .i64 1)) wq) := fun wq hb => (Below.refl _ _).drew.drew.trans hb
  clear hb2 hcs hfs hgx KS hz
  go_wp2_with fail
  go_region_held3 (fun w' => (w'.cell? ⟨q, 0, none⟩ = some (.pointer (some ⟨p, 0, none⟩)) ∧ w'.cell? ⟨q, 1, none⟩ = some (.int .i64 s.n.blocks) ∧ w'.cell? ⟨q, 2, none⟩ = some (.int .i64 s.n.per) ∧ w'.cell? ⟨q, 8, none⟩ = some (.slice (some ⟨g, 0, none⟩) s.state.length c) ∧ w'.cell? ⟨q, 10, none⟩ = some (.int .i64 (b : Int)))) (first | exact SA3.out | exact SB3.out) (fail)
  go_wp2_with fail
  go_region_held3 (fun w' => (w'.cell? ⟨q, 0, none⟩ = some (.pointer (some ⟨p, 0, none⟩)) ∧ w'.cell? ⟨q, 1, none⟩ = some (.int .i64 s.n.blocks) ∧ w'.cell? ⟨q, 2, none⟩ = some (.int .i64 s.n.per) ∧ w'.cell? ⟨q, 8, none⟩ = some (.slice (some ⟨g, 0, none⟩) s.state.length c) ∧ w'.cell? ⟨q, 10, none⟩ = some (.int .i64 (b : Int)))) (first | exact SB3.out | exact HK4.out _ HB5.out | exact HK4.out _ (below_drewN HB5.out _)) (first | (go_at_call 24; refine (Next_any _ N p s.n (b : Int) (H4.out.below HB5.out).arr).mono ?_; rw [HX.out]; rintro e w6 ⟨rfl, d6, rfl⟩) | (go_at_call 91; refine (HFI.out _).mono ?_; rintro e w5 ⟨rfl, hb5⟩; have HB5 := Lib.hid (HBT4.out _ hb5); clear hb5))
  go_wp2_with fail
  have hw : IntKind.i64.wrap (y + x) = y + x := by rw [IntKind.wrap_i64]; omega
  refine bodyPost_ret (v := .tuple #[.int .i64 (y + x), .nilIface]) (by simp [results, Tryz.results71, go_sem, hw]) rfl ⟨rfl, (H4.out.below HB5.out).drewN _, ((((Moved.below HB2.out).setQ 10 _).setS rfl b _).trans (Moved.below HB5.out)).drewN _⟩
end Go.Proofs.YtfacgeappbgldaaGreatDoor.st
