/- A store as plain data, and when a world holds one; Table. -/
import Derived.Test.YtfacgeappbgldaaGreatDoorNdM
import Derived.Test.YtfacgeappbgldaaGreatDoorWeB
import Derived.Test.YtfacgeappbgldaaGreatDoorGeA
import Derived.Test.YtfacgeappbgldaaGreatDoorPgC
import Derived.Test.YtfacgeappbgldaaGreatDoorFlD
import Derived.Deep.AppendLies
namespace Go.Proofs.YtfacgeappbgldaaGreatDoor.st
open Go.RowKit Go.Proofs.YtfacgeappbgldaaGreatDoor.er Go.Proofs.YtfacgeappbgldaaGreatDoor.nd Go.Proofs.YtfacgeappbgldaaGreatDoor.we Go.Proofs.YtfacgeappbgldaaGreatDoor.ge Go.Proofs.YtfacgeappbgldaaGreatDoor.pg
set_option linter.unusedVariables false

structure Sto where
  n : Nand
  state : List Int
  valid : List Int
  op : Int
  seq : Int
def ints (l : List Int) : List Value := l.map (.int .i64)
def stoCells (p : Nat) (sv vv : Value) (s : Sto) : Array Value :=
  #[.pointer (some ⟨p, 0, none⟩), .int .i64 s.n.blocks, .int .i64 s.n.per, .int .i64 (s.n.blocks * s.n.per), .int .i64 ((s.n.blocks : Int) / 8), .int .i64 (capZ s.n.blocks s.n.per), .int .i64 (lowZ s.n.blocks s.n.per), .int .i64 (lowZ s.n.blocks s.n.per + 1), sv, vv, .int .i64 s.op, .int .i64 s.seq]
structure StoIn (w : World) (q p : Nat) (sv vv : Value) (N : Nat → Prop) (s : Sto) : Prop where
  obj : Whole w q 79 (stoCells p sv vv s)
  st : w.ownsRow 0 3 1 sv s.state.length (ints s.state)
  va : w.ownsRow 0 3 1 vv s.valid.length (ints s.valid)
  arr : NandAt w N p s.n
  ls : s.state.length = s.n.blocks
  lv : s.valid.length = s.n.blocks
  o0 : -1 ≤ s.op
  o1 : s.op < s.n.blocks
  q0 : 0 ≤ s.seq
  q1 : s.seq ≤ 281474976710656
  dq : ¬ N q
  ds : ∀ k, sv.ownBlock = some k → ¬ N k ∧ k ≠ q
  dv : ∀ k, vv.ownBlock = some k → ¬ N k ∧ k ≠ q
  dsv : ∀ k, sv.ownBlock = some k → vv.ownBlock ≠ some k
def foot (q : Nat) (sv vv : Value) (N : Nat → Prop) : Nat → Prop := fun k => k = q ∨ sv.ownBlock = some k ∨ vv.ownBlock = some k ∨ N k
theorem StoIn.keep {G : Nat → Prop} {w w' : World} {q p : Nat} {sv vv : Value} {N : Nat → Prop} {s : Sto} (h : StoIn w q p sv vv N s) (hk : Keep G w w') (hd : ∀ k, foot q sv vv N k → ¬ G k) : StoIn w' q p sv vv N s :=
  ⟨h.obj.keep hk (hd _ (.inl rfl)), own_keep h.st hk (fun g hg => hd _ (.inr (.inl hg))), own_keep h.va hk (fun g hg => hd _ (.inr (.inr (.inl hg)))), h.arr.keep hk (fun k hn => hd _ (.inr (.inr (.inr hn)))), h.ls, h.lv, h.o0, h.o1, h.q0, h.q1, h.dq, h.ds, h.dv, h.dsv⟩
theorem StoIn.below {w w' : World} {q p : Nat} {sv vv : Value} {N : Nat → Prop} {s : Sto} (h : StoIn w q p sv vv N s) (hb : Below w.heap.size w w') : StoIn w' q p sv vv N s := h.keep (G := fun _ => False) (Keep.below hb) (fun _ _ => id)
theorem StoIn.drewN {w : World} {q p : Nat} {sv vv : Value} {N : Nat → Prop} {s : Sto} (h : StoIn w q p sv vv N s) (n : Nat) : StoIn (w.drewN n) q p sv vv N s := h.below (below_drewN (Below.refl _ _) _)
theorem ints_at (l : List Int) (j : Nat) (x : Int) (h : l[j]? = some x) : (ints l)[j]? = some (.int .i64 x) := by simp [ints, h]
def bkOf (s : Sto) (b : Nat) : Bk := ⟨s.state.getD b 0, s.valid.getD b 0, s.n.wornB b⟩
def tabTo (s : Sto) : Nat → List Bk
  | 0 => []
  | k + 1 => tabTo s k ++ [bkOf s k]
def tabOf (s : Sto) : List Bk := tabTo s s.n.blocks
theorem tabTo_len (s : Sto) : ∀ k, (tabTo s k).length = k
  | 0 => rfl
  | k + 1 => by simp [tabTo, tabTo_len s k]
theorem below_appendN {wr w2 : World} {o : Obj} {k : Nat} {base : Nat} {e : TypeId} {size : Nat} {v : Value} {n : Nat} {xs : List Value} (hown : wr.ownsRow base e size v n xs) (hg : ((wr.alloc o).drewN k).grownBy w2 v.ownBlock) (hb : base ≤ wr.heap.size) : Below base wr w2 :=
  ⟨hg.os, hg.tape, hg.output, Nat.le_trans (by show _ ≤ (wr.alloc o).heap.size; simp) hg.size, fun i hi => (hg.block i (by show i < (wr.alloc o).heap.size; simp; omega) (fun e => by have := (hown.lt i e.symm).1; omega)).trans (Below.heap_alloc _ _ _ (by omega))⟩
theorem bkInfo : (Tryz.prog.info? 63).map (fun i => (i.zero, i.size, i.bytes)) = some (some (.agg #[.int .i64 0, .int .i64 0, .int .i64 0]), 3, 24) := by kernel_rfl
/-- What a walk reads of a store. -/
structure StoC (w : World) (q p : Nat) (sv vv : Value) (s : Sto) : Prop where
  c0 : w.cell? ⟨q, 0, none⟩ = some (.pointer (some ⟨p, 0, none⟩))
  c1 : w.cell? ⟨q, 1, none⟩ = some (.int .i64 s.n.blocks)
  c2 : w.cell? ⟨q, 2, none⟩ = some (.int .i64 s.n.per)
  c3 : w.cell? ⟨q, 3, none⟩ = some (.int .i64 (s.n.blocks * s.n.per))
  c4 : w.cell? ⟨q, 4, none⟩ = some (.int .i64 ((s.n.blocks : Int) / 8))
  c8 : w.cell? ⟨q, 8, none⟩ = some sv
  c9 : w.cell? ⟨q, 9, none⟩ = some vv
  c10 : w.cell? ⟨q, 10, none⟩ = some (.int .i64 s.op)
  c11 : w.cell? ⟨q, 11, none⟩ = some (.int .i64 s.seq)
theorem StoIn.cells {w : World} {q p : Nat} {sv vv : Value} {N : Nat → Prop} {s : Sto} (h : StoIn w q p sv vv N s) : StoC w q p sv vv s :=
  ⟨h.obj.cell 0, h.obj.cell 1, h.obj.cell 2, h.obj.cell 3, h.obj.cell 4, h.obj.cell 8, h.obj.cell 9, h.obj.cell 10, h.obj.cell 11⟩
set_option maxHeartbeats 4000000 in
set_option maxRecDepth 100000 in
theorem table_any (w : World) (q p : Nat) (sv vv : Value) (N : Nat → Prop) (s : Sto) (h : StoIn w q p sv vv N s) :
    Calls Tryz.prog 28 #[.pointer (some ⟨q, 0, none⟩)] w fun e w' => ∃ v, e = .returned v ∧ TabAt w' v (tabOf s) ∧ Below w.heap.size w w' := by
  obtain ⟨A, c, rfl⟩ := own_slice h.st
  obtain ⟨A2, c2, rfl⟩ := own_slice h.va
  have k := h.cells
  have hb1 := h.arr.ok.b1
  have hls := h.ls
  have hlv := h.lv
  have H := Lib.hid h
  obtain ⟨k0, k1, k2, k3, k4, k8, k9, k10, k11⟩ := k
  have hli : (s.state.length : Int) ≤ 64 := by omega
  clear h k1 k2 k3 k4 k10 k11
  obtain ⟨i0, hi0, hz0, hz1, hz2⟩ := info_parts bkInfo
  go_enter Tryz.func28, Tryz.ntmps28
  go_wp2_with fail
  go_loopw [3, 13] (fun nv i wr => ∃ (j : Nat) (B : Option Addr) (d : Nat), j ≤ s.state.length ∧ i = .int .i64 j ∧ nv = .slice B j d ∧ Hid (wr.ownsRow w.heap.size 63 3 (.slice B j d) j (bkCells (tabTo s j))) ∧ Hid (Below w.heap.size w wr)) (fun _ i _ => s.state.length - (intOf i).toNat)
  case atStart => exact ⟨0, none, 0, Nat.zero_le _, rfl, rfl, ⟨rfl, .inl ⟨rfl, rfl⟩⟩, Below.refl _ _⟩
  case round =>
    obtain ⟨j, B, d, hj, rfl, rfl, HO, HBEL⟩ := hrel
    by_cases hlt : j < s.state.length
    · have hji : (j : Int) < (s.state.length : Int) := by omega
      have hjv : j < s.valid.length := by omega
      have hjvi : (j : Int) < (s.valid.length : Int) := by omega
      obtain ⟨gs, rfl, _, _, _, hcs, _⟩ := own_cell H.out.st (by omega)
      obtain ⟨gv, rfl, _, _, _, hcv, _⟩ := own_cell H.out.va (by omega)
      obtain ⟨x, hx⟩ : ∃ x, s.state[j]? = some x := ⟨s.state[j], List.getElem?_eq_getElem hlt⟩
      obtain ⟨y, hy⟩ : ∃ y, s.valid[j]? = some y := ⟨s.valid[j], List.getElem?_eq_getElem hjv⟩
      have a0 := below_c HBEL.out (hcs j _ (ints_at _ _ _ hx))
      have a1 := hcv j _ (ints_at _ _ _ hy)
      obtain ⟨o, ho⟩ : ∃ o, s.n.wornB (j : Int) = o := ⟨_, rfl⟩
      have HBK : Hid (tabTo s (j + 1) = tabTo s j ++ [⟨x, y, o⟩]) := by show tabTo s j ++ [bkOf s j] = _; rw [bkOf, List.getD, hx, List.getD, hy, ho]; rfl
      have HWN := Lib.hid ho
      have HK : Hid (∀ w', Below w.heap.size w w' → (w'.cell? ⟨q, 0, none⟩ = some (.pointer (some ⟨p, 0, none⟩)) ∧ w'.cell? ⟨q, 9, none⟩ = some (.slice (some ⟨gv, 0, none⟩) s.valid.length c2) ∧ w'.cell? ⟨gv, j, none⟩ = some (.int .i64 y))) := fun w' hb => ⟨below_c hb H.out.cells.c0, below_c hb H.out.cells.c9, below_c hb a1⟩
      have HO1 := Lib.hid (fun k => own_below (HO.out.alloc (.cells #[.int .i64 x, .int .i64 y, .int .i64 o] 63)) (below_drewN (Below.refl _ _) k))
      have hone : ∀ u ∈ [Value.int .i64 x, .int .i64 y, .int .i64 o], u.oneCell' = true := by simp [Value.oneCell']
      have HONE := Lib.hid hone
      have HSZ : Hid (∀ k, w.heap.size ≤ ((wr.alloc (.cells #[.int .i64 x, .int .i64 y, .int .i64 o] 63)).drewN k).heap.size) := fun k => (below_drewN (HBEL.out.alloc HBEL.out.size (.cells #[.int .i64 x, .int .i64 y, .int .i64 o] 63)) k).size
      have HNEW : Hid (∀ (k j' : Nat) (u : Value), [Value.int .i64 x, .int .i64 y, .int .i64 o][j']? = some u → ((wr.alloc (.cells #[.int .i64 x, .int .i64 y, .int .i64 o] 63)).drewN k).cell? ((⟨wr.heap.size, 0, none⟩ : Addr).add j') = some u) := fun k => World.news_of_block (w := (wr.alloc (.cells #[.int .i64 x, .int .i64 y, .int .i64 o] 63)).drewN k) (heap_alloc_new wr _)
      have HB3 := Lib.hid HBEL.out.drew
      have HKD := Lib.hid (fun k => HK.out _ (below_drewN HBEL.out k))
      have HKN := Lib.hid (fun k => HK.out _ (below_drewN (HBEL.out.alloc HBEL.out.size (.cells #[.int .i64 x, .int .i64 y, .int .i64 o] 63)) k))
      clear hone hx hy ho a1 hcs hcv k0 k8 k9
      go_wp2_with fail
      go_region_held3 (fun w' => w'.cell? ⟨q, 0, none⟩ = some (.pointer (some ⟨p, 0, none⟩)) ∧ w'.cell? ⟨q, 9, none⟩ = some (.slice (some ⟨gv, 0, none⟩) s.valid.length c2) ∧ w'.cell? ⟨gv, j, none⟩ = some (.int .i64 y)) (first | exact HK.out _ HB5.out | exact HK.out _ HB3.out | exact HKD.out _ | exact HKN.out _)
        (first | (go_at_call 45; refine (Worn_any _ N p s.n (j : Int) (H.out.below HB3.out).arr).mono ?_; rw [HWN.out]; rintro e w4 ⟨rfl, d2, rfl⟩; have HB4 := Lib.hid (below_drewN HB3.out d2)) | (refine step_append_lies _ ?_ (.tmp 18) (.tmp 34) 64 ?_ w.heap.size 63 i0 _ 3 24 Tryz.underlying64 hi0 hz0 hz1 hz2 (by rfl) (by omega) (.slice B j d) j (bkCells (tabTo s j)) (by rfl) (HO1.out _) ⟨wr.heap.size, 0, none⟩ 1 1 [.int .i64 x, .int .i64 y, .int .i64 o] (by rfl) (by rfl) (HNEW.out _) HONE.out (by omega) (by simp only [maxLen]; omega) (by omega) (HSZ.out _) _ rfl ?_; rfl; rfl; intro g2 cap2 w5 hown5 hg5 _ _; have HO5 := Lib.hid hown5; have HB5 := Lib.hid (HBEL.out.trans (below_appendN HO.out hg5 HBEL.out.size)); clear hown5 hg5))
      go_wp2_with fail
      exact ⟨⟨j + 1, some ⟨g2, 0, none⟩, cap2, by omega, by go_num, rfl, by rw [HBK.out, bkCells_snoc]; exact HO5, HB5⟩, by simp [intOf]; omega⟩
    · obtain rfl : j = s.state.length := by omega
      go_wp2_with fail
      go_ret
      have hlen : s.state.length = (tabOf s).length := by rw [tabOf, tabTo_len]; exact H.out.ls
      obtain ⟨e, he⟩ : ∃ e, s.state.length = e := ⟨_, rfl⟩
      refine ⟨_, rfl, ?_, HBEL.out⟩
      rw [hlen] at HO ⊢
      have hO := HO.out
      rw [show tabTo s (tabOf s).length = tabOf s from by rw [tabOf, tabTo_len]] at hO
      exact TabAt.own hO (by omega)
end Go.Proofs.YtfacgeappbgldaaGreatDoor.st
