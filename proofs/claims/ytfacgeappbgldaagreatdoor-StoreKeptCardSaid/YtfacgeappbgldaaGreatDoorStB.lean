/- store: Retired, Free, Worn, Seal, retire. -/
import Derived.Test.YtfacgeappbgldaaGreatDoorStA
namespace Go.Proofs.YtfacgeappbgldaaGreatDoor.st
open Go.RowKit Go.Proofs.YtfacgeappbgldaaGreatDoor.er Go.Proofs.YtfacgeappbgldaaGreatDoor.nd Go.Proofs.YtfacgeappbgldaaGreatDoor.we Go.Proofs.YtfacgeappbgldaaGreatDoor.ge Go.Proofs.YtfacgeappbgldaaGreatDoor.pg
attribute [local go_sem ↓] Go.wp_at_zero Go.wp_at_succ
set_option linter.unusedVariables false

theorem sneq (p : Nat) (w : World) : (binOp .neq 23 (.pointer (some ⟨p, 0, none⟩)) (.pointer none)).run Tryz.prog w = .ok (.bool true) w := by kernel_rfl
theorem seql (p : Nat) (w : World) : (binOp .eql 23 (.pointer (some ⟨p, 0, none⟩)) (.pointer none)).run Tryz.prog w = .ok (.bool false) w := by kernel_rfl
set_option maxHeartbeats 1000000 in
theorem retired_any (w : World) (q p : Nat) (sv vv : Value) (N : Nat → Prop) (s : Sto) (h : StoIn w q p sv vv N s) :
    Calls Tryz.prog 14 #[.pointer (some ⟨q, 0, none⟩)] w fun e w' => e = .returned (.int .i64 (countL (tabOf s) 3)) ∧ Below w.heap.size w w' := by
  have H := Lib.hid h
  clear h
  go_enter Tryz.func14, Tryz.ntmps14
  go_wp2_with (first | (go_at_call 28; refine (table_any _ _ _ _ _ _ _ H.out).mono ?_; rintro e w1 ⟨v, rfl, ht, hb1⟩; have HT := Lib.hid ht; have HB := Lib.hid hb1; clear hb1 ht) | (go_at_call 35; refine (count_any _ _ _ _ HT.out).mono ?_; rintro e w2 ⟨rfl, hb2⟩; have HB2 := Lib.hid (HB.out.trans (hb2.mono HB.out.size)); clear hb2))
  go_ret
  exact ⟨rfl, HB2.out⟩
def wornS (s : Sto) : Bool := decide ((s.n.blocks : Int) / 8 < countL (tabOf s) 3)
set_option maxHeartbeats 1000000 in
theorem wornS_any (w : World) (q p : Nat) (sv vv : Value) (N : Nat → Prop) (s : Sto) (h : StoIn w q p sv vv N s) :
    Calls Tryz.prog 15 #[.pointer (some ⟨q, 0, none⟩)] w fun e w' => e = .returned (.bool (wornS s)) ∧ Below w.heap.size w w' := by
  have H := Lib.hid h
  have k4 := h.cells.c4
  have HK : Hid (∀ w', Below w.heap.size w w' → w'.cell? ⟨q, 4, none⟩ = some (.int .i64 ((s.n.blocks : Int) / 8))) := fun w' hb => below_c hb H.out.cells.c4
  have HB0 := Lib.hid (Below.refl w.heap.size w).drew
  have hq := seql q
  have HR : Hid (∀ wq, StoIn wq q p sv vv N s → _) := fun wq hq => retired_any wq q p sv vv N s hq
  obtain ⟨r, hr⟩ : ∃ r, countL (tabOf s) 3 = r := ⟨_, rfl⟩
  rw [hr] at HR
  have HWS : Hid (wornS s = decide ((s.n.blocks : Int) / 8 < r)) := by show _ = _; rw [← hr]; rfl
  clear h hr
  go_enter Tryz.func15, Tryz.ntmps15
  go_wp2_with fail
  go_region_held3 (fun w' => w'.cell? ⟨q, 4, none⟩ = some (.int .i64 ((s.n.blocks : Int) / 8))) (first | exact HK.out _ HB0.out | exact HK.out _ HB1.out) ((go_at_call 14; refine (HR.out _ (H.out.below HB0.out)).mono ?_; rintro e w1 ⟨rfl, hb1⟩; have HB1 := Lib.hid (HB0.out.trans (hb1.mono HB0.out.size)); clear hb1))
  go_wp2_with fail
  go_ret
  exact ⟨by rw [HWS.out]; simp, HB1.out⟩
def Sto.sealed (s : Sto) : Sto := if 0 ≤ s.op then { s with state := s.state.set s.op.toNat 2, op := -1 } else s
def Sto.retire (s : Sto) (b : Nat) : Sto := { s with state := s.state.set b 3, op := if s.op = (b : Int) then -1 else s.op }
theorem ints_set (l : List Int) (i : Nat) (x : Int) : ints (l.set i x) = (ints l).set i (.int .i64 x) := by simp [ints, List.map_set]
theorem own_setAt {w : World} {base g c n : Nat} {e : TypeId} {xs : List Value} (h : w.ownsRow base e 1 (.slice (some ⟨g, 0, none⟩) n c) n xs) (i : Nat) (u : Value) (hi : i < n) :
    (w.setCell ⟨g, i, none⟩ u).ownsRow base e 1 (.slice (some ⟨g, 0, none⟩) n c) n (xs.set i u) := by
  refine ⟨by simpa using h.1, ?_⟩
  rcases h.2 with ⟨h1, h2⟩ | ⟨g', cap, cur, h1, h2, h3, h4, h5, h6, h7⟩
  · omega
  · injection h1 with hA hl hc
    injection hA with hA
    injection hA with hA
    subst hA hc
    have hw := Whole.set (w := w) (g := g) (t := e) (cs := cur) h3 i u
    refine .inr ⟨g, c, _, rfl, h2, hw, h4, h5, by simpa using h6, ?_⟩
    rw [← h7]
    simp [List.take_set]
/-- A state set, and what is open. -/
theorem StoIn.setState {w : World} {q p g : Nat} {c : Nat} {vv : Value} {N : Nat → Prop} {s : Sto} (h : StoIn w q p (.slice (some ⟨g, 0, none⟩) s.state.length c) vv N s) (b : Nat) (x : Int) (hb : b < s.state.length) :
    StoIn (w.setCell ⟨g, b, none⟩ (.int .i64 x)) q p (.slice (some ⟨g, 0, none⟩) s.state.length c) vv N { s with state := s.state.set b x } := by
  have hg := h.ds g rfl
  have hv : vv.ownBlock ≠ some g := h.dsv g rfl
  have hk := Keep.set1 w g b (.int .i64 x)
  have hs := h.st
  refine ⟨h.obj.keep hk (fun e => hg.2 e.symm), ?_, own_keep h.va hk (fun k hk2 e => hv (e ▸ hk2)), h.arr.keep hk (fun k hn e => hg.1 (e ▸ hn)), by simpa using h.ls, h.lv, h.o0, h.o1, h.q0, h.q1, h.dq, h.ds, h.dv, h.dsv⟩
  have := own_setAt hs b (.int .i64 x) hb
  rw [← ints_set] at this
  simpa using this
theorem StoIn.setOp {w : World} {q p : Nat} {sv vv : Value} {N : Nat → Prop} {s : Sto} (h : StoIn w q p sv vv N s) (o : Int) (h0 : -1 ≤ o) (h1 : o < s.n.blocks) :
    StoIn (w.setCell ⟨q, 10, none⟩ (.int .i64 o)) q p sv vv N { s with op := o } := by
  have hk := Keep.set1 w q 10 (.int .i64 o)
  have ho := h.obj.set 10 (.int .i64 o)
  exact ⟨by simpa [stoCells] using ho, own_keep h.st hk (fun g hg e => (h.ds g hg).2 e), own_keep h.va hk (fun g hg e => (h.dv g hg).2 e), h.arr.keep hk (fun k hn e => h.dq (e ▸ hn)), h.ls, h.lv, h0, h1, h.q0, h.q1, h.dq, h.ds, h.dv, h.dsv⟩
theorem StoIn.setSeq {w : World} {q p : Nat} {sv vv : Value} {N : Nat → Prop} {s : Sto} (h : StoIn w q p sv vv N s) (o : Int) (h0 : 0 ≤ o) (h1 : o ≤ 281474976710656) :
    StoIn (w.setCell ⟨q, 11, none⟩ (.int .i64 o)) q p sv vv N { s with seq := o } := by
  have hk := Keep.set1 w q 11 (.int .i64 o)
  have ho := h.obj.set 11 (.int .i64 o)
  exact ⟨by simpa [stoCells] using ho, own_keep h.st hk (fun g hg e => (h.ds g hg).2 e), own_keep h.va hk (fun g hg e => (h.dv g hg).2 e), h.arr.keep hk (fun k hn e => h.dq (e ▸ hn)), h.ls, h.lv, h.o0, h.o1, h0, h1, h.dq, h.ds, h.dv, h.dsv⟩
/-- A store that was moved: its array's blocks may have turned. -/
structure Moved (w : World) (q : Nat) (sv vv : Value) (N : Nat → Prop) (w' : World) (N' : Nat → Prop) : Prop where
  keep : Keep (foot q sv vv N) w w'
  sub : ∀ k, N' k → N k ∨ w.heap.size ≤ k
theorem Moved.refl (w : World) (q : Nat) (sv vv : Value) (N : Nat → Prop) : Moved w q sv vv N w N := ⟨Keep.refl _ _, fun _ h => .inl h⟩
theorem Moved.below {w w' : World} {q : Nat} {sv vv : Value} {N : Nat → Prop} (h : Below w.heap.size w w') : Moved w q sv vv N w' N := ⟨Keep.below h, fun _ h => .inl h⟩
theorem Moved.trans {w w' w'' : World} {q : Nat} {sv vv : Value} {N N' N'' : Nat → Prop} (h : Moved w q sv vv N w' N') (k : Moved w' q sv vv N' w'' N'') : Moved w q sv vv N w'' N'' :=
  ⟨h.keep.trans k.keep (fun x hx => by
    rcases hx with hx | hx | hx | hx
    · exact .inl (.inl hx)
    · exact .inl (.inr (.inl hx))
    · exact .inl (.inr (.inr (.inl hx)))
    · exact (h.sub x hx).imp (fun h => .inr (.inr (.inr h))) id),
   fun x hx => (k.sub x hx).elim (h.sub x) (fun h2 => .inr (Nat.le_trans h.keep.size h2))⟩
theorem Moved.setQ {w w' : World} {q : Nat} {sv vv : Value} {N N' : Nat → Prop} (h : Moved w q sv vv N w' N') (i : Nat) (u : Value) : Moved w q sv vv N (w'.setCell ⟨q, i, none⟩ u) N' :=
  ⟨h.keep.setCell (p := ⟨q, i, none⟩) (.inl (.inl rfl)) u, h.sub⟩
theorem Moved.setS {w w' : World} {q : Nat} {sv vv : Value} {N N' : Nat → Prop} (h : Moved w q sv vv N w' N') {g : Nat} (hg : sv.ownBlock = some g) (i : Nat) (u : Value) : Moved w q sv vv N (w'.setCell ⟨g, i, none⟩ u) N' :=
  ⟨h.keep.setCell (p := ⟨g, i, none⟩) (.inl (.inr (.inl hg))) u, h.sub⟩
theorem Moved.drewN {w w' : World} {q : Nat} {sv vv : Value} {N N' : Nat → Prop} (h : Moved w q sv vv N w' N') (n : Nat) : Moved w q sv vv N (w'.drewN n) N' := ⟨h.keep.drewN n, h.sub⟩
set_option maxHeartbeats 1000000 in
theorem seal_no (w : World) (q p : Nat) (sv vv : Value) (N : Nat → Prop) (s : Sto) (h : StoIn w q p sv vv N s) (ho : s.op < 0) :
    Calls Tryz.prog 29 #[.pointer (some ⟨q, 0, none⟩)] w fun e w' => e = .returned (.tuple #[]) ∧ w = w' := by
  have c10 := h.cells.c10
  have hq := sneq q
  clear h
  go_enter Tryz.func29, Tryz.ntmps29
  go_wp2_with fail
  go_end0
  exact ⟨rfl, rfl⟩
set_option maxHeartbeats 4000000 in
theorem seal_yes (w : World) (q p : Nat) (sv vv : Value) (N : Nat → Prop) (s : Sto) (h : StoIn w q p sv vv N s) (ho : 0 ≤ s.op) :
    Calls Tryz.prog 29 #[.pointer (some ⟨q, 0, none⟩)] w fun e w' => e = .returned (.tuple #[]) ∧ StoIn w' q p sv vv N s.sealed ∧ Moved w q sv vv N w' N := by
  have c10 := h.cells.c10
  have c8 := h.cells.c8
  have f10 := h.obj.fz 10
  have hq := sneq q
  have h1 := h.o1
  have h2 := h.ls
  obtain ⟨A, c, rfl⟩ := own_slice h.st
  obtain ⟨g, rfl, _, _, _, hcs, hfs⟩ := own_cell h.st (by omega)
  obtain ⟨b, hb⟩ : ∃ b : Nat, s.op = (b : Int) := ⟨s.op.toNat, by omega⟩
  have hbl : b < s.state.length := by omega
  have hbi : (b : Int) < (s.state.length : Int) := by omega
  obtain ⟨x, hx⟩ : ∃ x, s.state[b]? = some x := ⟨s.state[b], List.getElem?_eq_getElem hbl⟩
  have a0 := hcs b _ (ints_at _ _ _ hx)
  have a1 := hfs b
  have HS : Hid (s.sealed = { s with state := s.state.set b 2, op := -1 }) := by show _ = _; rw [Sto.sealed, if_pos ho, hb]; rfl
  rw [hb] at c10
  have hgq := (h.ds g rfl).2
  have HF := Lib.hid ((h.setState b 2 hbl).setOp (-1) (by omega) (by show (-1 : Int) < s.n.blocks; omega))
  have SA : Hid (w.cell? ⟨q, 8, none⟩ = some (.slice (some ⟨g, 0, none⟩) s.state.length c) ∧ w.cell? ⟨q, 10, none⟩ = some (.int .i64 (b : Int))) := ⟨c8, c10⟩
  have SB : Hid ((w.setCell ⟨g, b, none⟩ (.int .i64 2)).cell? ⟨q, 8, none⟩ = some (.slice (some ⟨g, 0, none⟩) s.state.length c) ∧ (w.setCell ⟨g, b, none⟩ (.int .i64 2)).cell? ⟨q, 10, none⟩ = some (.int .i64 (b : Int))) := ⟨(Keep.set1 w g b (.int .i64 2)).cell c8 (fun e => hgq e.symm), (Keep.set1 w g b (.int .i64 2)).cell c10 (fun e => hgq e.symm)⟩
  clear h hcs hfs h2 h1
  go_enter Tryz.func29, Tryz.ntmps29
  go_wp2_with fail
  go_region_held3 (fun w' => w'.cell? ⟨q, 8, none⟩ = some (.slice (some ⟨g, 0, none⟩) s.state.length c) ∧ w'.cell? ⟨q, 10, none⟩ = some (.int .i64 (b : Int))) (first | exact SA.out | exact SB.out) (fail)
  go_wp2_with fail
  go_end0
  rw [HS.out]
  exact ⟨rfl, HF.out.drewN 1, (((Moved.refl w q _ vv N).setS rfl b _).setQ 10 _).drewN 1⟩
end Go.Proofs.YtfacgeappbgldaaGreatDoor.st
