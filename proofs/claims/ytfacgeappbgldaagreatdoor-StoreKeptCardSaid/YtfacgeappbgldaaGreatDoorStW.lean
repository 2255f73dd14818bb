/- StoreScan: the walk. -/
import Derived.Test.YtfacgeappbgldaaGreatDoorStV
import Derived.Laws.StructEq
namespace Go.Proofs.YtfacgeappbgldaaGreatDoor.st
open Go.RowKit Go.Proofs.YtfacgeappbgldaaGreatDoor.er Go.Proofs.YtfacgeappbgldaaGreatDoor.nd Go.Proofs.YtfacgeappbgldaaGreatDoor.we Go.Proofs.YtfacgeappbgldaaGreatDoor.ge Go.Proofs.YtfacgeappbgldaaGreatDoor.pg
attribute [local go_sem ↓] Go.wp_at_zero Go.wp_at_succ
set_option linter.unusedVariables false

def PageArg (w : World) (b off : Nat) (l : List Page) : Prop := ∀ (j : Nat) (p : Page), l[j]? = some p → w.cell? ⟨b, off + j * 5, none⟩ = some (.int .i64 p.kind) ∧ w.cell? ⟨b, off + j * 5 + 1, none⟩ = some (.int .i64 p.space) ∧ w.cell? ⟨b, off + j * 5 + 2, none⟩ = some (.int .i64 p.key) ∧ w.cell? ⟨b, off + j * 5 + 3, none⟩ = some (.int .i64 p.seq) ∧ w.cell? ⟨b, off + j * 5 + 4, none⟩ = some (.string p.body)
theorem eq_page (k sp y sq : Int) (b : ByteArray) (d : Nat) (w : World) : (Op.equalIn (d + 2) 39 (.agg #[.int .i64 k, .int .i64 sp, .int .i64 y, .int .i64 sq, .string b]) (.agg #[.int .i64 k, .int .i64 sp, .int .i64 y, .int .i64 sq, .string b])).run Tryz.prog w = .ok true w := by
  rw [run_equalIn_agg w (d + 1) 39 _ _ (by kernel_rfl) (by kernel_rfl)]
  simp only [Program.fieldsOf, Tryz.underlying39]
  go_simp
theorem eq_found (a k sp y sq : Int) (b : ByteArray) (d : Nat) (w : World) : (Op.equalIn (d + 3) 51 (.agg #[.int .i64 a, .int .i64 k, .int .i64 sp, .int .i64 y, .int .i64 sq, .string b]) (.agg #[.int .i64 a, .int .i64 k, .int .i64 sp, .int .i64 y, .int .i64 sq, .string b])).run Tryz.prog w = .ok true w := by
  rw [run_equalIn_agg w (d + 2) 51 _ _ (by kernel_rfl) (by kernel_rfl)]
  simp only [Program.fieldsOf, Tryz.underlying51]
  have := eq_page k sp y sq b d w
  go_simp
theorem neq_found (a k sp y sq : Int) (b : ByteArray) (w : World) : (binOp .neq 51 (.agg #[.int .i64 a, .int .i64 k, .int .i64 sp, .int .i64 y, .int .i64 sq, .string b]) (.agg #[.int .i64 a, .int .i64 k, .int .i64 sp, .int .i64 y, .int .i64 sq, .string b])).run Tryz.prog w = .ok (.bool false) w := by
  have h := eq_found a k sp y sq b 9997 w
  simp [binOp, Op.equal, Op.maxDepth, h]
theorem gt_found : Tryz.prog.eqGuardType Tryz.prog.depth 51 = false := by kernel_rfl
theorem seq_anyW (w : World) (q p : Nat) (sv vv : Value) (N : Nat → Prop) (s : Sto) (h : StoIn w q p sv vv N s) :
    Calls Tryz.prog 19 #[.pointer (some ⟨q, 0, none⟩)] w fun e w' => e = .returned (.int .i64 s.seq) ∧ w = w' := by
  have c11 := h.cells.c11
  have hq := seql q
  clear h
  go_enter Tryz.func19, Tryz.ntmps19
  go_wp2_with fail
  go_ret
  exact ⟨rfl, rfl⟩
theorem Scan_anyS (w : World) (q p : Nat) (sv vv : Value) (N : Nat → Prop) (s : Sto) (h : StoIn w q p sv vv N s) (hl : LaidT w) (hd : s.n.down = false) (ht : ∀ a, (s.n.read a).2.size ≤ 70368744177664) :
    Calls Tryz.prog 23 #[.pointer (some ⟨q, 0, none⟩)] w fun e w' => ∃ A c, e = .returned (.tuple #[.slice A (scanTo s.n (s.n.blocks * s.n.per)).length c, .nilIface]) ∧ w'.ownsRow w.heap.size 51 6 (.slice A (scanTo s.n (s.n.blocks * s.n.per)).length c) (scanTo s.n (s.n.blocks * s.n.per)).length (fndCells (scanTo s.n (s.n.blocks * s.n.per))) ∧ Below w.heap.size w w' := by
  have H := Lib.hid h
  have HL := Lib.hid hl
  have HT := Lib.hid ht
  have c0 := h.cells.c0
  have hq := seql q
  clear h hl ht
  go_enter Tryz.func23, Tryz.ntmps23
  go_wp2_with fail
  refine (Down_any _ _ _ _ H.out.arr).mono ?_
  rw [hd]
  rintro e w1 ⟨rfl, rfl⟩
  go_wp2_with fail
  refine (scan_any _ _ _ _ _ _ _ H.out HL.out HT.out).mono ?_
  rintro e w1 ⟨A, c, rfl, ho, hb⟩
  have HO := Lib.hid ho
  have HB := Lib.hid hb
  obtain ⟨n, hn⟩ : ∃ n, (scanTo s.n (s.n.blocks * s.n.per)).length = n := ⟨_, rfl⟩
  have HNN := Lib.hid hn
  rw [hn]
  clear ho hb hn
  go_wp2_with fail
  obtain rfl := HNN.out
  obtain ⟨n, hn⟩ : ∃ n, (scanTo s.n (s.n.blocks * s.n.per)).length = n := ⟨_, rfl⟩
  have HO' := HO.out
  rw [hn] at HO' ⊢
  refine bodyPost_ret (v := .tuple #[.slice A n c, .nilIface]) (by simp [results, Tryz.results23, go_sem]) rfl ⟨A, c, rfl, HO', HB.out⟩
theorem full_size (ps : List Page) (h : Good ps) (a : Int) : ((fullN (tx ps) ps.length).read a).2.size ≤ 70368744177664 := by
  by_cases ha : 0 ≤ a ∧ a < 128
  · obtain ⟨m, rfl⟩ : ∃ m : Nat, a = (m : Int) := ⟨a.toNat, by omega⟩
    rw [full_read _ _ _ (by omega)]
    by_cases hl : m < ps.length
    · rw [if_pos hl]
      have hm := (h m _ (List.getElem?_eq_getElem hl)).1
      have hb := (mayB_yes hm).2.2.2.2.2.2.2.2
      rw [tx_at (List.getElem?_eq_getElem hl), writeF_size]
      omega
    · rw [if_neg hl]
      exact Nat.zero_le _
  · unfold Nand.read
    rw [if_neg (by simp [fullN]), if_pos (by intro k; apply ha; have := k; exact ⟨k.1, k.2⟩)]
    exact Nat.zero_le _
theorem AppG {w0 w : World} {q p : Nat} {sv vv : Value} {N : Nat → Prop} {s s' : Sto} (h : Law w0 w q p sv vv N s) (k sp y sq : Int) (b : ByteArray) (a c : Int) (hr : appF 3 s ⟨k, sp, y, sq, b⟩ = some (s', a, c)) (ho : s.n.ops ≤ 1000000) (hq : s.seq ≤ 281474976710655) :
    Calls Tryz.prog 12 #[.pointer (some ⟨q, 0, none⟩), .agg #[.int .i64 k, .int .i64 sp, .int .i64 y, .int .i64 sq, .string b]] w (AppEP w0 w q p sv vv N s' a c y) := by
  refine (Append_any w q p sv vv N s ⟨k, sp, y, sq, b⟩ 3 (s', a, c) h.st h.laid h.zero hr (by omega) hq).mono ?_
  rintro e w' ⟨v, N', rfl, hs, hm, he⟩
  exact ⟨v, N', rfl, h.moved hs hm, hm, he⟩
/-- Blocks beside the store have turned. -/
theorem Law.aside {G : Nat → Prop} {w0 w w' : World} {q p : Nat} {sv vv : Value} {N : Nat → Prop} {s : Sto} (h : Law w0 w q p sv vv N s) (hk : Keep G w w') (hG : ∀ k, G k → w0.heap.size ≤ k) (hd : ∀ k, foot q sv vv N k → ¬ G k) : Law w0 w' q p sv vv N s :=
  ⟨h.st.keep hk hd, h.bel.trans (hk.toBelow h.bel.size hG), h.base, hk.cell h.laid (fun hg => by have := hG 0 hg; have := h.pos; omega), h.pos⟩
theorem keep_grown {w w' : World} {row : Option Nat} (h : w.grownBy w' row) : Keep (fun k => row = some k) w w' :=
  ⟨h.os, h.tape, h.output, h.size, fun k hk hn => h.block k hk (fun e => hn e.symm)⟩
/-- The kept ones, grown. -/
theorem kept_grow {w0 w w5 : World} {q p : Nat} {sv vv : Value} {N : Nat → Prop} {s : Sto} {v : Value} {g : Nat} {o : Obj} {n n2 c2 : Nat} {xs : List Value} (h : Law w0 w q p sv vv N s) (hw : w.ownsRow w0.heap.size 51 6 v n xs) (hF : ∀ g, v.ownBlock = some g → ¬ foot q sv vv N g)
    (hg : (w.alloc o).grownBy w5 v.ownBlock) (hb : v.ownBlock = some g ∨ g = (w.alloc o).heap.size) : Law w0 w5 q p sv vv N s ∧ ∀ g', (Value.slice (some ⟨g, 0, none⟩) n2 c2).ownBlock = some g' → ¬ foot q sv vv N g' := by
  have HA := h.below ((Below.refl w.heap.size w).alloc (Nat.le_refl _) o)
  refine ⟨HA.aside (keep_grown hg) (fun k hk => (hw.lt k hk).1) (fun k hk e => hF k e hk), fun g' hg' hf => ?_⟩
  obtain rfl : g = g' := by simpa [Value.ownBlock] using hg'
  rcases hb with hb | hb
  · exact hF g hb hf
  · have := HA.st.lt _ hf; omega
theorem foot_box {w0 w : World} {q p : Nat} {sv vv : Value} {N : Nat → Prop} {s : Sto} (h : Law w0 w q p sv vv N s) : ¬ foot q sv vv N w.heap.size := fun hf => by have := h.st.lt _ hf; omega
theorem foot_moved {w w' : World} {q : Nat} {sv vv : Value} {N N' : Nat → Prop} (hm : Moved w q sv vv N w' N') {x : Nat} (hx : ¬ foot q sv vv N x) (hl : x < w.heap.size) : ¬ foot q sv vv N' x := by
  intro hf
  rcases hf with hf | hf | hf | hf
  · exact hx (.inl hf)
  · exact hx (.inr (.inl hf))
  · exact hx (.inr (.inr (.inl hf)))
  · rcases hm.sub x hf with h2 | h2
    · exact hx (.inr (.inr (.inr h2)))
    · omega
theorem ScanL {w0 w : World} {q p : Nat} {sv vv : Value} {N : Nat → Prop} {ps : List Page} {m : Nat} (h : Law w0 w q p sv vv N (opS (tx ps) m)) (hm : ps.length = m) (hg : Good ps) (hl : m < 61) :
    Calls Tryz.prog 23 #[.pointer (some ⟨q, 0, none⟩)] w fun e w' => ∃ A c, e = .returned (.tuple #[.slice A m c, .nilIface]) ∧ w'.ownsRow w.heap.size 51 6 (.slice A m c) m (fndCells (fnds ps m)) ∧ Below w.heap.size w w' := by
  subst hm
  have hs : scanTo (opS (tx ps) ps.length).n ((opS (tx ps) ps.length).n.blocks * (opS (tx ps) ps.length).n.per) = fnds ps ps.length := by
    show scanTo (fullN (tx ps) ps.length) (16 * 8) = _
    rw [scanTo_full ps hg _ (by omega), show min (16 * 8) ps.length = ps.length from by omega]
  have := Scan_anyS w q p sv vv N _ h.st h.laid rfl (full_size ps hg)
  rw [hs, fnds_len] at this
  exact this
theorem OpenL {w0 w : World} {q p : Nat} {sv vv : Value} {N : Nat → Prop} {ps : List Page} {m : Nat} (h : Law w0 w q p sv vv N (fullS (tx ps) m)) (hm : ps.length = m) (hg : Good ps) (hl : m < 61) :
    Calls Tryz.prog 22 #[.pointer (some ⟨p, 0, none⟩)] w fun e w' => ∃ q' sv' vv', e = .returned (.tuple #[.pointer (some ⟨q', 0, none⟩), .nilIface]) ∧ Law w0 w' q' p sv' vv' N (opS (tx ps) m) ∧ Below w.heap.size w w' := by
  subst hm
  have ha : NandAt w N p (fullN (tx ps) ps.length) := h.st.arr
  refine (open_ok w N p _ ha rfl h.laid (full_size ps hg)).mono ?_
  rintro e w' ⟨q', sv', vv', rfl, hst, hb, hf⟩
  rw [open_full ps hg hl] at hst
  refine ⟨q', sv', vv', rfl, ⟨hst, h.bel.trans (hb.mono h.bel.size), ?_, h.laid.below hb h.laid.lt, h.pos⟩, hb⟩
  have hz := h.bel.size
  intro k hk
  rcases hk with hk | hk | hk | hk
  · have := hf k (.inl hk); omega
  · have := hf k (.inr (.inl hk)); omega
  · have := hf k (.inr (.inr (.inl hk))); omega
  · exact h.base k (.inr (.inr (.inr hk)))
theorem fnd_cells {w : World} {base m : Nat} {v : Value} {ps : List Page} (h : w.ownsRow base 51 6 v m (fndCells (fnds ps m))) (j : Nat) (hj : j < m) (hm : ps.length = m) :
    ∃ g c k sp y sq b, v = .slice (some ⟨g, 0, none⟩) m c ∧ ps[j]? = some ⟨k, sp, y, sq, b⟩ ∧ w.cell? ⟨g, j * 6, none⟩ = some (.int .i64 (j : Int)) ∧ w.cell? ⟨g, j * 6 + 1, none⟩ = some (.int .i64 k) ∧ w.cell? ⟨g, j * 6 + 2, none⟩ = some (.int .i64 sp) ∧ w.cell? ⟨g, j * 6 + 3, none⟩ = some (.int .i64 y) ∧ w.cell? ⟨g, j * 6 + 4, none⟩ = some (.int .i64 sq) ∧ w.cell? ⟨g, j * 6 + 5, none⟩ = some (.string b) := by
  obtain ⟨A, c, rfl⟩ := own_slice h
  obtain ⟨g, rfl, _, _, _, hc, _⟩ := own_cell h (by omega)
  obtain ⟨⟨k, sp, y, sq, b⟩, hx⟩ : ∃ a, ps[j]? = some a := ⟨ps[j]'(by omega), List.getElem?_eq_getElem (by omega)⟩
  have hf := fnds_at ps m j hj
  rw [show ps.getD j noPage = ⟨k, sp, y, sq, b⟩ from by rw [List.getD, hx]; rfl] at hf
  obtain ⟨f0, f1, f2, f3, f4, f5⟩ := fndCells_at _ _ _ hf
  exact ⟨g, c, k, sp, y, sq, b, rfl, hx, hc _ _ f0, hc _ _ f1, hc _ _ f2, hc _ _ f3, hc _ _ f4, hc _ _ f5⟩
def b120 : ByteArray := ⟨#[120]⟩
set_option maxHeartbeats 4000000 in
set_option maxRecDepth 100000 in
theorem scan_walk (w : World) (hg : LaidT w) (A : Option Addr) (n c : Nat) (l : List Page) (hl : l.length = n) (hn : n ≤ 9223372036854775807) (ha : 0 < n → ∃ b off, A = some ⟨b, off, none⟩ ∧ b < w.heap.size ∧ PageArg w b off l) :
    Calls Tryz.prog 5 #[.slice A n c] w fun e w' => e = .returned (.bool true) ∧ Below w.heap.size w w' := by
  have HG := Lib.hid hg
  have HA := Lib.hid ha
  clear hg ha
  obtain ⟨i0, hi0, hz0, hz1, hz2⟩ := info_parts fndInfo
  have HI0 := Lib.hid hi0
  have HZ0 := Lib.hid hz0
  have HZ1 := Lib.hid hz1
  have HZ2 := Lib.hid hz2
  clear hi0 hz0 hz1 hz2
  go_enter Tryz.func5, Tryz.ntmps5
  go_wp2_with fail
  refine (plain_anyS _).mono ?_
  rintro e w1 ⟨rfl, hb1⟩
  have HB1 := Lib.hid hb1
  have HG1 := Lib.hid (HG.out.below hb1 HG.out.lt)
  clear hb1
  go_wp2_with fail
  refine (fresh_any w _ HB1.out HG1.out HG.out.lt).mono ?_
  rintro e w2 ⟨q, p, sv, vv, N2, rfl, L2, hb2⟩
  have HL := Lib.hid L2
  have hs := seql q
  clear L2 hb2
  go_wp2_with fail
  refine (awake_yes _ HL.out.laid).mono ?_
  rintro e w3 ⟨rfl, hb⟩
  have L3 := HL.out.below hb
  rw [← full_zero (tx [])] at L3
  have HL := Lib.hid L3
  clear hb L3
  go_wp2_with fail
  go_loopw [5, 6] (fun kv i wr => ∃ (j m : Nat) (Nj : Nat → Prop) (B : Option Addr) (d : Nat) (ps : List Page), j ≤ n ∧ j ≤ 60 ∧ i = .int .i64 j ∧ kv = .slice B m d ∧ ps.length = m ∧ m ≤ j ∧ Hid (Good ps) ∧ Hid (Law w wr q p sv vv Nj (fullS (tx ps) m)) ∧ Hid (wr.ownsRow w.heap.size 51 6 (.slice B m d) m (fndCells (fnds ps m))) ∧ Hid (∀ g, (Value.slice B m d).ownBlock = some g → ¬ foot q sv vv Nj g)) (fun _ i _ => 60 - (intOf i).toNat)
  case atStart => exact ⟨0, 0, N2, none, 0, [], Nat.zero_le _, Nat.zero_le _, rfl, rfl, rfl, Nat.le_refl _, fun t p h => by simp at h, HL.out, ⟨rfl, .inl ⟨rfl, rfl⟩⟩, fun g hg => by simp [Value.ownBlock] at hg⟩
  case round =>
    clear HL
    obtain ⟨j, m, Nj, B, d, ps, hjn, hj60, rfl, rfl, hpl, hmj, HGD, HL, HO, HF⟩ := hrel
    by_cases hlt : j < n ∧ j < 60
    · have hji : (j : Int) < (n : Int) := by omega
      have hj6 : (j : Int) < 60 := by omega
      obtain ⟨b, off, rfl, hbw, hcb⟩ := HA.out (by omega)
      obtain ⟨pg0, hx⟩ : ∃ a, l[j]? = some a := ⟨l[j]'(by omega), List.getElem?_eq_getElem (by omega)⟩
      obtain ⟨a0, a1, a2, a3, a4⟩ := hcb j pg0 hx
      obtain ⟨k, sp, y, sq, bo⟩ := pg0
      simp only at a0 a1 a2 a3 a4
      have e0 := (HL.out.bel.cell (p := ⟨b, _, none⟩) hbw).trans a0
      have e1 := (HL.out.bel.cell (p := ⟨b, _, none⟩) hbw).trans a1
      have e2 := (HL.out.bel.cell (p := ⟨b, _, none⟩) hbw).trans a2
      have e3 := (HL.out.bel.cell (p := ⟨b, _, none⟩) hbw).trans a3
      have e4 := (HL.out.bel.cell (p := ⟨b, _, none⟩) hbw).trans a4
      clear a0 a1 a2 a3 a4 hcb
      go_wp2_with fail
      have HX := Lib.hid (Whole.new wr 39 #[.int .i64 k, .int .i64 sp, .int .i64 y, .int .i64 sq, .string bo])
      have HNF := Lib.hid (foot_box HL.out)
      have BA : Hid (Below wr.heap.size wr (wr.alloc (.cells #[.int .i64 k, .int .i64 sp, .int .i64 y, .int .i64 sq, .string bo] 39))) := (Below.refl _ _).alloc (Nat.le_refl _) _
      have HL1 := Lib.hid (HL.out.below BA.out)
      have HO1 := Lib.hid (own_below HO.out BA.out)
      obtain ⟨⟨p0, p1, p2, p3, p4⟩, z0, z1, z2, z3, z4⟩ := tmp_cells HX.out
      refine (seq_anyW _ _ _ _ _ _ _ HL1.out.st).mono ?_
      rintro e w4 ⟨rfl, rfl⟩
      rw [show (fullS (tx ps) m).seq = (m : Int) from rfl]
      have hm60 : (m : Int) ≤ 60 := by omega
      clear e0 e1 e2 e3 e4
      go_wp2_with fail
      have HX := Lib.hid (Whole.new wr 39 #[.int .i64 k, .int .i64 sp, .int .i64 y, .int .i64 m, .string bo])
      have BA : Hid (Below wr.heap.size wr (wr.alloc (.cells #[.int .i64 k, .int .i64 sp, .int .i64 y, .int .i64 m, .string bo] 39))) := (Below.refl _ _).alloc (Nat.le_refl _) _
      have HL1 := Lib.hid (HL.out.below BA.out)
      have HO1 := Lib.hid (own_below HO.out BA.out)
      have HOW : Hid (∀ g, (Value.slice B m d).ownBlock = some g → g < (wr.alloc (.cells #[.int .i64 k, .int .i64 sp, .int .i64 y, .int .i64 m, .string bo] 39)).heap.size) := fun g hg => (HO1.out.lt g hg).2
      have HXL : Hid (wr.heap.size < (wr.alloc (.cells #[.int .i64 k, .int .i64 sp, .int .i64 y, .int .i64 m, .string bo] 39)).heap.size) := HX.out.lt
      obtain ⟨wa, hwa⟩ : ∃ wa, wr.alloc (.cells #[.int .i64 k, .int .i64 sp, .int .i64 y, .int .i64 m, .string bo] 39) = wa := ⟨_, rfl⟩
      obtain ⟨x, hxx⟩ : ∃ x, wr.heap.size = x := ⟨_, rfl⟩
      rw [hwa] at HX BA HL1 HO1 HOW HXL ⊢
      rw [hxx] at HX HXL HNF
      simp only [hxx]
      clear hwa hxx p0 p1 p2 p3 p4 z0 z1 z2 z3 z4
      cases hmb : mayB ⟨k, sp, y, 0, bo⟩
      · refine (AppG HL1.out k sp y m bo 0 1 (scan_no 3 _ ⟨k, sp, y, m, bo⟩ hmb) (show ((m : Nat) : Int) ≤ 1000000 from by omega) (show ((m : Nat) : Int) ≤ 281474976710655 from by omega)).mono ?_
        rintro e w6 ⟨v1, N6, rfl, L6, m6, e6⟩
        obtain ⟨tv, xv, rfl⟩ := some_errS e6 (by decide)
        have HL6 := Lib.hid L6
        have HO6 := Lib.hid (own_keep HO1.out m6.keep (fun g hg => HF.out g hg))
        have HF6 : Hid (∀ g, (Value.slice B m d).ownBlock = some g → ¬ foot q sv vv N6 g) := fun g hg => foot_moved m6 (HF.out g hg) (HOW.out g hg)
        clear L6 m6 e6 hmb
        go_wp2_with fail
        go_roundw
        case rel => exact ⟨j + 1, m, N6, B, d, ps, by omega, by omega, by go_num, rfl, hpl, by omega, HGD.out, HL6.out, HO6.out, HF6.out⟩
        case measure => simp [intOf]; omega
      · have hsa := scan_app ps ⟨k, sp, y, m, bo⟩ (by omega) hmb
        rw [hpl] at hsa
        have HMB := Lib.hid hmb
        refine (AppG HL1.out k sp y m bo m 0 hsa (show ((m : Nat) : Int) ≤ 1000000 from by omega) (show ((m : Nat) : Int) ≤ 281474976710655 from by omega)).mono ?_
        rintro e w6 ⟨v1, N6, rfl, L6, m6, e6⟩
        obtain rfl := zero_errS e6
        have HL6 := Lib.hid L6
        have HO6 := Lib.hid (own_keep HO1.out m6.keep (fun g hg => HF.out g hg))
        have HF6 : Hid (∀ g, (Value.slice B m d).ownBlock = some g → ¬ foot q sv vv N6 g) := fun g hg => foot_moved m6 (HF.out g hg) (HOW.out g hg)
        have HX6 := Lib.hid (HX.out.keep m6.keep HNF.out)
        obtain ⟨⟨p0, p1, p2, p3, p4⟩, _⟩ := tmp_cells HX6.out
        have HO7 := Lib.hid (HO6.out.alloc (.cells #[.int .i64 m, .int .i64 k, .int .i64 sp, .int .i64 y, .int .i64 m, .string bo] 51))
        have HNW : Hid (∀ (j' : Nat) (u : Value), ([.int .i64 m, .int .i64 k, .int .i64 sp, .int .i64 y, .int .i64 m, .string bo] : List Value)[j']? = some u → (w6.alloc (.cells #[.int .i64 m, .int .i64 k, .int .i64 sp, .int .i64 y, .int .i64 m, .string bo] 51)).cell? ((⟨w6.heap.size, 0, none⟩ : Addr).add j') = some u) := World.news_of_block (heap_alloc_new w6 _)
        have hone : ∀ u ∈ ([.int .i64 m, .int .i64 k, .int .i64 sp, .int .i64 y, .int .i64 m, .string bo] : List Value), u.oneCell' = true := by simp [Value.oneCell']
        have HONE := Lib.hid hone
        have HSZ : Hid (w.heap.size ≤ (w6.alloc (.cells #[.int .i64 m, .int .i64 k, .int .i64 sp, .int .i64 y, .int .i64 m, .string bo] 51)).heap.size) := by show _ ≤ _; have := HL6.out.bel.size; simp only [World.size_alloc]; omega
        clear L6 m6 e6 hmb hone hsa
        go_wp2_with (at_builtin; go_must (refine wpList_append_lies _ rfl (.tmp 51) (.tmp 55) 49 rfl w.heap.size 51 i0 _ 6 56 Tryz.underlying49 HI0.out HZ0.out HZ1.out HZ2.out rfl (by omega) (.slice B m d) m (fndCells (fnds ps m)) rfl HO7.out ⟨w6.heap.size, 0, none⟩ 1 1 [.int .i64 m, .int .i64 k, .int .i64 sp, .int .i64 y, .int .i64 m, .string bo] rfl rfl HNW.out HONE.out (by omega) (by simp only [maxLen]; omega) (by omega) HSZ.out _ rfl ?_; intro g2 c2 w8 hown8 hg8 hat8 _; obtain ⟨l8, f8⟩ := kept_grow (n2 := m + 1) (c2 := c2) HL6.out HO6.out HF6.out hg8 hat8; have HL8 := Lib.hid l8; have HF8 := Lib.hid f8; have HO8 := Lib.hid hown8; clear hown8 hg8 hat8 l8 f8))
        have HCE : Hid (fndCells (fnds (ps ++ [⟨k, sp, y, m, bo⟩]) (m + 1)) = fndCells (fnds ps m) ++ [.int .i64 m, .int .i64 k, .int .i64 sp, .int .i64 y, .int .i64 m, .string bo]) := by
          have h := fnds_snoc ps ⟨k, sp, y, m, bo⟩
          rw [hpl] at h
          show _ = _
          rw [h, fndCells_snoc]
        have HG8 : Hid (Good (ps ++ [⟨k, sp, y, m, bo⟩])) := good_snoc HGD.out (mayB_seq (p := ⟨k, sp, y, 0, bo⟩) HMB.out (by omega) (by omega)) (by rw [hpl])
        have hmeas : 60 - (intOf (.int .i64 ((j : Int) + 1))).toNat < 60 - (intOf (.int .i64 (j : Int))).toNat := by simp [intOf]; omega
        refine ⟨⟨j + 1, m + 1, N6, some ⟨g2, 0, none⟩, c2, ps ++ [⟨k, sp, y, m, bo⟩], ?_, ?_, ?_, rfl, ?_, ?_, HG8, ?_, ?_, ?_⟩, hmeas⟩
        · omega
        · omega
        · go_num
        · simp [hpl]
        · omega
        · with_reducible exact HL8
        · rw [HCE.out]; with_reducible exact HO8
        · with_reducible exact HF8
    · clear HA
      have hml : m ≤ 60 := by omega
      cases hjn2 : decide (j < n)
      · have hjj : j = n := by simp at hjn2; omega
        subst hjj
        go_wp2_with fail
        refine (OpenL HL.out hpl HGD.out (by omega)).mono ?_
        rintro e w4 ⟨q', sv', vv', rfl, L4, hb4⟩
        have HX := Lib.hid L4
        have HL4 := Lib.hid (HL.out.below hb4)
        have HO4 := Lib.hid (own_below HO.out hb4)
        have hs' := seql q'
        have hm61 : m < 61 := by omega
        clear L4 hb4
        go_wp2_with fail
        refine (seq_anyW _ _ _ _ _ _ _ HX.out.st).mono ?_
        rintro e w5 ⟨rfl, rfl⟩
        rw [show (opS (tx ps) m).seq = (m : Int) from rfl]
        go_wp2_with fail
        refine (seq_anyW _ _ _ _ _ _ _ HL4.out.st).mono ?_
        rintro e w5 ⟨rfl, rfl⟩
        rw [show (fullS (tx ps) m).seq = (m : Int) from rfl]
        go_wp2_with fail
        refine (ScanL HX.out hpl HGD.out hm61).mono ?_
        rintro e w6 ⟨A6, c6, rfl, ho6, hb6⟩
        have HX := Lib.hid (HX.out.below hb6)
        have HO4 := Lib.hid (own_below HO4.out hb6)
        have HO6 := Lib.hid ho6
        clear ho6 hb6 HL4
        go_wp2_with fail
        go_loopw [13] (fun i wr => ∃ j' : Nat, j' ≤ m ∧ i = .int .i64 j' ∧ Hid (Below w6.heap.size w6 wr)) (fun i _ => m - (intOf i).toNat)
        case atStart => exact ⟨0, Nat.zero_le _, rfl, Below.refl _ _⟩
        case round =>
          obtain ⟨j', hj', rfl, HB⟩ := hrel
          by_cases hlt' : j' < m
          · have hji' : (j' : Int) < (m : Int) := by omega
            obtain ⟨g, cg, k, sp, y, sq, bo, hA6, hps, f0, f1, f2, f3, f4, f5⟩ := fnd_cells HO6.out j' hlt' hpl
            obtain ⟨gB, cB, k2, sp2, y2, sq2, bo2, hBB, hps2, h0, h1, h2, h3, h4, h5⟩ := fnd_cells HO4.out j' hlt' hpl
            obtain ⟨rfl, rfl, rfl, rfl, rfl⟩ : k = k2 ∧ sp = sp2 ∧ y = y2 ∧ sq = sq2 ∧ bo = bo2 := by
              rw [hps] at hps2
              injection hps2 with e
              injection e with e1 e2 e3 e4 e5
              exact ⟨e1, e2, e3, e4, e5⟩
            injection hA6 with hA6 _ hA7
            injection hBB with hBB _ hBC
            subst hA6 hBB hA7 hBC
            have x0 := below_c HB.out f0
            have x1 := below_c HB.out f1
            have x2 := below_c HB.out f2
            have x3 := below_c HB.out f3
            have x4 := below_c HB.out f4
            have x5 := below_c HB.out f5
            have y0 := below_c HB.out h0
            have y1 := below_c HB.out h1
            have y2' := below_c HB.out h2
            have y3 := below_c HB.out h3
            have y4 := below_c HB.out h4
            have y5 := below_c HB.out h5
            have hne := fun wq => neq_found (j' : Int) k sp y sq bo wq
            have hgt := gt_found
            clear f0 f1 f2 f3 f4 f5 h0 h1 h2 h3 h4 h5 hps hps2
            go_wp2_with fail
            go_region
            go_wp2_with fail
            exact ⟨⟨j' + 1, by omega, by go_num, HB.out.drew⟩, by simp [intOf]; omega⟩
          · obtain rfl : j' = m := by omega
            go_wp2_with fail
            refine (data_anyS _ _ _).mono ?_
            rintro e w8 ⟨rfl, hb8⟩
            have HX8 := Lib.hid (HX.out.below (HB.out.trans (hb8.mono HB.out.size)))
            clear hb8
            simp only [Page.val, pg]
            obtain ⟨cb, hcb⟩ : ∃ cb : Nat, (j' + 7) / 8 = cb := ⟨_, rfl⟩
            have hnx := nx_app (tx ps) j' hm61 (pg 1 b120) (may_pg 1 b120 (by decide) (by decide) (by decide))
            have hnn := nx_next (tx ps) (writeF { pg 1 b120 with seq := (j' : Int) }) j' hm61
            rw [hcb] at hnx hnn
            have HNX := Lib.hid hnx
            have HNN := Lib.hid hnn
            have htm : Int.tmod (8 * (cb : Int)) 8 = 0 := by simp
            have htd : Int.tdiv (8 * (cb : Int)) 8 = (cb : Int) := by simp
            clear hnx hnn
            go_wp2_with fail
            refine (App0 HX8.out 1 b120 (8 * (cb : Int)) HNX.out (show ((j' : Nat) : Int) ≤ 1000000 from by omega) (show ((j' : Nat) : Int) ≤ 281474976710655 from by omega)).mono ?_
            rintro e w9 ⟨rfl, N9, L9⟩
            have HX9 := Lib.hid L9
            clear L9
            go_wp2_with fail
            refine (Next_any _ _ p _ (cb : Int) HX9.out.st.arr).mono ?_
            rw [show Nand.next (Sto.n { nxS (tx ps) j' (writeF { pg 1 b120 with seq := (j' : Int) }) with seq := (j' : Int) + 1 }) (cb : Int) = 1 from HNN.out]
            rintro e w10 ⟨rfl, d10, rfl⟩
            go_wp2_with fail
            go_ret
            exact ⟨rfl, below_drewN HX9.out.bel _⟩
      · have hjj : j = 60 := by simp at hjn2; omega
        have hjn3 : (j : Int) < (n : Int) := by simp at hjn2; omega
        subst hjj
        go_wp2_with fail
        refine (OpenL HL.out hpl HGD.out (by omega)).mono ?_
        rintro e w4 ⟨q', sv', vv', rfl, L4, hb4⟩
        have HX := Lib.hid L4
        have HL4 := Lib.hid (HL.out.below hb4)
        have HO4 := Lib.hid (own_below HO.out hb4)
        have hs' := seql q'
        have hm61 : m < 61 := by omega
        clear L4 hb4
        go_wp2_with fail
        refine (seq_anyW _ _ _ _ _ _ _ HX.out.st).mono ?_
        rintro e w5 ⟨rfl, rfl⟩
        rw [show (opS (tx ps) m).seq = (m : Int) from rfl]
        go_wp2_with fail
        refine (seq_anyW _ _ _ _ _ _ _ HL4.out.st).mono ?_
        rintro e w5 ⟨rfl, rfl⟩
        rw [show (fullS (tx ps) m).seq = (m : Int) from rfl]
        go_wp2_with fail
        refine (ScanL HX.out hpl HGD.out hm61).mono ?_
        rintro e w6 ⟨A6, c6, rfl, ho6, hb6⟩
        have HX := Lib.hid (HX.out.below hb6)
        have HO4 := Lib.hid (own_below HO4.out hb6)
        have HO6 := Lib.hid ho6
        clear ho6 hb6 HL4
        go_wp2_with fail
        go_loopw [13] (fun i wr => ∃ j' : Nat, j' ≤ m ∧ i = .int .i64 j' ∧ Hid (Below w6.heap.size w6 wr)) (fun i _ => m - (intOf i).toNat)
        case atStart => exact ⟨0, Nat.zero_le _, rfl, Below.refl _ _⟩
        case round =>
          obtain ⟨j', hj', rfl, HB⟩ := hrel
          by_cases hlt' : j' < m
          · have hji' : (j' : Int) < (m : Int) := by omega
            obtain ⟨g, cg, k, sp, y, sq, bo, hA6, hps, f0, f1, f2, f3, f4, f5⟩ := fnd_cells HO6.out j' hlt' hpl
            obtain ⟨gB, cB, k2, sp2, y2, sq2, bo2, hBB, hps2, h0, h1, h2, h3, h4, h5⟩ := fnd_cells HO4.out j' hlt' hpl
            obtain ⟨rfl, rfl, rfl, rfl, rfl⟩ : k = k2 ∧ sp = sp2 ∧ y = y2 ∧ sq = sq2 ∧ bo = bo2 := by
              rw [hps] at hps2
              injection hps2 with e
              injection e with e1 e2 e3 e4 e5
              exact ⟨e1, e2, e3, e4, e5⟩
            injection hA6 with hA6 _ hA7
            injection hBB with hBB _ hBC
            subst hA6 hBB hA7 hBC
            have x0 := below_c HB.out f0
            have x1 := below_c HB.out f1
            have x2 := below_c HB.out f2
            have x3 := below_c HB.out f3
            have x4 := below_c HB.out f4
            have x5 := below_c HB.out f5
            have y0 := below_c HB.out h0
            have y1 := below_c HB.out h1
            have y2' := below_c HB.out h2
            have y3 := below_c HB.out h3
            have y4 := below_c HB.out h4
            have y5 := below_c HB.out h5
            have hne := fun wq => neq_found (j' : Int) k sp y sq bo wq
            have hgt := gt_found
            clear f0 f1 f2 f3 f4 f5 h0 h1 h2 h3 h4 h5 hps hps2
            go_wp2_with fail
            go_region
            go_wp2_with fail
            exact ⟨⟨j' + 1, by omega, by go_num, HB.out.drew⟩, by simp [intOf]; omega⟩
          · obtain rfl : j' = m := by omega
            go_wp2_with fail
            refine (data_anyS _ _ _).mono ?_
            rintro e w8 ⟨rfl, hb8⟩
            have HX8 := Lib.hid (HX.out.below (HB.out.trans (hb8.mono HB.out.size)))
            clear hb8
            simp only [Page.val, pg]
            obtain ⟨cb, hcb⟩ : ∃ cb : Nat, (j' + 7) / 8 = cb := ⟨_, rfl⟩
            have hnx := nx_app (tx ps) j' hm61 (pg 1 b120) (may_pg 1 b120 (by decide) (by decide) (by decide))
            have hnn := nx_next (tx ps) (writeF { pg 1 b120 with seq := (j' : Int) }) j' hm61
            rw [hcb] at hnx hnn
            have HNX := Lib.hid hnx
            have HNN := Lib.hid hnn
            have htm : Int.tmod (8 * (cb : Int)) 8 = 0 := by simp
            have htd : Int.tdiv (8 * (cb : Int)) 8 = (cb : Int) := by simp
            clear hnx hnn
            go_wp2_with fail
            refine (App0 HX8.out 1 b120 (8 * (cb : Int)) HNX.out (show ((j' : Nat) : Int) ≤ 1000000 from by omega) (show ((j' : Nat) : Int) ≤ 281474976710655 from by omega)).mono ?_
            rintro e w9 ⟨rfl, N9, L9⟩
            have HX9 := Lib.hid L9
            clear L9
            go_wp2_with fail
            refine (Next_any _ _ p _ (cb : Int) HX9.out.st.arr).mono ?_
            rw [show Nand.next (Sto.n { nxS (tx ps) j' (writeF { pg 1 b120 with seq := (j' : Int) }) with seq := (j' : Int) + 1 }) (cb : Int) = 1 from HNN.out]
            rintro e w10 ⟨rfl, d10, rfl⟩
            go_wp2_with fail
            go_ret
            exact ⟨rfl, below_drewN HX9.out.bel _⟩
end Go.Proofs.YtfacgeappbgldaaGreatDoor.st
