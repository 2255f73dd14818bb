/- store: Open. -/
import Derived.Test.YtfacgeappbgldaaGreatDoorStG
namespace Go.Proofs.YtfacgeappbgldaaGreatDoor.st
open Go.RowKit Go.Proofs.YtfacgeappbgldaaGreatDoor.er Go.Proofs.YtfacgeappbgldaaGreatDoor.nd Go.Proofs.YtfacgeappbgldaaGreatDoor.we Go.Proofs.YtfacgeappbgldaaGreatDoor.ge Go.Proofs.YtfacgeappbgldaaGreatDoor.pg
attribute [local go_sem ↓] Go.wp_at_zero Go.wp_at_succ
set_option linter.unusedVariables false

def openName : ByteArray := ⟨#[111, 112, 101, 110]⟩
theorem nneq (p : Nat) (w : World) : (binOp .eql 22 (.pointer (some ⟨p, 0, none⟩)) (.pointer none)).run Tryz.prog w = .ok (.bool false) w := heql p w
set_option maxHeartbeats 1000000 in
theorem open_nil (w : World) : Calls Tryz.prog 22 #[.pointer none] w fun e w' => ∃ b, e = .returned (.tuple #[.pointer none, .iface 94 (.pointer (some ⟨b, 0, none⟩))]) ∧ Below w.heap.size w w' ∧ ErrAt w' [b] [(openName, 0)] 1 (.iface 94 (.pointer (some ⟨b, 0, none⟩))) := by
  go_enter Tryz.func22, Tryz.ntmps22
  go_wp2_with (go_at_call 34; refine (wrap_err _ _ _ _ _).mono ?_; rintro e w3 ⟨rfl, rfl⟩)
  refine bodyPost_ret (v := .tuple #[.pointer none, .iface 94 (.pointer (some ⟨w.heap.size, 0, none⟩))]) (by simp [results, Tryz.results22, go_sem]) rfl ⟨_, rfl, (Below.refl _ _).alloc (Nat.le_refl _) _, ⟨rfl, _, Whole.new _ _ _, rfl⟩⟩
set_option maxHeartbeats 1000000 in
theorem open_down (w : World) (N : Nat → Prop) (p : Nat) (n : Nand) (h : NandAt w N p n) (hd : n.down = true) : Calls Tryz.prog 22 #[.pointer (some ⟨p, 0, none⟩)] w fun e w' => ∃ b, e = .returned (.tuple #[.pointer none, .iface 94 (.pointer (some ⟨b, 0, none⟩))]) ∧ Below w.heap.size w w' ∧ ErrAt w' [b] [(openName, 0)] 9 (.iface 94 (.pointer (some ⟨b, 0, none⟩))) := by
  have hn := heql p
  have HD := Lib.hid (Down_any w N p n h)
  rw [hd] at HD
  clear h hd
  go_enter Tryz.func22, Tryz.ntmps22
  go_wp2_with (first | (go_at_call 20; refine HD.out.mono ?_; rintro e w3 ⟨rfl, rfl⟩) | (go_at_call 34; refine (wrap_err _ _ _ _ _).mono ?_; rintro e w3 ⟨rfl, rfl⟩))
  refine bodyPost_ret (v := .tuple #[.pointer none, .iface 94 (.pointer (some ⟨w.heap.size, 0, none⟩))]) (by simp [results, Tryz.results22, go_sem]) rfl ⟨_, rfl, (Below.refl _ _).alloc (Nat.le_refl _) _, ⟨rfl, _, Whole.new _ _ _, rfl⟩⟩
theorem setPlan5 {w : World} {g : Nat} {t : TypeId} {x0 x1 x2 x3 x4 x5 x6 x7 x8 x9 x10 x11 : Value} (h : Whole w g t #[x0, x1, x2, x3, x4, x5, x6, x7, x8, x9, x10, x11]) (a b c d e : Value) :
    Whole (((((w.setCell ⟨g, 3, none⟩ a).setCell ⟨g, 4, none⟩ b).setCell ⟨g, 5, none⟩ c).setCell ⟨g, 6, none⟩ d).setCell ⟨g, 7, none⟩ e) g t #[x0, x1, x2, a, b, c, d, e, x8, x9, x10, x11] := by
  simpa using ((((h.set 3 a).set 4 b).set 5 c).set 6 d).set 7 e
theorem intInfo : (Tryz.prog.info? 3).map (fun i => (i.zero, i.size, i.bytes)) = some (some (.int .i64 0), 1, 8) := by kernel_rfl
def stTo (n : Nand) : Nat → List Int
  | 0 => []
  | k + 1 => stTo n k ++ [firstS n k]
theorem stTo_len (n : Nand) : ∀ k, (stTo n k).length = k
  | 0 => rfl
  | k + 1 => by simp [stTo, stTo_len n k]
theorem made_ints (n : Nat) : (madeCells (Value.int .i64 0).cells (n * 1)).toList = ints (List.replicate n 0) := by
  simp only [madeCells, ints, Nat.mul_one, Array.toList_map, Array.toList_range, List.map_replicate]
  apply List.ext_getElem
  · simp
  · intro i h1 h2
    simp [Value.cells, Nat.mod_one]
/-- A store half made: so many states. -/
structure OpR (w wr : World) (q p : Nat) (n : Nand) (x3 x4 x5 x6 : Int) (sv vv : Value) (j : Nat) : Prop where
  obj : Whole wr q 79 #[.pointer (some ⟨p, 0, none⟩), .int .i64 n.blocks, .int .i64 n.per, .int .i64 x3, .int .i64 x4, .int .i64 x5, .int .i64 x6, .int .i64 (x6 + 1), sv, vv, .int .i64 (-1), .int .i64 0]
  st : wr.ownsRow w.heap.size 3 1 sv j (ints (stTo n j))
  va : wr.ownsRow w.heap.size 3 1 vv n.blocks (ints (List.replicate n.blocks 0))
  bel : Below w.heap.size w wr
  hq : w.heap.size ≤ q
  apart : ∀ g, sv.ownBlock = some g → vv.ownBlock ≠ some g
theorem OpR.next {w wr w6 : World} {q p : Nat} {n : Nand} {x3 x4 x5 x6 : Int} {B : Option Addr} {vv : Value} {j d g cap k : Nat} (h : OpR w wr q p n x3 x4 x5 x6 (.slice B j d) vv j)
    (ho : w6.ownsRow w.heap.size 3 1 (.slice (some ⟨g, 0, none⟩) (j + 1) cap) (j + 1) (ints (stTo n j) ++ [.int .i64 (firstS n j)])) (hg : ((wr.drewN k).alloc (.cells #[.int .i64 (firstS n j)] 3)).grownBy w6 (Value.slice B j d).ownBlock)
    (hat : (Value.slice B j d).ownBlock = some g ∨ g = wr.heap.size + 1) : OpR w (w6.setCell ⟨q, 8, none⟩ (.slice (some ⟨g, 0, none⟩) (j + 1) cap)) q p n x3 x4 x5 x6 (.slice (some ⟨g, 0, none⟩) (j + 1) cap) vv (j + 1) := by
  have hk : Keep (fun x => (Value.slice B j d).ownBlock = some x) wr w6 := (((Keep.refl _ _).drewN k).alloc _).grown hg (fun g hg => .inl hg)
  have hqb : (Value.slice B j d).ownBlock ≠ some q := fun e => own_ne h.st h.obj (by decide) e.symm
  have hw : Whole w6 q _ _ := h.obj.keep hk hqb
  have hks := Keep.set1 w6 q 8 (.slice (some ⟨g, 0, none⟩) (j + 1) cap)
  have hva : w6.ownsRow w.heap.size 3 1 vv n.blocks (ints (List.replicate n.blocks 0)) := own_keep h.va hk (fun g hg e => h.apart g e hg)
  refine ⟨by simpa using hw.set 8 _, ?_, own_keep hva hks (fun g hg e => ?_), ?_, h.hq, ?_⟩
  · have := own_keep ho hks (fun g' hg' e => own_ne ho hw (by decide) (by rw [← e, hg']))
    simpa [stTo, ints] using this
  · exact own_ne hva hw (by decide) (by rw [← e, hg])
  · refine (h.bel.trans (hk.toBelow h.bel.size (fun x hx => (h.st.lt x hx).1))).setCell (p := ⟨q, 8, none⟩) h.hq _
  · intro g' hg'
    have : g = g' := by simpa [Value.ownBlock] using hg'
    subst this
    rcases hat with hat | hat
    · exact h.apart g hat
    · intro hv
      have := (h.va.lt g hv).2
      omega
def madeS (n : Nand) : Sto := ⟨n, stTo n n.blocks, List.replicate n.blocks 0, -1, 0⟩
theorem nandAt_lt {w : World} {N : Nat → Prop} {p : Nat} {n : Nand} (h : NandAt w N p n) : ∀ k, N k → k < w.heap.size := by
  obtain ⟨pb, pv, vs, h⟩ := h
  exact h.lt
theorem OpR.made {w wr : World} {q p : Nat} {n : Nand} {x3 x4 x5 x6 : Int} {sv vv : Value} {N : Nat → Prop} (h : OpR w wr q p n x3 x4 x5 x6 sv vv n.blocks) (h3 : (n.blocks : Int) * n.per = x3) (h4 : (n.blocks : Int) / 8 = x4) (h5 : capZ n.blocks n.per = x5) (h6 : lowZ n.blocks n.per = x6) (hn : NandAt wr N p n) (hN : ∀ k, N k → k < w.heap.size) : StoIn wr q p sv vv N (madeS n) := by
  subst h3 h4 h5 h6
  have hb := hn.ok.b0
  have e1 : (madeS n).state.length = n.blocks := stTo_len _ _
  have e2 : (madeS n).valid.length = n.blocks := by simp [madeS]
  refine ⟨h.obj, ?_, ?_, hn, e1, e2, by show (-1 : Int) ≤ -1; omega, by show (-1 : Int) < (n.blocks : Int); omega, by show (0 : Int) ≤ 0; omega, by show (0 : Int) ≤ _; omega, fun hq => by have := hN _ hq; have := h.hq; omega, fun k hk => ⟨fun hq => by have := hN _ hq; have := (h.st.lt k hk).1; omega, fun e => own_ne h.st h.obj (by decide) (by rw [← e, hk])⟩, fun k hk => ⟨fun hq => by have := hN _ hq; have := (h.va.lt k hk).1; omega, fun e => own_ne h.va h.obj (by decide) (by rw [← e, hk])⟩, h.apart⟩
  · rw [e1]; exact own_base h.st (Nat.zero_le _)
  · rw [e2]; exact own_base h.va (Nat.zero_le _)
theorem readIn_yes {u : ByteArray} {p : Page} (h : readIn u = (p, 0)) : mayB p = true := by
  unfold readIn at h
  split at h
  · exact absurd (congrArg Prod.snd h) (by show ¬ (3 : Int) = 0; decide)
  · split at h
    · exact absurd (congrArg Prod.snd h) (by show ¬ (3 : Int) = 0; decide)
    · split at h
      · exact absurd (congrArg Prod.snd h) (by show ¬ (3 : Int) = 0; decide)
      · split at h
        · exact absurd (congrArg Prod.snd h) (by show ¬ (3 : Int) = 0; decide)
        · rename_i hm
          have := congrArg Prod.fst h
          simp only at this
          rw [← this]
          simpa using hm
theorem readF_yes {t : ByteArray} {p : Page} (h : readF t = (p, 0)) : mayB p = true := by
  unfold readF at h
  split at h
  · exact readIn_yes h
  · rename_i h2
    exact absurd (congrArg Prod.snd h) h2
theorem readS_yes {n : Nand} {a : Int} (h : (readS n a).2 = 0) : mayB (readS n a).1 = true := by
  unfold readS at h ⊢
  split at h
  · rename_i h1
    rw [if_pos h1]
    exact readF_yes (p := (readF (n.read a).2).1) (Prod.ext rfl h)
  · rename_i h1
    exact absurd h h1
theorem scanTo_may (n : Nand) : ∀ (k : Nat) (f : Fnd), f ∈ scanTo n k → mayB f.p = true
  | 0, f, h => by simp [scanTo] at h
  | k + 1, f, h => by
    unfold scanTo at h
    split at h
    · rename_i h2
      rcases List.mem_append.1 h with h | h
      · exact scanTo_may n k f h
      · simp at h
        subst h
        exact readS_yes h2
    · exact scanTo_may n k f h
def seqTo (l : List Fnd) : Nat → Int
  | 0 => 0
  | j + 1 => match l[j]? with
    | some f => max (seqTo l j) (f.p.seq + 1)
    | none => seqTo l j
theorem seqTo_le (l : List Fnd) (h : ∀ f ∈ l, mayB f.p = true) : ∀ j, 0 ≤ seqTo l j ∧ seqTo l j ≤ 281474976710656
  | 0 => ⟨Int.le_refl _, by show (0 : Int) ≤ _; omega⟩
  | j + 1 => by
    have ih := seqTo_le l h j
    unfold seqTo
    split
    · rename_i f hf
      have := mayB_yes (h f (List.mem_of_getElem? hf))
      omega
    · exact ih
def openS (n : Nand) : Sto := { madeS n with seq := seqTo (scanTo n (n.blocks * n.per)) (scanTo n (n.blocks * n.per)).length }
def OpenPost (n : Nand) (p : Nat) (N : Nat → Prop) (w : World) (e : Ending) (w' : World) : Prop :=
  ∃ q sv vv, e = .returned (.tuple #[.pointer (some ⟨q, 0, none⟩), .nilIface]) ∧ StoIn w' q p sv vv N (openS n) ∧ Below w.heap.size w w' ∧ (∀ k, foot q sv vv (fun _ => False) k → w.heap.size ≤ k)
theorem fndCells_at : ∀ (l : List Fnd) (j : Nat) (f : Fnd), l[j]? = some f →
    (fndCells l)[j * 6]? = some (.int .i64 f.at_) ∧ (fndCells l)[j * 6 + 1]? = some (.int .i64 f.p.kind) ∧ (fndCells l)[j * 6 + 2]? = some (.int .i64 f.p.space) ∧ (fndCells l)[j * 6 + 3]? = some (.int .i64 f.p.key) ∧ (fndCells l)[j * 6 + 4]? = some (.int .i64 f.p.seq) ∧ (fndCells l)[j * 6 + 5]? = some (.string f.p.body)
  | [], _, _, h => by simp at h
  | x :: r, 0, m, h => by
    simp at h
    subst h
    simp [fndCells]
  | x :: r, j + 1, m, h => by
    have ih := fndCells_at r j m (by simpa using h)
    have e : fndCells (x :: r) = .int .i64 x.at_ :: .int .i64 x.p.kind :: .int .i64 x.p.space :: .int .i64 x.p.key :: .int .i64 x.p.seq :: .string x.p.body :: fndCells r := by simp [fndCells]
    rw [e, show (j + 1) * 6 = j * 6 + 6 from by omega]
    simpa using ih
set_option maxHeartbeats 2000000 in
set_option maxRecDepth 100000 in
theorem open_ok (w : World) (N : Nat → Prop) (p : Nat) (n : Nand) (h : NandAt w N p n) (hd : n.down = false) (hl : LaidT w) (ht : ∀ a, (n.read a).2.size ≤ 70368744177664) :
    Calls Tryz.prog 22 #[.pointer (some ⟨p, 0, none⟩)] w (OpenPost n p N w) := by
  have hn := heql p
  have HD := Lib.hid (Down_any w N p n h)
  rw [hd] at HD
  have H := Lib.hid h
  have HL := Lib.hid hl
  have HT := Lib.hid ht
  have hok := h.ok
  have hB0 := hok.b0
  have hB1 := hok.b1
  have hP0 := hok.p0
  have hP1 := hok.p1
  clear h hd hl ht
  go_enter Tryz.func22, Tryz.ntmps22
  go_wp2_with (go_at_call 20; refine HD.out.mono ?_; rintro e w3 ⟨rfl, rfl⟩)
  refine (Geometry_any w N p n H.out).mono ?_
  rintro e w1 ⟨rfl, hb1⟩
  have HB1 := Lib.hid hb1
  clear hb1
  go_wp2_with fail
  refine (plan_yes n.blocks n.per _ (by omega) (by omega) (by omega) (by omega)).mono ?_
  rintro e w2 ⟨rfl, hb2⟩
  have HW2 := Lib.hid (Whole.below (Whole.new w1 79 #[.pointer (some ⟨p, 0, none⟩), .int .i64 n.blocks, .int .i64 n.per, .int .i64 0, .int .i64 0, .int .i64 0, .int .i64 0, .int .i64 0, .slice none 0 0, .slice none 0 0, .int .i64 (-1), .int .i64 0]) hb2 (by simp))
  have HB2 := Lib.hid ((HB1.out.alloc HB1.out.size (.cells #[.pointer (some ⟨p, 0, none⟩), .int .i64 n.blocks, .int .i64 n.per, .int .i64 0, .int .i64 0, .int .i64 0, .int .i64 0, .int .i64 0, .slice none 0 0, .slice none 0 0, .int .i64 (-1), .int .i64 0] 79)).trans (hb2.mono (by have := HB1.out.size; simp; omega)))
  clear hb2
  obtain ⟨x3, hx3⟩ : ∃ x : Int, (n.blocks : Int) * n.per = x := ⟨_, rfl⟩
  obtain ⟨x4, hx4⟩ : ∃ x : Int, (n.blocks : Int) / 8 = x := ⟨_, rfl⟩
  obtain ⟨x5, hx5⟩ : ∃ x : Int, capZ n.blocks n.per = x := ⟨_, rfl⟩
  obtain ⟨x6, hx6⟩ : ∃ x : Int, lowZ n.blocks n.per = x := ⟨_, rfl⟩
  rw [hx3, hx4, hx5, hx6]
  have HX3 := Lib.hid hx3
  have HX4 := Lib.hid hx4
  have HX5 := Lib.hid hx5
  have HX6 := Lib.hid hx6
  clear hx3 hx4 hx5 hx6
  have HW3 := Lib.hid (setPlan5 HW2.out (.int .i64 x3) (.int .i64 x4) (.int .i64 x5) (.int .i64 x6) (.int .i64 (x6 + 1)))
  have c1 := HW2.out.cell 1
  have c2 := HW2.out.cell 2
  have c3 := HW2.out.cell 3
  have c4 := HW2.out.cell 4
  have c5 := HW2.out.cell 5
  have c6 := HW2.out.cell 6
  have c7 := HW2.out.cell 7
  have z3 := HW2.out.fz 3
  have z4 := HW2.out.fz 4
  have z5 := HW2.out.fz 5
  have z6 := HW2.out.fz 6
  have z7 := HW2.out.fz 7
  obtain ⟨i0, hi0, hz0, hz1, hz2⟩ := info_parts intInfo
  have HSZ3 : Hid ((((((w2.setCell ⟨w1.heap.size, 3, none⟩ (.int .i64 x3)).setCell ⟨w1.heap.size, 4, none⟩ (.int .i64 x4)).setCell ⟨w1.heap.size, 5, none⟩ (.int .i64 x5)).setCell ⟨w1.heap.size, 6, none⟩ (.int .i64 x6)).setCell ⟨w1.heap.size, 7, none⟩ (.int .i64 (x6 + 1))).heap.size = w2.heap.size) := by show _ = _; simp [size_set]
  have HB3 : Hid (Below w.heap.size w (((((w2.setCell ⟨w1.heap.size, 3, none⟩ (.int .i64 x3)).setCell ⟨w1.heap.size, 4, none⟩ (.int .i64 x4)).setCell ⟨w1.heap.size, 5, none⟩ (.int .i64 x5)).setCell ⟨w1.heap.size, 6, none⟩ (.int .i64 x6)).setCell ⟨w1.heap.size, 7, none⟩ (.int .i64 (x6 + 1)))) := by
    have hq := HB1.out.size
    exact ((((HB2.out.setCell (p := ⟨w1.heap.size, 3, none⟩) hq _).setCell (p := ⟨w1.heap.size, 4, none⟩) hq _).setCell (p := ⟨w1.heap.size, 5, none⟩) hq _).setCell (p := ⟨w1.heap.size, 6, none⟩) hq _).setCell (p := ⟨w1.heap.size, 7, none⟩) hq _
  go_wp2_with ((at_make; refine wpList_make_full _ rfl _ _ 60 rfl w2.heap.size 3 i0 (.int .i64 0) 1 Tryz.underlying60 hi0 hz0 hz1 _ _ _ _ n.blocks (by rfl) (by rfl) (by rfl) (by rfl) (by rw [hz2]; omega) (by unfold maxLen; omega) (Nat.le_of_eq HSZ3.out.symm) ?_; intro w4 hown hg; have HO4 := Lib.hid hown; have HG4 := Lib.hid hg; have hw4 := HW3.out.grown hg (by simp); have HW4 := Lib.hid hw4; have d9 := hw4.cell 9; have y9 := hw4.fz 9; have d1 := hw4.cell 1; clear hown hg hw4))
  have HR0 : Hid (OpR w (w4.setCell ⟨w1.heap.size, 9, none⟩ (.slice (some ⟨w2.heap.size, 0, none⟩) n.blocks n.blocks)) w1.heap.size p n x3 x4 x5 x6 (.slice none 0 0) (.slice (some ⟨w2.heap.size, 0, none⟩) n.blocks n.blocks) 0) := by
    have hq := HB1.out.size
    have hkb : Below w.heap.size w w4 := HB3.out.trans (Below.mono ⟨HG4.out.os, HG4.out.tape, HG4.out.output, HG4.out.size, fun i hi => HG4.out.block i hi (by simp)⟩ HB3.out.size)
    have hks := Keep.set1 w4 w1.heap.size 9 (.slice (some ⟨w2.heap.size, 0, none⟩) n.blocks n.blocks)
    have ho := HO4.out
    rw [HSZ3.out] at ho
    have ho2 : w4.ownsRow w.heap.size 3 1 (.slice (some ⟨w2.heap.size, 0, none⟩) n.blocks n.blocks) n.blocks (ints (List.replicate n.blocks 0)) := by
      have := own_base ho HB2.out.size
      rw [made_ints] at this
      exact this
    refine ⟨by simpa using HW4.out.set 9 _, ⟨rfl, .inl ⟨rfl, rfl⟩⟩, own_keep ho2 hks (fun g hg e => own_ne ho2 HW4.out (by decide) (by rw [← e, hg])), hkb.setCell (p := ⟨w1.heap.size, 9, none⟩) hq _, hq, fun g hg => by simp [Value.ownBlock] at hg⟩
  clear c1 c2 c3 c4 c5 c6 c7 z3 z4 z5 z6 z7 d9 y9 d1
  go_loopw [48] (fun i wr => ∃ (j : Nat) (B : Option Addr) (d : Nat), j ≤ n.blocks ∧ i = .int .i64 j ∧ Hid (OpR w wr w1.heap.size p n x3 x4 x5 x6 (.slice B j d) (.slice (some ⟨w2.heap.size, 0, none⟩) n.blocks n.blocks) j)) (fun i _ => n.blocks - (intOf i).toNat)
  case atStart => exact ⟨0, none, 0, Nat.zero_le _, rfl, HR0.out⟩
  case round =>
    obtain ⟨j, B, d, hj, rfl, HR⟩ := hrel
    by_cases hlt : j < n.blocks
    · have hji : (j : Int) < (n.blocks : Int) := by omega
      have k8 := HR.out.obj.cell 8
      have y8 := HR.out.obj.fz 8
      have k8a : ∀ (kk : Nat) (o : Obj), ((wr.drewN kk).alloc o).cell? ⟨w1.heap.size, 8, none⟩ = some (.slice B j d) := fun kk o => below_c ((below_drewN (Below.refl wr.heap.size wr) kk).alloc (below_drewN (Below.refl wr.heap.size wr) kk).size o) k8
      have k8b : ∀ (kk : Nat), (wr.drewN kk).cell? ⟨w1.heap.size, 8, none⟩ = some (.slice B j d) := fun kk => below_c (below_drewN (Below.refl wr.heap.size wr) kk) k8
      have HNA := Lib.hid ((H.out.below HR.out.bel).below (Below.refl wr.heap.size wr).drew)
      obtain ⟨x, hx⟩ : ∃ x, firstS n (j : Int) = x := ⟨_, rfl⟩
      have HX := Lib.hid hx
      have HOA := Lib.hid (fun k => (own_below HR.out.st (below_drewN (Below.refl _ _) k)).alloc (.cells #[.int .i64 x] 3))
      have HNW : Hid (∀ (k j' : Nat) (u : Value), [Value.int .i64 x][j']? = some u → ((wr.drewN k).alloc (.cells #[.int .i64 x] 3)).cell? ((⟨wr.heap.size, 0, none⟩ : Addr).add j') = some u) := fun k => World.news_of_block (w := (wr.drewN k).alloc (.cells #[.int .i64 x] 3)) (heap_alloc_new (wr.drewN k) _)
      have HSZ : Hid (∀ k, w.heap.size ≤ ((wr.drewN k).alloc (.cells #[.int .i64 x] 3)).heap.size) := fun k => ((below_drewN HR.out.bel k).alloc (below_drewN HR.out.bel k).size _).size
      have HPK : Hid (∀ (k : Nat) (w6 : World), ((wr.drewN k).alloc (.cells #[.int .i64 x] 3)).grownBy w6 (Value.slice B j d).ownBlock → w6.cell? ⟨w1.heap.size, 8, none⟩ = some (.slice B j d) ∧ w6.frozen? ⟨w1.heap.size, 8, none⟩ = false) := fun k w6 hg => by
        have hk : Keep (fun x => (Value.slice B j d).ownBlock = some x) wr w6 := (((Keep.refl _ _).drewN k).alloc _).grown hg (fun g hg => .inl hg)
        have hw := HR.out.obj.keep hk (fun e => own_ne HR.out.st HR.out.obj (by decide) e.symm)
        exact ⟨hw.cell 8, hw.fz 8⟩
      have hone : ∀ u ∈ [Value.int .i64 x], u.oneCell' = true := by simp [Value.oneCell']
      have HONE := Lib.hid hone
      clear hone hx
      go_wp2_with fail
      go_region_law (first | (go_simp; go_at_call 40; refine (first_anyS _ p N n (j : Int) HNA.out).mono ?_; rw [HX.out]; rintro e w5 ⟨rfl, k5, rfl⟩) | (refine step_append_lies _ ?_ (.tmp 55) (.tmp 59) 60 ?_ w.heap.size 3 i0 (.int .i64 0) 1 8 Tryz.underlying60 hi0 hz0 hz1 hz2 (by rfl) (by omega) (.slice B j d) j (ints (stTo n j)) (by rfl) (HOA.out _) ⟨wr.heap.size, 0, none⟩ 1 1 [.int .i64 x] (by rfl) (by rfl) (HNW.out _) HONE.out (by omega) (by unfold maxLen; omega) (by omega) (HSZ.out _) (wr.heap.size + 1) (by simp) ?_; rfl; rfl; (intro g cap w6 hown6 hg6 hat6 hlt6; obtain ⟨q6, z6⟩ := HPK.out _ w6 hg6; have HO6 := Lib.hid hown6; have HG6 := Lib.hid hg6; have HAT6 := Lib.hid hat6; clear hown6 hg6 hat6)))
      all_goals
        have HNX := Lib.hid (HR.out.next (by rw [HX.out]; exact HO6.out) (by rw [HX.out]; exact HG6.out) HAT6.out)
        go_wp2_with fail
        go_roundw
        case rel => exact ⟨j + 1, some ⟨g, 0, none⟩, cap, by omega, by go_num, HNX⟩
        case measure => simp [intOf]; omega
    · obtain rfl : j = n.blocks := by omega
      have HC := Lib.hid (HR.out.made HX3.out HX4.out HX5.out HX6.out (H.out.below HR.out.bel) (nandAt_lt H.out))
      go_wp2_with fail
      refine (scan_any _ _ _ _ _ _ _ HC.out (HL.out.below HR.out.bel HL.out.lt) HT.out).mono ?_
      rintro e w5 ⟨A, c, rfl, hown, hb5⟩
      have H5 := Lib.hid (HC.out.below hb5)
      have HO5 := Lib.hid hown
      have HB5 := Lib.hid (HR.out.bel.trans (hb5.mono HR.out.bel.size))
      clear hown hb5
      obtain ⟨l, hl⟩ : ∃ l, scanTo n (n.blocks * n.per) = l := ⟨_, rfl⟩
      have hlm := scanTo_may n (n.blocks * n.per)
      have hll := scanTo_le n (n.blocks * n.per)
      have hln : n.blocks * n.per ≤ 2048 := by
        calc n.blocks * n.per ≤ 64 * 32 := Nat.mul_le_mul hB1 hP1
          _ = 2048 := rfl
      have HOS : Hid (openS n = { madeS n with seq := seqTo l l.length }) := by show _ = _; rw [openS, hl]
      simp only [show (madeS n).n = n from rfl] at HO5 ⊢
      rw [hl] at HO5 hlm hll ⊢
      have HSL := Lib.hid (seqTo_le l hlm)
      have HLM := Lib.hid hlm
      have hlli : (l.length : Int) ≤ 2048 := by omega
      clear hlm hl hll hln
      go_wp2_with fail
      go_loopw [67] (fun i wr => ∃ (j : Nat), j ≤ l.length ∧ i = .int .i64 j ∧ Hid (StoIn wr w1.heap.size p (.slice B n.blocks d) (.slice (some ⟨w2.heap.size, 0, none⟩) n.blocks n.blocks) N { madeS n with seq := seqTo l j }) ∧ Hid (Below w.heap.size w wr) ∧ Hid (wr.ownsRow 0 51 6 (.slice A l.length c) l.length (fndCells l))) (fun i _ => l.length - (intOf i).toNat)
      case atStart => exact ⟨0, Nat.zero_le _, rfl, H5.out, HB5.out, own_base HO5.out (Nat.zero_le _)⟩
      case round =>
        obtain ⟨j, hj, rfl, HS, HBL, HOF⟩ := hrel
        by_cases hlt : j < l.length
        · have hji : (j : Int) < (l.length : Int) := by omega
          obtain ⟨f, hf⟩ : ∃ f, l[j]? = some f := ⟨l[j], List.getElem?_eq_getElem hlt⟩
          obtain ⟨gf, rfl, _, _, _, hcs, _⟩ := own_cell HOF.out (by omega)
          obtain ⟨e0, e1, e2, e3, e4, e5⟩ := fndCells_at l j f hf
          have f0 := hcs _ _ e0
          have f1 := hcs _ _ e1
          have f2 := hcs _ _ e2
          have f3 := hcs _ _ e3
          have f4 := hcs _ _ e4
          have f5 := hcs _ _ e5
          have hmf := mayB_yes (HLM.out f (List.mem_of_getElem? hf))
          have hsl := HSL.out j
          have HSQ : Hid (seqTo l (j + 1) = max (seqTo l j) (f.p.seq + 1)) := by show _ = _; rw [seqTo, hf]
          obtain ⟨sq, hsq⟩ : ∃ sq, seqTo l j = sq := ⟨_, rfl⟩
          rw [hsq] at HS hsl HSQ
          obtain ⟨fq, hfq⟩ : ∃ fq, f.p.seq = fq := ⟨_, rfl⟩
          rw [hfq] at f4 hmf HSQ
          have hq0 : 0 ≤ fq := hmf.2.2.2.2.2.2.1
          have hq1 : fq ≤ 281474976710655 := hmf.2.2.2.2.2.2.2.1
          have hs0 := hsl.1
          have hs1 := hsl.2
          have k11 : wr.cell? ⟨w1.heap.size, 11, none⟩ = some (.int .i64 sq) := HS.out.cells.c11
          have y11 := HS.out.obj.fz 11
          have hqw := HS.out.obj.lt
          have H5' := Lib.hid (HS.out.setSeq (max sq (fq + 1)) (by omega) (by omega))
          have HK5 := Lib.hid (Keep.set1 wr w1.heap.size 11 (.int .i64 (max sq (fq + 1))))
          have HO5' := Lib.hid (own_keep HOF.out HK5.out (fun g hg e => own_ne HOF.out HS.out.obj (by decide) (by rw [← e, hg])))
          have HBL5 := Lib.hid (HBL.out.setCell (p := ⟨w1.heap.size, 11, none⟩) HB1.out.size (.int .i64 (max sq (fq + 1))))
          have HB6 := Lib.hid (((Below.refl (wr.setCell ⟨w1.heap.size, 11, none⟩ (.int .i64 (max sq (fq + 1)))).heap.size (wr.setCell ⟨w1.heap.size, 11, none⟩ (.int .i64 (max sq (fq + 1))))).alloc (Nat.le_refl _) (.cells #[.int .i64 f.at_, .int .i64 f.p.kind, .int .i64 f.p.space, .int .i64 f.p.key, .int .i64 fq, .string f.p.body] 51)).drew)
          clear e0 e1 e2 e3 e4 e5 hcs hmf hsl hsq hfq hf
          go_wp2_with fail
          go_region_law (fail)
          all_goals
            go_wp2_with fail
            go_roundw
            case rel => exact ⟨j + 1, by omega, by go_num, by rw [HSQ.out]; exact H5'.out.below HB6.out, HBL5.out.trans (HB6.out.mono HBL5.out.size), own_below HO5'.out HB6.out⟩
            case measure => simp [intOf]; omega
        · obtain rfl : j = l.length := by omega
          go_wp2_with fail
          refine bodyPost_ret (v := .tuple #[.pointer (some ⟨w1.heap.size, 0, none⟩), .nilIface]) (by simp [results, Tryz.results22, go_sem]) rfl ?_
          refine ⟨w1.heap.size, .slice B n.blocks d, .slice (some ⟨w2.heap.size, 0, none⟩) n.blocks n.blocks, rfl, by rw [HOS.out]; exact HS.out, HBL.out, fun k hk => ?_⟩
          rcases hk with rfl | hk | hk | hk
          · exact HR.out.hq
          · exact (HR.out.st.lt k hk).1
          · exact (HR.out.va.lt k hk).1
          · exact hk.elim
end Go.Proofs.YtfacgeappbgldaaGreatDoor.st
