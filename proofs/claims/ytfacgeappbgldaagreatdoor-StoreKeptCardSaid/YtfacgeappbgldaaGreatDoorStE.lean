/- store: append, Append. -/
import Derived.Test.YtfacgeappbgldaaGreatDoorStD
namespace Go.Proofs.YtfacgeappbgldaaGreatDoor.st
open Go.RowKit Go.Proofs.YtfacgeappbgldaaGreatDoor.er Go.Proofs.YtfacgeappbgldaaGreatDoor.nd Go.Proofs.YtfacgeappbgldaaGreatDoor.we Go.Proofs.YtfacgeappbgldaaGreatDoor.ge Go.Proofs.YtfacgeappbgldaaGreatDoor.pg
attribute [local go_sem ↓] Go.wp_at_zero Go.wp_at_succ
set_option linter.unusedVariables false

theorem retire_seq (s : Sto) (b : Nat) : (s.retire b).seq = s.seq := rfl
theorem place_seq {s u : Sto} {a : Int} (h : s.place? = some (u, a)) : u.seq = s.seq := by
  unfold Sto.place? at h
  split at h
  · injection h with h; injection h with h _; rw [← h]; exact full_seq s
  · split at h
    · injection h with h; injection h with h _; rw [← h]; exact full_seq s
    · exact absurd h (by simp)
theorem putF_seq : ∀ (f : Nat) (s : Sto) (t : ByteArray) (r : Sto × Int × Int × Bool), putF f s t = some r → r.1.seq = s.seq
  | 0, _, _, _, h => absurd h (by simp [putF])
  | f + 1, s, t, r, h => by
    rw [putF] at h
    split at h
    · injection h with h; rw [← h]
    · split at h
      · injection h with h; rw [← h]; exact full_seq s
      · rename_i u a hp
        split at h
        · rw [putF_seq f _ t r h, retire_seq]
          show u.seq = s.seq
          exact place_seq hp
        · injection h with h; rw [← h]
          show u.seq = s.seq
          exact place_seq hp
def appF (f : Nat) (s : Sto) (p : Page) : Option (Sto × Int × Int) :=
  if mayB { p with seq := 0 } = false then some (s, 0, 1)
  else match putF f s (writeF { p with seq := s.seq }) with
    | none => none
    | some r => some (if s.n.ops < r.1.n.ops then { r.1 with seq := r.1.seq + 1 } else r.1, if r.2.2.1 = 0 then r.2.1 else 0, r.2.2.1)
theorem Moved.laid {w w' : World} {q : Nat} {sv vv : Value} {N N' : Nat → Prop} (h : Moved w q sv vv N w' N') (hl : LaidT w) (h0 : ¬ foot q sv vv N 0) : LaidT w' ∧ ¬ foot q sv vv N' 0 :=
  ⟨h.keep.cell hl h0, fun hf => by
    rcases hf with hf | hf | hf | hf
    · exact h0 (.inl hf)
    · exact h0 (.inr (.inl hf))
    · exact h0 (.inr (.inr (.inl hf)))
    · rcases h.sub 0 hf with h2 | h2
      · exact h0 (.inr (.inr (.inr h2)))
      · have := hl.lt; omega⟩
theorem mayB_seq {p : Page} (h : mayB { p with seq := 0 } = true) {n : Int} (h0 : 0 ≤ n) (h1 : n ≤ 281474976710655) : mayB { p with seq := n } = true := by
  simp only [mayB, inB, Bool.and_eq_true, decide_eq_true_eq] at h ⊢
  refine ⟨⟨⟨h.1.1.1, h.1.1.2⟩, h0, h1⟩, h.2⟩
/-- A box of the caller's beside the store. -/
theorem StoIn.box {w w' : World} {q p x : Nat} {sv vv : Value} {N : Nat → Prop} {s : Sto} (h : StoIn w q p sv vv N s) (hk : Keep (fun k => k = x) w w') (hx : ¬ foot q sv vv N x) : StoIn w' q p sv vv N s := h.keep hk (fun k hf e => hx (e ▸ hf))
theorem StoIn.lt {w : World} {q p : Nat} {sv vv : Value} {N : Nat → Prop} {s : Sto} (h : StoIn w q p sv vv N s) : ∀ k, foot q sv vv N k → k < w.heap.size := fun k hk => by
  rcases hk with rfl | hk | hk | hk
  · exact h.obj.lt
  · exact (h.st.lt k hk).2
  · exact (h.va.lt k hk).2
  · obtain ⟨pb, pv, vs, ha⟩ := h.arr
    exact ha.lt k hk
theorem zero_errS {w : World} {F : Nat → Prop} {l : List (ByteArray × Int)} {v : Value} (h : ErrW w F l 0 v) : v = .nilIface := by
  rcases h with ⟨_, h⟩ | ⟨h, _⟩
  · exact h
  · exact absurd rfl h
theorem some_errS {w : World} {F : Nat → Prop} {l : List (ByteArray × Int)} {c : Int} {v : Value} (h : ErrW w F l c v) (hc : c ≠ 0) : ∃ t x, v = .iface t x := by
  rcases h with ⟨h, _⟩ | ⟨_, bs, he, _⟩
  · exact absurd h hc
  · exact he.iface
/-- An error whose Faults lie in other blocks than an object of another type. -/
theorem errW_box {F : Nat → Prop} {w w' : World} {l : List (ByteArray × Int)} {c : Int} {v : Value} {x : Nat} {t : TypeId} {cs : Array Value} (h : ErrW w F l c v) (hk : Keep (fun k => k = x) w w') (hx : Whole w x t cs) (ht : t ≠ 98) : ErrW w' F l c v := by
  rcases h with h | ⟨hc, bs, he, hb⟩
  · exact .inl h
  · refine .inr ⟨hc, bs, he.keep hk ?_, hb⟩
    have : ∀ (bs : List Nat) (l : List (ByteArray × Int)) (v : Value), ErrAt w bs l c v → ∀ b ∈ bs, b ≠ x := by
      intro bs
      induction bs with
      | nil => intro l v _ b hb; simp at hb
      | cons b0 bs ih =>
        intro l v h b hb
        cases l with
        | nil => exact h.elim
        | cons s l =>
          obtain ⟨_, y, hw, hr⟩ := h
          rcases List.mem_cons.1 hb with rfl | hb
          · exact whole_apart hw hx ht.symm
          · exact ih l _ hr b hb
    exact this bs l v he
def AppPost (q p : Nat) (sv vv : Value) (w : World) (N : Nat → Prop) (r : Sto × Int × Int) (e : Ending) (w' : World) : Prop :=
  ∃ N', e = .returned (.tuple #[.int .i64 r.2.1, errV r.2.2]) ∧ StoIn w' q p sv vv N' r.1 ∧ Moved w q sv vv N w' N'
set_option maxHeartbeats 4000000 in
set_option maxRecDepth 100000 in
theorem app_any (w : World) (q p : Nat) (sv vv : Value) (N : Nat → Prop) (s : Sto) (pg : Page) (f : Nat) (r : Sto × Int × Int) (h : StoIn w q p sv vv N s) (hl : LaidT w) (h0 : ¬ foot q sv vv N 0) (hr : appF f s pg = some r) (ho : s.n.ops + f ≤ 1000000000000000000) (hq : s.seq ≤ 281474976710655) :
    Calls Tryz.prog 33 #[.pointer (some ⟨q, 0, none⟩), pg.val] w (AppPost q p sv vv w N r) := by
  have hW0 := h.lt
  obtain ⟨k, sp, y, sq, b⟩ := pg
  show Calls Tryz.prog 33 #[.pointer (some ⟨q, 0, none⟩), .agg #[.int .i64 k, .int .i64 sp, .int .i64 y, .int .i64 sq, .string b]] w _
  have HB1 := Lib.hid ((Below.refl w.heap.size w).alloc (Nat.le_refl _) (.cells #[.int .i64 k, .int .i64 sp, .int .i64 y, .int .i64 0, .string b] 39))
  have H1 := Lib.hid (h.below HB1.out)
  have hs := seql q
  have HL := Lib.hid hl
  have HF0 := Lib.hid h0
  have HLT := Lib.hid h.lt
  have HWr := Lib.hid (fun wq => write_yes ⟨k, sp, y, 0, b⟩ wq)
  unfold appF at hr
  simp only at hr
  cases hm : mayB ⟨k, sp, y, 0, b⟩
  · rw [hm, if_pos rfl] at hr
    injection hr with hr
    have HR := Lib.hid hr
    have HNo := Lib.hid (fun wq => write_no ⟨k, sp, y, 0, b⟩ wq hm)
    clear h hl h0 hr hm ho hW0
    go_enter Tryz.func33, Tryz.ntmps33
    go_wp2_with fail
    refine (HNo.out _).mono ?_
    rintro e w2 ⟨rfl, hb2⟩
    have HB2 := Lib.hid (HB1.out.trans (hb2.mono HB1.out.size))
    have H2 := Lib.hid (H1.out.below hb2)
    clear hb2
    go_wp2_with fail
    obtain rfl := HR.out
    refine bodyPost_ret (v := .tuple #[.int .i64 0, .iface 44 (.int .i64 1)]) (by simp [results, Tryz.results33, go_sem]) rfl ⟨N, rfl, H2.out, Moved.below HB2.out⟩
  · rw [hm, if_neg (by simp)] at hr
    cases hp : putF f s (writeF ⟨k, sp, y, s.seq, b⟩) with
    | none => rw [hp] at hr; exact absurd hr (by simp)
    | some r1 =>
      rw [hp] at hr
      injection hr with hr
      have HR := Lib.hid hr
      have HP := Lib.hid hp
      have HO := Lib.hid ho
      have HSQ := Lib.hid (putF_seq _ _ _ _ hp)
      have hq0 := h.q0
      have hm2 := mayB_seq (p := ⟨k, sp, y, 0, b⟩) hm h.q0 hq
      have HM := Lib.hid hm
      have HM2 := Lib.hid hm2
      have hbz := (mayB_yes hm).2.2.2.2.2.2.2.2
      have HBZ : Hid ((writeF ⟨k, sp, y, s.seq, b⟩).size ≤ 9223372036854775807) := by show _ ≤ _; rw [writeF_size]; simp only at hbz ⊢; omega
      clear h hl h0 hr hp ho hm hm2 hbz hW0
      go_enter Tryz.func33, Tryz.ntmps33
      go_wp2_with fail
      refine (HWr.out _ HM.out).mono ?_
      rintro e w2 ⟨rfl, hb2⟩
      have H2 := Lib.hid (H1.out.below hb2)
      have HB2 := Lib.hid (HB1.out.trans (hb2.mono HB1.out.size))
      have hbx := Whole.below (Whole.new w 39 #[.int .i64 k, .int .i64 sp, .int .i64 y, .int .i64 0, .string b]) hb2 (by simp)
      obtain ⟨⟨q0, q1, q2, q3, q4⟩, z0, z1, z2, z3, z4⟩ := tmp_cells hbx
      have c11 := H2.out.cells.c11
      have HX := Lib.hid hbx
      have HNF : Hid (¬ foot q sv vv N w.heap.size) := fun hf => by have := HLT.out _ hf; omega
      have HB3 : Hid (StoIn (w2.setCell ⟨w.heap.size, 3, none⟩ (.int .i64 s.seq)) q p sv vv N s) := H2.out.box (Keep.set1 w2 w.heap.size 3 (.int .i64 s.seq)) HNF.out
      have M3 : Hid (Moved w q sv vv N (w2.setCell ⟨w.heap.size, 3, none⟩ (.int .i64 s.seq)) N) := Moved.below (HB2.out.setCell (p := ⟨w.heap.size, 3, none⟩) (Nat.le_refl _) _)
      have HW2 := Lib.hid (fun wq => write_yes ⟨k, sp, y, s.seq, b⟩ wq HM2.out)
      have hq' := hq
      clear hb2 hbx
      go_wp2_with fail
      refine (HW2.out _).mono ?_
      rintro e w4 ⟨rfl, hb4⟩
      have H4 := Lib.hid (HB3.out.below hb4)
      have M4 := Lib.hid (M3.out.trans (Moved.below hb4))
      have c0 := H4.out.cells.c0
      clear hb4 q0 q1 q2 q3 q4 z0 z1 z2 z3 z4
      go_wp2_with fail
      refine (Ops_any _ _ _ _ H4.out.arr).mono ?_
      rintro e w5 ⟨rfl, rfl⟩
      go_wp2_with fail
      refine (put_any _ _ _ _ _ _ _ _ f r1 H4.out HP.out HO.out HBZ.out).mono ?_
      rintro e w6 ⟨v, N6, rfl, h6, m6, e6⟩
      obtain ⟨s1, a, c, wr⟩ := r1
      simp only at h6 e6 HSQ HR
      have H6 := Lib.hid h6
      have M6 := Lib.hid (M4.out.trans m6)
      have EW := Lib.hid e6
      have d0 := h6.cells.c0
      have d11 := h6.cells.c11
      have f11 := h6.obj.fz 11
      have hs1b : s1.seq ≤ 281474976710655 := by rw [show s1.seq = s.seq from HSQ.out]; exact hq
      have hs1c : 0 ≤ s1.seq := by rw [show s1.seq = s.seq from HSQ.out]; exact hq0
      have H7 := Lib.hid (h6.setSeq (s1.seq + 1) (by omega) (by omega))
      have M7 := Lib.hid (M6.out.setQ 11 (.int .i64 (s1.seq + 1)))
      clear h6 m6 e6
      go_wp2_with fail
      refine (Ops_any _ _ _ _ H6.out.arr).mono ?_
      rintro e w5 ⟨rfl, rfl⟩
      by_cases hup : s.n.ops < s1.n.ops
      · rw [if_pos hup] at HR
        have LL := Lib.hid (M7.out.laid HL.out HF0.out).1
        have EW := Lib.hid (errW_box EW.out (Keep.set1 _ q 11 (.int .i64 (s1.seq + 1))) H6.out.obj (by decide))
        by_cases hcz : c = 0
        · subst hcz
          obtain rfl := zero_errS EW.out
          go_wp2_with fail
          refine bodyPost_ret (v := .tuple #[.int .i64 a, .nilIface]) (by simp [results, Tryz.results33, go_sem]) rfl ⟨N6, by rw [← HR.out]; simp [errV], by rw [← HR.out]; exact H7.out, M7.out⟩
        · have HCZ := Lib.hid hcz
          obtain ⟨tv, xv, rfl⟩ := some_errS EW.out hcz
          clear hcz
          go_wp2_with fail
          refine (code_W _ _ c _ _ EW.out LL.out).mono ?_
          rintro e w8 ⟨rfl, hb8⟩
          have H8 := Lib.hid (H7.out.below hb8)
          have M8 := Lib.hid (M7.out.trans (Moved.below hb8))
          clear hb8
          go_wp2_with fail
          refine bodyPost_ret (v := .tuple #[.int .i64 0, .iface 44 (.int .i64 c)]) (by simp [results, Tryz.results33, go_sem]) rfl ⟨N6, by rw [← HR.out]; simp [errV, HCZ.out], by rw [← HR.out]; exact H8.out, M8.out⟩
      · rw [if_neg hup] at HR
        have LL := Lib.hid (M6.out.laid HL.out HF0.out).1
        by_cases hcz : c = 0
        · subst hcz
          obtain rfl := zero_errS EW.out
          go_wp2_with fail
          refine bodyPost_ret (v := .tuple #[.int .i64 a, .nilIface]) (by simp [results, Tryz.results33, go_sem]) rfl ⟨N6, by rw [← HR.out]; simp [errV], by rw [← HR.out]; exact H6.out, M6.out⟩
        · have HCZ := Lib.hid hcz
          obtain ⟨tv, xv, rfl⟩ := some_errS EW.out hcz
          clear hcz
          go_wp2_with fail
          refine (code_W _ _ c _ _ EW.out LL.out).mono ?_
          rintro e w8 ⟨rfl, hb8⟩
          have H8 := Lib.hid (H6.out.below hb8)
          have M8 := Lib.hid (M6.out.trans (Moved.below hb8))
          clear hb8
          go_wp2_with fail
          refine bodyPost_ret (v := .tuple #[.int .i64 0, .iface 44 (.int .i64 c)]) (by simp [results, Tryz.results33, go_sem]) rfl ⟨N6, by rw [← HR.out]; simp [errV, HCZ.out], by rw [← HR.out]; exact H8.out, M8.out⟩
/-- Append: what append does, its error wrapped. -/
def appName : ByteArray := ⟨#[97, 112, 112, 101, 110, 100]⟩
def AppP (q p : Nat) (sv vv : Value) (w : World) (N : Nat → Prop) (key : Int) (r : Sto × Int × Int) (e : Ending) (w' : World) : Prop :=
  ∃ v N', e = .returned (.tuple #[.int .i64 r.2.1, v]) ∧ StoIn w' q p sv vv N' r.1 ∧ Moved w q sv vv N w' N' ∧ ErrW w' (foot q sv vv N') [(appName, key)] r.2.2 v
set_option maxHeartbeats 4000000 in
set_option maxRecDepth 100000 in
theorem Append_any (w : World) (q p : Nat) (sv vv : Value) (N : Nat → Prop) (s : Sto) (pg : Page) (f : Nat) (r : Sto × Int × Int) (h : StoIn w q p sv vv N s) (hl : LaidT w) (h0 : ¬ foot q sv vv N 0) (hr : appF f s pg = some r) (ho : s.n.ops + f ≤ 1000000000000000000) (hq : s.seq ≤ 281474976710655) :
    Calls Tryz.prog 12 #[.pointer (some ⟨q, 0, none⟩), pg.val] w (AppP q p sv vv w N pg.key r) := by
  obtain ⟨k, sp, y, sq, b⟩ := pg
  show Calls Tryz.prog 12 #[.pointer (some ⟨q, 0, none⟩), .agg #[.int .i64 k, .int .i64 sp, .int .i64 y, .int .i64 sq, .string b]] w _
  have HB1 := Lib.hid ((Below.refl w.heap.size w).alloc (Nat.le_refl _) (.cells #[.int .i64 k, .int .i64 sp, .int .i64 y, .int .i64 sq, .string b] 39))
  have H1 := Lib.hid (h.below HB1.out)
  have HNF : Hid (¬ foot q sv vv N w.heap.size) := fun hf => by have := h.lt _ hf; omega
  have HX := Lib.hid (Whole.new w 39 #[.int .i64 k, .int .i64 sp, .int .i64 y, .int .i64 sq, .string b])
  have HA := Lib.hid (app_any (w.alloc (.cells #[.int .i64 k, .int .i64 sp, .int .i64 y, .int .i64 sq, .string b] 39)) q p sv vv N s ⟨k, sp, y, sq, b⟩ f r H1.out (hl.below HB1.out hl.lt) h0 hr ho hq)
  clear h hl h0 hr ho hq
  go_enter Tryz.func12, Tryz.ntmps12
  go_wp2_with fail
  refine HA.out.mono ?_
  rintro e w2 ⟨N2, rfl, h2, m2⟩
  obtain ⟨s1, a, c⟩ := r
  have H2 := Lib.hid h2
  have M2 := Lib.hid (Moved.trans (Moved.below HB1.out) m2)
  have hbx := HX.out.keep m2.keep HNF.out
  obtain ⟨⟨q0, q1, q2, q3, q4⟩, z0, z1, z2, z3, z4⟩ := tmp_cells hbx
  clear h2 m2 hbx q0 q1 q3 q4 z0 z1 z2 z3 z4
  by_cases hcz : c = 0
  · subst hcz
    go_wp2_with (go_at_call 34; refine (wrap_nil _ _ _).mono ?_; rintro e w3 ⟨rfl, rfl⟩)
    refine bodyPost_ret (v := .tuple #[.int .i64 a, .nilIface]) (by simp [results, Tryz.results12, go_sem]) rfl ⟨_, N2, rfl, H2.out, M2.out, .inl ⟨rfl, rfl⟩⟩
  · have HCZ := Lib.hid hcz
    have hev : errV c = .iface 44 (.int .i64 c) := if_neg hcz
    simp only [hev]
    clear hcz hev
    go_wp2_with (go_at_call 34; refine (wrap_err _ _ _ _ _).mono ?_; rintro e w3 ⟨rfl, rfl⟩)
    have hbw : Below w2.heap.size w2 (w2.alloc (.cells #[.string appName, .int .i64 y, .iface 44 (.int .i64 c)] 98)) := (Below.refl _ _).alloc (Nat.le_refl _) _
    refine bodyPost_ret (v := .tuple #[.int .i64 a, .iface 94 (.pointer (some ⟨w2.heap.size, 0, none⟩))]) (by simp [results, Tryz.results12, go_sem]) rfl ⟨_, N2, rfl, H2.out.below hbw, M2.out.trans (Moved.below hbw), .inr ⟨HCZ.out, [w2.heap.size], ⟨rfl, _, Whole.new _ _ _, rfl⟩, fun b hb hf => by have := H2.out.lt _ hf; have := List.mem_singleton.1 hb; omega⟩⟩
end Go.Proofs.YtfacgeappbgldaaGreatDoor.st
