/- store: erase, Erase, Need, Free. -/
import Derived.Test.YtfacgeappbgldaaGreatDoorStK
namespace Go.Proofs.YtfacgeappbgldaaGreatDoor.st
open Go.RowKit Go.Proofs.YtfacgeappbgldaaGreatDoor.er Go.Proofs.YtfacgeappbgldaaGreatDoor.nd Go.Proofs.YtfacgeappbgldaaGreatDoor.we Go.Proofs.YtfacgeappbgldaaGreatDoor.ge Go.Proofs.YtfacgeappbgldaaGreatDoor.pg
attribute [local go_sem ↓] Go.wp_at_zero Go.wp_at_succ
set_option linter.unusedVariables false

set_option maxHeartbeats 1000000 in
theorem free_any (w : World) (q p : Nat) (sv vv : Value) (N : Nat → Prop) (s : Sto) (h : StoIn w q p sv vv N s) :
    Calls Tryz.prog 25 #[.pointer (some ⟨q, 0, none⟩)] w fun e w' => e = .returned (.int .i64 (countL (tabOf s) 0)) ∧ Below w.heap.size w w' := by
  have H := Lib.hid h
  clear h
  go_enter Tryz.func25, Tryz.ntmps25
  go_wp2_with (first | (go_at_call 28; refine (table_any _ _ _ _ _ _ _ H.out).mono ?_; rintro e w1 ⟨v, rfl, ht, hb1⟩; have HT := Lib.hid ht; have HB := Lib.hid hb1; clear hb1 ht) | (go_at_call 35; refine (count_any _ _ _ _ HT.out).mono ?_; rintro e w2 ⟨rfl, hb2⟩; have HB2 := Lib.hid (HB.out.trans (hb2.mono HB.out.size)); clear hb2))
  go_ret
  exact ⟨rfl, HB2.out⟩
theorem erase_geo (n : Nand) (b : Int) : (n.erase b).2.blocks = n.blocks ∧ (n.erase b).2.per = n.per := by
  unfold Nand.erase
  split
  · exact ⟨rfl, rfl⟩
  · split
    · exact ⟨rfl, rfl⟩
    · simp only
      split
      · exact ⟨rfl, rfl⟩
      · split
        · exact ⟨rfl, rfl⟩
        · split <;> exact ⟨rfl, rfl⟩
/-- May a block be erased? -/
def Sto.may (s : Sto) (b : Int) : Prop := 0 ≤ b ∧ b < s.n.blocks ∧ s.state.getD b.toNat 0 = 2 ∧ s.valid.getD b.toNat 0 = 0
instance (s : Sto) (b : Int) : Decidable (s.may b) := by unfold Sto.may; infer_instance
def Sto.eraseS (s : Sto) (b : Int) : Sto × Int :=
  if s.may b then
    if (s.n.erase b).1 = 0 then ({ s with n := (s.n.erase b).2, state := s.state.set b.toNat 0 }, 0)
    else if (s.n.erase b).1 = 41 then (Sto.retire { s with n := (s.n.erase b).2 } b.toNat, 0)
    else ({ s with n := (s.n.erase b).2 }, (s.n.erase b).1)
  else (s, 1)
def ErP (q p : Nat) (sv vv : Value) (w : World) (N : Nat → Prop) (r : Sto × Int) (e : Ending) (w' : World) : Prop :=
  ∃ N', e = .returned (errV r.2) ∧ StoIn w' q p sv vv N' r.1 ∧ Moved w q sv vv N w' N'
set_option maxHeartbeats 4000000 in
set_option maxRecDepth 100000 in
theorem eraseS_any (w : World) (q p : Nat) (sv vv : Value) (N : Nat → Prop) (s : Sto) (b : Int) (h : StoIn w q p sv vv N s) (hl : LaidT w) (h0 : ¬ foot q sv vv N 0) (ho : s.n.ops ≤ 1000000000000000000) :
    Calls Tryz.prog 44 #[.pointer (some ⟨q, 0, none⟩), .int .i64 b] w (ErP q p sv vv w N (s.eraseS b)) := by
  have H := Lib.hid h
  have hq := seql q
  by_cases hin : 0 ≤ b ∧ b < s.n.blocks
  · have hls := h.ls
    have hlv := h.lv
    obtain ⟨m, rfl⟩ : ∃ m : Nat, b = (m : Int) := ⟨b.toNat, by omega⟩
    have hms : m < s.state.length := by omega
    have hmv : m < s.valid.length := by omega
    have hmsi : (m : Int) < (s.state.length : Int) := by omega
    have hmvi : (m : Int) < (s.valid.length : Int) := by omega
    have hmb : m < s.n.blocks := by omega
    have hb1 := hin.2
    have hb0 := hin.1
    obtain ⟨A, c, rfl⟩ := own_slice h.st
    obtain ⟨A2, c2, rfl⟩ := own_slice h.va
    obtain ⟨g, rfl, _, _, _, hcs, hfs⟩ := own_cell h.st (by omega)
    obtain ⟨g2, rfl, _, _, _, hcv, _⟩ := own_cell h.va (by omega)
    obtain ⟨x, hx⟩ : ∃ x, s.state[m]? = some x := ⟨s.state[m], List.getElem?_eq_getElem hms⟩
    obtain ⟨y, hy⟩ : ∃ y, s.valid[m]? = some y := ⟨s.valid[m], List.getElem?_eq_getElem hmv⟩
    have a0 := hcs m _ (ints_at _ _ _ hx)
    have a1 := hcv m _ (ints_at _ _ _ hy)
    obtain ⟨c0, c1, c2', _, _, c8, c9, c10, c11⟩ := h.cells
    have HX : Hid (s.state.getD m 0 = x) := by show _ = _; rw [List.getD, hx]; rfl
    have HY : Hid (s.valid.getD m 0 = y) := by show _ = _; rw [List.getD, hy]; rfl
    clear h hcs hcv hx hy hin hls hlv
    have HMB := Lib.hid hmb
    cases hxx : (x != 2)
    · obtain rfl : x = 2 := by simpa using hxx
      cases hyy : (y != 0)
      · obtain rfl : y = 0 := by simpa using hyy
        have HMay : Hid (s.may (m : Int)) := ⟨hb0, hb1, by simpa using HX.out, by simpa using HY.out⟩
        obtain ⟨cd, hcd⟩ : ∃ cd, (s.n.erase (m : Int)).1 = cd := ⟨_, rfl⟩
        have HCD := Lib.hid hcd
        clear hxx hyy hcd
        go_enter Tryz.func44, Tryz.ntmps44
        go_wp2_with fail
        refine (Erase_any _ _ _ _ (m : Int) H.out.arr ho).mono ?_
        rintro e w1 ⟨v, N1, rfl, hn1, hm1, he1⟩
        obtain ⟨h1, k1⟩ := H.out.under hn1 hm1 (erase_geo _ _).1 (erase_geo _ _).2
        rw [HCD.out] at he1
        have H1 := Lib.hid h1
        have M1 := Lib.hid k1
        have E1 := Lib.hid he1
        clear h1 k1 hn1 hm1 he1
        by_cases hc0 : cd = 0
        · subst hc0
          obtain rfl := zero_errS E1.out
          obtain ⟨gx, hgx, _, _, _, hcs1, hfs1⟩ := own_cell H1.out.st (by show 0 < s.state.length; omega)
          obtain rfl : g = gx := by injection hgx with hgx; injection hgx with hgx
          obtain ⟨x1, hx1⟩ : ∃ x1, s.state[m]? = some x1 := ⟨s.state[m], List.getElem?_eq_getElem hms⟩
          have b0 := hcs1 m _ (ints_at _ _ _ hx1)
          have b1 := hfs1 m
          have d8 := H1.out.cells.c8
          have HF := Lib.hid (StoIn.setState (s := { s with n := (s.n.erase (m : Int)).2 }) H1.out m 0 hms)
          have HR : Hid (s.eraseS (m : Int) = ({ s with n := (s.n.erase (m : Int)).2, state := s.state.set m 0 }, 0)) := by
            show _ = _
            rw [Sto.eraseS, if_pos HMay.out, if_pos HCD.out]
            rfl
          clear hcs1 hfs1 hgx hx1
          go_wp2_with fail
          refine bodyPost_ret (v := .nilIface) (by simp [results, Tryz.results44, go_sem]) rfl ⟨N1, by rw [HR.out]; rfl, by rw [HR.out]; exact HF.out, M1.out.setS rfl m _⟩
        · have HC0 := Lib.hid hc0
          obtain ⟨tv, xv, rfl⟩ := some_errS E1.out hc0
          have HL1 := Lib.hid (M1.out.laid hl h0).1
          clear hc0
          cases hc41 : (cd == 41)
          · have HR : Hid (s.eraseS (m : Int) = ({ s with n := (s.n.erase (m : Int)).2 }, cd)) := by
              show _ = _
              rw [Sto.eraseS, if_pos HMay.out, HCD.out, if_neg HC0.out, if_neg (by simpa using hc41)]
            have H41 := Lib.hid hc41
            clear hc41
            go_wp2_with fail
            refine (Is_W _ _ cd 41 _ _ E1.out (by decide)).mono ?_
            rw [H41.out]
            rintro e w4 ⟨rfl, rfl⟩
            go_wp2_with fail
            refine (code_W _ _ cd _ _ E1.out HL1.out).mono ?_
            rintro e w8 ⟨rfl, hb8⟩
            have HB8 := Lib.hid hb8
            clear hb8
            go_wp2_with fail
            refine bodyPost_ret (v := .iface 44 (.int .i64 cd)) (by simp [results, Tryz.results44, go_sem]) rfl ⟨N1, by rw [HR.out]; simp [errV, HC0.out], by rw [HR.out]; exact H1.out.below HB8.out, M1.out.trans (Moved.below HB8.out)⟩
          · have HR : Hid (s.eraseS (m : Int) = (Sto.retire { s with n := (s.n.erase (m : Int)).2 } m, 0)) := by
              show _ = _
              rw [Sto.eraseS, if_pos HMay.out, HCD.out, if_neg HC0.out, if_pos (by simpa using hc41)]
              rfl
            have H41 := Lib.hid hc41
            clear hc41
            go_wp2_with fail
            refine (Is_W _ _ cd 41 _ _ E1.out (by decide)).mono ?_
            rw [H41.out]
            rintro e w4 ⟨rfl, rfl⟩
            go_wp2_with fail
            refine (retire_any _ _ _ _ _ _ _ m H1.out (by show m < (s.n.erase (m : Int)).2.blocks; rw [(erase_geo _ _).1]; exact HMB.out)).mono ?_
            rintro e w5 ⟨rfl, h5, m5⟩
            have H5 := Lib.hid h5
            have M5 := Lib.hid m5
            clear h5 m5
            go_wp2_with fail
            refine bodyPost_ret (v := .nilIface) (by simp [results, Tryz.results44, go_sem]) rfl ⟨N1, by rw [HR.out]; rfl, by rw [HR.out]; exact H5.out, M1.out.trans M5.out⟩
      · have HR : Hid (s.eraseS (m : Int) = (s, 1)) := by
          show _ = _
          rw [Sto.eraseS, if_neg]
          intro k
          have h4 : s.valid.getD m 0 = 0 := by simpa using k.2.2.2
          rw [HY.out] at h4
          subst h4
          simp at hyy
        clear hxx
        go_enter Tryz.func44, Tryz.ntmps44
        go_wp2_with fail
        refine bodyPost_ret (v := .iface 44 (.int .i64 1)) (by simp [results, Tryz.results44, go_sem]) rfl ⟨N, by rw [HR.out]; rfl, by rw [HR.out]; exact H.out, Moved.refl _ _ _ _ _⟩
    · have HR : Hid (s.eraseS (m : Int) = (s, 1)) := by
        show _ = _
        rw [Sto.eraseS, if_neg]
        intro k
        have h4 : s.state.getD m 0 = 2 := by simpa using k.2.2.1
        rw [HX.out] at h4
        subst h4
        simp at hxx
      go_enter Tryz.func44, Tryz.ntmps44
      go_wp2_with fail
      refine bodyPost_ret (v := .iface 44 (.int .i64 1)) (by simp [results, Tryz.results44, go_sem]) rfl ⟨N, by rw [HR.out]; rfl, by rw [HR.out]; exact H.out, Moved.refl _ _ _ _ _⟩
  · have hr : s.eraseS b = (s, 1) := by
      unfold Sto.eraseS
      rw [if_neg (fun k => hin ⟨k.1, k.2.1⟩)]
    rw [hr]
    have c1 := h.cells.c1
    by_cases hb : b < 0
    · clear h hin hr hl h0
      go_enter Tryz.func44, Tryz.ntmps44
      go_wp2_with fail
      refine bodyPost_ret (v := .iface 44 (.int .i64 1)) (by simp [results, Tryz.results44, go_sem]) rfl ⟨N, rfl, H.out, Moved.refl _ _ _ _ _⟩
    · have hb2 : (s.n.blocks : Int) ≤ b := by omega
      clear h hin hr hl h0
      go_enter Tryz.func44, Tryz.ntmps44
      go_wp2_with fail
      refine bodyPost_ret (v := .iface 44 (.int .i64 1)) (by simp [results, Tryz.results44, go_sem]) rfl ⟨N, rfl, H.out, Moved.refl _ _ _ _ _⟩
def eraseName : ByteArray := ⟨#[101, 114, 97, 115, 101]⟩
def ErPW (q p : Nat) (sv vv : Value) (w : World) (N : Nat → Prop) (b : Int) (r : Sto × Int) (e : Ending) (w' : World) : Prop :=
  ∃ v N', e = .returned v ∧ StoIn w' q p sv vv N' r.1 ∧ Moved w q sv vv N w' N' ∧ ErrW w' (foot q sv vv N') [(eraseName, b)] r.2 v
set_option maxHeartbeats 1000000 in
theorem Erase_anyS (w : World) (q p : Nat) (sv vv : Value) (N : Nat → Prop) (s : Sto) (b : Int) (h : StoIn w q p sv vv N s) (hl : LaidT w) (h0 : ¬ foot q sv vv N 0) (ho : s.n.ops ≤ 1000000000000000000) :
    Calls Tryz.prog 27 #[.pointer (some ⟨q, 0, none⟩), .int .i64 b] w (ErPW q p sv vv w N b (s.eraseS b)) := by
  have HA := Lib.hid (eraseS_any w q p sv vv N s b h hl h0 ho)
  clear h hl h0 ho
  obtain ⟨⟨s1, c⟩, hr⟩ : ∃ r, s.eraseS b = r := ⟨_, rfl⟩
  rw [hr] at HA ⊢
  clear hr
  by_cases hcz : c = 0
  · subst hcz
    go_enter Tryz.func27, Tryz.ntmps27
    go_wp2_with fail
    refine HA.out.mono ?_
    rintro e w2 ⟨N2, rfl, h2, m2⟩
    have H2 := Lib.hid h2
    have M2 := Lib.hid m2
    clear h2 m2
    simp only [show errV 0 = .nilIface from rfl]
    go_wp2_with (go_at_call 34; refine (wrap_nil _ _ _).mono ?_; rintro e w3 ⟨rfl, rfl⟩)
    go_ret
    exact ⟨_, N2, rfl, H2.out, M2.out, .inl ⟨rfl, rfl⟩⟩
  · have HCZ := Lib.hid hcz
    have hev : errV c = .iface 44 (.int .i64 c) := if_neg hcz
    clear hcz
    go_enter Tryz.func27, Tryz.ntmps27
    go_wp2_with fail
    refine HA.out.mono ?_
    rintro e w2 ⟨N2, rfl, h2, m2⟩
    have H2 := Lib.hid h2
    have M2 := Lib.hid m2
    clear h2 m2
    simp only [hev]
    clear hev
    go_wp2_with (go_at_call 34; refine (wrap_err _ _ _ _ _).mono ?_; rintro e w3 ⟨rfl, rfl⟩)
    have hbw : Below w2.heap.size w2 (w2.alloc (.cells #[.string eraseName, .int .i64 b, .iface 44 (.int .i64 c)] 98)) := (Below.refl _ _).alloc (Nat.le_refl _) _
    go_ret
    exact ⟨_, N2, rfl, H2.out.below hbw, M2.out.trans (Moved.below hbw), .inr ⟨HCZ.out, [w2.heap.size], ⟨rfl, _, Whole.new _ _ _, rfl⟩, fun b hb hf => by have := H2.out.lt _ hf; have := List.mem_singleton.1 hb; omega⟩⟩
end Go.Proofs.YtfacgeappbgldaaGreatDoor.st
