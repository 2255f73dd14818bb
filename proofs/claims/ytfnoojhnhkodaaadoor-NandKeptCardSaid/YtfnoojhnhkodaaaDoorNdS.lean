/- Acts that came in; light; what NandOrder keeps from round to round. -/
import Derived.Test.YtfnoojhnhkodaaaDoorNdR
namespace Go.Proofs.YtfnoojhnhkodaaaDoor.nd
open Go.RowKit Go.Proofs.YtfnoojhnhkodaaaDoor.er
attribute [local go_sem ↓] Go.wp_at_zero Go.wp_at_succ
set_option linter.unusedVariables false

structure ActD where
  kind : Int
  a : Int
  s : ByteArray
  A : Option Addr
  c : Nat
  m : List Mis
def MisPart (w : World) (x : ActD) : Prop := x.m.length ≤ 9223372036854775807 ∧ x.s.size ≤ 9223372036854775807 ∧ (0 < x.m.length → ∃ b off, x.A = some ⟨b, off, none⟩ ∧ b < w.heap.size ∧ MisArg w b off x.m)
def ActAt (w : World) (b off : Nat) (x : ActD) : Prop :=
  w.cell? ⟨b, off, none⟩ = some (.int .i64 x.kind) ∧ w.cell? ⟨b, off + 1, none⟩ = some (.int .i64 x.a) ∧ w.cell? ⟨b, off + 2, none⟩ = some (.string x.s) ∧ w.cell? ⟨b, off + 3, none⟩ = some (.slice x.A x.m.length x.c) ∧ MisPart w x
def ActArgs (w : World) (b off : Nat) (l : List ActD) : Prop := ∀ (j : Nat) (x : ActD), l[j]? = some x → ActAt w b (off + j * 4) x
theorem MisArg.below {B : Nat} {w w' : World} {b off : Nat} {l : List Mis} (h : MisArg w b off l) (hb : Below B w w') (hB : b < B) : MisArg w' b off l := fun j m hm => by
  obtain ⟨h0, h1, h2, h3⟩ := h j m hm
  exact ⟨(hb.cell (p := ⟨b, _, none⟩) hB).trans h0, (hb.cell (p := ⟨b, _, none⟩) hB).trans h1, (hb.cell (p := ⟨b, _, none⟩) hB).trans h2, (hb.cell (p := ⟨b, _, none⟩) hB).trans h3⟩
theorem MisPart.below {w w' : World} {x : ActD} (h : MisPart w x) (hb : Below w.heap.size w w') : MisPart w' x :=
  ⟨h.1, h.2.1, fun h0 => by
    obtain ⟨b, off, e, hl, ha⟩ := h.2.2 h0
    exact ⟨b, off, e, Nat.lt_of_lt_of_le hl hb.size, ha.below hb hl⟩⟩
theorem ActAt.below {w w' : World} {b off : Nat} {x : ActD} (h : ActAt w b off x) (hb : Below w.heap.size w w') : ActAt w' b off x :=
  ⟨below_c hb h.1, below_c hb h.2.1, below_c hb h.2.2.1, below_c hb h.2.2.2.1, h.2.2.2.2.below hb⟩

def lightB (x : ActD) : Bool := decide (x.m.length ≤ 20) && decide (x.s.size ≤ 2000) && x.m.all fun m => decide (m.junk.size ≤ 2000)
theorem lightB_no1 {x : ActD} (h : 20 < x.m.length) : lightB x = false := by
  unfold lightB
  rw [decide_eq_false (by omega : ¬ x.m.length ≤ 20)]
  rfl
theorem lightB_no2 {x : ActD} (h : 2000 < x.s.size) : lightB x = false := by
  unfold lightB
  rw [decide_eq_false (by omega : ¬ x.s.size ≤ 2000)]
  simp
theorem lightB_no3 {x : ActD} {j : Nat} {m : Mis} (hm : x.m[j]? = some m) (h : 2000 < m.junk.size) : lightB x = false := by
  unfold lightB
  have : (x.m.all fun m => decide (m.junk.size ≤ 2000)) = false := by
    rw [List.all_eq_false]
    exact ⟨m, List.mem_of_getElem? hm, by simpa using h⟩
  rw [this]
  simp
theorem lightB_yes {x : ActD} (h1 : x.m.length ≤ 20) (h2 : x.s.size ≤ 2000) (h3 : ∀ (j : Nat) (m : Mis), j < x.m.length → x.m[j]? = some m → m.junk.size ≤ 2000) : lightB x = true := by
  unfold lightB
  rw [decide_eq_true h1, decide_eq_true h2]
  simp only [Bool.and_self, Bool.true_and, List.all_eq_true]
  intro m hm
  obtain ⟨j, hj, e⟩ := List.getElem_of_mem hm
  exact decide_eq_true (h3 j m hj (by rw [List.getElem?_eq_getElem hj, e]))
theorem lightB_spec {x : ActD} (h : lightB x = true) : x.m.length ≤ 20 ∧ x.s.size ≤ 2000 ∧ ∀ m ∈ x.m, m.junk.size ≤ 2000 := by
  unfold lightB at h
  simp only [Bool.and_eq_true, decide_eq_true_eq, List.all_eq_true] at h
  exact ⟨h.1.1, h.1.2, h.2⟩
set_option maxHeartbeats 2000000 in
theorem light_any (x : ActD) (w : World) (hx : MisPart w x) :
    Calls Tryd.prog 11 #[.agg #[.int .i64 x.kind, .int .i64 x.a, .string x.s, .slice x.A x.m.length x.c]] w fun e w' => e = .returned (.bool (lightB x)) ∧ Below w.heap.size w w' := by
  have HB0 : Hid (Below w.heap.size w (w.alloc (.cells #[.int .i64 x.kind, .int .i64 x.a, .string x.s, .slice x.A x.m.length x.c] 35))) := (Below.refl _ _).alloc (Nat.le_refl _) _
  obtain ⟨hm1, hm2, hm3⟩ := hx.below HB0.out
  have HM3 := Lib.hid hm3
  clear hx hm3
  by_cases h1 : 20 < x.m.length
  · have HR := Lib.hid (lightB_no1 h1)
    have i1 : (20 : Int) < (x.m.length : Int) := by omega
    go_enter Tryd.func11, Tryd.ntmps11
    go_wp2_with fail
    go_ret
    rw [HR.out]
    exact ⟨rfl, HB0.out⟩
  have i1 : (x.m.length : Int) ≤ 20 := by omega
  by_cases h2 : 2000 < x.s.size
  · have HR := Lib.hid (lightB_no2 h2)
    have i2 : (2000 : Int) < (x.s.size : Int) := by omega
    go_enter Tryd.func11, Tryd.ntmps11
    go_wp2_with fail
    go_ret
    rw [HR.out]
    exact ⟨rfl, HB0.out⟩
  have i2 : (x.s.size : Int) ≤ 2000 := by omega
  obtain ⟨xk, xa, xs, xA, xc, xm⟩ := x
  simp only at *
  by_cases h0 : 0 < xm.length
  · obtain ⟨b, off, rfl, hbl, ha⟩ := HM3.out h0
    have HA := Lib.hid ha
    clear ha
    go_enter Tryd.func11, Tryd.ntmps11
    go_wp2_with fail
    go_loop [3] (fun i => ∃ k : Nat, k ≤ xm.length ∧ i = .int .i64 k ∧ Hid (∀ (j : Nat) (m : Mis), j < k → xm[j]? = some m → m.junk.size ≤ 2000)) (fun i => xm.length - (intOf i).toNat)
    case atStart => exact ⟨0, Nat.zero_le _, rfl, fun j m h _ => by omega⟩
    case round =>
      obtain ⟨k, hk, rfl, HN⟩ := hrel
      by_cases hlt : k < xm.length
      · obtain ⟨m, hm⟩ : ∃ m, xm[k]? = some m := ⟨xm[k], List.getElem?_eq_getElem hlt⟩
        obtain ⟨q0, q1, q2, q3⟩ := HA.out k m hm
        have hk0 : (0 : Int) ≤ (k : Int) := by omega
        have hkn : (k : Int) < (xm.length : Int) := by omega
        have HM := Lib.hid hm
        clear q0 q1 q2 hm
        by_cases hj : 2000 < m.junk.size
        · have HR := Lib.hid (lightB_no3 (x := ⟨xk, xa, xs, some ⟨b, off, none⟩, xc, xm⟩) HM.out hj)
          have i3 : (2000 : Int) < (m.junk.size : Int) := by omega
          go_wp2_with fail
          go_ret
          rw [HR.out]
          exact ⟨rfl, HB0.out⟩
        · have i3 : (m.junk.size : Int) ≤ 2000 := by omega
          have HJ : Hid (m.junk.size ≤ 2000) := by show _ ≤ _; omega
          go_wp2_with fail
          go_round
          case rel => exact ⟨k + 1, by omega, by go_num, fun j m' hj' hm' => by
            rcases Nat.lt_or_ge j k with h | h
            · exact HN.out j m' h hm'
            · obtain rfl : j = k := by omega
              have := HM.out.symm.trans hm'
              injection this with this
              subst this
              exact HJ.out⟩
          case measure => simp [intOf]; omega
      · obtain rfl : xm.length = k := by omega
        have HR := Lib.hid (lightB_yes (x := ⟨xk, xa, xs, some ⟨b, off, none⟩, xc, xm⟩) (by show xm.length ≤ 20; omega) (by show xs.size ≤ 2000; omega) HN.out)
        go_wp2_with fail
        go_ret
        rw [HR.out]
        exact ⟨rfl, HB0.out⟩
  · have hl0 : xm.length = 0 := by omega
    obtain rfl : xm = [] := List.eq_nil_of_length_eq_zero hl0
    have HR := Lib.hid (lightB_yes (x := ⟨xk, xa, xs, xA, xc, []⟩) (by show 0 ≤ 20; omega) (by show xs.size ≤ 2000; omega) (fun j m h _ => by simp at h))
    clear h0 hl0 h1 i1 hm1 HM3
    go_enter Tryd.func11, Tryd.ntmps11
    go_wp2_with fail
    refine wp_loop_rounds 1 ?_
    rw [rounds_succ]
    go_wp2_with fail
    go_ret
    rw [HR.out]
    exact ⟨rfl, HB0.out⟩
theorem Plan_zero {w0 w : World} {F : Nat → Prop} {p : Nat} {s : Nand} (h : St w0 w F p s) (A : Option Addr) (c : Nat) :
    Calls Tryd.prog 16 #[.pointer (some ⟨p, 0, none⟩), .slice A 0 c] w fun e w' => e = .returned (.tuple #[]) ∧ ∃ F', St w0 w' F' p (s.planned []) ∧ Mv F w F' w' := by
  have HST : Hid (NandAt (w.setCell ⟨p, 4, none⟩ (.slice none 0 0)) F p (s.planned []) ∧ Mv F w F (w.setCell ⟨p, 4, none⟩ (.slice none 0 0))) := by
    obtain ⟨pb, pv, vs, hi⟩ := h.at_
    exact ⟨⟨pb, _, vs, hi.setPlan (s' := s.planned []) (pv' := .slice none 0 0) (.slice none 0 0) rfl rfl (World.ownsRow_nil _ _ _ _) (fun g hg => by simp [Value.ownBlock] at hg) (planned_ok hi.ok [] (by simp))⟩, MvSet hi.fp _ _⟩
  obtain ⟨A0, n0, c0, c4⟩ : ∃ A n c, w.cell? ⟨p, 4, none⟩ = some (.slice A n c) := by
    obtain ⟨pb, pv, vs, hi⟩ := h.at_
    obtain ⟨A, c, e⟩ := own_slice hi.plan
    exact ⟨A, _, c, by rw [hi.obj.cell, e]; rfl⟩
  have f4 : w.frozen? ⟨p, 4, none⟩ = false := by obtain ⟨_, _, _, hi⟩ := h.at_; exact hi.obj.fz 4
  have hq := heql p
  have HS := Lib.hid h
  clear h
  go_enter Tryd.func16, Tryd.ntmps16
  go_wp2_with fail
  refine wp_loop_rounds 1 ?_
  rw [rounds_succ]
  go_wp2_with fail
  go_end0
  exact ⟨rfl, F, HS.out.mv HST.out.1 HST.out.2, HST.out.2⟩
end Go.Proofs.YtfnoojhnhkodaaaDoor.nd
