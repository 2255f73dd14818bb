/- NandOrder. (By wip/tools/gen_ndu.py.) -/
import Derived.Test.YtfnoojhnhkodaaaDoorNdS
import Derived.Deep.RegionHeld3
namespace Go.Proofs.YtfnoojhnhkodaaaDoor.nd
open Go.RowKit Go.Proofs.YtfnoojhnhkodaaaDoor.er
attribute [local go_sem ↓] Go.wp_at_zero Go.wp_at_succ
set_option linter.unusedVariables false

def natCells (l : List Nat) : Array Value := (l.map fun (x : Nat) => Value.int .i64 (x : Int)).toArray
theorem natCells_at {l : List Nat} {i x : Nat} (h : l[i]? = some x) : (natCells l)[i]? = some (.int .i64 (x : Int)) := by simp [natCells, h]
theorem natCells_set (l : List Nat) (i x : Nat) : (natCells l).setIfInBounds i (.int .i64 (x : Int)) = natCells (l.set i x) := by
  unfold natCells
  rw [List.setIfInBounds_toArray, List.map_set]
/-- What holds at the head of a round: the array, and the law's own counts of the pages. -/
structure OrdSt (w0 w : World) (F : Nat → Prop) (p : Nat) (s : Nand) (nb k : Nat) : Prop where
  st : St w0 w F p s
  bl : s.blocks = 16
  pr : s.per = 8
  ops : s.ops ≤ k
  nx : Whole w nb 32 (natCells (nextOf s))
  nf : ¬ F nb
  nb0 : w0.heap.size ≤ nb
theorem OrdSt.below {w0 w w' : World} {F : Nat → Prop} {p : Nat} {s : Nand} {nb k : Nat} (h : OrdSt w0 w F p s nb k) (hb : Below w.heap.size w w') : OrdSt w0 w' F p s nb k :=
  ⟨h.st.below hb, h.bl, h.pr, h.ops, h.nx.below hb h.nx.lt, h.nf, h.nb0⟩
theorem OrdSt.up {w0 w : World} {F : Nat → Prop} {p : Nat} {s : Nand} {nb k k' : Nat} (h : OrdSt w0 w F p s nb k) (hk : k ≤ k') : OrdSt w0 w F p s nb k' :=
  ⟨h.st, h.bl, h.pr, by have := h.ops; omega, h.nx, h.nf, h.nb0⟩
/-- A call that turns no count. -/
theorem OrdSt.same {w0 w w' : World} {F F' : Nat → Prop} {p : Nat} {s s' : Nand} {nb k k' : Nat} (h : OrdSt w0 w F p s nb k) (hs : St w0 w' F' p s') (hm : Mv F w F' w') (hbl : s'.blocks = s.blocks) (hpr : s'.per = s.per) (hops : s'.ops ≤ k') (hn : nextOf s' = nextOf s) : OrdSt w0 w' F' p s' nb k' := by
  obtain ⟨h1, h2⟩ := hm.whole h.nx h.nf
  exact ⟨hs, hbl.trans h.bl, hpr.trans h.pr, hops, by rw [hn]; exact h1, h2, h.nb0⟩
/-- A call that turns one count, and the law's own store of it. -/
theorem OrdSt.turn {w0 w w' : World} {F F' : Nat → Prop} {p : Nat} {s s' : Nand} {nb k k' i x : Nat} (h : OrdSt w0 w F p s nb k) (hs : St w0 w' F' p s') (hm : Mv F w F' w') (hbl : s'.blocks = s.blocks) (hpr : s'.per = s.per) (hops : s'.ops ≤ k') (hn : nextOf s' = (nextOf s).set i x) :
    OrdSt w0 (w'.setCell ⟨nb, i, none⟩ (.int .i64 (x : Int))) F' p s' nb k' := by
  obtain ⟨h1, h2⟩ := hm.whole h.nx h.nf
  refine ⟨hs.box (Keep.set1 _ _ _ _) h2 h.nb0, hbl.trans h.bl, hpr.trans h.pr, hops, ?_, h2, h.nb0⟩
  have := h1.set i (.int .i64 (x : Int))
  rw [natCells_set, ← hn] at this
  exact this
theorem OrdSt.seen {w0 w w' : World} {F F' : Nat → Prop} {p : Nat} {s : Nand} {nb k : Nat} (h : OrdSt w0 w F p s nb k) (hm : Mv F w F' w') : Whole w' nb 32 (natCells (nextOf s)) := (hm.whole h.nx h.nf).1
theorem cellsNat {w : World} {nb : Nat} {t : TypeId} {l : List Nat} {i x : Nat} (h : Whole w nb t (natCells l)) (hx : l[i]? = some x) : w.cell? ⟨nb, i, none⟩ = some (.int .i64 (x : Int)) := (h.cell i).trans (natCells_at hx)
theorem next_at {s : Nand} (h16 : s.blocks = 16) {n x : Nat} (hn : n < 16) (hx : (nextOf s)[n]? = some x) : s.next (n : Int) = x := by
  unfold Nand.next Nand.has
  rw [h16, if_pos (by simp; omega)]
  unfold nextOf at hx
  rw [List.getElem?_map] at hx
  cases hb : s.b[n]? with
  | none => rw [hb] at hx; simp at hx
  | some b =>
    rw [hb] at hx
    simp only [Option.map_some, Option.some.injEq] at hx
    simp [Nand.blk, hb, hx]
theorem nextOf_len {s : Nand} (h : s.Ok) (h16 : s.blocks = 16) : (nextOf s).length = 16 := by unfold nextOf; rw [List.length_map, h.bl, h16]

set_option maxHeartbeats 20000000 in
set_option maxRecDepth 100000 in
theorem order_zero (A : Option Addr) (cap : Nat) (w : World) (hg : LaidT w) :
    Calls Tryd.prog 3 #[.slice A 0 cap] w fun e w' => e = .returned (.bool true) ∧ Below w.heap.size w w' := by
  have HG := Lib.hid hg
  have HGL := Lib.hid hg.lt
  clear hg
  go_enter Tryd.func3, Tryd.ntmps3
  go_wp2_with fail
  refine (plain_any _).mono ?_
  rintro e w1 ⟨rfl, hb1⟩
  have HB1 := Lib.hid hb1
  have HG1 := Lib.hid (HG.out.below hb1 HG.out.lt)
  clear hb1
  go_wp2_with fail
  refine (New16 w _ HB1.out HG1.out HGL.out).mono ?_
  rintro e w2 ⟨F2, p, rfl, S2, hb2, hF2⟩
  have HS2 := Lib.hid S2
  have hpn := heql p
  clear S2 hb2 hF2
  go_wp2_with fail
  refine (awake_yes _ HS2.out.laid).mono ?_
  rintro e w3 ⟨rfl, hb3⟩
  have HS3 := Lib.hid (HS2.out.below hb3)
  clear hb3
  have HO4 : Hid (OrdSt w (w3.alloc (.cells #[.int .i64 0, .int .i64 0, .int .i64 0, .int .i64 0, .int .i64 0, .int .i64 0, .int .i64 0, .int .i64 0, .int .i64 0, .int .i64 0, .int .i64 0, .int .i64 0, .int .i64 0, .int .i64 0, .int .i64 0, .int .i64 0] 32)) F2 p fs w3.heap.size 0) :=
    ⟨HS3.out.below ((Below.refl _ _).alloc (Nat.le_refl _) _), rfl, rfl, Int.le_refl _, by rw [show natCells (nextOf fs) = #[.int .i64 0, .int .i64 0, .int .i64 0, .int .i64 0, .int .i64 0, .int .i64 0, .int .i64 0, .int .i64 0, .int .i64 0, .int .i64 0, .int .i64 0, .int .i64 0, .int .i64 0, .int .i64 0, .int .i64 0, .int .i64 0] from rfl]; exact Whole.new _ _ _, fun h => by obtain ⟨_, _, _, hi⟩ := HS3.out.at_; exact absurd (hi.lt _ h) (Nat.lt_irrefl _), HS3.out.bel.size⟩
  have HO9 := Lib.hid (HO4.out.up (k' := 200) (by omega))
  go_wp2_with fail
  refine wp_loop_rounds 1 ?_
  rw [rounds_succ]
  go_wp2_with fail
  go_loopw [10] (fun i wr => ∃ k : Nat, k ≤ 16 ∧ i = .int .i64 k ∧ Hid (OrdSt w wr F2 p fs w3.heap.size 200)) (fun i _ => 16 - (intOf i).toNat)
  case atStart => exact ⟨0, by omega, rfl, HO9.out⟩
  case round =>
    obtain ⟨k, hk, rfl, HO⟩ := hrel
    by_cases hlt : k < 16
    · have hki : (k : Int) < 16 := by omega
      have hk0 : (0 : Int) ≤ (k : Int) := by omega
      obtain ⟨x, hx⟩ : ∃ x, (nextOf fs)[k]? = some x := ⟨_, List.getElem?_eq_getElem (by rw [nextOf_len HO.out.st.at_.ok HO.out.bl]; exact hlt)⟩
      have cx := cellsNat HO.out.nx hx
      have HNX := Lib.hid (next_at HO.out.bl hlt hx)
      have HQ : Hid (∀ d, Calls Tryd.prog 15 #[.pointer (some ⟨p, 0, none⟩), .int .i64 (k : Int)] (wr.drewN d) fun e w' => e = .returned (.int .i64 (x : Int)) ∧ ∃ m, w' = (wr.drewN d).drewN m) := fun d => by
        have h := Next_any (wr.drewN d) F2 p fs (k : Int) (HO.out.st.at_.below (below_drewN (Below.refl _ _) d))
        rw [HNX.out] at h
        exact h
      clear hx
      go_wp2_with fail
      go_quiet ((go_at_call 15; exact Calls.quiet_of (HQ.out _)))
      go_wp2_with fail
      go_roundw
      case rel => exact ⟨k + 1, by omega, by go_num, HO.out.below (below_drewN (Below.refl _ _) _)⟩
      case measure => simp [intOf]; omega
    · have hk16 : (16 : Int) ≤ (k : Int) := by omega
      go_wp2_with fail
      go_ret
      exact ⟨rfl, HO.out.st.bel⟩

def actVal (x : ActD) : Value := .agg #[.int .i64 x.kind, .int .i64 x.a, .string x.s, .slice x.A x.m.length x.c]
set_option maxHeartbeats 40000000 in
set_option maxRecDepth 100000 in
theorem order_some (b off n cap : Nat) (l : List ActD) (w : World) (hg : LaidT w) (hl : l.length = n) (h1 : 0 < n) (hn : n ≤ 9223372036854775807) (ha : ActArgs w b off l) :
    Calls Tryd.prog 3 #[.slice (some ⟨b, off, none⟩) n cap] w fun e w' => e = .returned (.bool true) ∧ Below w.heap.size w w' := by
  have HA := Lib.hid ha
  have HL := Lib.hid hl
  clear ha hl
  have HG := Lib.hid hg
  have HGL := Lib.hid hg.lt
  clear hg
  go_enter Tryd.func3, Tryd.ntmps3
  go_wp2_with fail
  refine (plain_any _).mono ?_
  rintro e w1 ⟨rfl, hb1⟩
  have HB1 := Lib.hid hb1
  have HG1 := Lib.hid (HG.out.below hb1 HG.out.lt)
  clear hb1
  go_wp2_with fail
  refine (New16 w _ HB1.out HG1.out HGL.out).mono ?_
  rintro e w2 ⟨F2, p, rfl, S2, hb2, hF2⟩
  have HS2 := Lib.hid S2
  have hpn := heql p
  clear S2 hb2 hF2
  go_wp2_with fail
  refine (awake_yes _ HS2.out.laid).mono ?_
  rintro e w3 ⟨rfl, hb3⟩
  have HS3 := Lib.hid (HS2.out.below hb3)
  clear hb3
  have HO4 : Hid (OrdSt w (w3.alloc (.cells #[.int .i64 0, .int .i64 0, .int .i64 0, .int .i64 0, .int .i64 0, .int .i64 0, .int .i64 0, .int .i64 0, .int .i64 0, .int .i64 0, .int .i64 0, .int .i64 0, .int .i64 0, .int .i64 0, .int .i64 0, .int .i64 0] 32)) F2 p fs w3.heap.size 0) :=
    ⟨HS3.out.below ((Below.refl _ _).alloc (Nat.le_refl _) _), rfl, rfl, Int.le_refl _, by rw [show natCells (nextOf fs) = #[.int .i64 0, .int .i64 0, .int .i64 0, .int .i64 0, .int .i64 0, .int .i64 0, .int .i64 0, .int .i64 0, .int .i64 0, .int .i64 0, .int .i64 0, .int .i64 0, .int .i64 0, .int .i64 0, .int .i64 0, .int .i64 0] from rfl]; exact Whole.new _ _ _, fun h => by obtain ⟨_, _, _, hi⟩ := HS3.out.at_; exact absurd (hi.lt _ h) (Nat.lt_irrefl _), HS3.out.bel.size⟩
  go_wp2_with fail
  obtain ⟨nb, hnb⟩ : ∃ nb, nb = w3.heap.size := ⟨_, rfl⟩
  have HNB := Lib.hid hnb
  clear hnb
  go_loopw [6] (fun i wr => ∃ k : Nat, k ≤ n ∧ k ≤ 200 ∧ i = .int .i64 k ∧ ∃ F s, Hid (OrdSt w wr F p s w3.heap.size k)) (fun i _ => n - (intOf i).toNat)
  case atStart => exact ⟨0, by omega, by omega, rfl, F2, fs, HO4.out⟩
  case round =>
    obtain ⟨k, hk, hk200, rfl, F, s, HO⟩ := hrel
    by_cases hlt : k < n ∧ k < 200
    · obtain ⟨hkn, hk2⟩ := hlt
      obtain ⟨x, hx⟩ : ∃ x, l[k]? = some x := ⟨l[k]'(by rw [HL.out]; exact hkn), List.getElem?_eq_getElem _⟩
      have hxa := HA.out k x hx
      obtain ⟨xk, xa, xs, xA, xc, xm⟩ := x
      have hbw : Below w.heap.size w wr := HO.out.st.bel
      obtain ⟨a0, a1, a2, a3, hmp⟩ := hxa
      simp only at a0 a1 a2 a3
      have c0 := below_c hbw a0
      have c1 := below_c hbw a1
      have c2 := below_c hbw a2
      have c3 := below_c hbw a3
      have HMP := Lib.hid hmp
      have HMPr := Lib.hid ((hmp.below hbw).below (w' := wr.alloc (.cells #[.int .i64 xk, .int .i64 xa, .string xs, .slice xA xm.length xc] 35)) ((Below.refl _ _).alloc (Nat.le_refl _) _))
      have hk0 : (0 : Int) ≤ (k : Int) := by omega
      have hki : (k : Int) < (n : Int) := by omega
      have hk200i : (k : Int) < 200 := by omega
      have BX : Hid (Whole (wr.alloc (.cells #[.int .i64 xk, .int .i64 xa, .string xs, .slice xA xm.length xc] 35)) wr.heap.size 35 #[.int .i64 xk, .int .i64 xa, .string xs, .slice xA xm.length xc]) := Whole.new _ _ _
      have HOa := Lib.hid (HO.out.below (w' := wr.alloc (.cells #[.int .i64 xk, .int .i64 xa, .string xs, .slice xA xm.length xc] 35)) ((Below.refl _ _).alloc (Nat.le_refl _) _))
      clear hx a0 a1 a2 a3 hmp hbw
      cases hli : lightB ⟨xk, xa, xs, xA, xc, xm⟩
      · have HLI := Lib.hid hli
        clear hli
        go_wp2_with (go_at_call 11; refine (light_any ⟨xk, xa, xs, xA, xc, xm⟩ _ HMPr.out).mono ?_; rw [HLI.out]; rintro e w4 ⟨rfl, hb4⟩)
        go_roundw
        case rel => exact ⟨k + 1, by omega, by omega, by go_num, F, s, (HOa.out.below hb4).up (by omega)⟩
        case measure => simp [intOf]; omega
      · have HLI := Lib.hid hli
        clear hli
        go_wp2_with fail
        refine (light_any ⟨xk, xa, xs, xA, xc, xm⟩ _ HMPr.out).mono ?_
        rw [HLI.out]
        rintro e w4 ⟨rfl, hb4⟩
        have HO4 := Lib.hid (HOa.out.below hb4)
        have BX4 := Lib.hid (BX.out.below hb4 BX.out.lt)
        have hs4 : wr.heap.size < w4.heap.size := BX4.out.lt
        have d0 := BX4.out.cell 0
        have d1 := BX4.out.cell 1
        have d2 := BX4.out.cell 2
        have d3 := BX4.out.cell 3
        simp only [List.getElem?_toArray, List.getElem?_cons_zero, List.getElem?_cons_succ] at d0 d1 d2 d3
        clear hb4 c0 c1 c2 c3
        go_wp2_with fail
        refine (Ops_any _ _ _ _ HO4.out.st.at_).mono ?_
        rintro e w' ⟨rfl, rfl⟩
        have NFx : Hid (¬ F wr.heap.size) := fun h => by obtain ⟨_, _, _, hi⟩ := HO.out.st.at_; exact absurd (hi.lt _ h) (Nat.lt_irrefl _)
        have hsl : xs.size ≤ 9223372036854775807 := HMP.out.2.1
        have HSPEC := Lib.hid (lightB_spec HLI.out)
        have OPK : Hid (s.ops ≤ 1000000000000000000) := by show _ ≤ _; have := HO4.out.ops; omega
        by_cases hk0' : xk = 0
        · subst hk0'
          rcases program_next HO4.out.st.at_.ok xa xs with ⟨hsame, hne⟩ | ⟨hop, hbl, hpr, hpl, m, hm, hmlt, hat, hnx, _⟩
          · have HSM := Lib.hid hsame
            have HNE := Lib.hid hne
            clear hsame hne
            go_wp2_with fail
            refine (ProgE HO4.out.st xa xs OPK.out hsl _ rfl HNE.out).mono ?_
            rintro e w5 ⟨b5, F5, rfl, S5, M5, E5⟩
            have HO5 : Hid (OrdSt w w5 F5 p s w3.heap.size (k + 1)) := by rw [HSM.out] at S5; exact HO4.out.same S5 M5 rfl rfl (by have := HO4.out.ops; omega) rfl
            clear S5 M5 E5
            go_wp2_with fail
            refine (Ops_any _ _ _ _ HO5.out.st.at_).mono ?_
            rintro e w' ⟨rfl, rfl⟩
            go_wp2_with fail
            go_roundw
            case rel => exact ⟨k + 1, by omega, by omega, by go_num, F5, s, HO5.out⟩
            case measure => simp [intOf]; omega
          · subst hm
            have hbl16 : s.blocks = 16 := HO4.out.bl
            have hpr8 : s.per = 8 := HO4.out.pr
            rw [hpr8] at hat hnx hmlt
            rw [hbl16] at hmlt
            have HOP := Lib.hid hop
            have HBL := Lib.hid hbl
            have HPR := Lib.hid hpr
            have HNX := Lib.hid hnx
            have HAT := Lib.hid hat
            have m0 : (0 : Int) ≤ (m : Int) := by omega
            have m1 : (m : Int) < 128 := by omega
            have hdv : m / 8 < 16 := by omega
            have tp : ((s.ops + 1 : Int) == s.ops) = false := by rw [beq_eq_false_iff_ne]; omega
            clear hop hbl hpr hpl hnx hat hbl16 hpr8 hmlt
            go_wp2_with fail
            refine (Program_any _ _ _ _ _ xs HO4.out.st.at_ OPK.out hsl).mono ?_
            rintro e w5 ⟨v5, F5, rfl, N5, M5, E5⟩
            have HS5 := Lib.hid (HO4.out.st.mv N5 M5)
            have HM5 := Lib.hid M5
            have hwm : IntKind.i64.wrap ((m : Int).tmod 8) = (m : Int) % 8 := by rw [Int.tmod_eq_emod_of_nonneg m0, IntKind.wrap_i64]; omega
            have hwd : IntKind.i64.wrap ((m : Int).tdiv 8) = (m : Int) / 8 := by rw [Int.tdiv_eq_ediv_of_nonneg m0, IntKind.wrap_i64]; omega
            have hd0 : (0 : Int) ≤ (m : Int) / 8 := by omega
            have hd1 : (m : Int) / 8 < 16 := by omega
            have hdn : ((m : Int) / 8).toNat = m / 8 := by omega
            have hq0 : decide ((m : Int) < 0) = false := by simp
            have hq1 : decide ((128 : Int) ≤ (m : Int)) = false := by simp; omega
            have hw5 := HO4.out.seen M5
            have cx := cellsNat hw5 HAT.out
            rw [show ((m % 8 : Nat) : Int) = (m : Int) % 8 from by omega] at cx
            have cfz := hw5.fz (m / 8)
            obtain ⟨bx5, _⟩ := M5.whole BX4.out (fun h => by
              have h1 : ¬ F wr.heap.size := NFx.out
              exact h1 h)
            have g1 := bx5.cell 1
            simp only [List.getElem?_toArray, List.getElem?_cons_zero, List.getElem?_cons_succ] at g1
            have hnlt := hw5.lt
            clear N5 M5 E5 hw5 bx5 d0 d1 d2 d3
            go_wp2_with fail
            refine (Ops_any _ _ _ _ HS5.out.at_).mono ?_
            rw [HOP.out]
            rintro e w' ⟨rfl, rfl⟩
            go_wp2_with fail
            go_quiet (fail)
            have HT5 := Lib.hid (HO4.out.turn (w' := w5.drewN nq) (HS5.out.below (below_drewN (Below.refl _ _) nq)) (HM5.out.trans (Mv.below (below_drewN (Below.refl _ _) nq))) HBL.out HPR.out (k' := k + 1) (by rw [HOP.out]; have := HO4.out.ops; omega) HNX.out)
            rw [show ((m % 8 + 1 : Nat) : Int) = (m : Int) % 8 + 1 from by omega] at HT5
            clear hwm hwd
            go_wp2_with fail
            go_roundw
            case rel => exact ⟨k + 1, by omega, by omega, by go_num, F5, _, HT5.out⟩
            case measure => simp [intOf]; omega
        · have t0 : (xk == 0) = false := by rw [beq_eq_false_iff_ne]; exact hk0'
          clear hk0'
          by_cases hk1' : xk = 1
          · subst hk1'
            obtain ⟨hbl, hpr, hpl, ho1, ho2, _, hcase⟩ := erase_next HO4.out.st.at_.ok xa
            have hbl16 : s.blocks = 16 := HO4.out.bl
            have HBL := Lib.hid hbl
            have HPR := Lib.hid hpr
            have HOP : Hid ((s.erase xa).2.ops ≤ ((k + 1 : Nat) : Int)) := by show _ ≤ _; have := HO4.out.ops; omega
            rw [hbl16] at hcase
            clear hbl hpr hpl ho1 ho2 hbl16
            by_cases hc : (s.erase xa).1 = 0
            · rcases hcase with ⟨hne, _⟩ | ⟨m, hm, hmlt, x, hnx, hx0, hxat⟩
              · exact absurd hc hne
              · subst hm
                obtain rfl : x = 0 := hx0 hc
                have HC := Lib.hid hc
                have HNX := Lib.hid hnx
                obtain ⟨y, hy⟩ : ∃ y, (nextOf s)[m]? = some y := ⟨_, List.getElem?_eq_getElem (by rw [nextOf_len HO4.out.st.at_.ok HO4.out.bl]; exact hmlt)⟩
                have HY := Lib.hid hy
                have m0 : (0 : Int) ≤ (m : Int) := by omega
                have m1 : (m : Int) < 16 := by omega
                clear hc hnx hx0 hxat hy
                go_wp2_with fail
                refine (Eras0 HO4.out.st (m : Int) OPK.out HC.out).mono ?_
                rintro e w5 ⟨rfl, F5, S5, M5⟩
                have HT5 := Lib.hid (HO4.out.turn (x := 0) S5 M5 HBL.out HPR.out (k' := k + 1) HOP.out HNX.out)
                have hw5 := HO4.out.seen M5
                have cx := cellsNat hw5 HY.out
                have cfz := hw5.fz m
                obtain ⟨bx5, _⟩ := M5.whole BX4.out (fun h => by
                  have h1 : ¬ F wr.heap.size := NFx.out
                  exact h1 h)
                have g1 := bx5.cell 1
                simp only [List.getElem?_toArray, List.getElem?_cons_zero, List.getElem?_cons_succ] at g1
                have hnlt := hw5.lt
                clear S5 M5 hw5 bx5 d0 d1 d2 d3
                go_wp2_with fail
                go_roundw
                case rel => exact ⟨k + 1, by omega, by omega, by go_num, F5, _, HT5.out⟩
                case measure => simp [intOf]; omega
            · have HC := Lib.hid hc
              rcases hcase with ⟨_, hout, hnx⟩ | ⟨m, hm, hmlt, x, hnx, hx0, hxat⟩
              · have HNX := Lib.hid hnx
                have hout' : xa < 0 ∨ 16 ≤ xa := by omega
                clear hc hnx hout
                rcases hout' with hlo | hhi
                all_goals
                  go_wp2_with fail
                  refine (ErasE HO4.out.st xa OPK.out _ rfl HC.out).mono ?_
                  rintro e w5 ⟨b5, F5, rfl, S5, M5, E5⟩
                  have HT5 := Lib.hid (HO4.out.same S5 M5 HBL.out HPR.out (k' := k + 1) HOP.out HNX.out)
                  obtain ⟨bx5, _⟩ := M5.whole BX4.out (fun h => by
                    have h1 : ¬ F wr.heap.size := NFx.out
                    exact h1 h)
                  have g1 := bx5.cell 1
                  simp only [List.getElem?_toArray, List.getElem?_cons_zero, List.getElem?_cons_succ] at g1
                  clear S5 M5 E5 bx5 d0 d1 d2 d3
                  go_wp2_with fail
                  go_roundw
                  case rel => exact ⟨k + 1, by omega, by omega, by go_num, F5, _, HT5.out⟩
                  case measure => simp [intOf]; omega
              · subst hm
                have HNX := Lib.hid hnx
                have HXAT := Lib.hid hxat
                obtain ⟨y, hy⟩ : ∃ y, (nextOf s)[m]? = some y := ⟨_, List.getElem?_eq_getElem (by rw [nextOf_len HO4.out.st.at_.ok HO4.out.bl]; exact hmlt)⟩
                have HY := Lib.hid hy
                have m0 : (0 : Int) ≤ (m : Int) := by omega
                have m1 : (m : Int) < 16 := by omega
                have HB16 : Hid ((s.erase (m : Int)).2.blocks = 16) := HBL.out.trans HO4.out.bl
                have HMLT := Lib.hid hmlt
                clear hc hnx hx0 hxat hy
                go_wp2_with fail
                refine (ErasE HO4.out.st (m : Int) OPK.out _ rfl HC.out).mono ?_
                rintro e w5 ⟨b5, F5, rfl, S5, M5, E5⟩
                have HS5 := Lib.hid S5
                have HM5 := Lib.hid M5
                have hw5 := HO4.out.seen M5
                have cx := cellsNat hw5 HY.out
                have cfz := hw5.fz m
                obtain ⟨bx5, _⟩ := M5.whole BX4.out (fun h => by
                  have h1 : ¬ F wr.heap.size := NFx.out
                  exact h1 h)
                have g1 := bx5.cell 1
                simp only [List.getElem?_toArray, List.getElem?_cons_zero, List.getElem?_cons_succ] at g1
                have hnlt := hw5.lt
                have hnbw : w3.heap.size < wr.heap.size := HO.out.nx.lt
                have HK1 : Hid (∀ d, (w5.drew.drewN d).cell? ⟨wr.heap.size, 1, none⟩ = some (.int .i64 (m : Int))) := fun d => g1
                have HKS : Hid (∀ d u, ((w5.drew.drewN d).setCell ⟨w3.heap.size, m, none⟩ u).cell? ⟨wr.heap.size, 1, none⟩ = some (.int .i64 (m : Int))) := fun d u => (Keep.set1 _ _ _ _).cell (HK1.out d) (by show ¬ (wr.heap.size = w3.heap.size); omega)
                have HKS0 : Hid (∀ u, (w5.drew.setCell ⟨w3.heap.size, m, none⟩ u).cell? ⟨wr.heap.size, 1, none⟩ = some (.int .i64 (m : Int))) := fun u => (Keep.set1 _ _ _ _).cell (HK1.out 0) (by show ¬ (wr.heap.size = w3.heap.size); omega)
                clear S5 M5 E5 hw5 bx5 d0 d1 d2 d3
                go_wp2_with fail
                go_region_held3 (fun w' => w'.cell? ⟨wr.heap.size, 1, none⟩ = some (.int .i64 (m : Int))) (first | exact g1 | exact HK1.out _ | exact HKS.out _ _ | exact HKS0.out _)
                  ((go_at_call 15; refine (Next_any _ _ _ _ (m : Int) (HS5.out.at_.below (Below.refl _ _).drew)).mono ?_; rw [next_at HB16.out HMLT.out HXAT.out]; rintro e w6 ⟨rfl, d, rfl⟩))
                have HT5 := Lib.hid (HO4.out.turn (w' := w5.drewN (1 + d)) (x := x) (HS5.out.below (below_drewN (Below.refl _ _) (1 + d))) (HM5.out.trans (Mv.below (below_drewN (Below.refl _ _) (1 + d)))) HBL.out HPR.out (k' := k + 1) HOP.out HNX.out)
                go_wp2_with fail
                go_roundw
                case rel => exact ⟨k + 1, by omega, by omega, by go_num, F5, _, HT5.out⟩
                case measure => simp [intOf]; omega
          · have t1 : (xk == 1) = false := by rw [beq_eq_false_iff_ne]; exact hk1'
            clear hk1'
            by_cases hk3' : xk = 3
            · subst hk3'
              rcases Nat.eq_zero_or_pos xm.length with hm0 | hm0
              · obtain rfl : xm = [] := List.eq_nil_of_length_eq_zero hm0
                go_wp2_with fail
                refine (Plan_zero HO4.out.st xA xc).mono ?_
                rintro e w5 ⟨rfl, F5, S5, M5⟩
                have HT5 := Lib.hid (HO4.out.same S5 M5 rfl rfl (k' := k + 1) (by show s.ops ≤ _; have := HO4.out.ops; omega) rfl)
                clear S5 M5
                go_wp2_with fail
                go_roundw
                case rel => exact ⟨k + 1, by omega, by omega, by go_num, F5, _, HT5.out⟩
                case measure => simp [intOf]; omega
              · obtain ⟨bm, om, hA, hbl, harg⟩ := HMP.out.2.2 hm0
                simp only at hA harg
                subst hA
                have HARG : Hid (MisArg w4 bm om xm) := harg.below HO4.out.st.bel hbl
                have HNFB : Hid (¬ F bm) := fun h => by have := HO4.out.st.base _ h; omega
                have HJK : Hid (∀ m ∈ xm, m.junk.size ≤ 1000000) := fun m hm => by have := HSPEC.out.2.2 m hm; omega
                have HLN : Hid (xm.length ≤ 1000000) := by show _ ≤ _; have := HSPEC.out.1; simp only at this; omega
                clear harg hm0
                go_wp2_with fail
                refine (PlanS HO4.out.st OPK.out bm om xc xm.length xm rfl HLN.out HARG.out HNFB.out HJK.out).mono ?_
                rintro e w5 ⟨rfl, F5, S5, M5⟩
                have HT5 := Lib.hid (HO4.out.same S5 M5 rfl rfl (k' := k + 1) (by show s.ops ≤ _; have := HO4.out.ops; omega) rfl)
                clear S5 M5
                go_wp2_with fail
                go_roundw
                case rel => exact ⟨k + 1, by omega, by omega, by go_num, F5, _, HT5.out⟩
                case measure => simp [intOf]; omega
            · have t3 : (xk == 3) = false := by rw [beq_eq_false_iff_ne]; exact hk3'
              clear hk3'
              by_cases hk4' : xk = 4
              · subst hk4'
                go_wp2_with fail
                refine (UpS HO4.out.st).mono ?_
                rintro e w5 ⟨rfl, F5, S5, M5⟩
                have HT5 := Lib.hid (HO4.out.same S5 M5 rfl rfl (k' := k + 1) (by show s.ops ≤ _; have := HO4.out.ops; omega) rfl)
                clear S5 M5
                go_wp2_with fail
                go_roundw
                case rel => exact ⟨k + 1, by omega, by omega, by go_num, F5, _, HT5.out⟩
                case measure => simp [intOf]; omega
              · have t4 : (xk == 4) = false := by rw [beq_eq_false_iff_ne]; exact hk4'
                clear hk4'
                go_wp2_with fail
                go_roundw
                case rel => exact ⟨k + 1, by omega, by omega, by go_num, F, s, HO4.out.up (by omega)⟩
                case measure => simp [intOf]; omega
    · have hend : k = n ∨ k = 200 := by omega
      have HO9 := Lib.hid (HO.out.up (k' := 200) hk200)
      rcases Nat.lt_or_ge k n with hkn | hkn
      · have hk200i : (200 : Int) ≤ (k : Int) := by omega
        have hki : (k : Int) < (n : Int) := by omega
        go_wp2_with fail
        go_loopw [10] (fun i wr => ∃ k : Nat, k ≤ 16 ∧ i = .int .i64 k ∧ Hid (OrdSt w wr F p s w3.heap.size 200)) (fun i _ => 16 - (intOf i).toNat)
        case atStart => exact ⟨0, by omega, rfl, HO9.out⟩
        case round =>
          obtain ⟨k, hk, rfl, HO⟩ := hrel
          by_cases hlt : k < 16
          · have hki : (k : Int) < 16 := by omega
            have hk0 : (0 : Int) ≤ (k : Int) := by omega
            obtain ⟨x, hx⟩ : ∃ x, (nextOf s)[k]? = some x := ⟨_, List.getElem?_eq_getElem (by rw [nextOf_len HO.out.st.at_.ok HO.out.bl]; exact hlt)⟩
            have cx := cellsNat HO.out.nx hx
            have HNX := Lib.hid (next_at HO.out.bl hlt hx)
            have HQ : Hid (∀ d, Calls Tryd.prog 15 #[.pointer (some ⟨p, 0, none⟩), .int .i64 (k : Int)] (wr.drewN d) fun e w' => e = .returned (.int .i64 (x : Int)) ∧ ∃ m, w' = (wr.drewN d).drewN m) := fun d => by
              have h := Next_any (wr.drewN d) F p s (k : Int) (HO.out.st.at_.below (below_drewN (Below.refl _ _) d))
              rw [HNX.out] at h
              exact h
            clear hx
            go_wp2_with fail
            go_quiet ((go_at_call 15; exact Calls.quiet_of (HQ.out _)))
            go_wp2_with fail
            go_roundw
            case rel => exact ⟨k + 1, by omega, by go_num, HO.out.below (below_drewN (Below.refl _ _) _)⟩
            case measure => simp [intOf]; omega
          · have hk16 : (16 : Int) ≤ (k : Int) := by omega
            go_wp2_with fail
            go_ret
            exact ⟨rfl, HO.out.st.bel⟩
      · have hki : (n : Int) ≤ (k : Int) := by omega
        go_wp2_with fail
        go_loopw [10] (fun i wr => ∃ k : Nat, k ≤ 16 ∧ i = .int .i64 k ∧ Hid (OrdSt w wr F p s w3.heap.size 200)) (fun i _ => 16 - (intOf i).toNat)
        case atStart => exact ⟨0, by omega, rfl, HO9.out⟩
        case round =>
          obtain ⟨k, hk, rfl, HO⟩ := hrel
          by_cases hlt : k < 16
          · have hki : (k : Int) < 16 := by omega
            have hk0 : (0 : Int) ≤ (k : Int) := by omega
            obtain ⟨x, hx⟩ : ∃ x, (nextOf s)[k]? = some x := ⟨_, List.getElem?_eq_getElem (by rw [nextOf_len HO.out.st.at_.ok HO.out.bl]; exact hlt)⟩
            have cx := cellsNat HO.out.nx hx
            have HNX := Lib.hid (next_at HO.out.bl hlt hx)
            have HQ : Hid (∀ d, Calls Tryd.prog 15 #[.pointer (some ⟨p, 0, none⟩), .int .i64 (k : Int)] (wr.drewN d) fun e w' => e = .returned (.int .i64 (x : Int)) ∧ ∃ m, w' = (wr.drewN d).drewN m) := fun d => by
              have h := Next_any (wr.drewN d) F p s (k : Int) (HO.out.st.at_.below (below_drewN (Below.refl _ _) d))
              rw [HNX.out] at h
              exact h
            clear hx
            go_wp2_with fail
            go_quiet ((go_at_call 15; exact Calls.quiet_of (HQ.out _)))
            go_wp2_with fail
            go_roundw
            case rel => exact ⟨k + 1, by omega, by go_num, HO.out.below (below_drewN (Below.refl _ _) _)⟩
            case measure => simp [intOf]; omega
          · have hk16 : (16 : Int) ≤ (k : Int) := by omega
            go_wp2_with fail
            go_ret
            exact ⟨rfl, HO.out.st.bel⟩
end Go.Proofs.YtfnoojhnhkodaaaDoor.nd
