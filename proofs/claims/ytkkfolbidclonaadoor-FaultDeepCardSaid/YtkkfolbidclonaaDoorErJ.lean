/- The walk of FaultDeep: however often a number is wrapped. -/
import Derived.Test.YtkkfolbidclonaaDoorErI
import Derived.BigQuiet
import Derived.Deep.QuietTactic
import Derived.Deep.RegionHeld3
namespace Go.Proofs.YtkkfolbidclonaaDoor.er
open Go.RowKit
set_option linter.unusedVariables false

/-! ### plain: a number wrapped again and again -/
abbrev St := ByteArray × Int
def stAt (ss : List St) (k : Nat) : St := ss.getD k (ByteArray.empty, 0)
def chainK (e : Int) (ss : List St) : Nat → List Nd
  | 0 => [ndCode e]
  | k + 1 => chainK e ss k ++ [ndStep (stAt ss k).1 (stAt ss k).2 k]
theorem chainK_len (e : Int) (ss : List St) : ∀ k, (chainK e ss k).length = k + 1
  | 0 => rfl
  | k + 1 => by rw [chainK, List.length_append, chainK_len e ss k]; rfl
theorem chainK_zero (e : Int) (ss : List St) : ∀ k, (chainK e ss k)[0]? = some (ndCode e)
  | 0 => rfl
  | k + 1 => by rw [chainK, List.getElem?_append_left (by rw [chainK_len]; omega)]; exact chainK_zero e ss k
theorem chainK_at (e : Int) (ss : List St) : ∀ k j, j < k → (chainK e ss k)[j + 1]? = some (ndStep (stAt ss j).1 (stAt ss j).2 j)
  | 0, _, h => by omega
  | k + 1, j, h => by
    rw [chainK]
    rcases Nat.lt_or_ge j k with hj | hj
    · rw [List.getElem?_append_left (by rw [chainK_len]; omega)]; exact chainK_at e ss k j hj
    · obtain rfl : j = k := by omega
      rw [List.getElem?_append_right (by rw [chainK_len]; omega), chainK_len]
      simp
theorem chainK_down (e : Int) (ss : List St) (n : Nat) : Down (chainK e ss n) := by
  intro i m hm k hk
  rcases i with _ | i
  · rw [chainK_zero] at hm; injection hm with hm; subst hm; simp at hk
  · have hi : i < n := by have := (List.getElem?_eq_some_iff.1 hm).1; rw [chainK_len] at this; omega
    rw [chainK_at e ss n i hi] at hm; injection hm with hm; subst hm; simp at hk; omega
theorem chainK_code (e : Int) (ss : List St) (n : Nat) : ∀ j, j ≤ n → codeO (chainK e ss n) j = some e
  | 0, _ => by rw [codeO_eq (chainK_down e ss n) (chainK_zero e ss n)]; simp
  | j + 1, h => by rw [codeO_eq (chainK_down e ss n) (chainK_at e ss n j (by omega))]; simp [chainK_code e ss n j (by omega)]
theorem chainK_has (e : Int) (ss : List St) (n : Nat) : ∀ j, j ≤ n → hasO (chainK e ss n) e j = true
  | 0, _ => by rw [hasO_eq (chainK_down e ss n) e (chainK_zero e ss n)]; simp
  | j + 1, h => by rw [hasO_eq (chainK_down e ss n) e (chainK_at e ss n j (by omega))]; simp [chainK_has e ss n j (by omega)]
def downTo : Nat → List Nat
  | 0 => []
  | n + 1 => (n + 1) :: downTo n
theorem downTo_len : ∀ n, (downTo n).length = n
  | 0 => rfl
  | n + 1 => by simp [downTo, downTo_len n]
theorem downTo_at : ∀ n i, i < n → (downTo n)[i]? = some (n - i)
  | 0, _, h => by omega
  | n + 1, 0, _ => by simp [downTo]
  | n + 1, i + 1, h => by
    rw [downTo, List.getElem?_cons_succ, downTo_at n i (by omega)]
    congr 1; omega
theorem chainK_trail (e : Int) (ss : List St) (n : Nat) : ∀ j, j ≤ n → trailO (chainK e ss n) j = downTo j
  | 0, _ => by rw [trailO_none (by rw [firstO_eq (chainK_down e ss n) (chainK_zero e ss n)]; simp)]; rfl
  | j + 1, h => by
    have hn := chainK_at e ss n j (by omega)
    rw [trailO_some (chainK_down e ss n) (i := j + 1) (x := j + 1) (k := j) (by rw [firstO_eq (chainK_down e ss n) hn]; simp) hn rfl, chainK_trail e ss n j (by omega)]
    rfl
theorem stepCells_at (l : List Nd) : ∀ (xs : List Nat) (i x : Nat) (n : Nd), xs[i]? = some x → l[x]? = some n → (stepCells l xs)[i * 2]? = some (.string n.op) ∧ (stepCells l xs)[i * 2 + 1]? = some (.int .i64 n.at_)
  | [], _, _, _, h, _ => by simp at h
  | y :: r, 0, x, n, h, hn => by
    simp at h
    subst h
    simp [stepCells, hn]
  | y :: r, i + 1, x, n, h, hn => by
    have ih := stepCells_at l r i x n (by simpa using h) hn
    have e : stepCells l (y :: r) = (match l[y]? with | some n => [.string n.op, .int .i64 n.at_] | none => [.string ByteArray.empty, .int .i64 0]) ++ stepCells l r := by rfl
    have e2 : (match l[y]? with | some n => [Value.string n.op, .int .i64 n.at_] | none => [.string ByteArray.empty, .int .i64 0]).length = 2 := by cases l[y]? <;> rfl
    rw [e, List.getElem?_append_right (by rw [e2]; omega), List.getElem?_append_right (by rw [e2]; omega), e2]
    rw [show (i + 1) * 2 - 2 = i * 2 from by omega, show (i + 1) * 2 + 1 - 2 = i * 2 + 1 from by omega]
    exact ih

/-- A slice of steps that came in. -/
def Steps (w : World) (b off : Nat) (ss : List St) : Prop := ∀ (i : Nat) (s : St), ss[i]? = some s → w.cell? ⟨b, off + i * 2, none⟩ = some (.string s.1) ∧ w.cell? ⟨b, off + i * 2 + 1, none⟩ = some (.int .i64 s.2)
theorem Steps.below {w w' : World} {b off : Nat} {ss : List St} (h : Steps w b off ss) (hb : Below w.heap.size w w') : Steps w' b off ss :=
  fun i s hs => ⟨below_c hb (h i s hs).1, below_c hb (h i s hs).2⟩

set_option maxHeartbeats 4000000 in
set_option maxRecDepth 100000 in
theorem deep_few (e : Int) (b off n cap : Nat) (ss : List St) (w : World) (hg : LaidT w) (hl : ss.length = n) (hm : n ≤ maxLen) (hss : Steps w b off ss) (hn : n ≤ 60) :
    Calls Tryd.prog 5 #[.int .i64 e, .slice (some ⟨b, off, none⟩) n cap] w fun r w' => r = .returned (.bool true) ∧ Below w.heap.size w w' := by
  unfold maxLen at hm
  have HG := Lib.hid hg
  have HSS := Lib.hid hss
  have HL := Lib.hid hl
  have h0 := hg.lt
  clear hg hss hl
  go_enter Tryd.func5, Tryd.ntmps5
  go_wp2
  go_loopw [5, 7] (fun v i wr => ∃ k : Nat, k ≤ n ∧ i = .int .i64 k ∧ Below w.heap.size w wr ∧ ∃ vs, Rep wr wr.heap.size (chainK e ss k) vs ∧ vs[k]? = some v) (fun _ i _ => n - (intOf i).toNat)
  case atStart => exact ⟨0, Nat.zero_le _, rfl, Below.refl _ _, _, rep_code w _ e, rfl⟩
  case round =>
    obtain ⟨k, hk, rfl, hbel, vs, hrep, hv⟩ := hrel
    obtain ⟨tx, y, hxy⟩ := hrep.iface hv
    subst hxy
    have HREP := Lib.hid hrep
    have HV := Lib.hid hv
    have HBEL := Lib.hid hbel
    have hsz := hbel.size
    clear hrep hv hbel
    by_cases hlt : k < n
    · have hat : ss[k]? = some (stAt ss k) := by
        have hk : k < ss.length := by rw [HL.out]; omega
        unfold stAt
        rw [List.getD_eq_getElem?_getD, List.getElem?_eq_getElem hk]; rfl
      obtain ⟨q0, q1⟩ := (HSS.out.below HBEL.out) k _ hat
      have hi0 : (0 : Int) ≤ (k : Int) := by omega
      have hi1 : (k : Int) < (n : Int) := by omega
      clear hat
      generalize hop : (stAt ss k).1 = op at *
      generalize hatt : (stAt ss k).2 = att at *
      have HOP := Lib.hid hop
      have HAT := Lib.hid hatt
      clear hop hatt
      go_wp2_with fail
      go_region_held3 (fun w' => w'.cell? ⟨b, off + k * 2, none⟩ = some (.string op) ∧ w'.cell? ⟨b, off + k * 2 + 1, none⟩ = some (.int .i64 att)) (go_keep)
        (first | (go_at_call 16; refine (wrap_err _ _ _ _ _).mono ?_; rintro e w' ⟨rfl, rfl⟩))
      go_wp2
      go_roundw
      case rel =>
        refine ⟨k + 1, by omega, by go_num, ((HBEL.out.alloc hsz _).drew), vs ++ [.iface 56 (.pointer (some ⟨wr.heap.size, 0, none⟩))], ?_, ?_⟩
        · have r := HREP.out.wrap (Nat.le_refl _) op att HV.out
          rw [chainK, HOP.out, HAT.out]
          simpa using r.drew
        · have := HREP.out.len
          rw [chainK_len] at this
          rw [List.getElem?_append_right (by omega), this]
          simp
      case measure => simp [intOf]; omega
    · obtain rfl : n = k := by omega
      have HC := Lib.hid (chainK_code e ss n n (Nat.le_refl _))
      have HH := Lib.hid (chainK_has e ss n n (Nat.le_refl _))
      have HT := Lib.hid (chainK_trail e ss n n (Nat.le_refl _))
      have HGr := Lib.hid (HG.out.below HBEL.out h0)
      have hb60 : n < 1000 := by omega
      clear hlt hk
      go_wp2_with fail
      refine (trail_err _ _ _ _ _ _ HV.out HREP.out (Nat.le_refl _) HGr.out hb60).mono ?_
      rw [HT.out, downTo_len]
      rintro r w1 ⟨s, rfl, hown, hb1⟩
      obtain ⟨A, c, rfl⟩ := own_slice hown
      have HOWN := Lib.hid hown
      have HB1 := Lib.hid hb1
      have HREP1 := Lib.hid (HREP.out.below hb1)
      have HG1 := Lib.hid (HGr.out.below hb1 (by omega))
      have hs1 := hb1.size
      clear hown hb1
      go_wp2_with fail
      refine (code_err _ _ _ _ _ _ HV.out HREP1.out hs1 HG1.out).mono ?_
      rw [HC.out]
      rintro r w2 ⟨rfl, hb2⟩
      have HB2 := Lib.hid hb2
      have HREP2 := Lib.hid (HREP1.out.below (hb2.mono hs1))
      have hs2 := hb2.size
      clear hb2
      go_wp2_with fail
      refine (has_err _ _ _ _ _ _ _ HV.out HREP2.out).mono ?_
      rw [HH.out]
      rintro r w' ⟨rfl, rfl⟩
      have hbw : Below w.heap.size w w2 := HBEL.out.trans ((HB1.out.mono hsz).trans (HB2.out.mono (by omega)))
      have HBW := Lib.hid hbw
      have HS2 := Lib.hid (HSS.out.below hbw)
      have HO2 := Lib.hid (own_below HOWN.out HB2.out)
      have HG2 := Lib.hid (HG.out.below hbw h0)
      clear hbw
      go_wp2_with fail
      go_loopw [9] (fun i wr => ∃ j : Nat, j ≤ n ∧ i = .int .i64 j ∧ ∃ d, wr = w2.drewN d) (fun i _ => n - (intOf i).toNat)
      case atStart => exact ⟨0, Nat.zero_le _, rfl, 0, rfl⟩
      case round =>
        obtain ⟨j, hj, rfl, d, rfl⟩ := hrel
        by_cases hlt : j < n
        · obtain ⟨g, c', hA, _, hc⟩ := own_one HO2.out (by omega)
          injection hA with hA hA2 hA3
          subst hA hA3
          clear hA2
          have hdt : (downTo n)[j]? = some (n - j) := downTo_at _ _ hlt
          have hnd : (chainK e ss n)[n - j]? = some (ndStep (stAt ss (n - 1 - j)).1 (stAt ss (n - 1 - j)).2 (n - 1 - j)) := by
            have := chainK_at e ss n (n - 1 - j) (by omega)
            rwa [show n - 1 - j + 1 = n - j from by omega] at this
          obtain ⟨e0, e1⟩ := stepCells_at _ _ _ _ _ hdt hnd
          have p0 := hc _ _ e0
          have p1 := hc _ _ e1
          have hat : ss[n - 1 - j]? = some (stAt ss (n - 1 - j)) := by
            have hk : n - 1 - j < ss.length := by rw [HL.out]; omega
            unfold stAt
            rw [List.getD_eq_getElem?_getD, List.getElem?_eq_getElem hk]; rfl
          obtain ⟨q0, q1⟩ := HS2.out _ _ hat
          clear hdt hnd e0 e1 hc hat
          generalize (stAt ss (n - 1 - j)).1 = op at *
          generalize (stAt ss (n - 1 - j)).2 = att at *
          have hj0 : (0 : Int) ≤ (j : Int) := by omega
          have hj1 : (j : Int) < (n : Int) := by omega
          have hj2 : (0 : Int) ≤ (n : Int) - 1 - (j : Int) := by omega
          have hj3 : (n : Int) - 1 - (j : Int) < (n : Int) := by omega
          go_wp2_with fail
          go_quiet (fail)
          go_wp2
          go_roundw
          case rel => exact ⟨j + 1, by omega, by go_num, _, rfl⟩
          case measure => simp [intOf]; omega
        · obtain rfl : n = j := by omega
          have HG3 : Hid (LaidT (w2.drewN d)) := HG2.out
          go_wp2_with (go_at_call 10; refine (awake_yes _ HG3.out).mono ?_; rintro r w3 ⟨rfl, hb3⟩)
          go_ret
          exact ⟨rfl, (below_drewN HBW.out d).trans (hb3.mono (by have := HBW.out.size; simpa using this))⟩

set_option maxHeartbeats 4000000 in
set_option maxRecDepth 100000 in
theorem deep_many (e : Int) (b off n cap : Nat) (ss : List St) (w : World) (hg : LaidT w) (hl : ss.length = n) (hm : n ≤ maxLen) (hss : Steps w b off ss) (hn : 60 < n) :
    Calls Tryd.prog 5 #[.int .i64 e, .slice (some ⟨b, off, none⟩) n cap] w fun r w' => r = .returned (.bool true) ∧ Below w.heap.size w w' := by
  unfold maxLen at hm
  have HG := Lib.hid hg
  have HSS := Lib.hid hss
  have HL := Lib.hid hl
  have h0 := hg.lt
  clear hg hss hl
  go_enter Tryd.func5, Tryd.ntmps5
  go_wp2
  go_loopw [5, 7] (fun v i wr => ∃ k : Nat, k ≤ 60 ∧ i = .int .i64 k ∧ Below w.heap.size w wr ∧ ∃ vs, Rep wr wr.heap.size (chainK e ss k) vs ∧ vs[k]? = some v) (fun _ i _ => 60 - (intOf i).toNat)
  case atStart => exact ⟨0, Nat.zero_le _, rfl, Below.refl _ _, _, rep_code w _ e, rfl⟩
  case round =>
    obtain ⟨k, hk, rfl, hbel, vs, hrep, hv⟩ := hrel
    obtain ⟨tx, y, hxy⟩ := hrep.iface hv
    subst hxy
    have HREP := Lib.hid hrep
    have HV := Lib.hid hv
    have HBEL := Lib.hid hbel
    have hsz := hbel.size
    clear hrep hv hbel
    by_cases hlt : k < 60
    · have hat : ss[k]? = some (stAt ss k) := by
        have hk : k < ss.length := by rw [HL.out]; omega
        unfold stAt
        rw [List.getD_eq_getElem?_getD, List.getElem?_eq_getElem hk]; rfl
      obtain ⟨q0, q1⟩ := (HSS.out.below HBEL.out) k _ hat
      have hi0 : (0 : Int) ≤ (k : Int) := by omega
      have hi1 : (k : Int) < (n : Int) := by omega
      clear hat
      generalize hop : (stAt ss k).1 = op at *
      generalize hatt : (stAt ss k).2 = att at *
      have HOP := Lib.hid hop
      have HAT := Lib.hid hatt
      clear hop hatt
      go_wp2_with fail
      go_region_held3 (fun w' => w'.cell? ⟨b, off + k * 2, none⟩ = some (.string op) ∧ w'.cell? ⟨b, off + k * 2 + 1, none⟩ = some (.int .i64 att)) (go_keep)
        (first | (go_at_call 16; refine (wrap_err _ _ _ _ _).mono ?_; rintro e w' ⟨rfl, rfl⟩))
      go_wp2
      go_roundw
      case rel =>
        refine ⟨k + 1, by omega, by go_num, ((HBEL.out.alloc hsz _).drew), vs ++ [.iface 56 (.pointer (some ⟨wr.heap.size, 0, none⟩))], ?_, ?_⟩
        · have r := HREP.out.wrap (Nat.le_refl _) op att HV.out
          rw [chainK, HOP.out, HAT.out]
          simpa using r.drew
        · have := HREP.out.len
          rw [chainK_len] at this
          rw [List.getElem?_append_right (by omega), this]
          simp
      case measure => simp [intOf]; omega
    · obtain rfl : 60 = k := by omega
      have HC := Lib.hid (chainK_code e ss 60 60 (Nat.le_refl _))
      have HH := Lib.hid (chainK_has e ss 60 60 (Nat.le_refl _))
      have HT := Lib.hid (chainK_trail e ss 60 60 (Nat.le_refl _))
      have HGr := Lib.hid (HG.out.below HBEL.out h0)
      have hb60 : 60 < 1000 := by omega
      clear hlt hk
      go_wp2_with fail
      refine (trail_err _ _ _ _ _ _ HV.out HREP.out (Nat.le_refl _) HGr.out hb60).mono ?_
      rw [HT.out, downTo_len]
      rintro r w1 ⟨s, rfl, hown, hb1⟩
      obtain ⟨A, c, rfl⟩ := own_slice hown
      have HOWN := Lib.hid hown
      have HB1 := Lib.hid hb1
      have HREP1 := Lib.hid (HREP.out.below hb1)
      have HG1 := Lib.hid (HGr.out.below hb1 (by omega))
      have hs1 := hb1.size
      clear hown hb1
      go_wp2_with fail
      refine (code_err _ _ _ _ _ _ HV.out HREP1.out hs1 HG1.out).mono ?_
      rw [HC.out]
      rintro r w2 ⟨rfl, hb2⟩
      have HB2 := Lib.hid hb2
      have HREP2 := Lib.hid (HREP1.out.below (hb2.mono hs1))
      have hs2 := hb2.size
      clear hb2
      go_wp2_with fail
      refine (has_err _ _ _ _ _ _ _ HV.out HREP2.out).mono ?_
      rw [HH.out]
      rintro r w' ⟨rfl, rfl⟩
      have hbw : Below w.heap.size w w2 := HBEL.out.trans ((HB1.out.mono hsz).trans (HB2.out.mono (by omega)))
      have HBW := Lib.hid hbw
      have HS2 := Lib.hid (HSS.out.below hbw)
      have HO2 := Lib.hid (own_below HOWN.out HB2.out)
      have HG2 := Lib.hid (HG.out.below hbw h0)
      clear hbw
      go_wp2_with fail
      go_loopw [9] (fun i wr => ∃ j : Nat, j ≤ 60 ∧ i = .int .i64 j ∧ ∃ d, wr = w2.drewN d) (fun i _ => 60 - (intOf i).toNat)
      case atStart => exact ⟨0, Nat.zero_le _, rfl, 0, rfl⟩
      case round =>
        obtain ⟨j, hj, rfl, d, rfl⟩ := hrel
        by_cases hlt : j < 60
        · obtain ⟨g, c', hA, _, hc⟩ := own_one HO2.out (by omega)
          injection hA with hA hA2 hA3
          subst hA hA3
          clear hA2
          have hdt : (downTo 60)[j]? = some (60 - j) := downTo_at _ _ hlt
          have hnd : (chainK e ss 60)[60 - j]? = some (ndStep (stAt ss (60 - 1 - j)).1 (stAt ss (60 - 1 - j)).2 (60 - 1 - j)) := by
            have := chainK_at e ss 60 (60 - 1 - j) (by omega)
            rwa [show 60 - 1 - j + 1 = 60 - j from by omega] at this
          obtain ⟨e0, e1⟩ := stepCells_at _ _ _ _ _ hdt hnd
          have p0 := hc _ _ e0
          have p1 := hc _ _ e1
          have hat : ss[60 - 1 - j]? = some (stAt ss (60 - 1 - j)) := by
            have hk : 60 - 1 - j < ss.length := by rw [HL.out]; omega
            unfold stAt
            rw [List.getD_eq_getElem?_getD, List.getElem?_eq_getElem hk]; rfl
          obtain ⟨q0, q1⟩ := HS2.out _ _ hat
          clear hdt hnd e0 e1 hc hat
          generalize (stAt ss (60 - 1 - j)).1 = op at *
          generalize (stAt ss (60 - 1 - j)).2 = att at *
          have hj0 : (0 : Int) ≤ (j : Int) := by omega
          have hj1 : (j : Int) < (60 : Int) := by omega
          have hj2 : (0 : Int) ≤ (60 : Int) - 1 - (j : Int) := by omega
          have hj3 : (60 : Int) - 1 - (j : Int) < (n : Int) := by omega
          go_wp2_with fail
          go_quiet (fail)
          go_wp2
          go_roundw
          case rel => exact ⟨j + 1, by omega, by go_num, _, rfl⟩
          case measure => simp [intOf]; omega
        · obtain rfl : 60 = j := by omega
          have HG3 : Hid (LaidT (w2.drewN d)) := HG2.out
          go_wp2_with (go_at_call 10; refine (awake_yes _ HG3.out).mono ?_; rintro r w3 ⟨rfl, hb3⟩)
          go_ret
          exact ⟨rfl, (below_drewN HBW.out d).trans (hb3.mono (by have := HBW.out.size; simpa using this))⟩

set_option maxHeartbeats 4000000 in
set_option maxRecDepth 100000 in
theorem deep_nil (e : Int) (A0 : Option Addr) (cap : Nat) (w : World) (hg : LaidT w) :
    Calls Tryd.prog 5 #[.int .i64 e, .slice A0 0 cap] w fun r w' => r = .returned (.bool true) ∧ Below w.heap.size w w' := by
  have HG := Lib.hid hg
  have h0 := hg.lt
  have HREP := Lib.hid (rep_code w w.heap.size e)
  have HC := Lib.hid (chainK_code e [] 0 0 (Nat.le_refl _))
  have HH := Lib.hid (chainK_has e [] 0 0 (Nat.le_refl _))
  have HT := Lib.hid (chainK_trail e [] 0 0 (Nat.le_refl _))
  clear hg
  go_enter Tryd.func5, Tryd.ntmps5
  go_wp2
  refine wp_loop_rounds 1 ?_
  rw [rounds_succ]
  go_wp2_with fail
  refine (trail_err (chainK e [] 0) _ 0 _ _ _ rfl HREP.out (Nat.le_refl _) HG.out (by omega)).mono ?_
  rw [HT.out, downTo_len]
  rintro r w1 ⟨s, rfl, hown, hb1⟩
  obtain ⟨A, c, rfl⟩ := own_slice hown
  have HB1 := Lib.hid hb1
  have HREP1 := Lib.hid (HREP.out.below hb1)
  have HG1 := Lib.hid (HG.out.below hb1 h0)
  have hs1 := hb1.size
  clear hown hb1
  go_wp2_with fail
  refine (code_err (chainK e [] 0) _ 0 _ _ _ rfl HREP1.out hs1 HG1.out).mono ?_
  rw [HC.out]
  rintro r w2 ⟨rfl, hb2⟩
  have HB2 := Lib.hid hb2
  have HREP2 := Lib.hid (HREP1.out.below (hb2.mono hs1))
  have hs2 := hb2.size
  clear hb2
  go_wp2_with fail
  refine (has_err (chainK e [] 0) _ _ 0 _ _ _ rfl HREP2.out).mono ?_
  rw [HH.out]
  rintro r w' ⟨rfl, rfl⟩
  have hbw : Below w.heap.size w w2 := HB1.out.trans (HB2.out.mono (by omega))
  have HBW := Lib.hid hbw
  have HG2 := Lib.hid (HG.out.below hbw h0)
  clear hbw
  go_wp2_with fail
  refine wp_loop_rounds 1 ?_
  rw [rounds_succ]
  go_wp2_with (go_at_call 10; refine (awake_yes _ HG2.out).mono ?_; rintro r w3 ⟨rfl, hb3⟩)
  go_ret
  exact ⟨rfl, HBW.out.trans (hb3.mono (by have := HBW.out.size; simpa using this))⟩
end Go.Proofs.YtkkfolbidclonaaDoor.er
