/- The reference's Code, Has, first of layer 3. -/
import Derived.Test.YtkkfolbidclonaaDoorErN
namespace Go.Proofs.YtkkfolbidclonaaDoor.er
open Go.RowKit
set_option linter.unusedVariables false
def RefCode (w : World) : Option Int → Ending → World → Prop
  | none, e, w' => e = .returned (.tuple #[.int .i64 0, .bool false]) ∧ Below w.heap.size w w'
  | some c, e, w' => e = .returned (.tuple #[.int .i64 c, .bool true]) ∧ Below w.heap.size w w'
def RefFirst (w : World) : Option Nat → Ending → World → Prop
  | none, e, w' => e = .returned (.int .i64 (-1)) ∧ Below w.heap.size w w'
  | some c, e, w' => e = .returned (.int .i64 (c : Int)) ∧ Below w.heap.size w w'
def RefHas (w : World) : Bool → Ending → World → Prop
  | b, e, w' => e = .returned (.bool b) ∧ Below w.heap.size w w'

set_option maxHeartbeats 4000000 in
set_option maxRecDepth 100000 in
theorem ref_code (l : List Nd) (g n cap : Nat) (hd : Down l) (hl : l.length = n) (hK : ∀ x ∈ l, x.kids.length ≤ 1000) (hn : n ≤ 1000) : ∀ (i : Nat) (w : World), i < n → Nodes w g l →
    Calls Tryd.prog 13 #[.slice (some ⟨g, 0, none⟩) n cap, .int .i64 (i : Int)] w (RefCode w (codeO l i)) := by
  intro i
  induction i using Nat.strongRecOn with
  | _ i ih =>
    intro w hi hN
    obtain ⟨nd, hnd⟩ : ∃ nd, l[i]? = some nd := ⟨l[i]'(by omega), List.getElem?_eq_getElem _⟩
    obtain ⟨kv, hkv, hcs⟩ := hN i nd hnd
    have hi0 : (0 : Int) ≤ (i : Int) := by omega
    have hi1 : (i : Int) < (n : Int) := by omega
    have IH := Lib.hid ih
    have NS := Lib.hid hN
    have hE := codeO_eq hd hnd
    have HLT := Lib.hid (hd i nd hnd)
    have HKL := hK nd (List.mem_of_getElem? hnd)
    have HD := Lib.hid hd
    have HL := Lib.hid hl
    have HKK0 := Lib.hid hK
    have HND := Lib.hid hnd
    obtain ⟨kd, cd, op, at_, ks⟩ := nd
    have c0 := hcs 0 _ rfl
    have c1 := hcs 1 _ rfl
    have c2 := hcs 2 _ rfl
    have c3 := hcs 3 _ rfl
    have c4 := hcs 4 _ rfl
    simp only [Nat.add_zero] at c0 c1 c2 c3 c4 hE hkv HKL
    clear ih hN hnd hd hl hK hcs
    by_cases k0 : kd = 0
    · have hb : (kd == 0) = true := by simp [k0]
      rw [if_pos k0] at hE
      have HE := Lib.hid hE
      obtain ⟨sA, sa, sb, rfl⟩ : ∃ A a b, kv = .slice A a b := by
        rcases hkv with ⟨_, rfl⟩ | ⟨h, rfl, _⟩
        · exact ⟨_, _, _, rfl⟩
        · exact ⟨_, _, _, rfl⟩
      clear hE k0 hkv
      go_enter Tryd.func13, Tryd.ntmps13
      go_wp2
      go_ret2
      rw [HE.out]
      exact ⟨rfl, (Below.refl _ _).alloc (Nat.le_refl _) _⟩
    · have hb : (kd == 0) = false := by simp [k0]
      rw [if_neg k0] at hE
      have HE := Lib.hid hE
      clear hE k0
      rcases hkv with ⟨rfl, rfl⟩ | ⟨h, rfl, hw⟩
      · have HE2 : Hid (codeO l i = none) := HE.out.trans rfl
        go_enter Tryd.func13, Tryd.ntmps13
        go_wp2
        refine wp_loop_rounds 1 ?_
        rw [rounds_succ]
        go_wp2
        go_ret2
        rw [HE2.out]
        exact ⟨rfl, (Below.refl _ _).alloc (Nat.le_refl _) _⟩
      · have HW := Lib.hid hw
        have HB : Hid ((w.alloc (.cells #[.int .i64 kd, .int .i64 cd, .string op, .int .i64 at_, .slice (some ⟨h, 0, none⟩) ks.length ks.length] 41)).cell? ⟨w.heap.size, 4, none⟩ = some (.slice (some ⟨h, 0, none⟩) ks.length ks.length)) := (Whole.new w 41 #[.int .i64 kd, .int .i64 cd, .string op, .int .i64 at_, .slice (some ⟨h, 0, none⟩) ks.length ks.length]).cell 4
        clear hw
        go_enter Tryd.func13, Tryd.ntmps13
        go_wp2
        go_loopw [7] (fun s wr => ∃ j : Nat, j ≤ ks.length ∧ s = .int .i64 j ∧ Hid (∀ (j' a' : Nat), j' < j → ks[j']? = some a' → codeO l a' = none) ∧ Hid (Below (w.alloc (.cells #[.int .i64 kd, .int .i64 cd, .string op, .int .i64 at_, .slice (some ⟨h, 0, none⟩) ks.length ks.length] 41)).heap.size (w.alloc (.cells #[.int .i64 kd, .int .i64 cd, .string op, .int .i64 at_, .slice (some ⟨h, 0, none⟩) ks.length ks.length] 41)) wr)) (fun s _ => ks.length - (intOf s).toNat)
        case atStart => exact ⟨0, Nat.zero_le _, rfl, fun j' a' h _ => by omega, Below.refl _ _⟩
        case round =>
          obtain ⟨j, hj, rfl, HN, HBL⟩ := hrel
          have cb := below_c HBL.out HB.out
          have hbw : Hid (Below w.heap.size w wr) := ((Below.refl _ _).alloc (Nat.le_refl _) _).trans (HBL.out.mono (by simp))
          by_cases hlt : j < ks.length
          · obtain ⟨k, hkk⟩ : ∃ k, ks[j]? = some k := ⟨ks[j], List.getElem?_eq_getElem hlt⟩
            have ck : wr.cell? ⟨h, j, none⟩ = some (.int .i64 (k : Int)) := ((HW.out.below hbw.out HW.out.lt).cell j).trans (by simp [hkk])
            have hki : k < i := HLT.out k (List.mem_of_getElem? hkk)
            have hkn : k < n := by omega
            have NSr := Lib.hid (NS.out.below hbw.out)
            have HKK := Lib.hid hkk
            have hj0 : (0 : Int) ≤ (j : Int) := by omega
            have hj1 : (j : Int) < (ks.length : Int) := by omega
            clear hkk
            cases hco : codeO l k with
            | none =>
              have HCO := Lib.hid hco
              clear hco
              go_wp2_with (go_at_call 13; refine (IH.out k hki _ hkn NSr.out).mono ?_; intro e w' hh; rw [HCO.out] at hh; obtain ⟨rfl, hb2⟩ := hh; have HB2 := Lib.hid hb2; clear hb2)
              go_roundw
              case rel =>
                exact ⟨j + 1, by omega, by go_num, fun j' a' hj' ha' => by
                  rcases Nat.lt_or_ge j' j with h | h
                  · exact HN.out j' a' h ha'
                  · obtain rfl : j' = j := by omega
                    have := HKK.out.symm.trans ha'
                    injection this with this
                    subst this
                    exact HCO.out, HBL.out.trans (HB2.out.mono HBL.out.size)⟩
              case measure => simp [intOf]; omega
            | some c' =>
              have HCO := Lib.hid hco
              have HE2 : Hid (codeO l i = some c') := HE.out.trans (findSome_at _ _ j k c' HKK.out HN.out hco)
              clear hco
              go_wp2_with (go_at_call 13; refine (IH.out k hki _ hkn NSr.out).mono ?_; intro e w' hh; rw [HCO.out] at hh; obtain ⟨rfl, hb2⟩ := hh; have HB2 := Lib.hid hb2; clear hb2)
              go_ret2
              rw [HE2.out]
              exact ⟨rfl, hbw.out.trans (HB2.out.mono hbw.out.size)⟩
          · obtain rfl : ks.length = j := by omega
            have HE2 : Hid (codeO l i = none) := HE.out.trans (findSome_none _ _ HN.out)
            go_wp2
            go_ret2
            rw [HE2.out]
            exact ⟨rfl, hbw.out⟩

set_option maxHeartbeats 4000000 in
set_option maxRecDepth 100000 in
theorem ref_first (l : List Nd) (g n cap : Nat) (hd : Down l) (hl : l.length = n) (hK : ∀ x ∈ l, x.kids.length ≤ 1000) (hn : n ≤ 1000) : ∀ (i : Nat) (w : World), i < n → Nodes w g l →
    Calls Tryd.prog 22 #[.slice (some ⟨g, 0, none⟩) n cap, .int .i64 (i : Int)] w (RefFirst w (firstO l i)) := by
  intro i
  induction i using Nat.strongRecOn with
  | _ i ih =>
    intro w hi hN
    obtain ⟨nd, hnd⟩ : ∃ nd, l[i]? = some nd := ⟨l[i]'(by omega), List.getElem?_eq_getElem _⟩
    obtain ⟨kv, hkv, hcs⟩ := hN i nd hnd
    have hi0 : (0 : Int) ≤ (i : Int) := by omega
    have hi1 : (i : Int) < (n : Int) := by omega
    have IH := Lib.hid ih
    have NS := Lib.hid hN
    have hE := firstO_eq hd hnd
    have HLT := Lib.hid (hd i nd hnd)
    have HKL := hK nd (List.mem_of_getElem? hnd)
    have HD := Lib.hid hd
    have HL := Lib.hid hl
    have HKK0 := Lib.hid hK
    have HND := Lib.hid hnd
    obtain ⟨kd, cd, op, at_, ks⟩ := nd
    have c0 := hcs 0 _ rfl
    have c1 := hcs 1 _ rfl
    have c2 := hcs 2 _ rfl
    have c3 := hcs 3 _ rfl
    have c4 := hcs 4 _ rfl
    simp only [Nat.add_zero] at c0 c1 c2 c3 c4 hE hkv HKL
    clear ih hN hnd hd hl hK hcs
    by_cases k0 : kd = 1
    · have hb : (kd == 1) = true := by simp [k0]
      rw [if_pos k0] at hE
      have HE := Lib.hid hE
      obtain ⟨sA, sa, sb, rfl⟩ : ∃ A a b, kv = .slice A a b := by
        rcases hkv with ⟨_, rfl⟩ | ⟨h, rfl, _⟩
        · exact ⟨_, _, _, rfl⟩
        · exact ⟨_, _, _, rfl⟩
      clear hE k0 hkv
      go_enter Tryd.func22, Tryd.ntmps22
      go_wp2
      go_ret
      rw [HE.out]
      exact ⟨rfl, (Below.refl _ _).alloc (Nat.le_refl _) _⟩
    · have hb : (kd == 1) = false := by simp [k0]
      rw [if_neg k0] at hE
      have HE := Lib.hid hE
      clear hE k0
      rcases hkv with ⟨rfl, rfl⟩ | ⟨h, rfl, hw⟩
      · have HE2 : Hid (firstO l i = none) := HE.out.trans rfl
        go_enter Tryd.func22, Tryd.ntmps22
        go_wp2
        refine wp_loop_rounds 1 ?_
        rw [rounds_succ]
        go_wp2
        go_ret
        rw [HE2.out]
        exact ⟨rfl, (Below.refl _ _).alloc (Nat.le_refl _) _⟩
      · have HW := Lib.hid hw
        have HB : Hid ((w.alloc (.cells #[.int .i64 kd, .int .i64 cd, .string op, .int .i64 at_, .slice (some ⟨h, 0, none⟩) ks.length ks.length] 41)).cell? ⟨w.heap.size, 4, none⟩ = some (.slice (some ⟨h, 0, none⟩) ks.length ks.length)) := (Whole.new w 41 #[.int .i64 kd, .int .i64 cd, .string op, .int .i64 at_, .slice (some ⟨h, 0, none⟩) ks.length ks.length]).cell 4
        clear hw
        go_enter Tryd.func22, Tryd.ntmps22
        go_wp2
        go_loopw [6] (fun s wr => ∃ j : Nat, j ≤ ks.length ∧ s = .int .i64 j ∧ Hid (∀ (j' a' : Nat), j' < j → ks[j']? = some a' → firstO l a' = none) ∧ Hid (Below (w.alloc (.cells #[.int .i64 kd, .int .i64 cd, .string op, .int .i64 at_, .slice (some ⟨h, 0, none⟩) ks.length ks.length] 41)).heap.size (w.alloc (.cells #[.int .i64 kd, .int .i64 cd, .string op, .int .i64 at_, .slice (some ⟨h, 0, none⟩) ks.length ks.length] 41)) wr)) (fun s _ => ks.length - (intOf s).toNat)
        case atStart => exact ⟨0, Nat.zero_le _, rfl, fun j' a' h _ => by omega, Below.refl _ _⟩
        case round =>
          obtain ⟨j, hj, rfl, HN, HBL⟩ := hrel
          have cb := below_c HBL.out HB.out
          have hbw : Hid (Below w.heap.size w wr) := ((Below.refl _ _).alloc (Nat.le_refl _) _).trans (HBL.out.mono (by simp))
          by_cases hlt : j < ks.length
          · obtain ⟨k, hkk⟩ : ∃ k, ks[j]? = some k := ⟨ks[j], List.getElem?_eq_getElem hlt⟩
            have ck : wr.cell? ⟨h, j, none⟩ = some (.int .i64 (k : Int)) := ((HW.out.below hbw.out HW.out.lt).cell j).trans (by simp [hkk])
            have hki : k < i := HLT.out k (List.mem_of_getElem? hkk)
            have hkn : k < n := by omega
            have NSr := Lib.hid (NS.out.below hbw.out)
            have HKK := Lib.hid hkk
            have hj0 : (0 : Int) ≤ (j : Int) := by omega
            have hj1 : (j : Int) < (ks.length : Int) := by omega
            clear hkk
            cases hco : firstO l k with
            | none =>
              have HCO := Lib.hid hco
              clear hco
              go_wp2_with (go_at_call 22; refine (IH.out k hki _ hkn NSr.out).mono ?_; intro e w' hh; rw [HCO.out] at hh; obtain ⟨rfl, hb2⟩ := hh; have HB2 := Lib.hid hb2; clear hb2)
              go_roundw
              case rel =>
                exact ⟨j + 1, by omega, by go_num, fun j' a' hj' ha' => by
                  rcases Nat.lt_or_ge j' j with h | h
                  · exact HN.out j' a' h ha'
                  · obtain rfl : j' = j := by omega
                    have := HKK.out.symm.trans ha'
                    injection this with this
                    subst this
                    exact HCO.out, HBL.out.trans (HB2.out.mono HBL.out.size)⟩
              case measure => simp [intOf]; omega
            | some c' =>
              have HCO := Lib.hid hco
              have HE2 : Hid (firstO l i = some c') := HE.out.trans (findSome_at _ _ j k c' HKK.out HN.out hco)
              have hcp : (0 : Int) ≤ (c' : Int) := by omega
              clear hco
              go_wp2_with (go_at_call 22; refine (IH.out k hki _ hkn NSr.out).mono ?_; intro e w' hh; rw [HCO.out] at hh; obtain ⟨rfl, hb2⟩ := hh; have HB2 := Lib.hid hb2; clear hb2)
              go_ret
              rw [HE2.out]
              exact ⟨rfl, hbw.out.trans (HB2.out.mono hbw.out.size)⟩
          · obtain rfl : ks.length = j := by omega
            have HE2 : Hid (firstO l i = none) := HE.out.trans (findSome_none _ _ HN.out)
            go_wp2
            go_ret
            rw [HE2.out]
            exact ⟨rfl, hbw.out⟩

set_option maxHeartbeats 4000000 in
set_option maxRecDepth 100000 in
theorem ref_has (l : List Nd) (g n cap : Nat) (q : Int) (hd : Down l) (hl : l.length = n) (hK : ∀ x ∈ l, x.kids.length ≤ 1000) (hn : n ≤ 1000) : ∀ (i : Nat) (w : World), i < n → Nodes w g l →
    Calls Tryd.prog 19 #[.slice (some ⟨g, 0, none⟩) n cap, .int .i64 (i : Int), .int .i64 q] w (RefHas w (hasO l q i)) := by
  intro i
  induction i using Nat.strongRecOn with
  | _ i ih =>
    intro w hi hN
    obtain ⟨nd, hnd⟩ : ∃ nd, l[i]? = some nd := ⟨l[i]'(by omega), List.getElem?_eq_getElem _⟩
    obtain ⟨kv, hkv, hcs⟩ := hN i nd hnd
    have hi0 : (0 : Int) ≤ (i : Int) := by omega
    have hi1 : (i : Int) < (n : Int) := by omega
    have IH := Lib.hid ih
    have NS := Lib.hid hN
    have hE := hasO_eq hd q hnd
    have HLT := Lib.hid (hd i nd hnd)
    have HKL := hK nd (List.mem_of_getElem? hnd)
    have HD := Lib.hid hd
    have HL := Lib.hid hl
    have HKK0 := Lib.hid hK
    have HND := Lib.hid hnd
    obtain ⟨kd, cd, op, at_, ks⟩ := nd
    have c0 := hcs 0 _ rfl
    have c1 := hcs 1 _ rfl
    have c2 := hcs 2 _ rfl
    have c3 := hcs 3 _ rfl
    have c4 := hcs 4 _ rfl
    simp only [Nat.add_zero] at c0 c1 c2 c3 c4 hE hkv HKL
    clear ih hN hnd hd hl hK hcs
    by_cases k0 : kd = 0
    · have hb : (kd == 0) = true := by simp [k0]
      rw [if_pos k0] at hE
      have HE := Lib.hid hE
      obtain ⟨sA, sa, sb, rfl⟩ : ∃ A a b, kv = .slice A a b := by
        rcases hkv with ⟨_, rfl⟩ | ⟨h, rfl, _⟩
        · exact ⟨_, _, _, rfl⟩
        · exact ⟨_, _, _, rfl⟩
      clear hE k0 hkv
      go_enter Tryd.func19, Tryd.ntmps19
      go_wp2
      go_ret
      rw [HE.out]
      exact ⟨rfl, (Below.refl _ _).alloc (Nat.le_refl _) _⟩
    · have hb : (kd == 0) = false := by simp [k0]
      rw [if_neg k0] at hE
      have HE := Lib.hid hE
      clear hE k0
      rcases hkv with ⟨rfl, rfl⟩ | ⟨h, rfl, hw⟩
      · have HE2 : Hid (hasO l q i = false) := HE.out.trans rfl
        go_enter Tryd.func19, Tryd.ntmps19
        go_wp2
        refine wp_loop_rounds 1 ?_
        rw [rounds_succ]
        go_wp2
        go_ret
        rw [HE2.out]
        exact ⟨rfl, (Below.refl _ _).alloc (Nat.le_refl _) _⟩
      · have HW := Lib.hid hw
        have HB : Hid ((w.alloc (.cells #[.int .i64 kd, .int .i64 cd, .string op, .int .i64 at_, .slice (some ⟨h, 0, none⟩) ks.length ks.length] 41)).cell? ⟨w.heap.size, 4, none⟩ = some (.slice (some ⟨h, 0, none⟩) ks.length ks.length)) := (Whole.new w 41 #[.int .i64 kd, .int .i64 cd, .string op, .int .i64 at_, .slice (some ⟨h, 0, none⟩) ks.length ks.length]).cell 4
        clear hw
        go_enter Tryd.func19, Tryd.ntmps19
        go_wp2
        go_loopw [8] (fun s wr => ∃ j : Nat, j ≤ ks.length ∧ s = .int .i64 j ∧ Hid (∀ (j' a' : Nat), j' < j → ks[j']? = some a' → hasO l q a' = false) ∧ Hid (Below (w.alloc (.cells #[.int .i64 kd, .int .i64 cd, .string op, .int .i64 at_, .slice (some ⟨h, 0, none⟩) ks.length ks.length] 41)).heap.size (w.alloc (.cells #[.int .i64 kd, .int .i64 cd, .string op, .int .i64 at_, .slice (some ⟨h, 0, none⟩) ks.length ks.length] 41)) wr)) (fun s _ => ks.length - (intOf s).toNat)
        case atStart => exact ⟨0, Nat.zero_le _, rfl, fun j' a' h _ => by omega, Below.refl _ _⟩
        case round =>
          obtain ⟨j, hj, rfl, HN, HBL⟩ := hrel
          have cb := below_c HBL.out HB.out
          have hbw : Hid (Below w.heap.size w wr) := ((Below.refl _ _).alloc (Nat.le_refl _) _).trans (HBL.out.mono (by simp))
          by_cases hlt : j < ks.length
          · obtain ⟨k, hkk⟩ : ∃ k, ks[j]? = some k := ⟨ks[j], List.getElem?_eq_getElem hlt⟩
            have ck : wr.cell? ⟨h, j, none⟩ = some (.int .i64 (k : Int)) := ((HW.out.below hbw.out HW.out.lt).cell j).trans (by simp [hkk])
            have hki : k < i := HLT.out k (List.mem_of_getElem? hkk)
            have hkn : k < n := by omega
            have NSr := Lib.hid (NS.out.below hbw.out)
            have HKK := Lib.hid hkk
            have hj0 : (0 : Int) ≤ (j : Int) := by omega
            have hj1 : (j : Int) < (ks.length : Int) := by omega
            clear hkk
            rcases Bool.eq_false_or_eq_true (hasO l q k) with hco | hco
            · have HCO := Lib.hid hco
              have HE2 : Hid (hasO l q i = true) := HE.out.trans (any_at _ _ j k HKK.out hco)
              clear hco
              go_wp2_with (go_at_call 19; refine (IH.out k hki _ hkn NSr.out).mono ?_; intro e w' hh; rw [HCO.out] at hh; obtain ⟨rfl, hb2⟩ := hh; have HB2 := Lib.hid hb2; clear hb2)
              go_ret
              rw [HE2.out]
              exact ⟨rfl, hbw.out.trans (HB2.out.mono hbw.out.size)⟩
            · have HCO := Lib.hid hco
              clear hco
              go_wp2_with (go_at_call 19; refine (IH.out k hki _ hkn NSr.out).mono ?_; intro e w' hh; rw [HCO.out] at hh; obtain ⟨rfl, hb2⟩ := hh; have HB2 := Lib.hid hb2; clear hb2)
              go_roundw
              case rel =>
                exact ⟨j + 1, by omega, by go_num, fun j' a' hj' ha' => by
                  rcases Nat.lt_or_ge j' j with h | h
                  · exact HN.out j' a' h ha'
                  · obtain rfl : j' = j := by omega
                    have := HKK.out.symm.trans ha'
                    injection this with this
                    subst this
                    exact HCO.out, HBL.out.trans (HB2.out.mono HBL.out.size)⟩
              case measure => simp [intOf]; omega
          · obtain rfl : ks.length = j := by omega
            have HE2 : Hid (hasO l q i = false) := HE.out.trans (any_none _ _ HN.out)
            go_wp2
            go_ret
            rw [HE2.out]
            exact ⟨rfl, hbw.out⟩
end Go.Proofs.YtkkfolbidclonaaDoor.er
