/- StoreFull: the walk. -/
import Derived.Test.YtfacgeappbgldaaGreatDoorStT
namespace Go.Proofs.YtfacgeappbgldaaGreatDoor.st
open Go.RowKit Go.Proofs.YtfacgeappbgldaaGreatDoor.er Go.Proofs.YtfacgeappbgldaaGreatDoor.nd Go.Proofs.YtfacgeappbgldaaGreatDoor.we Go.Proofs.YtfacgeappbgldaaGreatDoor.ge Go.Proofs.YtfacgeappbgldaaGreatDoor.pg
attribute [local go_sem ↓] Go.wp_at_zero Go.wp_at_succ
set_option linter.unusedVariables false

def b120 : ByteArray := ⟨#[120]⟩
def xt (i : Nat) : ByteArray := writeF { pg i b120 with seq := (i : Int) }
theorem xt_app (i : Nat) (hi : i < 128) : appF 3 (fullS xt i) (pg i b120) = some (fullS xt (i + 1), (i : Int), 0) :=
  full_app xt i hi (pg i b120) (may_pg i b120 (by omega) (by omega) (by decide)) rfl
theorem posrem (k : Int) : ∃ b : Nat, b < 16 ∧ Int.tmod (wrap64 (Int.tmod k 16 + 16)) 16 = (b : Int) := by
  have h1 : k.tmod 16 < 16 := Int.tmod_lt_of_pos k (by decide)
  have h2 : -16 < k.tmod 16 := by
    have h := Int.tmod_lt_of_pos (-k) (show (0 : Int) < 16 by decide)
    rw [Int.neg_tmod] at h
    omega
  have h0 : wrap64 (k.tmod 16 + 16) = k.tmod 16 + 16 := by unfold wrap64; omega
  rw [h0]
  have h3 : 0 ≤ (k.tmod 16 + 16).tmod 16 := Int.tmod_nonneg _ (by omega)
  have h4 : (k.tmod 16 + 16).tmod 16 < 16 := Int.tmod_lt_of_pos _ (by decide)
  exact ⟨((k.tmod 16 + 16).tmod 16).toNat, by omega, by omega⟩
def b122 : ByteArray := ⟨#[122]⟩
def tz : ByteArray := writeF { pg 2 b122 with seq := 128 }
theorem en_app (b : Nat) (hb : b < 16) : appF 3 (erS xt b) (pg 2 b122) = some ({ enS xt b tz with seq := 129 }, 8 * (b : Int), 0) := by
  rw [appF_B 3 (erS xt b) (pg 2 b122) _ (may_pg 2 b122 (by decide) (by decide) (by decide)) (en_put xt tz b hb)]
  rfl
theorem may_z : mayB ⟨1, 1, 2, 128, b122⟩ = true := mayB_seq (p := pg 2 b122) (may_pg 2 b122 (by decide) (by decide) (by decide)) (by decide) (by decide)
set_option maxHeartbeats 4000000 in
set_option maxRecDepth 100000 in
theorem full_walk (w : World) (hg : LaidT w) (k : Int) :
    Calls Tryz.prog 6 #[.int .i64 k] w fun e w' => e = .returned (.bool true) ∧ Below w.heap.size w w' := by
  have HG := Lib.hid hg
  clear hg
  go_enter Tryz.func6, Tryz.ntmps6
  go_wp2_with fail
  refine (plain_anyS _).mono ?_
  rintro e w1 ⟨rfl, hb1⟩
  have HB1 := Lib.hid hb1
  have HG1 := Lib.hid (HG.out.below hb1 HG.out.lt)
  clear hb1
  go_wp2_with fail
  refine (fresh_any w _ HB1.out HG1.out HG.out.lt).mono ?_
  rintro e w2 ⟨q, p, sv, vv, N2, rfl, L2, hb2⟩
  have HL := Lib.hid L2
  have hs := seql q
  clear L2 hb2
  go_wp2_with fail
  refine (awake_yes _ HL.out.laid).mono ?_
  rintro e w3 ⟨rfl, hb⟩
  have L3 := HL.out.below hb
  rw [← full_zero xt] at L3
  have HL := Lib.hid L3
  clear hb L3
  go_wp2_with fail
  go_loopw [5] (fun i wr => ∃ (j : Nat) (Nj : Nat → Prop), j ≤ 128 ∧ i = .int .i64 j ∧ Hid (Law w wr q p sv vv Nj (fullS xt j))) (fun i _ => 128 - (intOf i).toNat)
  case atStart => exact ⟨0, N2, Nat.zero_le _, rfl, HL.out⟩
  case round =>
    clear HL
    obtain ⟨j, Nj, hj, rfl, HL⟩ := hrel
    by_cases hlt : j < 128
    · have hji : (j : Int) < 128 := by omega
      have HLT := Lib.hid hlt
      go_wp2_with fail
      refine (data_anyS _ _ _).mono ?_
      rintro e w4 ⟨rfl, hb⟩
      have HL := Lib.hid (HL.out.below hb)
      clear hb
      simp only [Page.val, pg]
      go_wp2_with fail
      refine (App0 HL.out (j : Int) b120 (j : Int) (xt_app j HLT.out) (show ((j : Nat) : Int) ≤ 1000000 from by omega) (show ((j : Nat) : Int) ≤ 281474976710655 from by omega)).mono ?_
      rintro e w6 ⟨rfl, N6, L6⟩
      have HL := Lib.hid L6
      clear L6
      go_wp2_with fail
      go_roundw
      case rel => exact ⟨j + 1, N6, by omega, by go_num, HL.out⟩
      case measure => simp [intOf]; omega
    · obtain rfl : j = 128 := by omega
      go_wp2_with fail
      refine (data_anyS _ _ _).mono ?_
      rintro e w4 ⟨rfl, hb⟩
      have HL := Lib.hid (HL.out.below hb)
      clear hb
      simp only [Page.val, pg]
      go_wp2_with fail
      refine (AppE HL.out 1 ⟨#[121]⟩ 0 60 (last_app xt (pg 1 ⟨#[121]⟩) (may_pg 1 ⟨#[121]⟩ (by decide) (by decide) (by decide))) (show (128 : Int) ≤ 1000000 from by decide) (show (128 : Int) ≤ 281474976710655 from by decide)).mono ?_
      rintro e w6 ⟨v1, N6, rfl, L6, m6, e6⟩
      have HL : Hid (Law w w6 q p sv vv N6 (lastS xt zs)) := L6
      have HE := Lib.hid e6
      clear L6 m6 e6
      go_wp2_with fail
      refine (code_W _ _ 60 _ _ HE.out HL.out.laid).mono ?_
      rintro e w7 ⟨rfl, hb⟩
      have HL := Lib.hid (HL.out.below hb)
      clear hb HE
      go_wp2_with fail
      refine (seq_anyS _ _ _ _ _ _ _ HL.out.st).mono ?_
      rintro e w8 ⟨rfl, rfl⟩
      rw [show (lastS xt zs).seq = 128 from rfl]
      go_wp2_with fail
      refine (FreeL HL.out 0 (last_free xt [])).mono ?_
      rintro e w9 ⟨rfl, hb⟩
      have HL := Lib.hid (HL.out.below hb)
      clear hb
      go_wp2_with fail
      obtain ⟨b, hb16, hmod⟩ := posrem k
      have hw2 : wrap64 (wrap64 (8 * (b : Int)) + 3) = 8 * (b : Int) + 3 := by unfold wrap64; omega
      have hw3 : wrap64 (8 * (b : Int)) = 8 * (b : Int) := by unfold wrap64; omega
      simp only [hmod, hw2]
      have HB := Lib.hid hb16
      have HNF : Hid (¬ foot q sv vv N6 w9.heap.size) := fun hf => by have := HL.out.st.lt _ hf; omega
      have HL9 := Lib.hid (HL.out.below ((Below.refl w9.heap.size w9).alloc (Nat.le_refl _) (.cells #[.int .i64 (8 * (b : Int) + 3)] 3)))
      refine (NeedL HL9.out (some ⟨w9.heap.size, 0, none⟩) 1 1 [8 * (b : Int) + 3] _ rfl (by decide) (.inr ⟨_, 0, rfl, HNF.out, fun j x hx => by
        match j, hx with
        | 0, hx => simp at hx; subst hx; exact (Whole.new w9 3 #[.int .i64 (8 * (b : Int) + 3)]).cell 0
        | j + 1, hx => simp at hx⟩) (need_b xt b hb16)).mono ?_
      rintro e w10 ⟨rfl, L10, m10⟩
      have HL := Lib.hid L10
      clear L10 m10 HL9
      go_wp2_with fail
      refine (EraseL HL.out (b : Int) 1 (er_no xt b HB.out) (show (128 : Int) ≤ 1000000 from by decide)).mono ?_
      rintro e w11 ⟨v2, N11, rfl, L11, m11, e11⟩
      have HL := Lib.hid L11
      have HE := Lib.hid e11
      clear L11 m11 e11
      go_wp2_with fail
      refine (code_W _ _ 1 _ _ HE.out HL.out.laid).mono ?_
      rintro e w12 ⟨rfl, hb⟩
      have HL := Lib.hid (HL.out.below hb)
      clear hb HE
      go_wp2_with fail
      refine (NeedL HL.out none 0 0 [] _ rfl (by decide) (.inl rfl) (need_0 xt b HB.out)).mono ?_
      rintro e w13 ⟨rfl, L13, m13⟩
      have HL := Lib.hid L13
      clear L13 m13
      go_wp2_with fail
      refine (EraseL HL.out (b : Int) 0 (er_yes xt b HB.out) (show (128 : Int) ≤ 1000000 from by decide)).mono ?_
      rintro e w14 ⟨v3, N14, rfl, L14, m14, e14⟩
      obtain rfl := zero_errS e14
      have HL := Lib.hid L14
      clear L14 m14 e14
      go_wp2_with fail
      refine (EraseL HL.out (b : Int) 1 (er_again xt b HB.out) (show (129 : Int) ≤ 1000000 from by decide)).mono ?_
      rintro e w15 ⟨v4, N15, rfl, L15, m15, e15⟩
      have HL := Lib.hid L15
      have HE := Lib.hid e15
      clear L15 m15 e15
      go_wp2_with fail
      refine (code_W _ _ 1 _ _ HE.out HL.out.laid).mono ?_
      rintro e w16 ⟨rfl, hb⟩
      have HL := Lib.hid (HL.out.below hb)
      clear hb HE
      go_wp2_with fail
      refine (FreeL HL.out 1 (er_free xt b HB.out)).mono ?_
      rintro e w17 ⟨rfl, hb⟩
      have HL := Lib.hid (HL.out.below hb)
      clear hb
      go_wp2_with fail
      refine (table_any _ _ _ _ _ _ _ HL.out.st).mono ?_
      rintro e w18 ⟨v5, rfl, ht, hb⟩
      have HL := Lib.hid (HL.out.below hb)
      have htl : (tabOf (erS xt b)).length = 16 := tabTo_len _ _
      obtain ⟨A5, c5, rfl, _, h5⟩ := ht
      rw [htl] at h5 ⊢
      obtain ⟨g5, rfl, h6⟩ := h5 (by decide)
      have t0 := (h6 b _ (er_worn xt b HB.out)).2.2
      have t1 := (h6 b _ (er_worn xt b HB.out)).1
      have t2 := (h6 b _ (er_worn xt b HB.out)).2.1
      have hb16i : (b : Int) < 16 := by omega
      clear hb h5 h6 htl
      go_wp2_with fail
      refine (data_anyS _ _ _).mono ?_
      rintro e w19 ⟨rfl, hb⟩
      have HL := Lib.hid (HL.out.below hb)
      clear hb t0 t1 t2
      simp only [Page.val, pg]
      go_wp2_with fail
      refine (App0 HL.out 2 b122 (8 * (b : Int)) (en_app b HB.out) (show (129 : Int) ≤ 1000000 from by decide) (show (128 : Int) ≤ 281474976710655 from by decide)).mono ?_
      rintro e w20 ⟨rfl, N20, L20⟩
      have HL := Lib.hid L20
      clear L20
      go_wp2_with fail
      refine (ReadP HL.out (8 * (b : Int)) 1 1 2 128 b122 (en_read xt tz b HB.out) may_z).mono ?_
      rintro e w21 ⟨rfl, hb⟩
      have hb := hb.trans (((Below.refl w21.heap.size w21).alloc (Nat.le_refl _) (.cells #[.int .i64 1, .int .i64 1, .int .i64 2, .int .i64 128, .string b122] 39)).mono hb.size)
      have HL := Lib.hid (HL.out.below hb)
      obtain ⟨⟨_, _, _, p3, p4⟩, _⟩ := tmp_cells (Whole.new w21 39 #[.int .i64 1, .int .i64 1, .int .i64 2, .int .i64 128, .string b122])
      clear hb
      have hz : b122 = ⟨#[122]⟩ := rfl
      rw [hz] at *
      go_wp2_with fail
      go_ret
      exact ⟨rfl, HL.out.bel⟩
end Go.Proofs.YtfacgeappbgldaaGreatDoor.st
