/- store: the law's helpers (plain, data, fresh), what a law holds. -/
import Derived.Test.YtfacgeappbgldaaGreatDoorStI
namespace Go.Proofs.YtfacgeappbgldaaGreatDoor.st
open Go.RowKit Go.Proofs.YtfacgeappbgldaaGreatDoor.er Go.Proofs.YtfacgeappbgldaaGreatDoor.nd Go.Proofs.YtfacgeappbgldaaGreatDoor.we Go.Proofs.YtfacgeappbgldaaGreatDoor.ge Go.Proofs.YtfacgeappbgldaaGreatDoor.pg
attribute [local go_sem ↓] Go.wp_at_zero Go.wp_at_succ
set_option linter.unusedVariables false

structure Law (w0 w : World) (q p : Nat) (sv vv : Value) (N : Nat → Prop) (s : Sto) : Prop where
  st : StoIn w q p sv vv N s
  bel : Below w0.heap.size w0 w
  base : ∀ k, foot q sv vv N k → w0.heap.size ≤ k
  laid : LaidT w
  pos : 0 < w0.heap.size
theorem Law.zero {w0 w : World} {q p : Nat} {sv vv : Value} {N : Nat → Prop} {s : Sto} (h : Law w0 w q p sv vv N s) : ¬ foot q sv vv N 0 := fun hf => by have := h.base 0 hf; have := h.pos; omega
theorem Law.moved {w0 w w' : World} {q p : Nat} {sv vv : Value} {N N' : Nat → Prop} {s s' : Sto} (h : Law w0 w q p sv vv N s) (hs : StoIn w' q p sv vv N' s') (hm : Moved w q sv vv N w' N') : Law w0 w' q p sv vv N' s' := by
  refine ⟨hs, h.bel.trans (hm.keep.toBelow h.bel.size h.base), ?_, (hm.laid h.laid h.zero).1, h.pos⟩
  intro k hk
  rcases hk with hk | hk | hk | hk
  · exact h.base k (.inl hk)
  · exact h.base k (.inr (.inl hk))
  · exact h.base k (.inr (.inr (.inl hk)))
  · rcases hm.sub k hk with h2 | h2
    · exact h.base k (.inr (.inr (.inr h2)))
    · exact Nat.le_trans h.bel.size h2
theorem Law.below {w0 w w' : World} {q p : Nat} {sv vv : Value} {N : Nat → Prop} {s : Sto} (h : Law w0 w q p sv vv N s) (hb : Below w.heap.size w w') : Law w0 w' q p sv vv N s := h.moved (h.st.below hb) (Moved.below hb)
theorem plain_anyS (w : World) : Calls Tryz.prog 9 #[] w fun e w' => e = .returned (.agg #[.int .i64 16, .int .i64 8]) ∧ Below w.heap.size w w' := by
  go_enter Tryz.func9, Tryz.ntmps9
  go_wp2
  refine bodyPost_ret (v := .agg #[.int .i64 16, .int .i64 8]) (by simp [results, Tryz.results9, go_sem]) rfl ⟨rfl, ?_⟩
  exact (Below.refl _ _).alloc (Nat.le_refl _) _
theorem data_anyS (key : Int) (b : ByteArray) (w : World) : Calls Tryz.prog 13 #[.int .i64 key, .string b] w fun e w' => e = .returned (pg key b).val ∧ Below w.heap.size w w' := by
  show Calls _ _ _ _ fun e w' => e = .returned (.agg #[.int .i64 1, .int .i64 1, .int .i64 key, .int .i64 0, .string b]) ∧ Below w.heap.size w w'
  go_enter Tryz.func13, Tryz.ntmps13
  go_wp2
  refine bodyPost_ret (v := .agg #[.int .i64 1, .int .i64 1, .int .i64 key, .int .i64 0, .string b]) (by simp [results, Tryz.results13, go_sem]) rfl ⟨rfl, ?_⟩
  exact (Below.refl _ _).alloc (Nat.le_refl _) _
def FreshPost (w0 w : World) (e : Ending) (w' : World) : Prop := ∃ q p sv vv N, e = .returned (.tuple #[.pointer (some ⟨p, 0, none⟩), .pointer (some ⟨q, 0, none⟩)]) ∧ Law w0 w' q p sv vv N s0 ∧ Below w.heap.size w w'
set_option maxHeartbeats 2000000 in
set_option maxRecDepth 100000 in
theorem fresh_any (w0 w : World) (hb0 : Below w0.heap.size w0 w) (hl : LaidT w) (hp : 0 < w0.heap.size) :
    Calls Tryz.prog 8 #[.agg #[.int .i64 16, .int .i64 8]] w (FreshPost w0 w) := by
  have HB0 := Lib.hid hb0
  have HL := Lib.hid hl
  clear hb0 hl
  go_enter Tryz.func8, Tryz.ntmps8
  go_wp2_with fail
  refine (New_ok 16 8 (by omega) (by omega) (by omega) (by omega) _).mono ?_
  rintro e w1 ⟨F, p, rfl, hn, hb, hF⟩
  have HN : Hid (NandAt w1 F p fs) := hn
  have hb' : Below w.heap.size w w1 := ((Below.refl w.heap.size w).alloc (Nat.le_refl _) (.cells #[.int .i64 16, .int .i64 8] 27)).trans (hb.mono (by simp))
  have HF : Hid (∀ k, F k → w.heap.size ≤ k) := fun k hk => Nat.le_trans (by simp) (hF k hk)
  have HB := Lib.hid hb'
  have HL1 := Lib.hid (HL.out.below hb' HL.out.lt)
  clear hn hb hF
  go_wp2_with fail
  refine (open_ok w1 F p fs HN.out rfl HL1.out fs_size).mono ?_
  rintro e w2 ⟨q, sv, vv, rfl, h2, hb2, hf2⟩
  rw [open_fs] at h2
  have HLaw : Hid (Law w0 w2 q p sv vv F s0) := by
    have hz := HB0.out.size
    have hz1 := HB.out.size
    refine ⟨h2, (HB0.out.trans (HB.out.mono hz)).trans (hb2.mono (by omega)), fun k hk => ?_, HL1.out.below hb2 HL1.out.lt, hp⟩
    rcases hk with hk | hk | hk | hk
    · have := hf2 k (.inl hk); omega
    · have := hf2 k (.inr (.inl hk)); omega
    · have := hf2 k (.inr (.inr (.inl hk))); omega
    · have := HF.out k hk; omega
  have HB2 := Lib.hid (HB.out.trans (hb2.mono HB.out.size))
  clear h2 hb2 hf2
  go_wp2_with fail
  refine bodyPost_ret (v := .tuple #[.pointer (some ⟨p, 0, none⟩), .pointer (some ⟨q, 0, none⟩)]) (by simp [results, Tryz.results8, go_sem]) rfl ⟨q, p, sv, vv, F, rfl, HLaw.out, HB2.out⟩
end Go.Proofs.YtfacgeappbgldaaGreatDoor.st
