/- ext: Cut, Clip. -/
import Derived.Test.YtneammhkgmkkfaaGreatTxF
import Derived.Test.YtneammhkgmkkfaaGreatTxD
import Derived.Test.YtneammhkgmkkfaaGreatTyM
namespace Go.Proofs.YtneammhkgmkkfaaGreat.tr
open Go.RowKit Go.Proofs.YtneammhkgmkkfaaGreat.er
set_option linter.unusedVariables false
set_option linter.unusedSimpArgs false

def OkRet (T : TypeId) (r : List Ext) (w : World) (e : Ending) (w' : World) : Prop := ∃ v', e = .returned (.tuple #[v', .int .i64 0]) ∧ w'.ownsRow w.heap.size T 4 v' r.length (extCells r) ∧ Below w.heap.size w w'
theorem parts_len (l : List Ext) (a b : Int) : (parts l a b).length ≤ l.length := List.length_filterMap_le _ _
theorem slat_own {w : World} {B n k : Nat} {t : TypeId} {v : Value} {xs : List Value} (h : w.ownsRow B t k v n xs) : SlAt w v n k xs := SlAt.own h
theorem wbel {w w' : World} {g : Nat} {t : TypeId} {cs : Array Value} (h : Whole w g t cs) (hb : Below w.heap.size w w') : Whole w' g t cs := h.below hb h.lt
theorem concat2 (v1 v2 : Value) (r1 r2 : List Ext) (w : World) (gb : Nat) (hw : Whole w gb 32 #[v1, v2]) (h1 : SlAt w v1 r1.length 4 (extCells r1)) (h2 : SlAt w v2 r2.length 4 (extCells r2)) (hm : r1.length + r2.length ≤ 40000000) (mc : Nat) :
    Calls Tryz.prog 66 #[.slice (some ⟨gb, 0, none⟩) 2 mc] w fun e w' => ∃ v', e = .returned v' ∧ ExtsAt w' v' (r1 ++ r2) ∧ Below w.heap.size w w' := by
  refine (concatE [(v1, r1.length, extCells r1), (v2, r2.length, extCells r2)] gb mc w ?_ (by simp; omega) (by simp) (by simp)).mono ?_
  · intro j y hy
    match j, hy with
    | 0, hy => simp at hy; subst hy; exact ⟨hw.cell 0, h1, extCells_one r1⟩
    | 1, hy => simp at hy; subst hy; exact ⟨hw.cell 1, h2, extCells_one r2⟩
    | j + 2, hy => simp at hy
  · rintro e w' ⟨v', rfl, hown, hbe⟩
    refine ⟨v', rfl, ?_, hbe⟩
    simp only [List.map_cons, List.map_nil, List.sum_cons, List.sum_nil, Nat.add_zero, List.flatMap_cons, List.flatMap_nil, List.append_nil] at hown
    rw [← extCells_append] at hown
    exact (ExtsAt.own hown).1
set_option maxHeartbeats 4000000 in
set_option maxRecDepth 100000 in
theorem cutX_bad (l : List Ext) (v : Value) (fr n : Int) (w : World) (h : ExtsAt w v l) (hl : l.length ≤ 16777216) (hc : chkB l = true) (hs : spanB fr n = false) :
    Calls Tryz.prog 40 #[v, .int .i64 fr, .int .i64 n] w fun e w' => e = .returned (.tuple #[.slice none 0 0, .int .i64 1]) ∧ Below w.heap.size w w' := by
  have HCK : Hid (Calls Tryz.prog 61 #[v] w fun x w' => x = .returned (.bool true) ∧ Below w.heap.size w w') := by have := check_any l v w h (by omega); rw [hc] at this; exact this
  have HSP : Hid (∀ wq, Calls Tryz.prog 64 #[.int .i64 fr, .int .i64 n] wq fun e w' => e = .returned (.bool false) ∧ wq = w') := fun wq => by have := span_any fr n wq; rw [hs] at this; exact this
  clear hs hc h hl
  go_enter Tryz.func40, Tryz.ntmps40
  go_wp2_with fail
  with_reducible refine HCK.out.mono ?_
  rintro e w1 ⟨rfl, hb1⟩
  have HB1 := Lib.hid hb1
  clear hb1
  go_wp2_with fail
  with_reducible refine (HSP.out _).mono ?_
  rintro e w2 ⟨rfl, rfl⟩
  go_wp2_with fail
  go_ret2
  exact ⟨rfl, HB1.out⟩
theorem span_spec {fr n : Int} (h : spanB fr n = true) : 0 ≤ fr ∧ 0 ≤ n ∧ fr + n ≤ 16777216 := by
  unfold spanB at h
  simp only [Bool.and_eq_true, decide_eq_true_eq] at h
  omega
set_option maxHeartbeats 4000000 in
set_option maxRecDepth 100000 in
theorem cutX_any (l : List Ext) (v : Value) (fr n : Int) (w : World) (h : ExtsAt w v l) (hl : l.length ≤ 16777216) (hc : chkB l = true) (hs : spanB fr n = true) :
    Calls Tryz.prog 40 #[v, .int .i64 fr, .int .i64 n] w (OkRet 39 (cutL l fr n) w) := by
  obtain ⟨s1, s2, s3⟩ := span_spec hs
  have HCK : Hid (Calls Tryz.prog 61 #[v] w fun x w' => x = .returned (.bool true) ∧ Below w.heap.size w w') := by have := check_any l v w h (by omega); rw [hc] at this; exact this
  have HSP : Hid (∀ wq, Calls Tryz.prog 64 #[.int .i64 fr, .int .i64 n] wq fun e w' => e = .returned (.bool true) ∧ wq = w') := fun wq => by have := span_any fr n wq; rw [hs] at this; exact this
  have hck := chkB_chk _ hc
  have HP1 : Hid (∀ wq, Below w.heap.size w wq → Calls Tryz.prog 67 #[v, .int .i64 0, .int .i64 fr] wq fun e w' => ∃ v', e = .returned v' ∧ SlAt w' v' (parts l 0 fr).length 4 (extCells (parts l 0 fr)) ∧ Below wq.heap.size wq w') := fun wq hb =>
    (parts_any l v 0 fr wq (h.below hb) hck.one (by omega) (by omega) (by omega) s1 (by omega)).mono fun e w' ⟨v', q1, q2, q3⟩ => ⟨v', q1, SlAt.own q2, q3⟩
  have HP2 : Hid (∀ wq, Below w.heap.size w wq → Calls Tryz.prog 67 #[v, .int .i64 (fr + n), .int .i64 16777216] wq fun e w' => ∃ v', e = .returned v' ∧ SlAt w' v' (parts l (fr + n) 16777216).length 4 (extCells (parts l (fr + n) 16777216)) ∧ Below wq.heap.size wq w') := fun wq hb =>
    (parts_any l v (fr + n) 16777216 wq (h.below hb) hck.one (by omega) (by omega) (by omega) (by omega) (by omega)).mono fun e w' ⟨v', q1, q2, q3⟩ => ⟨v', q1, SlAt.own q2, q3⟩
  obtain ⟨r1, hr1⟩ : ∃ r, parts l 0 fr = r := ⟨_, rfl⟩
  obtain ⟨r2, hr2⟩ : ∃ r, parts l (fr + n) 16777216 = r := ⟨_, rfl⟩
  have hn1 := parts_len l 0 fr
  have hn2 := parts_len l (fr + n) 16777216
  have ho1 : ∀ x ∈ r1 ++ r2, oneB x = true := fun x hx => by
    rcases List.mem_append.1 hx with hx | hx
    · rw [← hr1] at hx
      obtain ⟨y, hy, hp⟩ := parts_mem hx
      exact (part_spec hp (hck.one y hy) (by omega) (by omega)).1
    · rw [← hr2] at hx
      obtain ⟨y, hy, hp⟩ := parts_mem hx
      exact (part_spec hp (hck.one y hy) (by omega) (by omega)).1
  have HCU : Hid (cutL l fr n = tidy (r1 ++ r2)) := by show _ = _; unfold cutL; rw [hr1, hr2]
  rw [hr1] at HP1 hn1
  rw [hr2] at HP2 hn2
  have HCC : Hid (∀ (w3 wq : World) (v1 v2 : Value) (gb : Nat), SlAt w3 v1 r1.length 4 (extCells r1) → SlAt w3 v2 r2.length 4 (extCells r2) → Below w3.heap.size w3 wq → Whole wq gb 32 #[v1, v2] → Calls Tryz.prog 66 #[.slice (some ⟨gb, 0, none⟩) 2 2] wq fun e w' => ∃ v', e = .returned v' ∧ ExtsAt w' v' (r1 ++ r2) ∧ Below wq.heap.size wq w') := fun w3 wq v1 v2 gb a1 a2 hb hw =>
    concat2 v1 v2 r1 r2 wq gb hw (a1.below hb) (a2.below hb) (by omega) 2
  have HTI : Hid (∀ (wq : World) (v' : Value), ExtsAt wq v' (r1 ++ r2) → Calls Tryz.prog 65 #[v'] wq fun x w' => ∃ v', x = .returned v' ∧ w'.ownsRow wq.heap.size 39 4 v' (tidy (r1 ++ r2)).length (extCells (tidy (r1 ++ r2))) ∧ Below wq.heap.size wq w') := fun wq v' hv =>
    tidy_any _ v' wq hv ho1 (by rw [List.length_append]; omega)
  rw [HCU.out]
  obtain ⟨r, hr⟩ : ∃ r, tidy (r1 ++ r2) = r := ⟨_, rfl⟩
  rw [hr] at HTI ⊢
  clear hr ho1 hn1 hn2 hr1 hr2 hck hs hc h hl
  go_enter Tryz.func40, Tryz.ntmps40
  go_wp2_with fail
  with_reducible refine HCK.out.mono ?_
  rintro e w1 ⟨rfl, hb1⟩
  have HB1 := Lib.hid hb1
  clear hb1
  go_wp2_with fail
  with_reducible refine (HSP.out _).mono ?_
  rintro e w2 ⟨rfl, rfl⟩
  go_wp2_with fail
  with_reducible refine (HP1.out _ HB1.out).mono ?_
  rintro e w3 ⟨v1, rfl, hs1, hb3⟩
  obtain ⟨A1, c1, e1⟩ := hs1.form
  subst e1
  have HS1 := Lib.hid hs1
  have HB3 := Lib.hid (bel_tr HB1.out hb3)
  clear hs1 hb3
  go_wp2_with fail
  with_reducible refine (HP2.out _ HB3.out).mono ?_
  rintro e w4 ⟨v2, rfl, hs2, hb4⟩
  obtain ⟨A2, c2, e2⟩ := hs2.form
  subst e2
  have HS2 := Lib.hid hs2
  have HS1' := Lib.hid (HS1.out.below hb4)
  have HB4 := Lib.hid (bel_tr HB3.out hb4)
  clear hs2 hb4
  go_wp2_with fail
  with_reducible refine (HCC.out w4 _ _ _ _ HS1'.out HS2.out ((Below.refl _ _).alloc (Nat.le_refl _) _) (Whole.new w4 _ _)).mono ?_
  rintro e w5 ⟨v3, rfl, hx5, hb5⟩
  have HX5 := Lib.hid hx5
  have HB5 := Lib.hid (bel_tr (bel_tr HB4.out ((Below.refl _ _).alloc (Nat.le_refl _) _)) hb5)
  clear hx5 hb5
  go_wp2_with fail
  with_reducible refine (HTI.out _ _ HX5.out).mono ?_
  rintro e w6 ⟨v4, rfl, ho6, hb6⟩
  have HO6 := Lib.hid (own_base ho6 HB5.out.size)
  have HB6 := Lib.hid (bel_tr HB5.out hb6)
  clear ho6 hb6
  go_wp2_with fail
  go_ret2
  exact ⟨v4, rfl, HO6.out, HB6.out⟩
end Go.Proofs.YtneammhkgmkkfaaGreat.tr
