/- Contracts of nand's small functions: in, page, block, spoilt, count. -/
import Derived.Test.YtfacgeappbgldaaGreatDoorNdA
import Derived.Outline
namespace Go.Proofs.YtfacgeappbgldaaGreatDoor.nd
open Go.RowKit Go.Proofs.YtfacgeappbgldaaGreatDoor.er
set_option linter.unusedVariables false

theorem in_any (n a b : Int) (w : World) : Calls Tryz.prog 46 #[.int .i64 n, .int .i64 a, .int .i64 b] w fun e w' => e = .returned (.bool (decide (a ≤ n) && decide (n ≤ b))) ∧ w = w' := by
  by_cases h1 : a ≤ n
  · by_cases h2 : n ≤ b
    all_goals
      go_enter Tryz.func46, Tryz.ntmps46
      go_wp2
      go_ret
      exact ⟨by simp [h1, h2], rfl⟩
  · go_enter Tryz.func46, Tryz.ntmps46
    go_wp2
    go_ret
    exact ⟨by simp [h1]; omega, rfl⟩

def hasPage (s : Nand) (q : Int) : Bool := decide (0 ≤ q) && decide (q < (s.blocks : Int) * s.per)
set_option maxHeartbeats 1000000 in
theorem page_any (w : World) (F : Nat → Prop) (p : Nat) (s : Nand) (q : Int) (h : NandAt w F p s) :
    Calls Tryz.prog 64 #[.pointer (some ⟨p, 0, none⟩), .int .i64 q] w fun e w' => e = .returned (.bool (hasPage s q)) ∧ ∃ n, w' = w.drewN n := by
  obtain ⟨pb, pv, vs, h⟩ := h
  have c0 : w.cell? ⟨p, 0, none⟩ = some (.int .i64 s.blocks) := h.obj.cell 0
  have c1 : w.cell? ⟨p, 1, none⟩ = some (.int .i64 s.per) := h.obj.cell 1
  have h1 := h.ok.b1
  have h2 := h.ok.p1
  have hm : (s.blocks : Int) * s.per ≤ 64 * 32 := by
    have := Nat.mul_le_mul h1 h2
    exact_mod_cast this
  have hm0 : 0 ≤ (s.blocks : Int) * s.per := by exact_mod_cast Nat.zero_le _
  have hw : IntKind.i64.wrap ((s.blocks : Int) * s.per) = (s.blocks : Int) * s.per := by rw [IntKind.wrap_i64]; omega
  unfold hasPage
  clear h
  generalize s.blocks = bl at *
  generalize s.per = pr at *
  by_cases hq : 0 ≤ q
  · have hd : decide (0 ≤ q) = true := by simpa using hq
    go_enter Tryz.func64, Tryz.ntmps64
    go_wp2_with fail
    go_quiet (fail)
    go_wp2
    go_ret
    exact ⟨by simp [hq], _, rfl⟩
  · have hd : decide (0 ≤ q) = false := by simpa using hq
    go_enter Tryz.func64, Tryz.ntmps64
    go_wp2_with fail
    go_quiet (fail)
    go_wp2
    go_ret
    exact ⟨by simp [hq]; omega, _, rfl⟩

theorem ret_str {a b : ByteArray} (h : a = b) : Ending.returned (.string a) = .returned (.string b) := by rw [h]
theorem cut_at (x : ByteArray) (k : Nat) (h : k = min x.size 128) : x.extract 0 k = cut128 x := by subst h; rfl
theorem cut_all (x : ByteArray) (h : x.size ≤ 128) : x = cut128 x := by
  unfold cut128
  rw [Nat.min_eq_left h]
  simp
theorem spoilt_neg (m : Mis) (t : ByteArray) (h : m.keep ≤ 0) : spoilt m t = cut128 m.junk := by
  unfold spoilt keepOf
  rw [show (max (min m.keep (t.size : Int)) 0).toNat = 0 from by omega]
  simp
theorem spoilt_mid (m : Mis) (t : ByteArray) (k : Nat) (hk : m.keep = k) (h : k ≤ t.size) : spoilt m t = cut128 (t.extract 0 k ++ m.junk) := by
  unfold spoilt keepOf
  rw [show (max (min m.keep (t.size : Int)) 0).toNat = k from by omega]
theorem spoilt_all (m : Mis) (t : ByteArray) (h : (t.size : Int) < m.keep) : spoilt m t = cut128 (t ++ m.junk) := by
  unfold spoilt keepOf
  rw [show (max (min m.keep (t.size : Int)) 0).toNat = t.size from by omega]
  simp
set_option maxHeartbeats 1000000 in
theorem spoilt_any (w : World) (m : Mis) (t : ByteArray) (ht : t.size ≤ 128) (hj : m.junk.size ≤ 140737488351232) :
    Calls Tryz.prog 66 #[.agg #[.int .i64 m.at_, .int .i64 m.kind, .int .i64 m.keep, .string m.junk], .string t] w fun e w' => e = .returned (.string (spoilt m t)) ∧ Below w.heap.size w w' := by
  have hb : Hid (Below w.heap.size w (w.alloc (.cells #[.int .i64 m.at_, .int .i64 m.kind, .int .i64 m.keep, .string m.junk] 32)).drew) := ((Below.refl _ _).alloc (Nat.le_refl _) _).drew
  obtain ⟨ma, mk, mp, mj⟩ := m
  simp only at hj hb ⊢
  by_cases h1 : mp < 0
  · have HS := Lib.hid (spoilt_neg ⟨ma, mk, mp, mj⟩ t (by show mp ≤ 0; omega))
    have hlt : ¬ (t.size : Int) < mp := by omega
    go_enter Tryz.func66, Tryz.ntmps66
    go_wp2_with fail
    go_region
    all_goals go_wp2_with fail
    all_goals go_ret
    all_goals
      refine ⟨ret_str ?_, hb.out⟩
      rw [HS.out]
      first | ((with_reducible refine cut_at _ _ ?_); (try simp); omega) | ((with_reducible refine cut_all _ ?_); (try simp); omega)
  · obtain ⟨k, rfl⟩ := Int.eq_ofNat_of_zero_le (show 0 ≤ mp by omega)
    by_cases h2 : (t.size : Int) < (k : Int)
    · have HS := Lib.hid (spoilt_all ⟨ma, mk, k, mj⟩ t h2)
      go_enter Tryz.func66, Tryz.ntmps66
      go_wp2_with fail
      go_region
      all_goals go_wp2_with fail
      all_goals go_ret
      all_goals
        refine ⟨ret_str ?_, hb.out⟩
        rw [HS.out]
        first | ((with_reducible refine cut_at _ _ ?_); (try simp); omega) | ((with_reducible refine cut_all _ ?_); (try simp); omega)
    · have HS := Lib.hid (spoilt_mid ⟨ma, mk, k, mj⟩ t k rfl (by omega))
      have h3 : (k : Int) ≤ (t.size : Int) := by omega
      go_enter Tryz.func66, Tryz.ntmps66
      go_wp2_with fail
      go_region
      all_goals go_wp2_with fail
      all_goals go_ret
      all_goals
        refine ⟨ret_str ?_, hb.out⟩
        rw [HS.out]
        first | ((with_reducible refine cut_at _ _ ?_); (try simp); omega) | ((with_reducible refine cut_all _ ?_); (try simp); omega)

theorem cnt1 (m : Mis) (bx p : Nat) (k : Int) (w : World) (hb : w.cell? ⟨bx, 0, none⟩ = some (.pointer (some ⟨p, 0, none⟩))) (ho : w.cell? ⟨p, 3, none⟩ = some (.int .i64 k)) :
    Calls Tryz.prog 81 #[.agg #[.int .i64 m.at_, .int .i64 m.kind, .int .i64 m.keep, .string m.junk], .pointer (some ⟨bx, 0, none⟩)] w fun e w' => e = .returned (.bool (m.at_ == k)) ∧ Below w.heap.size w w' := by
  have hl1 := World.block_lt_of_cell? _ _ hb
  have hl2 := World.block_lt_of_cell? _ _ ho
  go_enter Tryz.func81, Tryz.ntmps81
  go_wp2_with fail
  go_quiet (fail)
  go_wp2
  go_ret
  exact ⟨rfl, below_drewN ((Below.refl _ _).alloc (Nat.le_refl _) _) _⟩

/-- What IndexFunc answers. -/
def idxInt : Option Nat → Int | some i => i | none => -1
theorem waitsAt_hit (l : List Mis) (k : Int) (j : Nat) (m : Mis) (hm : l[j]? = some m) (hk : (m.at_ == k) = true) (hn : ∀ (i : Nat) (x : Mis), i < j → l[i]? = some x → (x.at_ == k) = false) : waitsAt l k = some j := by
  unfold waitsAt
  rw [List.findIdx?_eq_some_iff_getElem]
  have hj : j < l.length := (List.getElem?_eq_some_iff.1 hm).1
  refine ⟨hj, ?_, fun i hi => ?_⟩
  · rw [List.getElem?_eq_getElem hj] at hm
    injection hm with hm
    rw [hm]
    exact hk
  · have := hn i l[i] hi (List.getElem?_eq_getElem _)
    simp [this]
theorem waitsAt_miss (l : List Mis) (k : Int) (hn : ∀ (i : Nat) (x : Mis), i < l.length → l[i]? = some x → (x.at_ == k) = false) : waitsAt l k = none := by
  unfold waitsAt
  rw [List.findIdx?_eq_none_iff]
  intro x hx
  obtain ⟨i, hi, e⟩ := List.getElem_of_mem hx
  exact hn i x hi (by rw [List.getElem?_eq_getElem hi, e])
theorem waits_at (l : List Mis) (k : Int) : waits l k = match waitsAt l k with | some i => (l[i]?).getD noMis | none => noMis := by
  unfold waits waitsAt
  induction l with
  | nil => rfl
  | cons x r ih =>
    rw [List.find?_cons, List.findIdx?_cons]
    cases h : (x.at_ == k)
    · simp only [ih, Bool.false_eq_true, if_false]
      cases List.findIdx? (fun m : Mis => m.at_ == k) r <;> rfl
    · simp
set_option maxHeartbeats 1000000 in
theorem index_any (l : List Mis) (A : Option Addr) (cap : Nat) (bx p : Nat) (k : Int) (w : World) (hown : w.ownsRow 0 32 4 (.slice A l.length cap) l.length (misCells l)) (hb : w.cell? ⟨bx, 0, none⟩ = some (.pointer (some ⟨p, 0, none⟩))) (ho : w.cell? ⟨p, 3, none⟩ = some (.int .i64 k)) :
    Calls Tryz.prog 80 #[.slice A l.length cap, .func (.func 81) #[] #[.pointer (some ⟨bx, 0, none⟩)]] w fun e w' => e = .returned (.int .i64 (idxInt (waitsAt l k))) ∧ Below w.heap.size w w' := by
  have hcm := own_cap hown
  have hmx : l.length ≤ 9223372036854775807 := by have := hcm.2; unfold maxLen at this; omega
  have OWN := Lib.hid hown
  have HB := Lib.hid hb
  have HO := Lib.hid ho
  clear hown hb ho hcm
  go_enter Tryz.func80, Tryz.ntmps80
  go_wp2_with fail
  go_loopw [8] (fun i wr => ∃ j : Nat, j ≤ l.length ∧ i = .int .i64 j ∧ Below w.heap.size w wr ∧ Hid (∀ (i : Nat) (x : Mis), i < j → l[i]? = some x → (x.at_ == k) = false)) (fun i _ => l.length - (intOf i).toNat)
  case atStart => exact ⟨0, Nat.zero_le _, rfl, Below.refl _ _, fun i x h _ => by omega⟩
  case round =>
    obtain ⟨j, hj, rfl, hbel, HN⟩ := hrel
    by_cases hlt : j < l.length
    · obtain ⟨m, hm⟩ : ∃ m, l[j]? = some m := ⟨l[j], List.getElem?_eq_getElem hlt⟩
      obtain ⟨g, rfl, hg0, hgl, hgc, hcells, _⟩ := own_cell OWN.out (by omega)
      obtain ⟨e0, e1, e2, e3⟩ := misCells_at l j m hm
      have c0 := below_c hbel (hcells _ _ e0)
      have c1 := below_c hbel (hcells _ _ e1)
      have c2 := below_c hbel (hcells _ _ e2)
      have c3 := below_c hbel (hcells _ _ e3)
      have HBr := Lib.hid (below_c hbel HB.out)
      have HOr := Lib.hid (below_c hbel HO.out)
      have HBEL := Lib.hid hbel
      have HM := Lib.hid hm
      clear hcells e0 e1 e2 e3 hbel hm
      cases hq : (m.at_ == k)
      · have HQ := Lib.hid hq
        clear hq
        go_wp2_with (go_at_call 81; refine (cnt1 m bx p k _ HBr.out HOr.out).mono ?_; rintro e w2 ⟨rfl, hb2⟩; rw [HQ.out])
        go_roundw
        case rel => exact ⟨j + 1, by omega, by go_num, HBEL.out.trans (hb2.mono HBEL.out.size), fun i x hi hx => by
          rcases Nat.lt_or_ge i j with h | h
          · exact HN.out i x h hx
          · obtain rfl : i = j := by omega
            have := HM.out.symm.trans hx
            injection this with this
            subst this
            exact HQ.out⟩
        case measure => simp [intOf]; omega
      · have HQ := Lib.hid hq
        clear hq
        go_wp2_with (go_at_call 81; refine (cnt1 m bx p k _ HBr.out HOr.out).mono ?_; rintro e w2 ⟨rfl, hb2⟩; rw [HQ.out])
        go_ret
        rw [waitsAt_hit l k j m HM.out HQ.out HN.out]
        exact ⟨rfl, HBEL.out.trans (hb2.mono HBEL.out.size)⟩
    · obtain rfl : l.length = j := by omega
      have HBEL := Lib.hid hbel
      clear hbel
      go_wp2
      go_ret
      rw [waitsAt_miss l k HN.out]
      exact ⟨rfl, HBEL.out⟩
end Go.Proofs.YtfacgeappbgldaaGreatDoor.nd
