/- StoreScan, plain: what is opened anew. -/
import Derived.Test.YtfacgeappbgldaaGreatDoorStQ
namespace Go.Proofs.YtfacgeappbgldaaGreatDoor.st
open Go.RowKit Go.Proofs.YtfacgeappbgldaaGreatDoor.er Go.Proofs.YtfacgeappbgldaaGreatDoor.nd Go.Proofs.YtfacgeappbgldaaGreatDoor.we Go.Proofs.YtfacgeappbgldaaGreatDoor.ge Go.Proofs.YtfacgeappbgldaaGreatDoor.pg
set_option linter.unusedVariables false

theorem full_congr {xs ys : Nat → ByteArray} {m : Nat} (h : ∀ t, t < m → xs t = ys t) : fullS xs m = fullS ys m := by
  have h1 : fullN xs m = fullN ys m := by
    unfold fullN
    congr 1
    apply List.map_congr_left
    intro b _
    congr 1
    apply List.map_congr_left
    intro j hj
    have := List.mem_range.1 hj
    exact h _ (by omega)
  unfold fullS
  rw [h1]
def tx (ps : List Page) (t : Nat) : ByteArray := writeF (ps.getD t noPage)
/-- The pages that were appended: each may be, and bears its number. -/
def Good (ps : List Page) : Prop := ∀ (t : Nat) (p : Page), ps[t]? = some p → mayB p = true ∧ p.seq = (t : Int)
theorem tx_at {ps : List Page} {t : Nat} {p : Page} (h : ps[t]? = some p) : tx ps t = writeF p := by unfold tx; rw [List.getD, h]; rfl
theorem tx_snoc (ps : List Page) (p : Page) (t : Nat) (h : t < ps.length) : tx (ps ++ [p]) t = tx ps t := by
  unfold tx
  rw [List.getD, List.getD, List.getElem?_append_left h]
theorem good_snoc {ps : List Page} {p : Page} (h : Good ps) (hm : mayB p = true) (hs : p.seq = (ps.length : Int)) : Good (ps ++ [p]) := by
  intro t q hq
  by_cases ht : t < ps.length
  · rw [List.getElem?_append_left ht] at hq
    exact h t q hq
  · have hl : t < (ps ++ [p]).length := (List.getElem?_eq_some_iff.1 hq).1
    simp at hl
    obtain rfl : t = ps.length := by omega
    simp at hq
    subst hq
    exact ⟨hm, hs⟩
theorem scan_app (ps : List Page) (p : Page) (hl : ps.length < 128) (hm : mayB { p with seq := 0 } = true) :
    appF 3 (fullS (tx ps) ps.length) p = some (fullS (tx (ps ++ [{ p with seq := (ps.length : Int) }])) (ps.length + 1), (ps.length : Int), 0) := by
  rw [full_congr (ys := tx (ps ++ [{ p with seq := (ps.length : Int) }])) (fun t ht => (tx_snoc _ _ _ ht).symm)]
  exact full_app _ _ hl p hm (tx_at (by simp))
theorem scan_no (f : Nat) (s : Sto) (p : Page) (hm : mayB { p with seq := 0 } = false) : appF f s p = some (s, 0, 1) := by
  unfold appF
  rw [if_pos hm]
def fnds (ps : List Page) (k : Nat) : List Fnd := (List.range k).map fun (t : Nat) => ⟨(t : Int), ps.getD t noPage⟩
theorem fnds_succ (ps : List Page) (k : Nat) : fnds ps (k + 1) = fnds ps k ++ [⟨(k : Int), ps.getD k noPage⟩] := by simp [fnds, List.range_succ]
theorem fnds_snoc (ps : List Page) (p : Page) : fnds (ps ++ [p]) (ps.length + 1) = fnds ps ps.length ++ [⟨(ps.length : Int), p⟩] := by
  rw [fnds_succ]
  congr 1
  · apply List.map_congr_left
    intro t ht
    have := List.mem_range.1 ht
    rw [List.getD, List.getD, List.getElem?_append_left this]
  · simp [List.getD]
theorem read_in (ps : List Page) (h : Good ps) (k : Nat) (hk : k < 128) : readS (fullN (tx ps) ps.length) k = if k < ps.length then (ps.getD k noPage, 0) else (noPage, 42) := by
  unfold readS
  rw [full_read _ _ _ hk]
  by_cases hl : k < ps.length
  · rw [if_pos hl, if_pos rfl, if_pos hl]
    exact read_write _ (by
      rw [List.getD, List.getElem?_eq_getElem hl]
      exact (h k _ (List.getElem?_eq_getElem hl)).1)
  · rw [if_neg hl, if_neg hl]
    rfl
theorem scanTo_full (ps : List Page) (h : Good ps) : ∀ k, k ≤ 128 → scanTo (fullN (tx ps) ps.length) k = fnds ps (min k ps.length)
  | 0, _ => by simp [scanTo, fnds]
  | k + 1, hk => by
    rw [scanTo, read_in ps h k (by omega), scanTo_full ps h k (by omega)]
    by_cases hl : k < ps.length
    · rw [if_pos hl, if_pos rfl, show min (k + 1) ps.length = k + 1 from by omega, show min k ps.length = k from by omega, fnds_succ]
    · rw [if_neg hl, if_neg (by decide), show min (k + 1) ps.length = min k ps.length from by omega]
theorem fnds_len (ps : List Page) (k : Nat) : (fnds ps k).length = k := by simp [fnds]
theorem fnds_at (ps : List Page) (k j : Nat) (h : j < k) : (fnds ps k)[j]? = some ⟨(j : Int), ps.getD j noPage⟩ := by simp [fnds, List.getElem?_map, List.getElem?_range h]
theorem seqTo_fnds (ps : List Page) (h : Good ps) : ∀ j, j ≤ ps.length → seqTo (fnds ps ps.length) j = (j : Int)
  | 0, _ => rfl
  | j + 1, hj => by
    have hs : (ps.getD j noPage).seq = (j : Int) := by
      rw [List.getD, List.getElem?_eq_getElem (show j < ps.length by omega)]
      exact (h j _ (List.getElem?_eq_getElem (by omega))).2
    rw [seqTo, fnds_at _ _ _ (by omega), seqTo_fnds ps h j (by omega)]
    simp only [hs]
    omega
/-- What a store knows that is opened over so many texts. -/
def opS (xs : Nat → ByteArray) (m : Nat) : Sto := ⟨fullN xs m, (List.range 16).map (fun b => if 8 * b < m then 2 else 0), List.replicate 16 0, -1, m⟩
theorem st_ops (xs : Nat → ByteArray) (m : Nat) (hm : m < 61) : stTo (fullN xs m) 16 = (List.range 16).map (fun b => if 8 * b < m then 2 else 0) :=
  of_maps (f := fun m => stTo (fullN xs m) 16) (g := fun m => (List.range 16).map (fun b => if 8 * b < m then (2 : Int) else 0)) (n := 61) (by kernel_rfl) m hm
theorem open_full (ps : List Page) (h : Good ps) (hl : ps.length < 61) : openS (fullN (tx ps) ps.length) = opS (tx ps) ps.length := by
  unfold openS
  show ({ madeS (fullN (tx ps) ps.length) with seq := seqTo (scanTo (fullN (tx ps) ps.length) (16 * 8)) (scanTo (fullN (tx ps) ps.length) (16 * 8)).length } : Sto) = _
  rw [scanTo_full ps h _ (by omega), show min (16 * 8) ps.length = ps.length from by omega, fnds_len, seqTo_fnds ps h _ (Nat.le_refl _)]
  unfold madeS opS
  rw [show (fullN (tx ps) ps.length).blocks = 16 from rfl, st_ops _ _ hl]
/-- And the page that is put behind them. -/
def nxS (xs : Nat → ByteArray) (m : Nat) (t : ByteArray) : Sto := ⟨{ fullN xs m with b := (fullN xs m).b.set ((m + 7) / 8) (bk [t] false), ops := (m : Int) + 1 }, ((List.range 16).map (fun b => if 8 * b < m then (2 : Int) else 0)).set ((m + 7) / 8) 1, List.replicate 16 0, (((m + 7) / 8 : Nat) : Int), m⟩
theorem nx_put (xs : Nat → ByteArray) (t : ByteArray) (m : Nat) (hm : m < 61) : putB 3 (opS xs m) t = some (nxS xs m t, 8 * (((m + 7) / 8 : Nat) : Int), 0, true) :=
  of_maps (f := fun m => putB 3 (opS xs m) t) (g := fun m => some (nxS xs m t, 8 * (((m + 7) / 8 : Nat) : Int), 0, true)) (n := 61) (by kernel_rfl) m hm
theorem nx_next (xs : Nat → ByteArray) (t : ByteArray) (m : Nat) (hm : m < 61) : (nxS xs m t).n.next (((m + 7) / 8 : Nat) : Int) = 1 :=
  of_maps (f := fun m => (nxS xs m t).n.next (((m + 7) / 8 : Nat) : Int)) (g := fun _ => (1 : Int)) (n := 61) (by kernel_rfl) m hm
theorem nx_app (xs : Nat → ByteArray) (m : Nat) (hm : m < 61) (p : Page) (hp : mayB { p with seq := 0 } = true) : appF 3 (opS xs m) p = some ({ nxS xs m (writeF { p with seq := (m : Int) }) with seq := (m : Int) + 1 }, 8 * (((m + 7) / 8 : Nat) : Int), 0) := by
  rw [appF_B 3 (opS xs m) p _ hp (nx_put xs _ m hm)]
  have h1 : (opS xs m).n.ops < (nxS xs m (writeF { p with seq := (opS xs m).seq })).n.ops := by show (m : Int) < (m : Int) + 1; omega
  simp only [if_pos h1, if_true]
  rfl
end Go.Proofs.YtfacgeappbgldaaGreatDoor.st
