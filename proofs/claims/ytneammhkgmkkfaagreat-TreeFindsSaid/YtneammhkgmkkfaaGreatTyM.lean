/- tree: nodes opened; shift. -/
import Derived.Test.YtneammhkgmkkfaaGreatTyF
import Derived.Test.YtneammhkgmkkfaaGreatTyE
import Derived.Test.YtneammhkgmkkfaaGreatTrMg
import Derived.Deep.RegionLaw
namespace Go.Proofs.YtneammhkgmkkfaaGreat.tr
open Go.RowKit Go.Proofs.YtneammhkgmkkfaaGreat.er
set_option linter.unusedVariables false
set_option linter.unusedSimpArgs false

theorem extCells_take : ∀ (l : List Ext) (k : Nat), (extCells l).take (k * 4) = extCells (l.take k)
  | [], k => by simp [extCells]
  | e :: l, 0 => by simp [extCells]
  | e :: l, k + 1 => by
    have ih := extCells_take l k
    have e1 : extCells (e :: l) = .int .i64 e.fr :: .int .i64 e.n :: .int .i64 e.kind :: .int .i64 e.at_ :: extCells l := by simp [extCells, Ext.cells]
    have e2 : extCells ((e :: l).take (k + 1)) = .int .i64 e.fr :: .int .i64 e.n :: .int .i64 e.kind :: .int .i64 e.at_ :: extCells (l.take k) := by simp [extCells, Ext.cells]
    rw [e1, e2, show (k + 1) * 4 = k * 4 + 4 by omega, ← ih]
    rfl
theorem extCells_drop (l : List Ext) (k : Nat) : (extCells l).drop (k * 4) = extCells (l.drop k) := by
  have h : extCells l = extCells (l.take k) ++ extCells (l.drop k) := by rw [← extCells_append, List.take_append_drop]
  have ht := extCells_take l k
  have h2 := List.take_append_drop (k * 4) (extCells l)
  rw [ht] at h2
  conv at h2 => rhs; rw [h]
  exact List.append_cancel_left h2
theorem extCells_one (l : List Ext) : ∀ u ∈ extCells l, u.oneCell' = true := by
  intro u hu
  simp only [extCells, List.mem_flatMap, Ext.cells] at hu
  obtain ⟨e, _, hu⟩ := hu
  simp at hu
  rcases hu with rfl | rfl | rfl | rfl <;> rfl
/-- A leaf, its blocks b and g. -/
def LfAt (w : World) (b g c : Nat) (a : Int) (l : List Ext) : Prop := Whole w b 138 #[.int .i64 a, .slice (some ⟨g, 0, none⟩) l.length c] ∧ Row w g c 4 39 (extCells l)
/-- A kid: its blocks, its value, what it is. -/
abbrev Kd (h : Nat) := List Nat × Value × Nd h
def dsF {h : Nat} (ds : List (Kd h)) : List Nat := ds.flatMap fun d => d.1
def InAt (w : World) {h : Nat} (b g c : Nat) (a : Int) (ds : List (Kd h)) : Prop := Whole w b 85 #[.int .i64 a, .slice (some ⟨g, 0, none⟩) ds.length c] ∧ Row w g c 1 78 (ds.map fun d => d.2.1) ∧ ∀ d ∈ ds, NdAt w d.1 d.2.1 d.2.2
def ptrV (h b : Nat) : Value := .iface (ndT h) (.pointer (some ⟨b, 0, none⟩))
theorem leaf_at {w : World} {b g c : Nat} {a : Int} {l : List Ext} (h : LfAt w b g c a l) : NdAt w [b, g] (ptrV 0 b) (mkL a l) := ⟨b, g, c, rfl, rfl, h.1, h.2⟩
theorem inner_at {w : World} {h b g c : Nat} {a : Int} {ds : List (Kd h)} (hh : InAt w b g c a ds) : NdAt w (b :: g :: dsF ds) (ptrV (h + 1) b) (mkI a (ds.map fun d => d.2.2)) :=
  ⟨b, g, c, ds, rfl, rfl, by have := hh.1; simpa [mkI, Nd.ks, Nd.at_] using this, rfl, hh.2.1, hh.2.2⟩
theorem leaf_open {w : World} {F : List Nat} {v : Value} {n : Nd 0} (h : NdAt w F v n) : ∃ b g c, F = [b, g] ∧ v = ptrV 0 b ∧ LfAt w b g c n.at_ n.l := by
  obtain ⟨b, g, c, h1, h2, h3, h4⟩ := h
  exact ⟨b, g, c, h1, h2, h3, h4⟩
theorem inner_open {w : World} {h : Nat} {F : List Nat} {v : Value} {n : Nd (h + 1)} (hh : NdAt w F v n) : ∃ b g c, ∃ ds : List (Kd h), F = b :: g :: dsF ds ∧ v = ptrV (h + 1) b ∧ InAt w b g c n.at_ ds ∧ n.ks = ds.map fun d => d.2.2 := by
  obtain ⟨b, g, c, ds, h1, h2, h3, h4, h5, h6⟩ := hh
  refine ⟨b, g, c, ds, h1, h2, ⟨?_, h5, h6⟩, h4⟩
  rw [h4, List.length_map] at h3
  exact h3
theorem LfAt.keep {G : Nat → Prop} {w w' : World} {b g c : Nat} {a : Int} {l : List Ext} (h : LfAt w b g c a l) (hk : Keep G w w') (h1 : ¬ G b) (h2 : ¬ G g) : LfAt w' b g c a l := ⟨h.1.keep hk h1, h.2.keep hk h2⟩
theorem dsF_append {h : Nat} (p q : List (Kd h)) : dsF (p ++ q) = dsF p ++ dsF q := by simp [dsF]
theorem dsF_cons {h : Nat} (d : Kd h) (q : List (Kd h)) : dsF (d :: q) = d.1 ++ dsF q := by simp [dsF]
theorem mem_dsF {h : Nat} {ds : List (Kd h)} {d : Kd h} {k : Nat} (hd : d ∈ ds) (hk : k ∈ d.1) : k ∈ dsF ds := List.mem_flatMap.2 ⟨d, hd, hk⟩
theorem kids_keep {G : Nat → Prop} {w w' : World} {h : Nat} {ds : List (Kd h)} (hk : Keep G w w') (hd : ∀ d ∈ ds, NdAt w d.1 d.2.1 d.2.2) (hG : ∀ k ∈ dsF ds, ¬ G k) : ∀ d ∈ ds, NdAt w' d.1 d.2.1 d.2.2 :=
  fun d hm => (hd d hm).keep hk (fun k hkm => hG k (mem_dsF hm hkm))
theorem kids_lt {w : World} {h : Nat} {ds : List (Kd h)} (hd : ∀ d ∈ ds, NdAt w d.1 d.2.1 d.2.2) : ∀ k ∈ dsF ds, k < w.heap.size := by
  intro k hk
  obtain ⟨d, hm, hkm⟩ := List.mem_flatMap.1 hk
  exact (hd d hm).lt k hkm
theorem kids_one {w : World} {h : Nat} {ds : List (Kd h)} (hd : ∀ d ∈ ds, NdAt w d.1 d.2.1 d.2.2) : ∀ u ∈ ds.map (fun d => d.2.1), u.oneCell' = true := by
  intro u hu
  obtain ⟨d, hm, rfl⟩ := List.mem_map.1 hu
  obtain ⟨b, F', _, h2⟩ := (hd d hm).form
  rw [h2]; rfl
/-- What shift leaves: the left one, the right one where it has something. -/
def ShiftPost {h : Nat} (w : World) (F : Nat → Prop) (v1 v2 : Value) (x' y' : Nd h) (some : Prop) (w' : World) : Prop :=
  ∃ G1 G2, NdIn w' G1 v1 x' ∧ (some → NdIn w' G2 v2 y') ∧ (∀ k ∈ G1, k ∉ G2) ∧ Mv F w (fun k => k ∈ G1 ∨ k ∈ G2) w'
/-- The two stores behind cut, at leaves. -/
theorem shift_leaf_end {w w2 w5 w6 : World} {b1 g1 c1 b2 g2 c2 : Nat} {K : Nat} {l1 l2 : List Ext} {v1 v2 : Value} {q1 q2 : Value}
    (hW1 : Whole w2 b1 138 #[.int .i64 (-1), q1]) (hW2 : Whole w2 b2 138 #[.int .i64 (-1), q2]) (hk2 : Keep (fun k => k = b1 ∨ k = b2) w w2) (hb : b1 ≠ b2)
    (hb5 : Below w2.heap.size w2 w5) (ho1 : w5.ownsRow w2.heap.size 39 4 v1 K ((extCells l1 ++ extCells l2).take (K * 4))) (ho2 : w5.ownsRow w2.heap.size 39 4 v2 (l1.length + l2.length - K) ((extCells l1 ++ extCells l2).drop (K * 4)))
    (hne : ∀ g, v1.ownBlock = some g → v2.ownBlock ≠ some g) (hK0 : 0 < K) (hK : K ≤ l1.length + l2.length)
    (h6 : w6 = (w5.setCell ⟨b1, 1, none⟩ v1).setCell ⟨b2, 1, none⟩ v2 ∨ w6 = (w5.setCell ⟨b2, 1, none⟩ v2).setCell ⟨b1, 1, none⟩ v1) :
    ShiftPost w (fun k => k ∈ [b1, g1] ∨ k ∈ [b2, g2]) (ptrV 0 b1) (ptrV 0 b2) (mkL (-1) ((l1 ++ l2).take K)) (mkL (-1) ((l1 ++ l2).drop K)) (K < l1.length + l2.length) w6 := by
  rw [← extCells_append] at ho1 ho2
  rw [extCells_take] at ho1
  rw [extCells_drop] at ho2
  obtain ⟨n1, d1, rfl, hr1, hn1⟩ := Row.own ho1 hK0
  have hV1 : Whole w5 b1 138 #[.int .i64 (-1), q1] := hW1.below hb5 hW1.lt
  have hV2 : Whole w5 b2 138 #[.int .i64 (-1), q2] := hW2.below hb5 hW2.lt
  have hs2 := hk2.size
  have l1' := hW1.lt
  have l2' := hW2.lt
  have hk5 : Keep (fun k => k = b1 ∨ k = b2) w w5 := hk2.transBelow hb5
  have key : Whole w6 b1 138 #[.int .i64 (-1), .slice (some ⟨n1, 0, none⟩) K d1] ∧ Whole w6 b2 138 #[.int .i64 (-1), v2] ∧ Keep (fun k => k = b1 ∨ k = b2) w5 w6 := by
    rcases h6 with rfl | rfl
    · refine ⟨?_, ?_, ?_⟩
      · simpa using (hV1.set 1 _).far (p := ⟨b2, 1, none⟩) (by exact hb) v2
      · simpa using (hV2.far (p := ⟨b1, 1, none⟩) (by exact hb.symm) _).set 1 v2
      · exact ((Keep.refl _ _).setCell (p := ⟨b1, 1, none⟩) (.inl (.inl rfl)) _).setCell (p := ⟨b2, 1, none⟩) (.inl (.inr rfl)) _
    · refine ⟨?_, ?_, ?_⟩
      · simpa using (hV1.far (p := ⟨b2, 1, none⟩) (by exact hb) _).set 1 _
      · simpa using (hV2.set 1 _).far (p := ⟨b1, 1, none⟩) (by exact hb.symm) _
      · exact ((Keep.refl _ _).setCell (p := ⟨b2, 1, none⟩) (.inl (.inr rfl)) _).setCell (p := ⟨b1, 1, none⟩) (.inl (.inl rfl)) _
  obtain ⟨k1, k2, k3⟩ := key
  have hl1 : ((l1 ++ l2).take K).length = K := by rw [List.length_take, List.length_append]; omega
  have hl2 : ((l1 ++ l2).drop K).length = l1.length + l2.length - K := by rw [List.length_drop, List.length_append]
  have hr1' := hr1.keep k3 (by omega)
  have hmv : Keep (fun k => k ∈ [b1, g1] ∨ k ∈ [b2, g2]) w w6 := (hk5.trans k3 (fun k hk => .inl hk)).mono (fun k _ hk => by simp; omega)
  have hA : NdIn w6 [b1, n1] (ptrV 0 b1) (mkL (-1) ((l1 ++ l2).take K)) := ⟨leaf_at ⟨by rw [hl1]; exact k1, hr1'⟩, by simp; omega⟩
  rcases Nat.eq_or_lt_of_le hK with he | hlt
  · exact ⟨[b1, n1], [], hA, fun h => by omega, fun k _ hk => by simp at hk, hmv, fun k hk => by simp at hk ⊢; omega⟩
  · obtain ⟨n2, d2, rfl, hr2, hn2⟩ := Row.own ho2 (by omega)
    have hr2' := hr2.keep k3 (by omega)
    have hnn : n1 ≠ n2 := fun e => hne n1 rfl (by rw [e]; rfl)
    refine ⟨[b1, n1], [b2, n2], hA, fun _ => ⟨leaf_at ⟨by rw [hl2]; exact k2, hr2'⟩, by simp; omega⟩, fun k hk hk2 => ?_, hmv, fun k hk => ?_⟩
    · simp at hk hk2; omega
    · simp at hk ⊢; omega
/-! ### which kind a node is -/
theorem ta_ll (p : Option Addr) (w : World) : (Instr.typeAssert (.iface 134 (.pointer p)) 78 134 true).run Tryz.prog w = .ok (.tuple #[.pointer p, .bool true]) w := by kernel_rfl
theorem ta_ii (p : Option Addr) (w : World) : (Instr.typeAssert (.iface 81 (.pointer p)) 78 81 true).run Tryz.prog w = .ok (.tuple #[.pointer p, .bool true]) w := by kernel_rfl
theorem ta_li (p : Option Addr) (w : World) : (Instr.typeAssert (.iface 134 (.pointer p)) 78 81 true).run Tryz.prog w = .ok (.tuple #[.pointer none, .bool false]) w := by kernel_rfl
theorem ta_il (p : Option Addr) (w : World) : (Instr.typeAssert (.iface 81 (.pointer p)) 78 134 true).run Tryz.prog w = .ok (.tuple #[.pointer none, .bool false]) w := by kernel_rfl
end Go.Proofs.YtneammhkgmkkfaaGreat.tr
