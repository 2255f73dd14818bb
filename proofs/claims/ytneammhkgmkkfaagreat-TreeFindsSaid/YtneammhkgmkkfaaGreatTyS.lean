/- tree: remove at leaves. -/
import Derived.Test.YtneammhkgmkkfaaGreatTyR
namespace Go.Proofs.YtneammhkgmkkfaaGreat.tr
open Go.RowKit Go.Proofs.YtneammhkgmkkfaaGreat.er
set_option linter.unusedVariables false
set_option linter.unusedSimpArgs false

def RemPost {h : Nat} (w : World) (F : List Nat) (v : Value) (n' : Nd h) (w' : World) : Prop := ∃ F', NdIn w' F' v n' ∧ Mv (fun k => k ∈ F) w (fun k => k ∈ F') w'
def RemCtr (h : Nat) : Prop := ∀ (w : World) (F : List Nat) (v : Value) (n : Nd h) (s : Int), NdIn w F v n → Kw n → Big n → 1 ≤ n.size → n.size ≤ 8 → Inc (flat n) →
  Calls Tryz.prog 93 #[v, .int .i64 s] w fun e w' => e = .returned (.tuple #[]) ∧ RemPost w F v (remN n s) w'
set_option maxHeartbeats 4000000 in
set_option maxRecDepth 100000 in
theorem rem_leaf (w : World) (b g c : Nat) (a : Int) (l : List Ext) (s : Int) (h1 : LfAt w b g c a l) (hbg : b ≠ g) (hm : l.length ≤ 1000) :
    Calls Tryz.prog 93 #[ptrV 0 b, .int .i64 s] w fun e w' => e = .returned (.tuple #[]) ∧ RemPost w [b, g] (ptrV 0 b) (mkL (-1) (del l s)) w' := by
  have hbl := h1.1.lt
  have hgl := h1.2.lt
  have hA : Keep (fun _ => False) w (w.alloc (.cells #[.int .i64 s] 3)) := Keep.alloc (Keep.refl _ _) _
  have hV1 : LfAt (w.alloc (.cells #[.int .i64 s] 3)) b g c a l := h1.keep hA (fun h => h) (fun h => h)
  have hbox := Whole.new w 3 #[.int .i64 s]
  have x10 := hV1.1.cell 0
  have z10 := hV1.1.fz 0
  simp at x10
  have hpb : w.heap.size ≠ b := by omega
  obtain ⟨w2, hw2⟩ : ∃ w2, (w.alloc (.cells #[.int .i64 s] 3)).setCell ⟨b, 0, none⟩ (.int .i64 (-1)) = w2 := ⟨_, rfl⟩
  have HK2 : Keep (fun k => k = b) (w.alloc (.cells #[.int .i64 s] 3)) w2 := by rw [← hw2]; exact Keep.set1 _ b 0 _
  have HX : Whole w2 b 138 #[.int .i64 (-1), .slice (some ⟨g, 0, none⟩) l.length c] := by
    rw [← hw2]
    have := hV1.1.set 0 (.int .i64 (-1))
    simpa using this
  have HR : Row w2 g c 4 39 (extCells l) := hV1.2.keep HK2 (by simpa using hbg.symm)
  have HB : Whole w2 w.heap.size 3 #[.int .i64 s] := hbox.keep HK2 (by simpa using hpb)
  have HKA : Keep (fun k => k ∈ [b, g]) w w2 := (hA.mono (fun _ _ h => h.elim)).trans (HK2.mono (fun k _ e => by simp [e])) (fun k hk => .inl hk)
  have HDF := Lib.hid (delF_any l g c w.heap.size s w2 HR hm (HB.cell 0) (by omega))
  obtain ⟨n, hn⟩ : ∃ n, l.length = n := ⟨_, rfl⟩
  rw [hn] at HX HDF
  obtain ⟨n2, hn2⟩ : ∃ n2, (del l s).length = n2 := ⟨_, rfl⟩
  have HEND : Hid (∀ e w5, DelRet 39 g c l s w2 e w5 → e = .returned (.slice (some ⟨g, 0, none⟩) n2 c) ∧ (w5.cell? ⟨b, 1, none⟩ = some (.slice (some ⟨g, 0, none⟩) n c) ∧ w5.frozen? ⟨b, 1, none⟩ = false) ∧ RemPost w [b, g] (ptrV 0 b) (mkL (-1) (del l s)) (w5.setCell ⟨b, 1, none⟩ (.slice (some ⟨g, 0, none⟩) n2 c))) := by
    intro e w5 ⟨q1, q2, q3⟩
    have v1 := HX.keep q3 (by simpa using hbg)
    rw [hn2] at q1
    refine ⟨q1, ⟨v1.cell 1, v1.fz 1⟩, [b, g], ⟨leaf_at (c := c) ⟨?_, ?_⟩, by simpa using hbg⟩, ?_, fun k hk => .inl hk⟩
    · have := v1.set 1 (.slice (some ⟨g, 0, none⟩) n2 c)
      rw [hn2]
      simpa using this
    · exact q2.keep (Keep.set1 w5 b 1 _) (by simpa using hbg.symm)
    · exact (HKA.trans (q3.mono (fun k _ e => by have e' : k = g := e; simp [e'])) (fun k hk => .inl hk)).setCell (p := ⟨b, 1, none⟩) (.inl (by simp)) _
  have y11 := HX.cell 1
  have y10 := HX.cell 0
  simp at y11 y10
  have hme := fun w => meWh (.pointer (some ⟨b, 0, none⟩)) w 0
  have hen := fun w => enWh #[.pointer (some ⟨b, 0, none⟩)] w 0
  simp only [ndT, whF] at hme hen
  have hta := ta_ll
  have HWH := Lib.hid (fun wq => where_any wq b 0)
  clear hn2 hn HKA HB HR HX HK2 hbox hV1 hA hbl hgl h1 hm
  show Calls Tryz.prog 93 #[.iface 134 (.pointer (some ⟨b, 0, none⟩)), .int .i64 s] w _
  go_enter Tryz.func93, Tryz.ntmps93
  go_wp2_with fail
  refine (HWH.out _).mono ?_
  rintro e w' ⟨rfl, rfl⟩
  go_wp2_with fail
  with_reducible refine HDF.out.mono ?_
  intro e w5 hret
  obtain ⟨e6, ⟨v1, v2⟩, hpost⟩ := HEND.out e w5 hret
  subst e6
  have HP := Lib.hid hpost
  clear hret hpost
  go_wp2_with fail
  go_end0
  exact ⟨rfl, HP.out⟩
end Go.Proofs.YtneammhkgmkkfaaGreat.tr
