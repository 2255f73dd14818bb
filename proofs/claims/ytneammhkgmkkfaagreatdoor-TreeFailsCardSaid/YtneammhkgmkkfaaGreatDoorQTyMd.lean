/- A part of the proof. -/
import Derived.Test.YtneammhkgmkkfaaGreatDoorQTyE
import Derived.Test.YtneammhkgmkkfaaGreatDoorQTyMa
namespace Go.Proofs.YtneammhkgmkkfaaGreatDoor.tr
open Go.RowKit Go.Proofs.YtneammhkgmkkfaaGreatDoor.er
set_option linter.unusedVariables false
set_option linter.unusedSimpArgs false
theorem extCells_take : ∀ (l : List Ext) (k : Nat),(extCells l).take (k * 4) = extCells (l.take k)
  | [],k => by simp [extCells]
  | e :: l,0 => by simp [extCells]
  | e :: l,k + 1 => by
    have ih := extCells_take l k
    have e1 : extCells (e :: l) = .int .i64 e.fr :: .int .i64 e.n :: .int .i64 e.kind :: .int .i64 e.at_ :: extCells l := by simp [extCells,Ext.cells]
    have e2 : extCells ((e :: l).take (k + 1)) = .int .i64 e.fr :: .int .i64 e.n :: .int .i64 e.kind :: .int .i64 e.at_ :: extCells (l.take k) := by simp [extCells,Ext.cells]
    rw [e1,e2,show (k + 1) * 4 = k * 4 + 4 by omega,← ih]
    rfl
theorem extCells_drop (l : List Ext) (k : Nat) : (extCells l).drop (k * 4) = extCells (l.drop k) := by
  have h : extCells l = extCells (l.take k) ++ extCells (l.drop k) := by rw [← extCells_append,List.take_append_drop]
  have ht := extCells_take l k
  have h2 := List.take_append_drop (k * 4) (extCells l)
  rw [ht] at h2
  conv at h2 => rhs; rw [h]
  exact List.append_cancel_left h2
theorem extCells_one (l : List Ext) : ∀ u ∈ extCells l,u.oneCell' = true := by
  intro u hu
  simp only [extCells,List.mem_flatMap,Ext.cells] at hu
  obtain ⟨e,_,hu⟩ := hu
  simp at hu
  rcases hu with rfl | rfl | rfl | rfl <;> rfl
def LfAt (w : World) (b g c : Nat) (a : Int) (l : List Ext) : Prop := Whole w b 119 #[.int .i64 a,.slice (some ⟨g,0,none⟩) l.length c] ∧ Row w g c 4 59 (extCells l)
abbrev Kd (h : Nat) := List Nat × Value × Nd h
def dsF {h : Nat} (ds : List (Kd h)) : List Nat := ds.flatMap fun d => d.1
def InAt (w : World) {h : Nat} (b g c : Nat) (a : Int) (ds : List (Kd h)) : Prop := Whole w b 97 #[.int .i64 a,.slice (some ⟨g,0,none⟩) ds.length c] ∧ Row w g c 1 62 (ds.map fun d => d.2.1) ∧ ∀ d ∈ ds,NdAt w d.1 d.2.1 d.2.2
def ptrV (h b : Nat) : Value := .iface (ndT h) (.pointer (some ⟨b,0,none⟩))
theorem leaf_at {w : World} {b g c : Nat} {a : Int} {l : List Ext} (h : LfAt w b g c a l) : NdAt w [b,g] (ptrV 0 b) (mkL a l) := ⟨b,g,c,rfl,rfl,h.1,h.2⟩
theorem inner_at {w : World} {h b g c : Nat} {a : Int} {ds : List (Kd h)} (hh : InAt w b g c a ds) : NdAt w (b :: g :: dsF ds) (ptrV (h + 1) b) (mkI a (ds.map fun d => d.2.2)) :=
  ⟨b,g,c,ds,rfl,rfl,by have := hh.1; simpa [mkI,Nd.ks,Nd.at_] using this,rfl,hh.2.1,hh.2.2⟩
theorem leaf_open {w : World} {F : List Nat} {v : Value} {n : Nd 0} (h : NdAt w F v n) : ∃ b g c,F = [b,g] ∧ v = ptrV 0 b ∧ LfAt w b g c n.at_ n.l := by
  obtain ⟨b,g,c,h1,h2,h3,h4⟩ := h
  exact ⟨b,g,c,h1,h2,h3,h4⟩
theorem inner_open {w : World} {h : Nat} {F : List Nat} {v : Value} {n : Nd (h + 1)} (hh : NdAt w F v n) : ∃ b g c,∃ ds : List (Kd h),F = b :: g :: dsF ds ∧ v = ptrV (h + 1) b ∧ InAt w b g c n.at_ ds ∧ n.ks = ds.map fun d => d.2.2 := by
  obtain ⟨b,g,c,ds,h1,h2,h3,h4,h5,h6⟩ := hh
  refine ⟨b,g,c,ds,h1,h2,⟨?_,h5,h6⟩,h4⟩
  rw [h4,List.length_map] at h3
  exact h3
theorem LfAt.keep {G : Nat → Prop} {w w' : World} {b g c : Nat} {a : Int} {l : List Ext} (h : LfAt w b g c a l) (hk : Keep G w w') (h1 : ¬ G b) (h2 : ¬ G g) : LfAt w' b g c a l := ⟨h.1.keep hk h1,h.2.keep hk h2⟩
theorem dsF_append {h : Nat} (p q : List (Kd h)) : dsF (p ++ q) = dsF p ++ dsF q := by simp [dsF]
theorem dsF_cons {h : Nat} (d : Kd h) (q : List (Kd h)) : dsF (d :: q) = d.1 ++ dsF q := by simp [dsF]
theorem mem_dsF {h : Nat} {ds : List (Kd h)} {d : Kd h} {k : Nat} (hd : d ∈ ds) (hk : k ∈ d.1) : k ∈ dsF ds := List.mem_flatMap.2 ⟨d,hd,hk⟩
theorem kids_keep {G : Nat → Prop} {w w' : World} {h : Nat} {ds : List (Kd h)} (hk : Keep G w w') (hd : ∀ d ∈ ds,NdAt w d.1 d.2.1 d.2.2) (hG : ∀ k ∈ dsF ds,¬ G k) : ∀ d ∈ ds,NdAt w' d.1 d.2.1 d.2.2 :=
  fun d hm => (hd d hm).keep hk (fun k hkm => hG k (mem_dsF hm hkm))
theorem kids_lt {w : World} {h : Nat} {ds : List (Kd h)} (hd : ∀ d ∈ ds,NdAt w d.1 d.2.1 d.2.2) : ∀ k ∈ dsF ds,k < w.heap.size := by
  intro k hk
  obtain ⟨d,hm,hkm⟩ := List.mem_flatMap.1 hk
  exact (hd d hm).lt k hkm
theorem kids_one {w : World} {h : Nat} {ds : List (Kd h)} (hd : ∀ d ∈ ds,NdAt w d.1 d.2.1 d.2.2) : ∀ u ∈ ds.map (fun d => d.2.1),u.oneCell' = true := by
  intro u hu
  obtain ⟨d,hm,rfl⟩ := List.mem_map.1 hu
  obtain ⟨b,F',_,h2⟩ := (hd d hm).form
  rw [h2]; rfl
def ShiftPost {h : Nat} (w : World) (F : Nat → Prop) (v1 v2 : Value) (x' y' : Nd h) (some : Prop) (w' : World) : Prop :=
  ∃ G1 G2,NdIn w' G1 v1 x' ∧ (some → NdIn w' G2 v2 y') ∧ (∀ k ∈ G1,k ∉ G2) ∧ Mv F w (fun k => k ∈ G1 ∨ k ∈ G2) w'
theorem shift_leaf_end {w w2 w5 w6 : World} {b1 g1 c1 b2 g2 c2 : Nat} {K : Nat} {l1 l2 : List Ext} {v1 v2 : Value} {q1 q2 : Value}
    (hW1 : Whole w2 b1 119 #[.int .i64 (-1),q1]) (hW2 : Whole w2 b2 119 #[.int .i64 (-1),q2]) (hk2 : Keep (fun k => k = b1 ∨ k = b2) w w2) (hb : b1 ≠ b2)
    (hb5 : Below w2.heap.size w2 w5) (ho1 : w5.ownsRow w2.heap.size 59 4 v1 K ((extCells l1 ++ extCells l2).take (K * 4))) (ho2 : w5.ownsRow w2.heap.size 59 4 v2 (l1.length + l2.length - K) ((extCells l1 ++ extCells l2).drop (K * 4)))
    (hne : ∀ g,v1.ownBlock = some g → v2.ownBlock ≠ some g) (hK0 : 0 < K) (hK : K ≤ l1.length + l2.length)
    (h6 : w6 = (w5.setCell ⟨b1,1,none⟩ v1).setCell ⟨b2,1,none⟩ v2 ∨ w6 = (w5.setCell ⟨b2,1,none⟩ v2).setCell ⟨b1,1,none⟩ v1) :
    ShiftPost w (fun k => k ∈ [b1,g1] ∨ k ∈ [b2,g2]) (ptrV 0 b1) (ptrV 0 b2) (mkL (-1) ((l1 ++ l2).take K)) (mkL (-1) ((l1 ++ l2).drop K)) (K < l1.length + l2.length) w6 := by
  rw [← extCells_append] at ho1 ho2
  rw [extCells_take] at ho1
  rw [extCells_drop] at ho2
  obtain ⟨n1,d1,rfl,hr1,hn1⟩ := Row.own ho1 hK0
  have hV1 : Whole w5 b1 119 #[.int .i64 (-1),q1] := hW1.below hb5 hW1.lt
  have hV2 : Whole w5 b2 119 #[.int .i64 (-1),q2] := hW2.below hb5 hW2.lt
  have hs2 := hk2.size
  have l1' := hW1.lt
  have l2' := hW2.lt
  have hk5 : Keep (fun k => k = b1 ∨ k = b2) w w5 := hk2.transBelow hb5
  have key : Whole w6 b1 119 #[.int .i64 (-1),.slice (some ⟨n1,0,none⟩) K d1] ∧ Whole w6 b2 119 #[.int .i64 (-1),v2] ∧ Keep (fun k => k = b1 ∨ k = b2) w5 w6 := by
    rcases h6 with rfl | rfl
    · refine ⟨?_,?_,?_⟩
      · simpa using (hV1.set 1 _).far (p := ⟨b2,1,none⟩) (by exact hb) v2
      · simpa using (hV2.far (p := ⟨b1,1,none⟩) (by exact hb.symm) _).set 1 v2
      · exact ((Keep.refl _ _).setCell (p := ⟨b1,1,none⟩) (.inl (.inl rfl)) _).setCell (p := ⟨b2,1,none⟩) (.inl (.inr rfl)) _
    · refine ⟨?_,?_,?_⟩
      · simpa using (hV1.far (p := ⟨b2,1,none⟩) (by exact hb) _).set 1 _
      · simpa using (hV2.set 1 _).far (p := ⟨b1,1,none⟩) (by exact hb.symm) _
      · exact ((Keep.refl _ _).setCell (p := ⟨b2,1,none⟩) (.inl (.inr rfl)) _).setCell (p := ⟨b1,1,none⟩) (.inl (.inl rfl)) _
  obtain ⟨k1,k2,k3⟩ := key
  have hl1 : ((l1 ++ l2).take K).length = K := by rw [List.length_take,List.length_append]; omega
  have hl2 : ((l1 ++ l2).drop K).length = l1.length + l2.length - K := by rw [List.length_drop,List.length_append]
  have hr1' := hr1.keep k3 (by omega)
  have hmv : Keep (fun k => k ∈ [b1,g1] ∨ k ∈ [b2,g2]) w w6 := (hk5.trans k3 (fun k hk => .inl hk)).mono (fun k _ hk => by simp; omega)
  have hA : NdIn w6 [b1,n1] (ptrV 0 b1) (mkL (-1) ((l1 ++ l2).take K)) := ⟨leaf_at ⟨by rw [hl1]; exact k1,hr1'⟩,by simp; omega⟩
  rcases Nat.eq_or_lt_of_le hK with he | hlt
  · exact ⟨[b1,n1],[],hA,fun h => by omega,fun k _ hk => by simp at hk,hmv,fun k hk => by simp at hk ⊢; omega⟩
  · obtain ⟨n2,d2,rfl,hr2,hn2⟩ := Row.own ho2 (by omega)
    have hr2' := hr2.keep k3 (by omega)
    have hnn : n1 ≠ n2 := fun e => hne n1 rfl (by rw [e]; rfl)
    refine ⟨[b1,n1],[b2,n2],hA,fun _ => ⟨leaf_at ⟨by rw [hl2]; exact k2,hr2'⟩,by simp; omega⟩,fun k hk hk2 => ?_,hmv,fun k hk => ?_⟩
    · simp at hk hk2; omega
    · simp at hk ⊢; omega
theorem ta_ll (p : Option Addr) (w : World) : (Instr.typeAssert (.iface 117 (.pointer p)) 62 117 true).run Tryz.prog w = .ok (.tuple #[.pointer p,.bool true]) w := by kernel_rfl
theorem ta_ii (p : Option Addr) (w : World) : (Instr.typeAssert (.iface 94 (.pointer p)) 62 94 true).run Tryz.prog w = .ok (.tuple #[.pointer p,.bool true]) w := by kernel_rfl
theorem ta_li (p : Option Addr) (w : World) : (Instr.typeAssert (.iface 117 (.pointer p)) 62 94 true).run Tryz.prog w = .ok (.tuple #[.pointer none,.bool false]) w := by kernel_rfl
theorem ta_il (p : Option Addr) (w : World) : (Instr.typeAssert (.iface 94 (.pointer p)) 62 117 true).run Tryz.prog w = .ok (.tuple #[.pointer none,.bool false]) w := by kernel_rfl
end Go.Proofs.YtneammhkgmkkfaaGreatDoor.tr
namespace Go.Proofs.YtneammhkgmkkfaaGreatDoor.tr
open Go.RowKit Go.Proofs.YtneammhkgmkkfaaGreatDoor.er
set_option linter.unusedVariables false
set_option linter.unusedSimpArgs false
set_option maxHeartbeats 4000000 in
set_option maxRecDepth 100000 in
theorem shift_leaf (w : World) (b1 g1 c1 b2 g2 c2 K : Nat) (a1 a2 : Int) (l1 l2 : List Ext) (h1 : LfAt w b1 g1 c1 a1 l1) (h2 : LfAt w b2 g2 c2 a2 l2) (hb : b1 ≠ b2) (hg1 : g1 ≠ b1 ∧ g1 ≠ b2) (hg2 : g2 ≠ b1 ∧ g2 ≠ b2) (hK0 : 0 < K) (hK : K ≤ l1.length + l2.length) (hm : l1.length + l2.length ≤ 1000) :
    Calls Tryz.prog 149 #[ptrV 0 b1,ptrV 0 b2,.int .i64 K] w fun e w' => e = .returned (.tuple #[]) ∧ ShiftPost w (fun k => k ∈ [b1,g1] ∨ k ∈ [b2,g2]) (ptrV 0 b1) (ptrV 0 b2) (mkL (-1) ((l1 ++ l2).take K)) (mkL (-1) ((l1 ++ l2).drop K)) (K < l1.length + l2.length) w' := by
  have x10 := h1.1.cell 0
  have x11 := h1.1.cell 1
  have x20 := h2.1.cell 0
  have x21 := h2.1.cell 1
  simp at x10 x11 x20 x21
  have z10 := h1.1.fz 0
  have z20 := h2.1.fz 0
  have hb' : b2 ≠ b1 := hb.symm
  have hme1 := meWh (.pointer (some ⟨b1,0,none⟩)) w 0
  have hme2 := meWh (.pointer (some ⟨b2,0,none⟩)) w 0
  have hen1 := enWh #[.pointer (some ⟨b1,0,none⟩)] w 0
  have hen2 := enWh #[.pointer (some ⟨b2,0,none⟩)] w 0
  simp only [ndT,whF] at hme1 hme2 hen1 hen2
  have hta := ta_ll
  have htb := ta_li
  have HWH := Lib.hid (fun b => where_any w b 0)
  obtain ⟨w2,hw2⟩ : ∃ w2,(w.setCell ⟨b1,0,none⟩ (.int .i64 (-1))).setCell ⟨b2,0,none⟩ (.int .i64 (-1)) = w2 := ⟨_,rfl⟩
  have HX1 : Hid (Whole w2 b1 119 #[.int .i64 (-1),.slice (some ⟨g1,0,none⟩) l1.length c1]) := by
    show Whole _ _ _ _
    rw [← hw2]
    have := (h1.1.set 0 (.int .i64 (-1))).far (p := ⟨b2,0,none⟩) hb (.int .i64 (-1))
    simpa using this
  have HX2 : Hid (Whole w2 b2 119 #[.int .i64 (-1),.slice (some ⟨g2,0,none⟩) l2.length c2]) := by
    show Whole _ _ _ _
    rw [← hw2]
    have := (h2.1.far (p := ⟨b1,0,none⟩) hb' (.int .i64 (-1))).set 0 (.int .i64 (-1))
    simpa using this
  have HK2 : Hid (Keep (fun k => k = b1 ∨ k = b2) w w2) := by
    rw [← hw2]
    exact ((Keep.refl _ _).setCell (p := ⟨b1,0,none⟩) (.inl (.inl rfl)) _).setCell (p := ⟨b2,0,none⟩) (.inl (.inr rfl)) _
  have hr1 := h1.2.keep HK2.out (by omega)
  have hr2 := h2.2.keep HK2.out (by omega)
  have HCUT : Hid (∀ wq,Below w2.heap.size w2 wq → Calls Tryz.prog 161 #[.slice (some ⟨g1,0,none⟩) l1.length c1,.slice (some ⟨g2,0,none⟩) l2.length c2,.int .i64 K] wq fun e w' => ∃ v1 v2,e = .returned (.tuple #[v1,v2]) ∧ w'.ownsRow w2.heap.size 59 4 v1 K ((extCells l1 ++ extCells l2).take (K * 4)) ∧ w'.ownsRow w2.heap.size 59 4 v2 (l1.length + l2.length - K) ((extCells l1 ++ extCells l2).drop (K * 4)) ∧ (∀ g,v1.ownBlock = some g → v2.ownBlock ≠ some g) ∧ Below w2.heap.size w2 w') := fun wq hbq =>
    (cutE l1.length l2.length K _ _ _ _ wq (SlAt.row (hr1.below hbq) (extCells_len l1)) (SlAt.row (hr2.below hbq) (extCells_len l2)) hK (by omega) hm (fun u hu => by rcases List.mem_append.1 hu with h | h <;> exact extCells_one _ u h)).mono fun e w' ⟨v1,v2,q1,q2,q3,q4,q5⟩ => ⟨v1,v2,q1,own_base q2 hbq.size,own_base q3 hbq.size,q4,bel_tr hbq q5⟩
  obtain ⟨m1,hm1⟩ : ∃ m,l1.length = m := ⟨_,rfl⟩
  obtain ⟨m2,hm2⟩ : ∃ m,l2.length = m := ⟨_,rfl⟩
  have HEND : Hid (∀ w5 w6 v1 v2,Below w2.heap.size w2 w5 → w5.ownsRow w2.heap.size 59 4 v1 K ((extCells l1 ++ extCells l2).take (K * 4)) → w5.ownsRow w2.heap.size 59 4 v2 (m1 + m2 - K) ((extCells l1 ++ extCells l2).drop (K * 4)) → (∀ g,v1.ownBlock = some g → v2.ownBlock ≠ some g) → (w6 = (w5.setCell ⟨b1,1,none⟩ v1).setCell ⟨b2,1,none⟩ v2 ∨ w6 = (w5.setCell ⟨b2,1,none⟩ v2).setCell ⟨b1,1,none⟩ v1) →
      ShiftPost w (fun k => k ∈ [b1,g1] ∨ k ∈ [b2,g2]) (ptrV 0 b1) (ptrV 0 b2) (mkL (-1) ((l1 ++ l2).take K)) (mkL (-1) ((l1 ++ l2).drop K)) (K < m1 + m2) w6) := by
    intro w5 w6 v1 v2 q1 q2 q3 q4 q5
    rw [← hm1,← hm2] at q3 ⊢
    exact shift_leaf_end (c1 := c1) (c2 := c2) HX1.out HX2.out HK2.out hb q1 q2 q3 q4 hK0 hK q5
  rw [hm1,hm2] at HCUT ⊢
  rw [hm1] at x11 HX1
  rw [hm2] at x21 HX2
  obtain ⟨C1,hC1⟩ : ∃ C,(extCells l1 ++ extCells l2).take (K * 4) = C := ⟨_,rfl⟩
  obtain ⟨C2,hC2⟩ : ∃ C,(extCells l1 ++ extCells l2).drop (K * 4) = C := ⟨_,rfl⟩
  rw [hC1,hC2] at HCUT HEND
  obtain ⟨L1,hL1⟩ : ∃ L,(l1 ++ l2).take K = L := ⟨_,rfl⟩
  obtain ⟨L2,hL2⟩ : ∃ L,(l1 ++ l2).drop K = L := ⟨_,rfl⟩
  rw [hL1,hL2] at HEND ⊢
  obtain ⟨⟨y10,y11⟩,f1⟩ : (w2.cell? ⟨b1,0,none⟩ = some (.int .i64 (-1)) ∧ w2.cell? ⟨b1,1,none⟩ = some (.slice (some ⟨g1,0,none⟩) m1 c1)) ∧ w2.frozen? ⟨b1,1,none⟩ = false := ⟨⟨HX1.out.cell 0,HX1.out.cell 1⟩,HX1.out.fz 1⟩
  obtain ⟨⟨y20,y21⟩,f2⟩ : (w2.cell? ⟨b2,0,none⟩ = some (.int .i64 (-1)) ∧ w2.cell? ⟨b2,1,none⟩ = some (.slice (some ⟨g2,0,none⟩) m2 c2)) ∧ w2.frozen? ⟨b2,1,none⟩ = false := ⟨⟨HX2.out.cell 0,HX2.out.cell 1⟩,HX2.out.fz 1⟩
  have HF5 : Hid (∀ w5,Below w2.heap.size w2 w5 → (w5.cell? ⟨b1,1,none⟩ = some (.slice (some ⟨g1,0,none⟩) m1 c1) ∧ w5.frozen? ⟨b1,1,none⟩ = false) ∧ w5.cell? ⟨b2,1,none⟩ = some (.slice (some ⟨g2,0,none⟩) m2 c2) ∧ w5.frozen? ⟨b2,1,none⟩ = false) := fun w5 hbb =>
    ⟨⟨below_c hbb (HX1.out.cell 1),below_f hbb (HX1.out.cell 1) (HX1.out.fz 1)⟩,below_c hbb (HX2.out.cell 1),below_f hbb (HX2.out.cell 1) (HX2.out.fz 1)⟩
  clear hC1 hC2 hL1 hL2 hm1 hm2 hr1 hr2 h1 h2 hK hm hg1 hg2
  show Calls Tryz.prog 149 #[.iface 117 (.pointer (some ⟨b1,0,none⟩)),.iface 117 (.pointer (some ⟨b2,0,none⟩)),.int .i64 K] w _
  go_enter Tryz.func149,Tryz.ntmps149
  go_wp2_with fail
  refine (HWH.out b1).mono ?_
  rintro e w' ⟨rfl,rfl⟩
  go_wp2_with fail
  refine (HWH.out b2).mono ?_
  rintro e w' ⟨rfl,rfl⟩
  go_wp2_with fail
  go_region_law (go_simp; go_at_call 161; refine (HCUT.out _ (Below.drew (Below.refl _ _))).mono ?_; rintro e w5 ⟨v1,v2,rfl,ho1,ho2,hne,hb5⟩; obtain ⟨⟨r1,s1⟩,r2,s2⟩ := HF5.out _ hb5; obtain ⟨A1,d1,e1⟩ := own_slice ho1; subst e1; obtain ⟨A2,d2,e2⟩ := own_slice ho2; subst e2; have HO1 := Lib.hid ho1; have HO2 := Lib.hid ho2; have HNE := Lib.hid hne; have HB5 := Lib.hid hb5; clear ho1 ho2 hne hb5)
  all_goals go_wp2_with fail
  all_goals go_end0
  all_goals refine ⟨rfl,HEND.out w5 _ _ _ HB5.out HO1.out HO2.out HNE.out ?_⟩
  all_goals first | exact .inl rfl | exact .inr rfl
end Go.Proofs.YtneammhkgmkkfaaGreatDoor.tr
namespace Go.Proofs.YtneammhkgmkkfaaGreatDoor.tr
open Go.RowKit Go.Proofs.YtneammhkgmkkfaaGreatDoor.er
set_option linter.unusedVariables false
set_option linter.unusedSimpArgs false
theorem nodup_take {h : Nat} {ds : List (Kd h)} (hn : (dsF ds).Nodup) (K : Nat) : (dsF (ds.take K)).Nodup ∧ (dsF (ds.drop K)).Nodup ∧ ∀ k ∈ dsF (ds.take K),k ∉ dsF (ds.drop K) := by
  have : dsF ds = dsF (ds.take K) ++ dsF (ds.drop K) := by rw [← dsF_append,List.take_append_drop]
  rw [this] at hn
  have h := List.nodup_append.1 hn
  exact ⟨h.1,h.2.1,fun k h1 h2 => h.2.2 k h1 k h2 rfl⟩
theorem mem_dsF_take {h : Nat} {ds : List (Kd h)} {K k : Nat} (hk : k ∈ dsF (ds.take K)) : k ∈ dsF ds := by
  obtain ⟨d,hd,hm⟩ := List.mem_flatMap.1 hk
  exact mem_dsF (List.mem_of_mem_take hd) hm
theorem mem_dsF_drop {h : Nat} {ds : List (Kd h)} {K k : Nat} (hk : k ∈ dsF (ds.drop K)) : k ∈ dsF ds := by
  obtain ⟨d,hd,hm⟩ := List.mem_flatMap.1 hk
  exact mem_dsF (List.mem_of_mem_drop hd) hm
theorem shift_inner_end {w w2 w5 w6 : World} {h b1 g1 c1 b2 g2 c2 : Nat} {K : Nat} {l1 l2 : List (Kd h)} {v1 v2 : Value} {q1 q2 : Value}
    (hW1 : Whole w2 b1 97 #[.int .i64 (-1),q1]) (hW2 : Whole w2 b2 97 #[.int .i64 (-1),q2]) (hk2 : Keep (fun k => k = b1 ∨ k = b2) w w2) (hb : b1 ≠ b2)
    (hkd : ∀ d ∈ l1 ++ l2,NdAt w d.1 d.2.1 d.2.2) (hnd : (dsF (l1 ++ l2)).Nodup) (hbd : b1 ∉ dsF (l1 ++ l2) ∧ b2 ∉ dsF (l1 ++ l2))
    (hb5 : Below w2.heap.size w2 w5) (ho1 : w5.ownsRow w2.heap.size 62 1 v1 K ((l1.map (fun d => d.2.1) ++ l2.map (fun d => d.2.1)).take (K * 1))) (ho2 : w5.ownsRow w2.heap.size 62 1 v2 (l1.length + l2.length - K) ((l1.map (fun d => d.2.1) ++ l2.map (fun d => d.2.1)).drop (K * 1)))
    (hne : ∀ g,v1.ownBlock = some g → v2.ownBlock ≠ some g) (hK0 : 0 < K) (hK : K ≤ l1.length + l2.length)
    (h6 : w6 = (w5.setCell ⟨b1,1,none⟩ v1).setCell ⟨b2,1,none⟩ v2 ∨ w6 = (w5.setCell ⟨b2,1,none⟩ v2).setCell ⟨b1,1,none⟩ v1) :
    ShiftPost w (fun k => k ∈ b1 :: g1 :: dsF l1 ∨ k ∈ b2 :: g2 :: dsF l2) (ptrV (h + 1) b1) (ptrV (h + 1) b2) (mkI (-1) (((l1 ++ l2).take K).map fun d => d.2.2)) (mkI (-1) (((l1 ++ l2).drop K).map fun d => d.2.2)) (K < l1.length + l2.length) w6 := by
  rw [← List.map_append,Nat.mul_one] at ho1 ho2
  rw [← List.map_take] at ho1
  rw [← List.map_drop] at ho2
  obtain ⟨n1,d1,rfl,hr1,hn1⟩ := Row.own ho1 hK0
  have hV1 : Whole w5 b1 97 #[.int .i64 (-1),q1] := hW1.below hb5 hW1.lt
  have hV2 : Whole w5 b2 97 #[.int .i64 (-1),q2] := hW2.below hb5 hW2.lt
  have hs2 := hk2.size
  have l1' := hW1.lt
  have l2' := hW2.lt
  have hk5 : Keep (fun k => k = b1 ∨ k = b2) w w5 := hk2.transBelow hb5
  have hlt := kids_lt hkd
  have key : Whole w6 b1 97 #[.int .i64 (-1),.slice (some ⟨n1,0,none⟩) K d1] ∧ Whole w6 b2 97 #[.int .i64 (-1),v2] ∧ Keep (fun k => k = b1 ∨ k = b2) w5 w6 := by
    rcases h6 with rfl | rfl
    · refine ⟨?_,?_,?_⟩
      · simpa using (hV1.set 1 _).far (p := ⟨b2,1,none⟩) (by exact hb) v2
      · simpa using (hV2.far (p := ⟨b1,1,none⟩) (by exact hb.symm) _).set 1 v2
      · exact ((Keep.refl _ _).setCell (p := ⟨b1,1,none⟩) (.inl (.inl rfl)) _).setCell (p := ⟨b2,1,none⟩) (.inl (.inr rfl)) _
    · refine ⟨?_,?_,?_⟩
      · simpa using (hV1.far (p := ⟨b2,1,none⟩) (by exact hb) _).set 1 _
      · simpa using (hV2.set 1 _).far (p := ⟨b1,1,none⟩) (by exact hb.symm) _
      · exact ((Keep.refl _ _).setCell (p := ⟨b2,1,none⟩) (.inl (.inr rfl)) _).setCell (p := ⟨b1,1,none⟩) (.inl (.inl rfl)) _
  obtain ⟨k1,k2,k3⟩ := key
  have hl1 : ((l1 ++ l2).take K).length = K := by rw [List.length_take,List.length_append]; omega
  have hl2 : ((l1 ++ l2).drop K).length = l1.length + l2.length - K := by rw [List.length_drop,List.length_append]
  have hr1' := hr1.keep k3 (by omega)
  have hk6 : Keep (fun k => k = b1 ∨ k = b2) w w6 := hk5.trans k3 (fun k hk => .inl hk)
  have hkids : ∀ d ∈ l1 ++ l2,NdAt w6 d.1 d.2.1 d.2.2 := kids_keep hk6 hkd (fun k hk e => by rcases e with rfl | rfl; exact hbd.1 hk; exact hbd.2 hk)
  have hmv : Keep (fun k => k ∈ b1 :: g1 :: dsF l1 ∨ k ∈ b2 :: g2 :: dsF l2) w w6 := hk6.mono (fun k _ hk => by simp only [List.mem_cons]; omega)
  obtain ⟨nt,nd,nx⟩ := nodup_take hnd K
  have hA : NdIn w6 (b1 :: n1 :: dsF ((l1 ++ l2).take K)) (ptrV (h + 1) b1) (mkI (-1) (((l1 ++ l2).take K).map fun d => d.2.2)) := by
    refine ⟨inner_at ⟨by rw [hl1]; exact k1,hr1',fun d hd => hkids d (List.mem_of_mem_take hd)⟩,?_⟩
    refine List.nodup_cons.2 ⟨fun hm => ?_,List.nodup_cons.2 ⟨fun hm => ?_,nt⟩⟩
    · rcases List.mem_cons.1 hm with h | h
      · omega
      · exact hbd.1 (mem_dsF_take h)
    · have := hlt n1 (mem_dsF_take hm); omega
  have hsub : ∀ k,k ∈ dsF (l1 ++ l2) → k ∈ b1 :: g1 :: dsF l1 ∨ k ∈ b2 :: g2 :: dsF l2 := fun k hk => by
    rw [dsF_append] at hk
    rcases List.mem_append.1 hk with h | h
    · exact .inl (by simp [h])
    · exact .inr (by simp [h])
  rcases Nat.eq_or_lt_of_le hK with he | hlt'
  · refine ⟨_,[],hA,fun h => by omega,fun k hk hk2 => by simp at hk2,hmv,fun k hk => ?_⟩
    rcases hk with hk | hk
    · rcases List.mem_cons.1 hk with rfl | hk
      · exact .inl (.inl (by simp))
      · rcases List.mem_cons.1 hk with rfl | hk
        · exact .inr (by omega)
        · exact .inl (hsub k (mem_dsF_take hk))
    · simp at hk
  · obtain ⟨n2,d2,rfl,hr2,hn2⟩ := Row.own ho2 (by omega)
    have hr2' := hr2.keep k3 (by omega)
    have hnn : n1 ≠ n2 := fun e => hne n1 rfl (by rw [e]; rfl)
    refine ⟨_,b2 :: n2 :: dsF ((l1 ++ l2).drop K),hA,fun _ => ⟨inner_at ⟨by rw [hl2]; exact k2,hr2',fun d hd => hkids d (List.mem_of_mem_drop hd)⟩,?_⟩,fun k hk hkq => ?_,hmv,fun k hk => ?_⟩
    · refine List.nodup_cons.2 ⟨fun hm => ?_,List.nodup_cons.2 ⟨fun hm => ?_,nd⟩⟩
      · rcases List.mem_cons.1 hm with h | h
        · omega
        · exact hbd.2 (mem_dsF_drop h)
      · have := hlt n2 (mem_dsF_drop hm); omega
    · simp only [List.mem_cons] at hk hkq
      rcases hk with rfl | rfl | hk
      · rcases hkq with h | h | h
        · exact hb h
        · omega
        · exact hbd.1 (mem_dsF_drop h)
      · rcases hkq with h | h | h
        · omega
        · omega
        · have := hlt _ (mem_dsF_drop h); omega
      · rcases hkq with rfl | rfl | h
        · exact hbd.2 (mem_dsF_take hk)
        · have := hlt _ (mem_dsF_take hk); omega
        · exact nx k hk h
    · simp only [List.mem_cons] at hk
      rcases hk with (rfl | rfl | hk) | (rfl | rfl | hk)
      · exact .inl (.inl (by simp))
      · exact .inr (by omega)
      · exact .inl (hsub k (mem_dsF_take hk))
      · exact .inl (.inr (by simp))
      · exact .inr (by omega)
      · exact .inl (hsub k (mem_dsF_drop hk))
set_option maxHeartbeats 4000000 in
set_option maxRecDepth 100000 in
theorem shift_inner (w : World) (h b1 g1 c1 b2 g2 c2 K : Nat) (a1 a2 : Int) (l1 l2 : List (Kd h)) (h1 : InAt w b1 g1 c1 a1 l1) (h2 : InAt w b2 g2 c2 a2 l2) (hnd : (dsF (l1 ++ l2)).Nodup) (hbd : b1 ∉ dsF (l1 ++ l2) ∧ b2 ∉ dsF (l1 ++ l2)) (hb : b1 ≠ b2) (hg1 : g1 ≠ b1 ∧ g1 ≠ b2) (hg2 : g2 ≠ b1 ∧ g2 ≠ b2) (hK0 : 0 < K) (hK : K ≤ l1.length + l2.length) (hm : l1.length + l2.length ≤ 1000) :
    Calls Tryz.prog 149 #[ptrV (h + 1) b1,ptrV (h + 1) b2,.int .i64 K] w fun e w' => e = .returned (.tuple #[]) ∧ ShiftPost w (fun k => k ∈ b1 :: g1 :: dsF l1 ∨ k ∈ b2 :: g2 :: dsF l2) (ptrV (h + 1) b1) (ptrV (h + 1) b2) (mkI (-1) (((l1 ++ l2).take K).map fun d => d.2.2)) (mkI (-1) (((l1 ++ l2).drop K).map fun d => d.2.2)) (K < l1.length + l2.length) w' := by
  have x10 := h1.1.cell 0
  have x11 := h1.1.cell 1
  have x20 := h2.1.cell 0
  have x21 := h2.1.cell 1
  simp at x10 x11 x20 x21
  have z10 := h1.1.fz 0
  have z20 := h2.1.fz 0
  have hb' : b2 ≠ b1 := hb.symm
  have hme1 := meWh (.pointer (some ⟨b1,0,none⟩)) w (h + 1)
  have hme2 := meWh (.pointer (some ⟨b2,0,none⟩)) w (h + 1)
  have hen1 := enWh #[.pointer (some ⟨b1,0,none⟩)] w (h + 1)
  have hen2 := enWh #[.pointer (some ⟨b2,0,none⟩)] w (h + 1)
  simp only [ndT,whF] at hme1 hme2 hen1 hen2
  have hta := ta_ii
  have htb := ta_il
  have HWH := Lib.hid (fun b => where_any w b (h + 1))
  obtain ⟨w2,hw2⟩ : ∃ w2,(w.setCell ⟨b1,0,none⟩ (.int .i64 (-1))).setCell ⟨b2,0,none⟩ (.int .i64 (-1)) = w2 := ⟨_,rfl⟩
  have HX1 : Hid (Whole w2 b1 97 #[.int .i64 (-1),.slice (some ⟨g1,0,none⟩) l1.length c1]) := by
    show Whole _ _ _ _
    rw [← hw2]
    have := (h1.1.set 0 (.int .i64 (-1))).far (p := ⟨b2,0,none⟩) hb (.int .i64 (-1))
    simpa using this
  have HX2 : Hid (Whole w2 b2 97 #[.int .i64 (-1),.slice (some ⟨g2,0,none⟩) l2.length c2]) := by
    show Whole _ _ _ _
    rw [← hw2]
    have := (h2.1.far (p := ⟨b1,0,none⟩) hb' (.int .i64 (-1))).set 0 (.int .i64 (-1))
    simpa using this
  have HK2 : Hid (Keep (fun k => k = b1 ∨ k = b2) w w2) := by
    rw [← hw2]
    exact ((Keep.refl _ _).setCell (p := ⟨b1,0,none⟩) (.inl (.inl rfl)) _).setCell (p := ⟨b2,0,none⟩) (.inl (.inr rfl)) _
  have hr1 := h1.2.1.keep HK2.out (by omega)
  have hr2 := h2.2.1.keep HK2.out (by omega)
  have HCUT : Hid (∀ wq,Below w2.heap.size w2 wq → Calls Tryz.prog 162 #[.slice (some ⟨g1,0,none⟩) l1.length c1,.slice (some ⟨g2,0,none⟩) l2.length c2,.int .i64 K] wq fun e w' => ∃ v1 v2,e = .returned (.tuple #[v1,v2]) ∧ w'.ownsRow w2.heap.size 62 1 v1 K ((l1.map (fun d => d.2.1) ++ l2.map (fun d => d.2.1)).take (K * 1)) ∧ w'.ownsRow w2.heap.size 62 1 v2 (l1.length + l2.length - K) ((l1.map (fun d => d.2.1) ++ l2.map (fun d => d.2.1)).drop (K * 1)) ∧ (∀ g,v1.ownBlock = some g → v2.ownBlock ≠ some g) ∧ Below w2.heap.size w2 w') := fun wq hbq =>
    (cutN l1.length l2.length K _ _ _ _ wq (SlAt.row (hr1.below hbq) (by simp)) (SlAt.row (hr2.below hbq) (by simp)) hK (by omega) hm (fun u hu => by rcases List.mem_append.1 hu with h | h; exact kids_one h1.2.2 u h; exact kids_one h2.2.2 u h)).mono fun e w' ⟨v1,v2,q1,q2,q3,q4,q5⟩ => ⟨v1,v2,q1,own_base q2 hbq.size,own_base q3 hbq.size,q4,bel_tr hbq q5⟩
  obtain ⟨m1,hm1⟩ : ∃ m,l1.length = m := ⟨_,rfl⟩
  obtain ⟨m2,hm2⟩ : ∃ m,l2.length = m := ⟨_,rfl⟩
  have hkd : ∀ d ∈ l1 ++ l2,NdAt w d.1 d.2.1 d.2.2 := fun d hd => by rcases List.mem_append.1 hd with h | h; exact h1.2.2 d h; exact h2.2.2 d h
  have HEND : Hid (∀ w5 w6 v1 v2,Below w2.heap.size w2 w5 → w5.ownsRow w2.heap.size 62 1 v1 K ((l1.map (fun d => d.2.1) ++ l2.map (fun d => d.2.1)).take (K * 1)) → w5.ownsRow w2.heap.size 62 1 v2 (m1 + m2 - K) ((l1.map (fun d => d.2.1) ++ l2.map (fun d => d.2.1)).drop (K * 1)) → (∀ g,v1.ownBlock = some g → v2.ownBlock ≠ some g) → (w6 = (w5.setCell ⟨b1,1,none⟩ v1).setCell ⟨b2,1,none⟩ v2 ∨ w6 = (w5.setCell ⟨b2,1,none⟩ v2).setCell ⟨b1,1,none⟩ v1) →
      ShiftPost w (fun k => k ∈ b1 :: g1 :: dsF l1 ∨ k ∈ b2 :: g2 :: dsF l2) (ptrV (h + 1) b1) (ptrV (h + 1) b2) (mkI (-1) (((l1 ++ l2).take K).map fun d => d.2.2)) (mkI (-1) (((l1 ++ l2).drop K).map fun d => d.2.2)) (K < m1 + m2) w6) := by
    intro w5 w6 v1 v2 q1 q2 q3 q4 q5
    rw [← hm1,← hm2] at q3 ⊢
    exact shift_inner_end (c1 := c1) (c2 := c2) HX1.out HX2.out HK2.out hb hkd hnd hbd q1 q2 q3 q4 hK0 hK q5
  rw [hm1,hm2] at HCUT ⊢
  rw [hm1] at x11 HX1
  rw [hm2] at x21 HX2
  obtain ⟨C1,hC1⟩ : ∃ C,(l1.map (fun d => d.2.1) ++ l2.map (fun d => d.2.1)).take (K * 1) = C := ⟨_,rfl⟩
  obtain ⟨C2,hC2⟩ : ∃ C,(l1.map (fun d => d.2.1) ++ l2.map (fun d => d.2.1)).drop (K * 1) = C := ⟨_,rfl⟩
  rw [hC1,hC2] at HCUT HEND
  obtain ⟨L1,hL1⟩ : ∃ L,((l1 ++ l2).take K).map (fun d => d.2.2) = L := ⟨_,rfl⟩
  obtain ⟨L2,hL2⟩ : ∃ L,((l1 ++ l2).drop K).map (fun d => d.2.2) = L := ⟨_,rfl⟩
  obtain ⟨D1,hD1⟩ : ∃ D,dsF l1 = D := ⟨_,rfl⟩
  obtain ⟨D2,hD2⟩ : ∃ D,dsF l2 = D := ⟨_,rfl⟩
  rw [hD1,hD2] at HEND ⊢
  rw [hL1,hL2] at HEND ⊢
  obtain ⟨⟨y10,y11⟩,f1⟩ : (w2.cell? ⟨b1,0,none⟩ = some (.int .i64 (-1)) ∧ w2.cell? ⟨b1,1,none⟩ = some (.slice (some ⟨g1,0,none⟩) m1 c1)) ∧ w2.frozen? ⟨b1,1,none⟩ = false := ⟨⟨HX1.out.cell 0,HX1.out.cell 1⟩,HX1.out.fz 1⟩
  obtain ⟨⟨y20,y21⟩,f2⟩ : (w2.cell? ⟨b2,0,none⟩ = some (.int .i64 (-1)) ∧ w2.cell? ⟨b2,1,none⟩ = some (.slice (some ⟨g2,0,none⟩) m2 c2)) ∧ w2.frozen? ⟨b2,1,none⟩ = false := ⟨⟨HX2.out.cell 0,HX2.out.cell 1⟩,HX2.out.fz 1⟩
  have HF5 : Hid (∀ w5,Below w2.heap.size w2 w5 → (w5.cell? ⟨b1,1,none⟩ = some (.slice (some ⟨g1,0,none⟩) m1 c1) ∧ w5.frozen? ⟨b1,1,none⟩ = false) ∧ w5.cell? ⟨b2,1,none⟩ = some (.slice (some ⟨g2,0,none⟩) m2 c2) ∧ w5.frozen? ⟨b2,1,none⟩ = false) := fun w5 hbb =>
    ⟨⟨below_c hbb (HX1.out.cell 1),below_f hbb (HX1.out.cell 1) (HX1.out.fz 1)⟩,below_c hbb (HX2.out.cell 1),below_f hbb (HX2.out.cell 1) (HX2.out.fz 1)⟩
  clear hD1 hD2 hkd hnd hbd hC1 hC2 hL1 hL2 hm1 hm2 hr1 hr2 h1 h2 hK hm hg1 hg2
  show Calls Tryz.prog 149 #[.iface 94 (.pointer (some ⟨b1,0,none⟩)),.iface 94 (.pointer (some ⟨b2,0,none⟩)),.int .i64 K] w _
  go_enter Tryz.func149,Tryz.ntmps149
  go_wp2_with fail
  refine (HWH.out b1).mono ?_
  rintro e w' ⟨rfl,rfl⟩
  go_wp2_with fail
  refine (HWH.out b2).mono ?_
  rintro e w' ⟨rfl,rfl⟩
  go_wp2_with fail
  go_region_law (go_simp; go_at_call 162; refine (HCUT.out _ (Below.drew (Below.refl _ _))).mono ?_; rintro e w5 ⟨v1,v2,rfl,ho1,ho2,hne,hb5⟩; obtain ⟨⟨r1,s1⟩,r2,s2⟩ := HF5.out _ hb5; obtain ⟨A1,d1,e1⟩ := own_slice ho1; subst e1; obtain ⟨A2,d2,e2⟩ := own_slice ho2; subst e2; have HO1 := Lib.hid ho1; have HO2 := Lib.hid ho2; have HNE := Lib.hid hne; have HB5 := Lib.hid hb5; clear ho1 ho2 hne hb5)
  all_goals go_wp2_with fail
  all_goals go_end0
  all_goals refine ⟨rfl,HEND.out w5 _ _ _ HB5.out HO1.out HO2.out HNE.out ?_⟩
  all_goals first | exact .inl rfl | exact .inr rfl
end Go.Proofs.YtneammhkgmkkfaaGreatDoor.tr
