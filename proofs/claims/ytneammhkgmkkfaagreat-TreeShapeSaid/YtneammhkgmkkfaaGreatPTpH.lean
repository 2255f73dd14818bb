/- A part of the proof. -/
import Derived.Test.YtneammhkgmkkfaaGreatPTpG
namespace Go.Proofs.YtneammhkgmkkfaaGreat.tr
open Go.RowKit Go.Proofs.YtneammhkgmkkfaaGreat.er
set_option linter.unusedVariables false
set_option linter.unusedSimpArgs false
def rsmallB (top : Bool) (n least : Int) : Bool := if top = true then decide (n < least) else decide (n < 4)
set_option maxHeartbeats 4000000 in
set_option maxRecDepth 100000 in
theorem rsmall_any (top : Bool) (n least : Int) (w : World) :
    Calls Tryz.prog 55 #[.bool top,.int .i64 n,.int .i64 least] w fun x w' => x = .returned (.bool (rsmallB top n least)) ∧ w = w' := by
  unfold rsmallB
  cases top with
  | true =>
    go_enter Tryz.func55,Tryz.ntmps55
    go_wp2_with fail
    go_ret
    exact ⟨rfl,rfl⟩
  | false =>
    go_enter Tryz.func55,Tryz.ntmps55
    go_wp2_with fail
    go_ret
    exact ⟨rfl,rfl⟩
theorem rsmall_no {top : Bool} {n least : Nat} (h : top = true ∨ 4 ≤ n) (h2 : least ≤ n) : rsmallB top (n : Int) (least : Int) = false := by
  unfold rsmallB
  cases top with
  | true => simp; omega
  | false =>
    rcases h with h | h
    · cases h
    · simp; omega
def SaysRet {h : Nat} (n : Nd h) (w : World) (x : Ending) (w' : World) : Prop :=
  ∃ A c,x = .returned (.agg #[.slice A (flat n).length c,.int .i64 (firstN n),.bool false,.int .i64 (cntN n)]) ∧ w'.ownsRow w.heap.size 49 4 (.slice A (flat n).length c) (flat n).length (extCells (flat n)) ∧ Below w.heap.size w w'
def SaysCtr (h : Nat) : Prop := ∀ (w : World) (v : Value) (L : Bk) (n : Nd h) (top : Bool),w.ownsRow 0 103 2 v L.length (bkCells L) → LieZ L n → (ats n).Nodup → (∀ a ∈ ats n,0 ≤ a ∧ a < 2048) → Kw n → Chk (flat n) → Big n → 1 ≤ n.size → n.size ≤ 8 → (top = true ∨ 4 ≤ n.size) →
  Calls Tryz.prog 32 #[v,.int .i64 n.at_,.int .i64 ((h : Int) + 1),.bool top] w (SaysRet n w)
set_option maxHeartbeats 8000000 in
set_option maxRecDepth 100000 in
theorem says_leaf : SaysCtr 0 := by
  intro w v L nd top ho hlie hnd hrg hk hc hb h1 h8 ht
  have hc' : Chk nd.l := hc
  have h1' : 1 ≤ nd.l.length := h1
  have h8' : nd.l.length ≤ 8 := h8
  have hg : getB L nd.at_ = some (2,⟨(leafL nd.l).toArray⟩) := lie_top hlie
  have hat := hrg _ (at_mem nd)
  obtain ⟨i,hi⟩ : ∃ i : Nat,nd.at_ = i := ⟨nd.at_.toNat,by omega⟩
  have hgi : L[i]? = some (2,⟨(leafL nd.l).toArray⟩) := by
    rw [hi] at hg
    unfold getB at hg
    rw [if_neg (by omega)] at hg
    simpa using hg
  have hiL := (List.getElem?_eq_some_iff.1 hgi).1
  obtain ⟨A,c,rfl⟩ := own_slice ho
  obtain ⟨g,rfl,_,_,_,hcell,_⟩ := own_cell ho (by omega)
  obtain ⟨k0,k1⟩ := bkCells_at L i _ hgi
  have c0 := hcell _ _ k0
  have c1 := hcell _ _ k1
  have HRL := Lib.hid (fun wq => rreadLeaf_ok nd.l wq hc' h1' h8')
  have hfl : flat nd = nd.l := rfl
  have HSR : Hid (∀ x w',(∃ A c,x = .returned (.agg #[.slice A nd.l.length c,.int .i64 (firstN nd),.bool false,.int .i64 1]) ∧ w'.ownsRow w.heap.size 49 4 (.slice A nd.l.length c) nd.l.length (extCells nd.l) ∧ Below w.heap.size w w') → SaysRet nd w x w') := fun x w' h => h
  obtain ⟨e0,r0,hl0⟩ : ∃ e r,nd.l = e :: r := by
    cases hl : nd.l with
    | nil => rw [hl] at h1'; simp at h1'
    | cons e r => exact ⟨e,r,rfl⟩
  have hfst : firstN nd = e0.fr := by
    show (match nd.l with | [] => (0 : Int) | e :: _ => e.fr) = _
    rw [hl0]
  have HE0 : Hid (∀ (wq : World) (B : Option Addr) (c' : Nat),wq.ownsRow w.heap.size 49 4 (.slice B nd.l.length c') nd.l.length (extCells nd.l) → ∃ gq,B = some ⟨gq,0,none⟩ ∧ wq.cell? ⟨gq,0,none⟩ = some (.int .i64 e0.fr)) := by
    intro wq B c' hq
    obtain ⟨gq,rfl,_,_,_,hcq,_⟩ := own_cell hq (by omega)
    refine ⟨gq,rfl,?_⟩
    have := (extCells_at nd.l 0 e0 (by rw [hl0]; rfl)).1
    exact hcq _ _ this
  have HSM := Lib.hid (fun wq => rsmall_any top (nd.l.length : Int) 1 wq)
  have hsm := rsmall_no (least := 1) (n := nd.l.length) (ht) h1'
  rw [hfst] at HSR
  obtain ⟨N,hN⟩ : ∃ N,L.length = N := ⟨_,rfl⟩
  obtain ⟨m,hm⟩ : ∃ m,nd.l.length = m := ⟨_,rfl⟩
  obtain ⟨S,hS⟩ : ∃ S : ByteArray,(⟨(leafL nd.l).toArray⟩ : ByteArray) = S := ⟨_,rfl⟩
  obtain ⟨X,hX⟩ : ∃ X,extCells nd.l = X := ⟨_,rfl⟩
  simp only at c0 c1
  rw [hS] at c1 HRL
  rw [hm,hX] at HRL HSR HE0
  rw [hm] at h1' h8' HSM hsm
  have hsm' : rsmallB top (m : Int) 1 = false := hsm
  rw [hsm'] at HSM
  rw [hN] at hiL ⊢
  rw [hi]
  have hiN : (i : Int) < (N : Int) := by omega
  have hi0 : (0 : Int) ≤ (i : Int) := by omega
  have hm0 : (0 : Int) < (m : Int) := by omega
  have hm0n : 0 < m := by omega
  have HCB : Hid (∀ w',Below w.heap.size w w' → w'.cell? ⟨g,i * 2,none⟩ = some (.int .i64 2)) := fun w' hb => below_c hb c0
  clear ho hlie hnd hrg hk hc hb h1 h8 hc' hg hgi hcell k0 k1 hfl hl0 hfst hat hi hN hm hS hX hsm hsm'
  show Calls Tryz.prog 32 #[.slice (some ⟨g,0,none⟩) N c,.int .i64 i,.int .i64 1,.bool top] w _
  go_enter Tryz.func32,Tryz.ntmps32
  go_wp2_with fail
  obtain ⟨rb,hrb⟩ : ∃ rb,w.heap.size = rb := ⟨_,rfl⟩
  obtain ⟨w1,hw1⟩ : ∃ w1,w.alloc (.cells #[.slice none 0 0,.int .i64 0,.bool false,.int .i64 0] 67) = w1 := ⟨_,rfl⟩
  have HW1 : Hid (Whole w1 rb 67 #[.slice none 0 0,.int .i64 0,.bool false,.int .i64 0] ∧ Below w.heap.size w w1) := by
    show _ ∧ _
    rw [← hw1,← hrb]
    exact ⟨Whole.new _ _ _,(Below.refl _ _).alloc (Nat.le_refl _) _⟩
  rw [hw1]
  try rw [hrb]
  with_reducible refine (HRL.out _).mono ?_
  rintro x w2 ⟨B,c2,rfl,ho2,hb2⟩
  have HB2 : Hid (Below w.heap.size w w2) := HW1.out.2.trans (hb2.mono HW1.out.2.size)
  have ho2' := own_le ho2 HW1.out.2.size
  obtain ⟨gq,rfl,f0⟩ := HE0.out w2 B c2 ho2'
  have HO2 := Lib.hid ho2'
  have HWR : Hid (Whole w2 rb 67 #[.slice none 0 0,.int .i64 0,.bool false,.int .i64 0]) := HW1.out.1.below hb2 HW1.out.1.lt
  have b0 := HCB.out w2 HB2.out
  have z0 := HWR.out.cell 0
  have z1 := HWR.out.cell 1
  have z2 := HWR.out.cell 2
  have z3 := HWR.out.cell 3
  simp at z0 z1 z2 z3
  have y0 := HWR.out.fz 0
  have y1 := HWR.out.fz 1
  have y2 := HWR.out.fz 2
  have y3 := HWR.out.fz 3
  have HEND : Hid (∀ w9,w9 = (((w2.setCell ⟨rb,0,none⟩ (.slice (some ⟨gq,0,none⟩) m c2)).setCell ⟨rb,1,none⟩ (.int .i64 e0.fr)).setCell ⟨rb,2,none⟩ (.bool false)).setCell ⟨rb,3,none⟩ (.int .i64 1) → (w9.cell? ⟨rb,0,none⟩ = some (.slice (some ⟨gq,0,none⟩) m c2) ∧ w9.cell? ⟨rb,1,none⟩ = some (.int .i64 e0.fr) ∧ w9.cell? ⟨rb,2,none⟩ = some (.bool false) ∧ w9.cell? ⟨rb,3,none⟩ = some (.int .i64 1)) ∧ SaysRet nd w (.returned (.agg #[.slice (some ⟨gq,0,none⟩) m c2,.int .i64 e0.fr,.bool false,.int .i64 1])) w9) := by
    intro w9 h9
    have hk : Keep (fun k => k = rb) w2 w9 := by
      rw [h9]
      exact ((((Keep.refl (fun k => k = rb) w2).setCell (p := ⟨rb,0,none⟩) (.inl rfl) _).setCell (p := ⟨rb,1,none⟩) (.inl rfl) _).setCell (p := ⟨rb,2,none⟩) (.inl rfl) _).setCell (p := ⟨rb,3,none⟩) (.inl rfl) _
    have hW9 : Whole w9 rb 67 #[.slice (some ⟨gq,0,none⟩) m c2,.int .i64 e0.fr,.bool false,.int .i64 1] := by
      rw [h9]
      simpa using ((((HWR.out.set 0 (.slice (some ⟨gq,0,none⟩) m c2)).set 1 (.int .i64 e0.fr)).set 2 (.bool false)).set 3 (.int .i64 1))
    have q0 := hW9.cell 0
    have q1 := hW9.cell 1
    have q2 := hW9.cell 2
    have q3 := hW9.cell 3
    simp at q0 q1 q2 q3
    refine ⟨⟨q0,q1,q2,q3⟩,HSR.out _ _ ⟨_,_,rfl,own_keep HO2.out hk (fun j hj e => own_ne HO2.out HWR.out (by decide) (by rw [hj,e])),HB2.out.trans (hk.toBelow HB2.out.size (fun k hk => by have hk' : k = rb := hk; omega))⟩⟩
  clear ho2 ho2' hb2 hw1 c0 c1
  go_wp2_with fail
  with_reducible refine (HSM.out _).mono ?_
  rintro x w3 ⟨rfl,rfl⟩
  go_wp2_with fail
  obtain ⟨⟨q0,q1,q2,q3⟩,hfin⟩ := HEND.out _ rfl
  refine bodyPost_ret (v := .agg #[.slice (some ⟨gq,0,none⟩) m c2,.int .i64 e0.fr,.bool false,.int .i64 1]) (by simp [results,Tryz.results32,go_sem,q0,q1,q2,q3]) rfl hfin
end Go.Proofs.YtneammhkgmkkfaaGreat.tr
