/- A part of the proof. -/
import Derived.Test.YtneammhkgmkkfaaGreatDoorPTlE
namespace Go.Proofs.YtneammhkgmkkfaaGreatDoor.tr
open Go.RowKit Go.Proofs.YtneammhkgmkkfaaGreatDoor.er
set_option linter.unusedVariables false
set_option linter.unusedSimpArgs false
def SPost {h : Nat} (o : Option (Nd h)) (w : World) (x : Ending) (w' : World) : Prop :=
  match o with
  | some n => SaysRet n w x w'
  | none => x = .returned (.agg #[.slice none 0 0,.int .i64 0,.bool true,.int .i64 0]) ∧ Below w.heap.size w w'
def SAny (h : Nat) : Prop := ∀ (w : World) (v : Value) (L : Bk) (t : Bool) (pg : Int),BkR w v L → SzOk L → L.length ≤ 1000000 → I64 pg →
  Calls Tryz.prog 10 #[v,.int .i64 pg,.int .i64 ((h : Int) + 1),.bool t] w (SPost (readD L h t pg) w)
def SBox (w : World) (rb : Nat) (wr : World) : Prop := Whole wr rb 40 #[.slice none 0 0,.int .i64 0,.bool false,.int .i64 0] ∧ w.heap.size ≤ rb ∧ Below w.heap.size w wr
theorem SBox.below {w wr wq : World} {rb : Nat} (h : SBox w rb wr) (hb : Below wr.heap.size wr wq) : SBox w rb wq := ⟨h.1.below hb h.1.lt,h.2.1,h.2.2.trans (hb.mono h.2.2.size)⟩
theorem SBox.new (w : World) : SBox w w.heap.size (w.alloc (.cells #[.slice none 0 0,.int .i64 0,.bool false,.int .i64 0] 40)) := ⟨Whole.new _ _ _,Nat.le_refl _,(Below.refl _ _).alloc (Nat.le_refl _) _⟩
theorem SBox.cells {w wr : World} {rb : Nat} (h : SBox w rb wr) : (wr.cell? ⟨rb,0,none⟩ = some (.slice none 0 0) ∧ wr.cell? ⟨rb,1,none⟩ = some (.int .i64 0) ∧ wr.cell? ⟨rb,2,none⟩ = some (.bool false) ∧ wr.cell? ⟨rb,3,none⟩ = some (.int .i64 0)) ∧ wr.frozen? ⟨rb,0,none⟩ = false ∧ wr.frozen? ⟨rb,1,none⟩ = false ∧ wr.frozen? ⟨rb,2,none⟩ = false ∧ wr.frozen? ⟨rb,3,none⟩ = false :=
  ⟨⟨h.1.cell 0,h.1.cell 1,h.1.cell 2,h.1.cell 3⟩,h.1.fz 0,h.1.fz 1,h.1.fz 2,h.1.fz 3⟩
theorem SBox.put {w wr : World} {rb : Nat} (h : SBox w rb wr) (v0 v1 v2 v3 : Value) {w9 : World} (h9 : w9 = (((wr.setCell ⟨rb,0,none⟩ v0).setCell ⟨rb,1,none⟩ v1).setCell ⟨rb,2,none⟩ v2).setCell ⟨rb,3,none⟩ v3) :
    (w9.cell? ⟨rb,0,none⟩ = some v0 ∧ w9.cell? ⟨rb,1,none⟩ = some v1 ∧ w9.cell? ⟨rb,2,none⟩ = some v2 ∧ w9.cell? ⟨rb,3,none⟩ = some v3) ∧ Keep (fun k => k = rb) wr w9 ∧ Below w.heap.size w w9 := by
  have hk : Keep (fun k => k = rb) wr w9 := by
    rw [h9]
    exact ((((Keep.refl (fun k => k = rb) wr).setCell (p := ⟨rb,0,none⟩) (.inl rfl) _).setCell (p := ⟨rb,1,none⟩) (.inl rfl) _).setCell (p := ⟨rb,2,none⟩) (.inl rfl) _).setCell (p := ⟨rb,3,none⟩) (.inl rfl) _
  have hW9 : Whole w9 rb 40 #[v0,v1,v2,v3] := by
    rw [h9]
    simpa using ((((h.1.set 0 v0).set 1 v1).set 2 v2).set 3 v3)
  exact ⟨⟨hW9.cell 0,hW9.cell 1,hW9.cell 2,hW9.cell 3⟩,hk,h.2.2.trans (hk.toBelow h.2.2.size (fun k hk => by have hk' : k = rb := hk; rw [hk']; exact h.2.1))⟩
open Classical in
set_option maxHeartbeats 16000000 in
set_option maxRecDepth 100000 in
theorem sany_leaf : SAny 0 := by
  intro w v L t pg ho hsz hL hpg
  have HRD : Hid (readD L 0 t pg = match getB L pg with | none => none | some p => if p.1 = 2 ∧ (okE p.2 = true ∧ MayE (extsD p.2)) ∧ rsmallB t (extsD p.2).length 1 = false then some (mkL pg (extsD p.2)) else none) := by show _ = _; rfl
  have HBAD : Hid (∀ wr rb w9,readD L 0 t pg = none → SBox w rb wr → w9 = (((wr.setCell ⟨rb,0,none⟩ (.slice none 0 0)).setCell ⟨rb,1,none⟩ (.int .i64 0)).setCell ⟨rb,2,none⟩ (.bool true)).setCell ⟨rb,3,none⟩ (.int .i64 0) →
      (w9.cell? ⟨rb,0,none⟩ = some (.slice none 0 0) ∧ w9.cell? ⟨rb,1,none⟩ = some (.int .i64 0) ∧ w9.cell? ⟨rb,2,none⟩ = some (.bool true) ∧ w9.cell? ⟨rb,3,none⟩ = some (.int .i64 0)) ∧ SPost (readD L 0 t pg) w (.returned (.agg #[.slice none 0 0,.int .i64 0,.bool true,.int .i64 0])) w9) := by
    intro wr rb w9 hn hs h9
    obtain ⟨k1,k2,k3⟩ := hs.put _ _ _ _ h9
    refine ⟨k1,?_⟩
    rw [hn]
    exact ⟨rfl,k3⟩
  have hoo := ho
  obtain ⟨A,c,rfl,hcc⟩ := ho
  have HNB := Lib.hid (SBox.new w)
  obtain ⟨rb,hrb⟩ : ∃ rb,w.heap.size = rb := ⟨_,rfl⟩
  obtain ⟨w1,hw1⟩ : ∃ w1,w.alloc (.cells #[.slice none 0 0,.int .i64 0,.bool false,.int .i64 0] 40) = w1 := ⟨_,rfl⟩
  have HS1 : Hid (SBox w rb w1) := by show SBox _ _ _; rw [← hw1,← hrb]; exact HNB.out
  obtain ⟨⟨z0,z1,z2,z3⟩,y0,y1,y2,y3⟩ := HS1.out.cells
  have HBB : Hid (∀ wq,SBox w rb wq → Below w.heap.size w wq) := fun wq h => h.2.2
  show Calls Tryz.prog 10 #[.slice A L.length c,.int .i64 pg,.int .i64 1,.bool t] w _
  obtain ⟨N,hN⟩ : ∃ N,L.length = N := ⟨_,rfl⟩
  have hNi : (N : Int) ≤ 1000000 := by omega
  by_cases hp0 : pg < 0
  · have hn : readD L 0 t pg = none := by show _ = _; rw [HRD.out]; unfold getB; rw [if_pos hp0]
    have HB := Lib.hid (HBAD.out w1 rb _ hn HS1.out rfl)
    rw [hN]
    clear hoo hcc hsz hn
    go_enter Tryz.func10,Tryz.ntmps10
    go_wp2_with fail
    obtain ⟨⟨q0,q1,q2,q3⟩,hfin⟩ := HB.out
    refine bodyPost_ret (v := .agg #[.slice none 0 0,.int .i64 0,.bool true,.int .i64 0]) (by simp [results,Tryz.results10,go_sem,q0,q1,q2,q3]) rfl hfin
  · by_cases hp1 : (N : Int) ≤ pg
    · have hn : readD L 0 t pg = none := by
        show _ = _
        rw [HRD.out]
        have : getB L pg = none := by unfold getB; rw [if_neg hp0]; exact List.getElem?_eq_none (by omega)
        rw [this]
      have HB := Lib.hid (HBAD.out w1 rb _ hn HS1.out rfl)
      rw [hN]
      clear hoo hcc hsz hn
      go_enter Tryz.func10,Tryz.ntmps10
      go_wp2_with fail
      obtain ⟨⟨q0,q1,q2,q3⟩,hfin⟩ := HB.out
      refine bodyPost_ret (v := .agg #[.slice none 0 0,.int .i64 0,.bool true,.int .i64 0]) (by simp [results,Tryz.results10,go_sem,q0,q1,q2,q3]) rfl hfin
    · obtain ⟨i,rfl⟩ : ∃ i : Nat,pg = i := ⟨pg.toNat,by omega⟩
      have hiN : i < N := by omega
      obtain ⟨p,hgi⟩ : ∃ p,L[i]? = some p := ⟨_,List.getElem?_eq_getElem (by omega)⟩
      have hgb : getB L i = some p := by unfold getB; rw [if_neg (by omega)]; simpa using hgi
      obtain ⟨g,o,rfl,hcell⟩ := hcc (by omega)
      obtain ⟨c0,c1⟩ := hcell i _ hgi
      have hss := hsz _ (List.mem_of_getElem? hgi)
      obtain ⟨kd,S⟩ := p
      simp only at c0 c1 hss
      rw [hgb] at HRD
      simp only at HRD
      have HRL := Lib.hid (fun wq => rReadLeaf_any S wq hss)
      have HCB : Hid (∀ w',Below w.heap.size w w' → w'.cell? ⟨g,o + i * 2,none⟩ = some (.int .i64 kd) ∧ w'.cell? ⟨g,o + i * 2 + 1,none⟩ = some (.string S)) := fun w' hb => ⟨below_c hb c0,below_c hb c1⟩
      obtain ⟨b0,b1⟩ := HCB.out _ HS1.out.2.2
      have hiN' : (i : Int) < (N : Int) := by omega
      have hi0 : (0 : Int) ≤ (i : Int) := by omega
      have HSM := Lib.hid (fun n wq => rsmall_any t n 1 wq)
      rw [hN]
      clear hoo hcc hsz hgi hgb hcell hL hN c0 c1
      go_enter Tryz.func10,Tryz.ntmps10
      go_wp2_with fail
      try rw [hw1]
      try rw [hrb]
      clear hw1 hrb
      with_reducible refine (HRL.out _).mono ?_
      rintro x w2 (⟨B,c2,rfl,hk,ho2,hb2⟩ | ⟨rfl,hk,hb2⟩)
      · have HS2 := Lib.hid (HS1.out.below hb2)
        obtain ⟨d0,d1⟩ := HCB.out _ HS2.out.2.2
        obtain ⟨⟨z0,z1,z2,z3⟩,y0,y1,y2,y3⟩ := HS2.out.cells
        obtain ⟨h1,h8⟩ := mayE_len hk.2
        obtain ⟨n,hn⟩ : ∃ n,(extsD S).length = n := ⟨_,rfl⟩
        have HKK := Lib.hid hk
        have HO2 := Lib.hid ho2
        rw [hn] at h1 h8 ⊢
        have hni : (n : Int) ≤ 8 := by omega
        have hn1 : (0 : Int) < (n : Int) := by omega
        by_cases hkd : kd = 2
        · subst hkd
          obtain ⟨sb,hsb⟩ : ∃ sb,rsmallB t (n : Int) 1 = sb := ⟨_,rfl⟩
          have HS3 := Lib.hid (HSM.out (n : Int) w2)
          rw [hsb] at HS3
          cases sb with
          | true =>
            have hno : readD L 0 t i = none := by show _ = _; rw [HRD.out]; exact if_neg (by rw [hn]; rintro ⟨_,_,h⟩; rw [hsb] at h; cases h)
            have HB := Lib.hid (HBAD.out w2 rb _ hno HS2.out rfl)
            clear hno hsb hn hk ho2 hb2
            go_wp2_with fail
            with_reducible refine HS3.out.mono ?_
            rintro x w3 ⟨rfl,rfl⟩
            go_wp2_with fail
            obtain ⟨⟨q0,q1,q2,q3⟩,hfin⟩ := HB.out
            refine bodyPost_ret (v := .agg #[.slice none 0 0,.int .i64 0,.bool true,.int .i64 0]) (by simp [results,Tryz.results10,go_sem,q0,q1,q2,q3]) rfl hfin
          | false =>
            have hyes : readD L 0 t i = some (mkL i (extsD S)) := by show _ = _; rw [HRD.out]; exact if_pos ⟨rfl,HKK.out,by rw [hn]; exact hsb⟩
            obtain ⟨e0,r0,hl0⟩ : ∃ e r,extsD S = e :: r := by
              cases hl : extsD S with
              | nil => rw [hl] at hn; simp at hn; omega
              | cons e r => exact ⟨e,r,rfl⟩
            obtain ⟨gq,rfl,_,_,_,hcq,_⟩ := own_cell ho2 (by omega)
            have f0 := hcq _ _ (extCells_at (extsD S) 0 e0 (by rw [hl0]; rfl)).1
            simp only [Nat.zero_mul] at f0
            have HEND : Hid (∀ w9,w9 = (((w2.setCell ⟨rb,0,none⟩ (.slice (some ⟨gq,0,none⟩) n c2)).setCell ⟨rb,1,none⟩ (.int .i64 e0.fr)).setCell ⟨rb,2,none⟩ (.bool false)).setCell ⟨rb,3,none⟩ (.int .i64 1) →
                (w9.cell? ⟨rb,0,none⟩ = some (.slice (some ⟨gq,0,none⟩) n c2) ∧ w9.cell? ⟨rb,1,none⟩ = some (.int .i64 e0.fr) ∧ w9.cell? ⟨rb,2,none⟩ = some (.bool false) ∧ w9.cell? ⟨rb,3,none⟩ = some (.int .i64 1)) ∧ SPost (readD L 0 t i) w (.returned (.agg #[.slice (some ⟨gq,0,none⟩) n c2,.int .i64 e0.fr,.bool false,.int .i64 1])) w9) := by
              intro w9 h9
              obtain ⟨k1,k2,k3⟩ := HS2.out.put _ _ _ _ h9
              refine ⟨k1,?_⟩
              rw [hyes]
              have hrow := own_le HO2.out HS1.out.2.2.size
              refine ⟨some ⟨gq,0,none⟩,c2,?_,?_,k3⟩
              · show _ = Ending.returned (Value.agg #[.slice (some ⟨gq,0,none⟩) (extsD S).length c2,.int .i64 (match extsD S with | [] => 0 | e :: _ => e.fr),.bool false,.int .i64 1])
                rw [hn,hl0]
              · exact own_keep hrow k2 (fun j hj e => own_ne hrow HS2.out.1 (by decide) (e ▸ hj.symm))
            clear hyes hsb hl0 hn hk ho2 hb2 hcq
            go_wp2_with fail
            with_reducible refine HS3.out.mono ?_
            rintro x w3 ⟨rfl,rfl⟩
            go_wp2_with fail
            obtain ⟨⟨q0,q1,q2,q3⟩,hfin⟩ := HEND.out _ rfl
            refine bodyPost_ret (v := .agg #[.slice (some ⟨gq,0,none⟩) n c2,.int .i64 e0.fr,.bool false,.int .i64 1]) (by simp [results,Tryz.results10,go_sem,q0,q1,q2,q3]) rfl hfin
        · have hno : readD L 0 t i = none := by show _ = _; rw [HRD.out]; exact if_neg (by rintro ⟨h,_⟩; exact hkd h)
          have HB := Lib.hid (HBAD.out w2 rb _ hno HS2.out rfl)
          clear hno hn hk ho2 hb2
          go_wp2_with fail
          obtain ⟨⟨q0,q1,q2,q3⟩,hfin⟩ := HB.out
          refine bodyPost_ret (v := .agg #[.slice none 0 0,.int .i64 0,.bool true,.int .i64 0]) (by simp [results,Tryz.results10,go_sem,q0,q1,q2,q3]) rfl hfin
      · have HS2 := Lib.hid (HS1.out.below hb2)
        obtain ⟨d0,d1⟩ := HCB.out _ HS2.out.2.2
        obtain ⟨⟨z0,z1,z2,z3⟩,y0,y1,y2,y3⟩ := HS2.out.cells
        have hno : readD L 0 t i = none := by show _ = _; rw [HRD.out]; exact if_neg (by rintro ⟨_,h,_⟩; exact hk h)
        have HB := Lib.hid (HBAD.out w2 rb _ hno HS2.out rfl)
        clear hno hk hb2
        by_cases hkd : kd = 2
        · subst hkd
          go_wp2_with fail
          obtain ⟨⟨q0,q1,q2,q3⟩,hfin⟩ := HB.out
          refine bodyPost_ret (v := .agg #[.slice none 0 0,.int .i64 0,.bool true,.int .i64 0]) (by simp [results,Tryz.results10,go_sem,q0,q1,q2,q3]) rfl hfin
        · go_wp2_with fail
          obtain ⟨⟨q0,q1,q2,q3⟩,hfin⟩ := HB.out
          refine bodyPost_ret (v := .agg #[.slice none 0 0,.int .i64 0,.bool true,.int .i64 0]) (by simp [results,Tryz.results10,go_sem,q0,q1,q2,q3]) rfl hfin
end Go.Proofs.YtneammhkgmkkfaaGreatDoor.tr
