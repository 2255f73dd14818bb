/- A part of the proof. -/
import Derived.Test.YtneammhkgmkkfaaGreatDoorQTxC
import Derived.Test.YtneammhkgmkkfaaGreatDoorQTyG
namespace Go.Proofs.YtneammhkgmkkfaaGreatDoor.tr
open Go.RowKit Go.Proofs.YtneammhkgmkkfaaGreatDoor.er
set_option linter.unusedVariables false
set_option linter.unusedSimpArgs false
set_option maxHeartbeats 4000000 in
set_option maxRecDepth 100000 in
theorem idxE_any (y : Ext) (l : List Ext) (v : Value) (w : World) (h : ExtsAt w v l) (hl : l.length ≤ 100000000) :
    Calls Tryz.prog 100 #[v,y.val] w fun x w' => x = .returned (.int .i64 (idxI (fun x => decide (y = x)) l)) ∧ Below w.heap.size w w' := by
  obtain ⟨A,c,rfl,hc⟩ := h
  have HC := Lib.hid hc
  obtain ⟨n,hn⟩ : ∃ n,l.length = n := ⟨_,rfl⟩
  rw [hn] at hl
  have HN := Lib.hid hn
  rw [hn]
  obtain ⟨p,hp⟩ : ∃ p : Ext → Bool,(fun x => decide (y = x)) = p := ⟨_,rfl⟩
  have HP : Hid (∀ x,p x = decide (y = x)) := fun x => by rw [← hp]
  rw [hp]
  clear hp hc hn
  obtain ⟨f',n',k',t'⟩ := y
  have hgt := gt_ext
  have HB1 := Lib.hid ((Below.refl w.heap.size w).alloc (Nat.le_refl _) (.cells #[.int .i64 f',.int .i64 n',.int .i64 k',.int .i64 t'] 59))
  have hy0 := Whole.new w 59 #[.int .i64 f',.int .i64 n',.int .i64 k',.int .i64 t']
  have HY : Hid (∀ wr,Below (w.heap.size + 1) (w.alloc (.cells #[.int .i64 f',.int .i64 n',.int .i64 k',.int .i64 t'] 59)) wr → w.heap.size < wr.heap.size ∧ Below w.heap.size w wr ∧ wr.cell? ⟨w.heap.size,0,none⟩ = some (.int .i64 f') ∧ wr.cell? ⟨w.heap.size,1,none⟩ = some (.int .i64 n') ∧ wr.cell? ⟨w.heap.size,2,none⟩ = some (.int .i64 k') ∧ wr.cell? ⟨w.heap.size,3,none⟩ = some (.int .i64 t')) := fun wr hb => by
    have h1 := hy0.below hb (by omega)
    exact ⟨h1.lt,HB1.out.trans (hb.mono (by omega)),h1.cell 0,h1.cell 1,h1.cell 2,h1.cell 3⟩
  clear hy0
  show Calls Tryz.prog 100 #[.slice A n c,.agg #[.int .i64 f',.int .i64 n',.int .i64 k',.int .i64 t']] w _
  go_enter Tryz.func100,Tryz.ntmps100
  go_wp2_with fail
  go_loopw [5,8] (fun s5 i wr => ∃ (j : Nat),j ≤ n ∧ i = .int .i64 j ∧ Hid (∀ i x,i < j → l[i]? = some x → p x = false) ∧ Hid (Below (w.heap.size + 1) (w.alloc (.cells #[.int .i64 f',.int .i64 n',.int .i64 k',.int .i64 t'] 59)) wr)) (fun _ i _ => n - (intOf i).toNat)
  case atStart => exact ⟨0,Nat.zero_le _,rfl,fun i x hi => by omega,Below.refl _ _⟩
  case round =>
    obtain ⟨j,hj,rfl,HM,HB⟩ := hrel
    by_cases hlt : j < n
    · have hji : (j : Int) < (n : Int) := by omega
      have hj0 : (0 : Int) ≤ (j : Int) := by omega
      have hln := HN.out
      obtain ⟨g2,o,rfl,hcc⟩ := HC.out (by omega)
      obtain ⟨e,hx⟩ : ∃ e,l[j]? = some e := ⟨l[j]'(by omega),List.getElem?_eq_getElem (by omega)⟩
      obtain ⟨hlt2,hbw,y0,y1,y2,y3⟩ := HY.out wr HB.out
      obtain ⟨c0,c1,c2,c3⟩ := (hcc j e hx).below hbw
      have HX := Lib.hid hx
      have HBW := Lib.hid hbw
      have HPE := Lib.hid (HP.out e)
      cases hpe : p e
      · have HM2 : Hid (∀ i x,i < j + 1 → l[i]? = some x → p x = false) := by
          show ∀ i x,i < j + 1 → l[i]? = some x → p x = false
          intro i x hi hxi
          by_cases h2 : i < j
          · exact HM.out i x h2 hxi
          · obtain rfl : i = j := by omega
            rw [HX.out] at hxi; injection hxi with hxi; rw [← hxi]; exact hpe
        have hd : decide ((⟨f',n',k',t'⟩ : Ext) = e) = false := by rw [← HPE.out]; exact hpe
        obtain ⟨f,en,k,t⟩ := e
        simp only at c0 c1 c2 c3
        have heq : ∀ w,(binOp .eql 59 (.agg #[.int .i64 f',.int .i64 n',.int .i64 k',.int .i64 t']) (.agg #[.int .i64 f,.int .i64 en,.int .i64 k,.int .i64 t])).run Tryz.prog w = .ok (.bool false) w := fun w => by rw [eq_ext,hd]
        clear hcc hx hln hpe hbw hd
        go_wp2_with fail
        go_quiet (fail)
        go_wp2_with fail
        go_roundw
        case rel => exact ⟨j + 1,by omega,by go_num,HM2,below_drewN HB.out _⟩
        case measure => simp [intOf]; omega
      · have HI : Hid (idxI p l = j) := idxI_hit HX.out hpe HM.out
        have hd : decide ((⟨f',n',k',t'⟩ : Ext) = e) = true := by rw [← HPE.out]; exact hpe
        obtain ⟨f,en,k,t⟩ := e
        simp only at c0 c1 c2 c3
        have heq : ∀ w,(binOp .eql 59 (.agg #[.int .i64 f',.int .i64 n',.int .i64 k',.int .i64 t']) (.agg #[.int .i64 f,.int .i64 en,.int .i64 k,.int .i64 t])).run Tryz.prog w = .ok (.bool true) w := fun w => by rw [eq_ext,hd]
        clear hcc hx hln hpe hbw hd
        go_wp2_with fail
        go_quiet (fail)
        go_wp2_with fail
        go_ret
        exact ⟨by rw [HI.out]; rfl,below_drewN HBW.out _⟩
    · obtain rfl : j = n := by omega
      have HI : Hid (idxI p l = -1) := idxI_miss (fun i x hi => HM.out i x (by have := HN.out; omega))
      have HBW := Lib.hid (HY.out wr HB.out).2.1
      go_wp2_with fail
      go_ret
      exact ⟨by rw [HI.out]; rfl,HBW.out⟩
theorem conE_any (y : Ext) (l : List Ext) (v : Value) (w : World) (h : ExtsAt w v l) (hl : l.length ≤ 100000000) :
    Calls Tryz.prog 70 #[v,y.val] w fun x w' => x = .returned (.bool (decide (y ∈ l))) ∧ Below w.heap.size w w' := by
  have HB1 := (Below.refl w.heap.size w).alloc (Nat.le_refl _) (.cells #[.int .i64 y.fr,.int .i64 y.n,.int .i64 y.kind,.int .i64 y.at_] 59)
  have HI := Lib.hid (idxE_any y l v _ (h.below HB1) hl)
  have HA := Lib.hid (idxI_any (fun x => decide (y = x)) l)
  have HA2 : Hid (l.any (fun x => decide (y = x)) = decide (y ∈ l)) := by
    show _ = _
    rw [Bool.eq_iff_iff]
    simp [List.any_eq_true]
  obtain ⟨z,hz⟩ : ∃ z,idxI (fun x => decide (y = x)) l = z := ⟨_,rfl⟩
  rw [hz] at HI HA
  have HBH := Lib.hid HB1
  obtain ⟨f',n',k',t'⟩ := y
  simp only [Ext.val] at HI
  simp only at HBH
  clear HB1 h hl hz
  show Calls Tryz.prog 70 #[v,.agg #[.int .i64 f',.int .i64 n',.int .i64 k',.int .i64 t']] w _
  go_enter Tryz.func70,Tryz.ntmps70
  go_wp2_with fail
  with_reducible refine (HI.out).mono ?_
  rintro e w5 ⟨rfl,hb5⟩
  have HB5 := Lib.hid hb5
  clear hb5
  go_wp2_with fail
  go_ret
  exact ⟨by rw [← HA2.out,← HA.out]; rfl,bel_tr HBH.out HB5.out⟩
end Go.Proofs.YtneammhkgmkkfaaGreatDoor.tr
