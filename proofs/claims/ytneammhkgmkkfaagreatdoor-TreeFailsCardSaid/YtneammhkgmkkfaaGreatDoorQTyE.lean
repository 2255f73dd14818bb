/- A part of the proof. -/
import Derived.Test.YtneammhkgmkkfaaGreatDoorQTyA
namespace Go.Proofs.YtneammhkgmkkfaaGreatDoor.tr
open Go.RowKit Go.Proofs.YtneammhkgmkkfaaGreatDoor.er
set_option linter.unusedVariables false
set_option linter.unusedSimpArgs false
theorem und_succ {h : Nat} (ks : List (Nd h)) (s : Int) (j : Nat) (k : Nd h) (hk : ks[j + 1]? = some k) : undN ks s (j + 1) = if firstN k ≤ s then j + 1 else undN ks s j := by
  rw [undN]
  simp [List.getD,hk]
set_option maxHeartbeats 4000000 in
set_option maxRecDepth 100000 in
theorem under_any (w : World) (h b : Nat) (F : List Nat) (n : Nd (h + 1)) (s : Int) (hn : NdAt w F (.iface (ndT (h + 1)) (.pointer (some ⟨b,0,none⟩))) n) (hk : Kw n) (h1 : 1 ≤ n.ks.length) (hl : n.ks.length ≤ 100) :
    Calls Tryz.prog 108 #[.pointer (some ⟨b,0,none⟩),.int .i64 s] w fun e w' => e = .returned (.int .i64 (under n.ks s)) ∧ w = w' := by
  obtain ⟨b',g,c,ds,e1,e2,e3,e4,e5,e6⟩ := hn
  obtain rfl := ptr_inj e2
  obtain ⟨m,hm⟩ : ∃ m,n.ks.length = m + 1 := ⟨n.ks.length - 1,by omega⟩
  have HD : Hid (∀ j,j < m + 1 → ∃ (k : Nd h) (kb : Nat) (kF : List Nat),n.ks[j]? = some k ∧ w.cell? ⟨g,j,none⟩ = some (.iface (ndT h) (.pointer (some ⟨kb,0,none⟩))) ∧ NdAt w kF (.iface (ndT h) (.pointer (some ⟨kb,0,none⟩))) k ∧ Kw k ∧ 1 ≤ k.size) := by
    intro j hj
    have hj2 : j < ds.length := by rw [← hm,e4] at hj; simpa using hj
    have hd := List.getElem?_eq_getElem hj2
    have hat := e6 _ (List.getElem_mem hj2)
    obtain ⟨kb,kF,f1,f2⟩ := hat.form
    have hw : Wf ds[j].2.2 := hk.mem (by rw [e4]; exact List.mem_map.2 ⟨_,List.getElem_mem hj2,rfl⟩)
    refine ⟨ds[j].2.2,kb,ds[j].1,by rw [e4]; simp [hj2],?_,by rw [f2] at hat; exact hat,hw.2,by have := hw.1.1; omega⟩
    exact e5.cell (by simp [hj2,f2])
  have HU : Hid (under n.ks s = undN n.ks s m) := by show _ = _; unfold under; rw [hm]; rfl
  rw [hm] at hl
  rw [hm] at e3
  have c1 := e3.cell 1
  simp at c1
  obtain ⟨u,hu⟩ : ∃ u,under n.ks s = u := ⟨_,rfl⟩
  rw [hu] at HU ⊢
  have hm0 : (1 : Int) ≤ (m : Int) + 1 := by omega
  clear e1 e2 e3 e4 e5 e6 hm hu hk h1
  go_enter Tryz.func108,Tryz.ntmps108
  go_wp2_with fail
  go_loop [5] (fun i => ∃ j : Nat,j ≤ m ∧ i = .int .i64 j ∧ Hid (u = undN n.ks s j)) (fun i => (intOf i).toNat)
  case atStart => exact ⟨m,Nat.le_refl _,by go_num,HU⟩
  case round =>
    obtain ⟨j,hj,rfl,HJ⟩ := hrel
    rcases Nat.eq_zero_or_pos j with rfl | hp
    · have HZ : Hid (u = 0) := by show _ = _; rw [HJ.out]; rfl
      simp only [Int.natCast_zero]
      go_wp2_with fail
      go_ret
      exact ⟨by rw [HZ.out]; rfl,rfl⟩
    · obtain ⟨j,rfl⟩ : ∃ j',j = j' + 1 := ⟨j - 1,by omega⟩
      obtain ⟨k,kb,kF,q1,q2,q3,q4,q5⟩ := HD.out (j + 1) (by omega)
      have HS := Lib.hid (und_succ n.ks s j k q1)
      have HC := Lib.hid (first_any w h kb kF k q3 q4 q5)
      have hme := meFi (.pointer (some ⟨kb,0,none⟩)) w h
      have hen := enFi #[.pointer (some ⟨kb,0,none⟩)] w h
      obtain ⟨x,hx⟩ : ∃ x,firstN k = x := ⟨_,rfl⟩
      rw [hx] at HC HS
      have hp1 : (0 : Int) < (j : Int) + 1 := by omega
      have hp2 : (j : Int) + 1 < (m : Int) + 1 := by omega
      have hp3 : (0 : Int) ≤ (j : Int) + 1 := by omega
      clear q1 q3 q4 q5 hx hp
      by_cases hs : s < x
      · have HJ2 : Hid (u = undN n.ks s j) := by show _ = _; rw [HJ.out,HS.out,if_neg (by omega)]
        go_wp2_with fail
        refine HC.out.mono ?_
        rintro e w' ⟨rfl,rfl⟩
        go_wp2_with fail
        go_round
        case rel => exact ⟨j,by omega,rfl,HJ2⟩
        case measure => simp [intOf]
      · have HZ : Hid (u = j + 1) := by show _ = _; rw [HJ.out,HS.out,if_pos (by omega)]
        go_wp2_with fail
        refine HC.out.mono ?_
        rintro e w' ⟨rfl,rfl⟩
        go_wp2_with fail
        go_ret
        exact ⟨by rw [HZ.out]; first | rfl | go_num,rfl⟩
end Go.Proofs.YtneammhkgmkkfaaGreatDoor.tr
