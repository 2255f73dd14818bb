/- A part of the proof. -/
import Derived.Test.YtneammhkgmkkfaaGreatDoorQTuA
import Derived.Test.YtneammhkgmkkfaaGreatDoorQTvF
namespace Go.Proofs.YtneammhkgmkkfaaGreatDoor.tr
open Go.RowKit Go.Proofs.YtneammhkgmkkfaaGreatDoor.er
set_option linter.unusedVariables false
set_option linter.unusedSimpArgs false
set_option maxHeartbeats 4000000 in
set_option maxRecDepth 100000 in
theorem builtF_any (w : World) (v : Value) (L : List Act) (N : Nat) (hN : N ≤ 1000) (h : ActsAt w v L) :
    Calls Tryz.prog 15 #[v,.int .i64 N] w fun x w' => ∃ p A m c T,x = .returned (.tuple #[.pointer (some ⟨p,0,none⟩),.slice A m c]) ∧ St w w' p T (.slice A m c) T.flat ∧ T.nfs = [] ∧ T.flat.length ≤ 2 * N := by
  obtain ⟨A,c,rfl,hb,hc⟩ := h
  have HC := Lib.hid hc
  obtain ⟨M,hM⟩ : ∃ M,L.length = M := ⟨_,rfl⟩
  rw [hM] at hb HC ⊢
  have HM := Lib.hid hM
  have hNi : (N : Int) ≤ 1000 := by omega
  have hMi : (M : Int) ≤ 9223372036854775807 := by omega
  have HNEW := Lib.hid (new_any w)
  have HST0 := Lib.hid (st_new w)
  have HSTEP : Hid (∀ wr p T B m d (a : Act),St w wr p T (.slice B m d) T.flat → Calls Tryz.prog 35 #[.pointer (some ⟨p,0,none⟩),.slice B m d,a.val] wr fun x w' => ∃ A m c T',x = .returned (.tuple #[.slice A m c,.bool true]) ∧ St w w' p T' (.slice A m c) T'.flat ∧ (T.nfs = [] → T'.nfs = []) ∧ T'.flat.length ≤ T.flat.length + 2) := by
    intro wr p T B m d a hs
    refine (step_any w wr p T B m d _ a hs).mono ?_
    rintro x w' ⟨A,m,c,rfl,hs'⟩
    refine ⟨A,m,c,a.tree T,rfl,by rw [act_flat a hs.2.1 hs.2.2.1]; exact hs',fun h0 => ?_,by rw [act_flat a hs.2.1 hs.2.2.1]; exact act_len a hs.2.2.1⟩
    have hk := (act_kept her_true a hs.2.1 hs.2.2.1).2
    rw [h0] at hk
    exact List.sublist_nil.1 hk
  clear hc hM
  go_enter Tryz.func15,Tryz.ntmps15
  go_wp2_with fail
  with_reducible refine HNEW.out.mono ?_
  rintro e w1 ⟨rfl,rfl⟩
  go_wp2_with fail
  obtain ⟨w1,hw1⟩ : ∃ w1,w.alloc (.cells #[.nilIface] 69) = w1 := ⟨_,rfl⟩
  have HS1 : Hid (St w w1 w.heap.size .no (.slice none 0 0) []) := by show St _ _ _ _ _ _; rw [← hw1]; exact HST0.out
  rw [hw1]
  clear hw1 HST0 HNEW
  obtain ⟨p,hp⟩ : ∃ p,w.heap.size = p := ⟨_,rfl⟩
  rw [hp] at HS1 ⊢
  clear hp
  go_loopw [7,8,9,10] (fun s7 s8 s9 s10 wr => ∃ (j : Nat) (T : Tree) (B : Option Addr) (m d : Nat),j ≤ M ∧ j ≤ N ∧ s8 = .int .i64 j ∧ s7 = .slice B m d ∧ Hid (St w wr p T (.slice B m d) T.flat ∧ T.nfs = []) ∧ T.flat.length ≤ 2 * j) (fun _ s8 _ _ _ => M - (intOf s8).toNat)
  case atStart => exact ⟨0,.no,none,0,0,Nat.zero_le _,Nat.zero_le _,rfl,rfl,⟨HS1.out,rfl⟩,Nat.le_refl _⟩
  case round =>
    obtain ⟨j,T,B,m,d,hjM,hjN,rfl,rfl,HS,hfl⟩ := hrel
    by_cases h1 : j < M
    · have h1i : (j : Int) < (M : Int) := by omega
      by_cases h2 : j < N
      · have h2i : (j : Int) < (N : Int) := by omega
        obtain ⟨g,o,rfl,hcell⟩ := HC.out (by omega)
        have hjl : j < L.length := by rw [HM.out]; exact h1
        obtain ⟨a,ha⟩ : ∃ a,L[j]? = some a := ⟨_,List.getElem?_eq_getElem hjl⟩
        obtain ⟨a1,a2,a3,a4,a5,a6,a7⟩ := hcell j a ha
        have hk := HS.out.1.1
        have d1 := hk.cell a1 (fun h => h)
        have d2 := hk.cell a2 (fun h => h)
        have d3 := hk.cell a3 (fun h => h)
        have d4 := hk.cell a4 (fun h => h)
        have d5 := hk.cell a5 (fun h => h)
        have d6 := hk.cell a6 (fun h => h)
        have d7 := hk.cell a7 (fun h => h)
        have HCALL := Lib.hid (HSTEP.out _ _ _ _ _ _ a HS.out.1)
        obtain ⟨k,⟨f,en,ek,et⟩,fr,n⟩ := a
        simp only at d1 d2 d3 d4 d5 d6 d7
        simp only [Act.val] at HCALL
        clear a1 a2 a3 a4 a5 a6 a7 hcell ha hk
        go_wp2_with fail
        with_reducible refine HCALL.out.mono ?_
        rintro e w5 ⟨A5,m5,c5,T5,rfl,hs5,hn5,hl5⟩
        have HS5 : Hid (St w w5 p T5 (.slice A5 m5 c5) T5.flat ∧ T5.nfs = []) := ⟨hs5,hn5 HS.out.2⟩
        have hfl5 : T5.flat.length ≤ 2 * (j + 1) := by omega
        clear hs5 hn5 hl5
        go_wp2_with fail
        go_roundw
        case rel => exact ⟨j + 1,T5,A5,m5,c5,by omega,by omega,by go_num,rfl,HS5,hfl5⟩
        case measure => simp [intOf]; omega
      · have h2i : ¬ (j : Int) < (N : Int) := by omega
        go_wp2_with fail
        refine bodyPost_ret (v := .tuple #[.pointer (some ⟨p,0,none⟩),.slice B m d]) (by simp [results,Tryz.results15,go_sem]) rfl ?_
        exact ⟨_,_,_,_,rfl,T,HS.out.1,HS.out.2,by omega⟩
    · have h1i : ¬ (j : Int) < (M : Int) := by omega
      go_wp2_with fail
      refine bodyPost_ret (v := .tuple #[.pointer (some ⟨p,0,none⟩),.slice B m d]) (by simp [results,Tryz.results15,go_sem]) rfl ?_
      exact ⟨_,_,_,_,rfl,T,HS.out.1,HS.out.2,by omega⟩
theorem all_fresh {T : Tree} (h : T.nfs = []) : T.ats = List.replicate T.cnt (-1) := by
  rw [tnfs_is,List.filter_eq_nil_iff] at h
  rw [← tats_len]
  exact List.eq_replicate_iff.2 ⟨rfl,fun a ha => by have := h a ha; simpa using this⟩
theorem fresh_all {T : Tree} (h : T.nfs = []) : T.fr = T.cnt := by
  have := fr_cnt T
  rw [h] at this
  simpa using this
end Go.Proofs.YtneammhkgmkkfaaGreatDoor.tr
