/- A part of the proof. -/
import Derived.Test.YtneammhkgmkkfaaGreatPTuA
import Derived.Test.YtneammhkgmkkfaaGreatPTvF
namespace Go.Proofs.YtneammhkgmkkfaaGreat.tr
open Go.RowKit Go.Proofs.YtneammhkgmkkfaaGreat.er
set_option linter.unusedVariables false
set_option linter.unusedSimpArgs false
set_option maxHeartbeats 4000000 in
set_option maxRecDepth 100000 in
theorem builtF_any (w : World) (v : Value) (L : List Act) (N : Nat) (hN : N ≤ 1000) (h : ActsAt w v L) :
    Calls Tryz.prog 12 #[v,.int .i64 N] w fun x w' => ∃ p A m c T,x = .returned (.tuple #[.pointer (some ⟨p,0,none⟩),.slice A m c]) ∧ St w w' p T (.slice A m c) T.flat ∧ T.nfs = [] ∧ T.flat.length ≤ 2 * N := by
  obtain ⟨A,c,rfl,hb,hc⟩ := h
  have HC := Lib.hid hc
  obtain ⟨M,hM⟩ : ∃ M,L.length = M := ⟨_,rfl⟩
  rw [hM] at hb HC ⊢
  have HM := Lib.hid hM
  have hNi : (N : Int) ≤ 1000 := by omega
  have hMi : (M : Int) ≤ 9223372036854775807 := by omega
  have HNEW := Lib.hid (new_any w)
  have HST0 := Lib.hid (st_new w)
  have HSTEP : Hid (∀ wr p T B m d (a : Act),St w wr p T (.slice B m d) T.flat → Calls Tryz.prog 20 #[.pointer (some ⟨p,0,none⟩),.slice B m d,a.val] wr fun x w' => ∃ A m c T',x = .returned (.tuple #[.slice A m c,.bool true]) ∧ St w w' p T' (.slice A m c) T'.flat ∧ (T.nfs = [] → T'.nfs = []) ∧ T'.flat.length ≤ T.flat.length + 2) := by
    intro wr p T B m d a hs
    refine (step_any w wr p T B m d _ a hs).mono ?_
    rintro x w' ⟨A,m,c,rfl,hs'⟩
    refine ⟨A,m,c,a.tree T,rfl,by rw [act_flat a hs.2.1 hs.2.2.1]; exact hs',fun h0 => ?_,by rw [act_flat a hs.2.1 hs.2.2.1]; exact act_len a hs.2.2.1⟩
    have hk := (act_kept her_true a hs.2.1 hs.2.2.1).2
    rw [h0] at hk
    exact List.sublist_nil.1 hk
  clear hc hM
  go_enter Tryz.func12,Tryz.ntmps12
  go_wp2_with fail
  with_reducible refine HNEW.out.mono ?_
  rintro e w1 ⟨rfl,rfl⟩
  go_wp2_with fail
  obtain ⟨w1,hw1⟩ : ∃ w1,w.alloc (.cells #[.nilIface] 80) = w1 := ⟨_,rfl⟩
  have HS1 : Hid (St w w1 w.heap.size .no (.slice none 0 0) []) := by show St _ _ _ _ _ _; rw [← hw1]; exact HST0.out
  rw [hw1]
  clear hw1 HST0 HNEW
  obtain ⟨p,hp⟩ : ∃ p,w.heap.size = p := ⟨_,rfl⟩
  rw [hp] at HS1 ⊢
  clear hp
  go_loopw [7,8,9,10] (fun s7 s8 s9 s10 wr => ∃ (j : Nat) (T : Tree) (B : Option Addr) (m d : Nat),j ≤ M ∧ j ≤ N ∧ s8 = .int .i64 j ∧ s7 = .slice B m d ∧ Hid (St w wr p T (.slice B m d) T.flat ∧ T.nfs = []) ∧ T.flat.length ≤ 2 * j) (fun _ s8 _ _ _ => M - (intOf s8).toNat)
  case atStart => exact ⟨0,.no,none,0,0,Nat.zero_le _,Nat.zero_le _,rfl,rfl,⟨HS1.out,rfl⟩,Nat.le_refl _⟩
  case round =>
    obtain ⟨j,T,B,m,d,hjM,hjN,rfl,rfl,HS,hfl⟩ := hrel
    by_cases h1 : j < M
    · have h1i : (j : Int) < (M : Int) := by omega
      by_cases h2 : j < N
      · have h2i : (j : Int) < (N : Int) := by omega
        obtain ⟨g,o,rfl,hcell⟩ := HC.out (by omega)
        have hjl : j < L.length := by rw [HM.out]; exact h1
        obtain ⟨a,ha⟩ : ∃ a,L[j]? = some a := ⟨_,List.getElem?_eq_getElem hjl⟩
        obtain ⟨a1,a2,a3,a4,a5,a6,a7⟩ := hcell j a ha
        have hk := HS.out.1.1
        have d1 := hk.cell a1 (fun h => h)
        have d2 := hk.cell a2 (fun h => h)
        have d3 := hk.cell a3 (fun h => h)
        have d4 := hk.cell a4 (fun h => h)
        have d5 := hk.cell a5 (fun h => h)
        have d6 := hk.cell a6 (fun h => h)
        have d7 := hk.cell a7 (fun h => h)
        have HCALL := Lib.hid (HSTEP.out _ _ _ _ _ _ a HS.out.1)
        obtain ⟨k,⟨f,en,ek,et⟩,fr,n⟩ := a
        simp only at d1 d2 d3 d4 d5 d6 d7
        simp only [Act.val] at HCALL
        clear a1 a2 a3 a4 a5 a6 a7 hcell ha hk
        go_wp2_with fail
        with_reducible refine HCALL.out.mono ?_
        rintro e w5 ⟨A5,m5,c5,T5,rfl,hs5,hn5,hl5⟩
        have HS5 : Hid (St w w5 p T5 (.slice A5 m5 c5) T5.flat ∧ T5.nfs = []) := ⟨hs5,hn5 HS.out.2⟩
        have hfl5 : T5.flat.length ≤ 2 * (j + 1) := by omega
        clear hs5 hn5 hl5
        go_wp2_with fail
        go_roundw
        case rel => exact ⟨j + 1,T5,A5,m5,c5,by omega,by omega,by go_num,rfl,HS5,hfl5⟩
        case measure => simp [intOf]; omega
      · have h2i : ¬ (j : Int) < (N : Int) := by omega
        go_wp2_with fail
        refine bodyPost_ret (v := .tuple #[.pointer (some ⟨p,0,none⟩),.slice B m d]) (by simp [results,Tryz.results12,go_sem]) rfl ?_
        exact ⟨_,_,_,_,rfl,T,HS.out.1,HS.out.2,by omega⟩
    · have h1i : ¬ (j : Int) < (M : Int) := by omega
      go_wp2_with fail
      refine bodyPost_ret (v := .tuple #[.pointer (some ⟨p,0,none⟩),.slice B m d]) (by simp [results,Tryz.results12,go_sem]) rfl ?_
      exact ⟨_,_,_,_,rfl,T,HS.out.1,HS.out.2,by omega⟩
theorem pl_of_st {w w1 : World} {p : Nat} {T : Tree} {rv : Value} (h : St w w1 p T rv T.flat) (hn : T.nfs = []) : PlI w (w1.alloc (.cells #[.slice none 0 0] 60)) p w1.heap.size T rv [] := by
  have hb : Below w1.heap.size w1 (w1.alloc (.cells #[.slice none 0 0] 60)) := (Below.refl _ _).alloc (Nat.le_refl _) _
  obtain ⟨h1,h2,h3,h4,F,f1,f2,⟨B,f3⟩,f4⟩ := h
  have hlt := f1.lt
  refine ⟨h1.transBelow hb,h2,h3,⟨by rw [hn]; exact List.nodup_nil,fun a ha => by rw [hn] at ha; simp at ha⟩,F,fun k => k = w1.heap.size ∨ (Value.slice none 0 0).ownBlock = some k,f1.keep (Keep.below (F := fun _ => False) hb) (fun _ _ h => h),f2,⟨_,Whole.new w1 _ _,⟨rfl,.inl ⟨rfl,rfl⟩⟩,fun k => Iff.rfl⟩,fun k hk => ?_,fun k hk hg => ?_,⟨B,f3.below hb⟩,f4⟩
  · rcases hk with rfl | hk
    · exact h1.size
    · cases hk
  · rcases hg with hg | hg
    · have := hlt k hk; omega
    · cases hg
theorem all_fresh {T : Tree} (h : T.nfs = []) : T.ats = List.replicate T.cnt (-1) := by
  rw [tnfs_is,List.filter_eq_nil_iff] at h
  rw [← tats_len]
  exact List.eq_replicate_iff.2 ⟨rfl,fun a ha => by have := h a ha; simpa using this⟩
theorem fresh_all {T : Tree} (h : T.nfs = []) : T.fr = T.cnt := by
  have := fr_cnt T
  rw [h] at this
  simpa using this
theorem wrote_new {T T' : Tree} {L' : Bk} (h : Wrote T [] T' L') (hn : T.nfs = []) (ho : T.Ok) : T'.ats = (List.range T.cnt).map fun (i : Nat) => (i : Int) := by
  cases T with
  | no => obtain ⟨rfl,rfl⟩ := h; rfl
  | top hh n =>
    obtain ⟨n',rfl,hw⟩ := h
    have hl : (ats n').length = cntN n := by rw [ats_len,← strip_cnt,hw.strip,strip_cnt]
    have hr : ats n = List.replicate (cntN n) (-1) := all_fresh hn
    apply List.ext_getElem?
    intro i
    show (ats n')[i]? = _
    by_cases hi : i < cntN n
    · have hi2 : (ats n)[i]? = some (-1) := by rw [hr,List.getElem?_replicate,if_pos hi]
      obtain ⟨a,pg,q1,q2,_⟩ := hw.new i (by rw [ats_len]; exact hi) hi2
      have hf : (((ats n).take i).filter fun a => decide (a = -1)).length = i := by
        rw [hr,List.take_replicate,List.filter_eq_self.2 (by intro a ha; rw [List.eq_of_mem_replicate ha]; simp),List.length_replicate]
        omega
      rw [hf] at q2
      simp only [List.length_nil] at q2
      rw [q1,List.getElem?_map,List.getElem?_range (show i < (Tree.top hh n).cnt from hi)]
      simp only [Option.map_some]
      congr 1
      omega
    · rw [List.getElem?_eq_none (by omega),List.getElem?_eq_none (by simp; exact Nat.le_of_not_lt hi)]
end Go.Proofs.YtneammhkgmkkfaaGreat.tr
namespace Go.Proofs.YtneammhkgmkkfaaGreat.tr
open Go.RowKit Go.Proofs.YtneammhkgmkkfaaGreat.er
set_option linter.unusedVariables false
set_option linter.unusedSimpArgs false
theorem pl_fresh {w0 wr : World} {p bb : Nat} {T : Tree} {rv : Value} {L : Bk} (h : PlI w0 wr p bb T rv L) (hN : T.cnt ≤ 16777216) :
    Calls Tryz.prog 31 #[.pointer (some ⟨p,0,none⟩)] wr fun x w' => x = .returned (.int .i64 T.fr) ∧ PlI w0 w' p bb T rv L ∧ Below wr.heap.size wr w' := by
  have hh := h
  obtain ⟨h1,h2,h3,h4,F,G,f1,_⟩ := h
  refine (fresh_any wr F p T f1 h2 hN).mono ?_
  rintro x w' ⟨rfl,hb⟩
  exact ⟨rfl,hh.below hb,hb⟩
theorem pl_height {w0 wr : World} {p bb : Nat} {T : Tree} {rv : Value} {L : Bk} (h : PlI w0 wr p bb T rv L) :
    Calls Tryz.prog 14 #[.pointer (some ⟨p,0,none⟩)] wr fun x w' => x = .returned (.int .i64 T.high) ∧ w' = wr := by
  obtain ⟨h1,h2,h3,h4,F,G,f1,_⟩ := h
  exact height_any wr F p T f1 h2 h3
theorem pl_pages {w0 wr : World} {p bb : Nat} {T : Tree} {rv : Value} {L : Bk} (h : PlI w0 wr p bb T rv L) (hN : T.cnt ≤ 16777216) :
    Calls Tryz.prog 19 #[.pointer (some ⟨p,0,none⟩)] wr fun x w' => ∃ A c,x = .returned (.slice A T.nfs.length c) ∧ w'.ownsRow wr.heap.size 3 1 (.slice A T.nfs.length c) T.nfs.length ((sorted T.nfs).map (Value.int .i64)) ∧ PlI w0 w' p bb T rv L ∧ Below wr.heap.size wr w' := by
  have hh := h
  obtain ⟨h1,h2,h3,h4,F,G,f1,_⟩ := h
  refine (pages_any wr F p T f1 h2 hN).mono ?_
  rintro x w' ⟨A,c,rfl,ho,hb⟩
  exact ⟨A,c,rfl,ho,hh.below hb,hb⟩
end Go.Proofs.YtneammhkgmkkfaaGreat.tr
