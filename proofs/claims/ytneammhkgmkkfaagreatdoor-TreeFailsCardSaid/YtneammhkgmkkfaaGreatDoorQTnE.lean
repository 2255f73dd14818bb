/- A part of the proof. -/
import Derived.Test.YtneammhkgmkkfaaGreatDoorQFlU
import Derived.Test.YtneammhkgmkkfaaGreatDoorQTnD
namespace Go.Proofs.YtneammhkgmkkfaaGreatDoor.tr
open Go.RowKit Go.Proofs.YtneammhkgmkkfaaGreatDoor.er
set_option linter.unusedVariables false
set_option linter.unusedSimpArgs false
theorem nodeInfoF : (Tryz.prog.info? 25).map (fun i => (i.zero,i.size,i.bytes)) = some (some (.agg #[.int .i64 0,.string ⟨#[]⟩]),2,24) := by kernel_rfl
theorem made_nodes (m : Nat) : (madeCells (Value.agg #[.int .i64 0,.string ⟨#[]⟩]).cells (m * 2)).toList = bkCells (List.replicate m (0,⟨#[]⟩)) := by
  have hz : (Value.agg #[.int .i64 0,.string ⟨#[]⟩]).cells = #[.int .i64 0,.string ⟨#[]⟩] := by kernel_rfl
  rw [hz]
  unfold madeCells
  induction m with
  | zero => simp [bkCells]
  | succ m ih =>
    rw [List.replicate_succ',show (m + 1) * 2 = m * 2 + 1 + 1 by omega,bkCells_snoc,← ih]
    rw [Array.range_succ,Array.range_succ]
    simp
theorem st_fresh {w0 wr : World} {p : Nat} {T : Tree} {rv : Value} (h : St w0 wr p T rv T.flat) (hN : T.cnt ≤ 16777216) :
    Calls Tryz.prog 18 #[.pointer (some ⟨p,0,none⟩)] wr fun x w' => x = .returned (.int .i64 T.fr) ∧ Below wr.heap.size wr w' := by
  obtain ⟨h1,h2,h3,h4,F,f1,_⟩ := h
  exact fresh_any wr F p T f1 h2 hN
theorem st_nodes {w0 wr : World} {p : Nat} {T : Tree} {rv : Value} (h : St w0 wr p T rv T.flat) (hN : T.cnt ≤ 16777216) :
    Calls Tryz.prog 9 #[.pointer (some ⟨p,0,none⟩)] wr fun x w' => x = .returned (.int .i64 T.cnt) ∧ Below wr.heap.size wr w' := by
  obtain ⟨h1,h2,h3,h4,F,f1,_⟩ := h
  exact Nodes_any wr F p T f1 h2 hN
theorem at_rng (a : Int) (n : Nat) (hn : 0 < n) : ∃ k : Nat,k < n ∧ (a.tmod n + n).tmod n = k ∧ -(n : Int) < a.tmod n ∧ a.tmod n < n := by
  have hp : (0 : Int) < n := by omega
  have h1 : a.tmod n < n := Int.tmod_lt_of_pos a hp
  have h2 : -(n : Int) < a.tmod n := by
    have := Int.tmod_lt_of_pos (-a) hp
    rw [Int.neg_tmod] at this
    omega
  have h3 : (a.tmod n + n).tmod n = (a.tmod n + n) % n := Int.tmod_eq_emod_of_nonneg (by omega)
  have h4 := Int.emod_nonneg (a.tmod n + n) (show (n : Int) ≠ 0 by omega)
  have h5 := Int.emod_lt_of_pos (a.tmod n + n) hp
  exact ⟨((a.tmod n + n) % n).toNat,by omega,by rw [h3]; omega,h2,h1⟩
set_option maxHeartbeats 16000000 in
set_option maxRecDepth 100000 in
theorem lawFails_any (w : World) (v : Value) (L0 : List Act) (at_ : Int) (h : ActsAt w v L0) (hI : -9223372036854775808 ≤ at_ ∧ at_ ≤ 9223372036854775807) (hg : LaidT w) :
    Calls Tryz.prog 4 #[v,.int .i64 at_] w fun y w' => y = .returned (.bool true) ∧ Below w.heap.size w w' := by
  have HBU : Hid (Calls Tryz.prog 15 #[v,.int .i64 150] w fun x w' => ∃ p A m c T,x = .returned (.tuple #[.pointer (some ⟨p,0,none⟩),.slice A m c]) ∧ St w w' p T (.slice A m c) T.flat ∧ T.nfs = [] ∧ T.flat.length ≤ 2 * 150) := builtF_any w v L0 150 (by omega) h
  have HAW := Lib.hid (fun wq => awake_any wq)
  have HFIN : Hid (∀ wr,Keep (fun _ => False) w wr → Below w.heap.size w wr) := fun wr hk => hk.toBelow (Nat.le_refl _) (fun _ h => h.elim)
  have HG : Hid (∀ wq,Keep (fun _ => False) w wq → LaidT wq) := fun wq hk => hg.below (hk.toBelow (Nat.le_refl _) (fun _ h => h.elim)) hg.lt
  obtain ⟨A,c,rfl,hb,hc⟩ := h
  obtain ⟨M,hM⟩ : ∃ M,L0.length = M := ⟨_,rfl⟩
  rw [hM] at HBU ⊢
  obtain ⟨ha1,ha2⟩ := hI
  clear hc hM hb hg
  go_enter Tryz.func4,Tryz.ntmps4
  go_wp2_with fail
  with_reducible refine HBU.out.mono ?_
  rintro e w1 ⟨p,B,m,d,T,rfl,hs1,hn1,hl1⟩
  have hm1 := st_len hs1
  have HT : Hid (T.nfs = [] ∧ T.cnt ≤ 101 ∧ T.fr = T.cnt ∧ T.Ok ∧ T.flat.length = m ∧ m ≤ 300 ∧ Chk T.flat) := ⟨hn1,by have := cnt_le hs1.2.1; omega,fresh_all hn1,hs1.2.1,hm1.symm,by omega,hs1.2.2.1⟩
  have HS1 := Lib.hid hs1
  clear hs1 hn1 hl1 HBU hm1
  go_wp2_with fail
  with_reducible refine (HAW.out _).mono ?_
  rintro e w2 ⟨rfl,hb2⟩
  have HS2 := Lib.hid (HS1.out.below hb2)
  have HN2 := Lib.hid (st_nodes HS2.out (by have := HT.out; omega))
  clear hb2
  go_wp2_with fail
  with_reducible refine HN2.out.mono ?_
  rintro e w3 ⟨rfl,hb3⟩
  have HS3 := Lib.hid (HS2.out.below hb3)
  clear hb3
  obtain ⟨N,hN⟩ : ∃ N,T.cnt = N := ⟨_,rfl⟩
  rw [hN]
  have hNi : (N : Int) ≤ 101 := by have := HT.out; omega
  by_cases hz : N = 0
  · subst hz
    have hm0 : m = 0 := by
      have h1 := HT.out.2.2.2.1
      by_cases he : T.flat = []
      · rw [← HT.out.2.2.2.2.1,he]; rfl
      · exfalso
        cases T with
        | no => exact he rfl
        | top h n =>
          obtain ⟨A,hA⟩ := at_last n
          have := ats_len n
          rw [hA] at this
          have h2 : cntN n = 0 := hN
          simp at this
          omega
    subst hm0
    go_wp2_with fail
    go_ret
    exact ⟨rfl,HFIN.out _ HS3.out.1⟩
  · obtain ⟨k,hk,hkv,hr1,hr2⟩ := at_rng at_ N (by omega)
    obtain ⟨r1,hr1e⟩ : ∃ r1,at_.tmod (N : Int) = r1 := ⟨_,rfl⟩
    rw [hr1e] at hkv hr1 hr2
    have hNz : ((N : Int) == 0) = false := by simp; omega
    obtain ⟨m0,hm0⟩ : ∃ m0 : Nat,m0 + k = 2000 := ⟨2000 - k,by omega⟩
    obtain ⟨i0,hi0,hz0,hz1,hz2⟩ := info_parts nodeInfoF
    obtain ⟨w4,hmk,hown,hgb⟩ := run_makeSlice_full (P := Tryz.prog) (w := w3) w3.heap.size 22 25 i0 _ 2 Tryz.underlying22 hi0 hz0 hz1 .i64 .i64 m0 (by omega) (by rw [hz2]; omega) (by unfold maxLen; omega) (Nat.le_refl _)
    rw [show ((m0 : Nat) : Int) = 2000 - (k : Int) by omega] at hmk
    have HOWN := Lib.hid hown
    have HB34 : Hid (Below w3.heap.size w3 w4) := ⟨hgb.os,hgb.tape,hgb.output,hgb.size,fun j hj => hgb.block j hj (by simp)⟩
    clear hown hgb hi0 hz0 hz1 hz2
    obtain ⟨h0,n,rfl⟩ : ∃ h n,T = Tree.top h n := by
      cases T with
      | no => exact absurd (show 0 = N from hN).symm hz
      | top h n => exact ⟨h,n,rfl⟩
    have HOWN4 := HOWN.out
    have hbk : BkAt (w4.alloc (.cells #[.slice (some ⟨w3.heap.size,0,none⟩) m0 m0] 28)) (fun k => k = w4.heap.size ∨ k = w3.heap.size) w4.heap.size (List.replicate m0 (0,⟨#[]⟩)) := by
      refine ⟨.slice (some ⟨w3.heap.size,0,none⟩) m0 m0,Whole.new _ _ _,?_,fun k => ?_⟩
      · rw [List.length_replicate,← made_nodes]
        exact own_base (HOWN4.alloc _) (Nat.zero_le _)
      · show _ ↔ k = w4.heap.size ∨ some w3.heap.size = some k
        rw [Option.some.injEq]
        exact or_congr_right eq_comm
    have hsz34 := HB34.out.size
    have HWR := Lib.hid (fail_one HS3.out HT.out.1 (HB34.out.trans ((Below.refl _ _).alloc (by omega) _)) hbk (fun k hk => by omega) (at_ := k) (by rw [List.length_replicate]; omega) (show k < (Tree.top h0 n).cnt by omega) (show (Tree.top h0 n).cnt ≤ 1000 by omega))
    unfold putF at HWR
    have HB04 := HS3.out.1.trans (Keep.below (F := fun _ => False) HB34.out) (fun _ h => .inl h)
    clear hbk HOWN4
    go_wp2_with fail
    with_reducible refine HWR.out.mono ?_
    rintro e w5 ⟨n',b,fk,G',B5,rfl,hwh,hs5,hst5,hfr5,hnd5,hrg5,hbk5,hlen5⟩
    have HS5 := Lib.hid hs5
    have HBK5 := Lib.hid hbk5
    have HN5 := Lib.hid (And.intro hst5 (And.intro hfr5 (And.intro hnd5 hrg5)))
    have HL5 := Lib.hid hlen5
    have HER : Hid (ErrAt w5 [b] [(wrOp,fk)] 2 (.iface 88 (.pointer (some ⟨b,0,none⟩)))) := ⟨rfl,_,hwh,rfl⟩
    have HTL := Lib.hid (trail_at _ _ _ _ w5 HER.out (HG.out _ HS5.out.1) (by simp))
    clear hwh hs5 hst5 hfr5 hnd5 hrg5 hbk5 hlen5 HWR
    go_wp2_with fail
    with_reducible refine HTL.out.mono ?_
    rintro e w6 ⟨s,rfl,hrow,hb6⟩
    have HS6 := Lib.hid (HS5.out.below hb6)
    have HBK6 := Lib.hid (HBK5.out.below hb6)
    have HER6 := Lib.hid (HER.out.below hb6)
    clear hb6 HTL
    obtain ⟨As,cs,rfl⟩ := own_slice hrow
    obtain ⟨gs,rfl,_,hgl,_,hcs,_⟩ := own_cell hrow (Nat.succ_pos _)
    have hop := hcs 0 (.string wrOp) rfl
    unfold wrOp at hop
    have HOP : Hid (∀ wq,Below w6.heap.size w6 wq → wq.cell? ⟨gs,0,none⟩ = some (.string ⟨#[119,114,105,116,101]⟩)) := fun wq hb => below_c hb hop
    have HCD := Lib.hid (code_at _ _ _ _ w6 HER6.out (HG.out _ HS6.out.1))
    have hlen1 : [(wrOp,fk)].length = 1 := rfl
    rw [hlen1]
    clear hcs hgl hop hrow hlen1
    go_wp2_with fail
    with_reducible refine HCD.out.mono ?_
    rintro e w7 ⟨rfl,hb7⟩
    have HS7 := Lib.hid (HS6.out.below hb7)
    have HBK7 := Lib.hid (HBK6.out.below hb7)
    have HB67 := Lib.hid hb7
    have hop7 := HOP.out _ HB67.out
    have hcn : cntN n' = N := by rw [← strip_cnt n',HN5.out.1,strip_cnt]; exact hN
    have hN2 : cntN n = N := hN
    have HCN := Lib.hid hcn
    have HFR := Lib.hid (st_fresh HS7.out (show cntN n' ≤ 16777216 by omega))
    obtain ⟨f,hf⟩ : ∃ f,frN n' = f := ⟨_,rfl⟩
    have hfk : f + k = N := by have := HN5.out.2.1; rw [hf,hN2] at this; exact this
    have HF := Lib.hid hf
    have hfi : (f : Int) = (N : Int) - (k : Int) := by omega
    have HFI := Lib.hid hfi
    clear hb7 HCD hcn hN2 hf hfi
    go_wp2_with fail
    with_reducible refine HFR.out.mono ?_
    rintro e w8 ⟨rfl,hb8⟩
    have HS8 := Lib.hid (HS7.out.below hb8)
    obtain ⟨A8,c8,hbc⟩ := (HBK7.out.below hb8).cell
    rw [HL5.out] at hbc
    rw [show (Tree.top h0 n').fr = f from HF.out,HFI.out]
    have HBK9 := Lib.hid (BkAt.cell (w := w8.alloc (.cells #[.slice none 0 0] 28)) (G := fun k => k = w8.heap.size) (bb := w8.heap.size) (L := []))
    have hbk9 : BkAt (w8.alloc (.cells #[.slice none 0 0] 28)) (fun k => k = w8.heap.size) w8.heap.size [] :=
      ⟨.slice none 0 0,Whole.new _ _ _,⟨rfl,.inl ⟨rfl,rfl⟩⟩,fun k => by simp [Value.ownBlock]⟩
    have HW2 := Lib.hid (then_two HS8.out HN5.out.2.2.1 (fun a ha => by have := HN5.out.2.2.2 a ha; rw [List.length_replicate] at this; omega) ((Below.refl _ _).alloc (Nat.le_refl _) _) hbk9 (fun k hk => by omega) (show cntN n' ≤ 1000 by have := HCN.out; omega))
    unfold putF at HW2
    clear hbk9 HBK9 hb8 HFR
    go_wp2_with fail
    with_reducible refine HW2.out.mono ?_
    rintro e w10 ⟨n2,a2,G2,B2,rfl,hs10,hst2,hfr2,hbk2,hl2⟩
    have HS10 := Lib.hid hs10
    obtain ⟨A10,c10,hbc10⟩ := hbk2.cell
    rw [hl2,HF.out] at hbc10
    have hcn2 : cntN n2 ≤ 16777216 := by
      have : cntN n2 = cntN n' := by rw [← strip_cnt n2,hst2,strip_cnt]
      have := HCN.out
      omega
    have HFR2 := Lib.hid (st_fresh HS10.out hcn2)
    have HFZ := Lib.hid (show (Tree.top h0 n2).fr = 0 from hfr2)
    have hfi := HFI.out
    clear hs10 hst2 hfr2 hbk2 hl2 hcn2 HW2
    go_wp2_with fail
    with_reducible refine HFR2.out.mono ?_
    rintro e w11 ⟨rfl,hb11⟩
    rw [HFZ.out]
    have HS11 := Lib.hid (HS10.out.below hb11)
    have HSM := Lib.hid (same_any w w11 p m d (.top h0 n2) B HS11.out)
    clear hb11 HFR2
    go_wp2_with fail
    with_reducible refine HSM.out.mono ?_
    rintro e w12 ⟨rfl,hb12⟩
    have HS12 := Lib.hid (HS11.out.below hb12)
    clear hb12
    go_wp2_with fail
    go_ret
    exact ⟨rfl,HFIN.out _ HS12.out.1⟩
end Go.Proofs.YtneammhkgmkkfaaGreatDoor.tr
