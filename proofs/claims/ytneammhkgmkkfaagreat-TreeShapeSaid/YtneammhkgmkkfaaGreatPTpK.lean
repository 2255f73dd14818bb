/- A part of the proof. -/
import Derived.Test.YtneammhkgmkkfaaGreatPTpJ
import Derived.Test.YtneammhkgmkkfaaGreatPTqJ
namespace Go.Proofs.YtneammhkgmkkfaaGreat.tr
open Go.RowKit Go.Proofs.YtneammhkgmkkfaaGreat.er
set_option linter.unusedVariables false
set_option linter.unusedSimpArgs false
theorem says_any : ∀ h,h ≤ 50 → SaysCtr h
  | 0,_ => says_leaf
  | h + 1,hh => says_inner (by omega) (says_any h (by omega))
theorem wrote_says {h : Nat} {n : Nd h} {T' : Tree} {L' : Bk} (hw : Wrote (.top h n) [] T' L') (hn : (Tree.top h n).nfs = []) (ho : (Tree.top h n).Ok) (hc : Chk (flat n)) (hl : L'.length ≤ 2000) :
    ∃ n' : Nd h,T' = .top h n' ∧ LieZ L' n' ∧ (ats n').Nodup ∧ (∀ a ∈ ats n',0 ≤ a ∧ a < 2048) ∧ Kw n' ∧ Chk (flat n') ∧ Big n' ∧ 1 ≤ n'.size ∧ n'.size ≤ 8 := by
  obtain ⟨n',rfl,hws⟩ := hw
  have ho' : (Tree.top h n').Ok := ok_strip hws.strip ho
  have hla : (ats n').length = (ats n).length := by rw [ats_len,ats_len,← strip_cnt,hws.strip,strip_cnt]
  have hall : ats n = List.replicate (cntN n) (-1) := all_fresh hn
  have hneg : ∀ i,i < (ats n).length → (ats n)[i]? = some (-1) := fun i hi => by
    rw [hall,List.getElem?_replicate,if_pos (by rw [ats_len] at hi; exact hi)]
  have hlow : ∀ a ∈ ats n',a ≠ -1 := fun a ha => by
    obtain ⟨i,hi,rfl⟩ := List.mem_iff_getElem.1 ha
    exact hws.low i _ (by omega) (List.getElem?_eq_getElem hi)
  have hnf : nfs n' = ats n' := List.filter_eq_self.2 (fun a ha => by have := hlow a ha; simpa using this)
  have hnd : (ats n').Nodup := by have := hws.nd; rw [hnf] at this; exact this
  have hrg : ∀ a ∈ ats n',0 ≤ a ∧ a < 2048 := fun a ha => by
    have := hws.rng a (by rw [hnf]; exact ha)
    omega
  have hlie : LieZ L' n' := fun x hx => by
    obtain ⟨i,h1,h2⟩ := zip_idx hx
    have hi : i < (ats n).length := by rw [← hla]; exact (List.getElem?_eq_some_iff.1 h1).1
    obtain ⟨a,pg,q1,q2,q3,q4⟩ := hws.new i hi (hneg i hi)
    rw [h1] at q1
    rw [h2] at q3
    injection q1 with q1
    injection q3 with q3
    rw [q1,q3]
    have := getB_pre (M := []) q4
    rw [List.append_nil] at this
    exact this
  have hcf : Chk (flat n') := by
    have := strip_flat n'
    rw [hws.strip,strip_flat] at this
    rw [← this]; exact hc
  refine ⟨n',rfl,hlie,hnd,hrg,?_⟩
  cases h with
  | zero => exact ⟨trivial,hcf,trivial,ho'.1,ho'.2⟩
  | succ h => exact ⟨ho'.2,hcf,ho'.1.1,by have := ho'.1.1; omega,ho'.1.2⟩
theorem pl_says {w0 wr : World} {p bb : Nat} {T T' : Tree} {rv : Value} {L : Bk} (h : PlI w0 wr p bb T' rv L) (hw : Wrote T [] T' L) (hn : T.nfs = []) (ho : T.Ok) (hc : Chk T.flat) (hl : L.length ≤ 2000) (hne : T.flat ≠ []) (hh : T.high ≤ 6) :
    ∃ A c,wr.cell? ⟨bb,0,none⟩ = some (.slice A L.length c) ∧ Calls Tryz.prog 32 #[.slice A L.length c,.int .i64 T'.topAt,.int .i64 T'.high,.bool true] wr fun x w' => ∃ B d f,x = .returned (.agg #[.slice B T'.flat.length d,.int .i64 f,.bool false,.int .i64 T'.cnt]) ∧ ExtsAt w' (.slice B T'.flat.length d) T'.flat ∧ Below wr.heap.size wr w' := by
  obtain ⟨h1,h2,h3,h4,F,G,f1,f2,f3,f4,f5,f6,f7⟩ := h
  obtain ⟨v,g1,g2,g3⟩ := f3
  obtain ⟨A,c,rfl⟩ := own_slice g2
  cases T with
  | no => exact absurd rfl hne
  | top k n =>
    obtain ⟨n',rfl,d1,d2,d3,d4,d5,d6,d7,d8⟩ := wrote_says hw hn ho hc hl
    refine ⟨A,c,g1.cell 0,?_⟩
    have hk : k ≤ 50 := by
      have : k + 1 ≤ 6 := hh
      omega
    refine (says_any k hk wr _ L n' true g2 d1 d2 d3 d4 d5 d6 d7 d8 (.inl rfl)).mono ?_
    rintro x w' ⟨B,d,rfl,e1,e2⟩
    exact ⟨B,d,_,rfl,(ExtsAt.ownT e1).1,e2⟩
theorem shape_plain {T T6 : Tree} {L6 : Bk} (hw : Wrote T [] T6 L6) (hn : T.nfs = []) (ho : T.Ok) (hf : T.flat ≠ []) : T6.topAt = (T.cnt : Int) - 1 := by
  have hats := wrote_new hw hn ho
  cases T with
  | no => exact absurd rfl hf
  | top h n =>
    obtain ⟨n',rfl,hws⟩ := hw
    obtain ⟨A,hA⟩ := at_last n'
    have hl : (ats n').length = cntN n := by rw [ats_len,← strip_cnt,hws.strip,strip_cnt]
    have hA1 : A.length + 1 = cntN n := by rw [← hl,hA]; simp
    have h1 : (ats n')[A.length]? = some n'.at_ := by rw [hA]; simp
    have h2 : (ats n')[A.length]? = some ((A.length : Nat) : Int) := by
      rw [show ats n' = _ from hats,List.getElem?_map,List.getElem?_range (show A.length < (Tree.top h n).cnt from by show _ < cntN n; omega)]
      rfl
    rw [h1] at h2
    injection h2 with h2
    show n'.at_ = (cntN n : Int) - 1
    omega
set_option maxHeartbeats 8000000 in
set_option maxRecDepth 100000 in
theorem lawShape_any (w : World) (v : Value) (L0 : List Act) (h : ActsAt w v L0) :
    Calls Tryz.prog 6 #[v] w fun y w' => y = .returned (.bool true) ∧ Below w.heap.size w w' := by
  have HBU : Hid (Calls Tryz.prog 12 #[v,.int .i64 150] w fun x w' => ∃ p A m c T,x = .returned (.tuple #[.pointer (some ⟨p,0,none⟩),.slice A m c]) ∧ St w w' p T (.slice A m c) T.flat ∧ T.nfs = [] ∧ T.flat.length ≤ 2 * 150) := builtF_any w v L0 150 (by omega) h
  have HAW := Lib.hid (fun wq => awake_any wq)
  have HFIN : Hid (∀ wr,Keep (fun _ => False) w wr → Below w.heap.size w wr) := fun wr hk => hk.toBelow (Nat.le_refl _) (fun _ h => h.elim)
  obtain ⟨A,c,rfl,hb,hc⟩ := h
  obtain ⟨M,hM⟩ : ∃ M,L0.length = M := ⟨_,rfl⟩
  rw [hM] at HBU ⊢
  clear hc hM hb
  go_enter Tryz.func6,Tryz.ntmps6
  go_wp2_with fail
  with_reducible refine HBU.out.mono ?_
  rintro e w1 ⟨p,B,m,d,T,rfl,hs1,hn1,hl1⟩
  have hm1 := st_len hs1
  have HPL := Lib.hid (pl_of_st hs1 hn1)
  have HT : Hid (T.nfs = [] ∧ T.cnt ≤ 101 ∧ T.fr = T.cnt ∧ T.Ok ∧ T.flat.length = m ∧ m ≤ 300 ∧ Chk T.flat ∧ T.high ≤ 4) := ⟨hn1,by have := cnt_le hs1.2.1; omega,fresh_all hn1,hs1.2.1,hm1.symm,by omega,hs1.2.2.1,high_small hs1.2.1 hl1⟩
  clear hs1 hn1 hl1 HBU hm1
  go_wp2_with fail
  obtain ⟨w2,hw2⟩ : ∃ w2,w1.alloc (.cells #[.slice none 0 0] 60) = w2 := ⟨_,rfl⟩
  obtain ⟨bb,hbb⟩ : ∃ bb,w1.heap.size = bb := ⟨_,rfl⟩
  rw [hw2] at HPL ⊢
  rw [hbb] at HPL ⊢
  clear hw2 hbb
  with_reducible refine (HAW.out _).mono ?_
  rintro e w3 ⟨rfl,hb3⟩
  have HS3 := Lib.hid (HPL.out.below hb3)
  have HN3 := Lib.hid (pl_nodes HS3.out (by have := HT.out; omega))
  clear hb3 HPL
  go_wp2_with fail
  with_reducible refine HN3.out.mono ?_
  rintro e w4 ⟨rfl,hs4⟩
  have HS4 := Lib.hid hs4
  have HH4 := Lib.hid (pl_height hs4)
  have HWR := Lib.hid (pl_write hs4 (by have := HT.out; simp; omega) (by have := HT.out; omega))
  clear hs4
  go_wp2_with fail
  with_reducible refine HH4.out.mono ?_
  rintro e w5 ⟨rfl,rfl⟩
  go_wp2_with fail
  with_reducible refine HWR.out.mono ?_
  rintro e w6 ⟨T6,L6,rfl,hw6,hs6⟩
  obtain ⟨q1,q2,q3,q4,q5,q6,q7,q8⟩ := wrote_of hw6 HT.out.2.2.2.1
  obtain ⟨N,hN⟩ : ∃ N,T.cnt = N := ⟨_,rfl⟩
  obtain ⟨hi,hhi⟩ : ∃ hi,T.high = hi := ⟨_,rfl⟩
  have hLN : L6.length = N := by have := HT.out.2.2.1; simp at q3; omega
  have hnf : T6.nfs.length = N := by have := fr_cnt T6; omega
  have HF6 : Hid (T6.fr = 0 ∧ T6.cnt = N ∧ N ≤ 101 ∧ T6.nfs.length = N ∧ L6.length = N ∧ T6.flat = T.flat ∧ T6.high = hi ∧ hi ≤ 4) := ⟨q6,by omega,by have := HT.out; omega,hnf,hLN,q2,by omega,by have := HT.out; omega⟩
  have HS6 := Lib.hid hs6
  have HFR := Lib.hid (pl_fresh hs6 (by have := HF6.out; omega))
  rw [q6] at HFR
  obtain ⟨kA,kc,hbk⟩ := hs6.book
  rw [hLN] at hbk
  have HW6 := Lib.hid hw6
  rw [hN,hhi]
  have hNi : (N : Int) ≤ 101 := by have := HF6.out; omega
  have hhi4 : (hi : Int) ≤ 4 := by have := HF6.out; omega
  obtain ⟨top,htop⟩ : ∃ top,T6.topAt = top := ⟨_,rfl⟩
  rw [htop]
  have HTOP := Lib.hid htop
  have HNN := Lib.hid hN
  have HHH := Lib.hid hhi
  clear hs6 hw6 q1 q2 q3 q4 q5 q6 q7 q8 HWR hnf hLN hN hhi htop HS4 HN3 HH4 HS3
  go_wp2_with fail
  with_reducible refine HFR.out.mono ?_
  rintro e w7 ⟨rfl,hs7,hb7⟩
  have HP7 := Lib.hid (pl_pages hs7 (by have := HF6.out; omega))
  rw [HF6.out.2.2.2.1] at HP7
  clear hs7 hb7
  go_wp2_with fail
  with_reducible refine HP7.out.mono ?_
  rintro e w8 ⟨A8,c8,rfl,ho8,hs8,hb8⟩
  have HS8 := Lib.hid hs8
  have HH8 := Lib.hid (pl_height hs8)
  rw [HF6.out.2.2.2.2.2.2.1] at HH8
  clear hs8 hb8 ho8
  go_wp2_with fail
  with_reducible refine HH8.out.mono ?_
  rintro e w9 ⟨rfl,rfl⟩
  by_cases hm0 : m = 0
  · subst hm0
    have hemp : T.flat = [] := List.length_eq_zero_iff.1 HT.out.2.2.2.2.1
    obtain ⟨hh0,hc0⟩ := (tree_high HT.out.2.2.2.1).1 hemp
    have h1 := HHH.out
    have h2 := HNN.out
    obtain rfl : hi = 0 := by omega
    obtain rfl : N = 0 := by omega
    have ht : top = -1 := by
      have hw := HW6.out
      rw [← HTOP.out]
      cases T with
      | no => obtain ⟨rfl,_⟩ := hw; rfl
      | top h n => exact absurd hh0 (by show h + 1 ≠ 0; omega)
    subst ht
    clear hemp hh0 hc0 h1 h2
    go_wp2_with fail
    go_ret
    exact ⟨rfl,HFIN.out _ HS8.out.1⟩
  · have hmi : ((m : Int) == 0) = false := by simp; omega
    have hne : T.flat ≠ [] := fun e => hm0 (by rw [← HT.out.2.2.2.2.1,e]; rfl)
    have htop := shape_plain HW6.out HT.out.1 HT.out.2.2.2.1 hne
    rw [HTOP.out,HNN.out] at htop
    obtain ⟨kB,kd,hbk2,hsay⟩ := pl_says HS8.out HW6.out HT.out.1 HT.out.2.2.2.1 HT.out.2.2.2.2.2.2.1 (by have := HF6.out; omega) hne (by have := HT.out; omega)
    rw [HF6.out.2.2.2.2.1] at hbk2
    rw [HF6.out.2.2.2.2.1,HTOP.out,HF6.out.2.2.2.2.2.2.1,HF6.out.2.2.2.2.2.1,HT.out.2.2.2.2.1,HF6.out.2.1] at hsay
    have HSAY := Lib.hid hsay
    clear hne hsay hm0
    subst htop
    go_wp2_with fail
    with_reducible refine HSAY.out.mono ?_
    rintro e w10 ⟨B10,d10,f10,rfl,hx10,hb10⟩
    have hs10 := HS8.out.below hb10
    obtain ⟨sb,hsb⟩ : ∃ sb,w10.heap.size = sb := ⟨_,rfl⟩
    obtain ⟨w11,hw11⟩ : ∃ w11,w10.alloc (.cells #[.slice B10 m d10,.int .i64 f10,.bool false,.int .i64 N] 67) = w11 := ⟨_,rfl⟩
    have hb11 : Below w10.heap.size w10 w11 := by rw [← hw11]; exact (Below.refl _ _).alloc (Nat.le_refl _) _
    have hwb : Whole w11 sb 67 #[.slice B10 m d10,.int .i64 f10,.bool false,.int .i64 N] := by rw [← hw11,← hsb]; exact Whole.new _ _ _
    have hr10 := hs10.st.exts
    rw [HF6.out.2.2.2.2.2.1] at hr10
    have HSE : Hid (∀ wq,Below w11.heap.size w11 wq → Calls Tryz.prog 27 #[.slice B10 m d10,.slice B m d] wq fun x w' => x = .returned (.bool true) ∧ Below wq.heap.size wq w') := fun wq hq => sameExts_any T.flat _ _ wq ((hx10.below hb11).below hq) ((hr10.below hb11).below hq) (by have := HT.out; omega)
    have HFW : Hid (∀ wq,Below w11.heap.size w11 wq → Below w.heap.size w wq) := fun wq hq => HFIN.out _ ((hs10.below hb11).below hq).1
    have z0 := hwb.cell 0
    have z2 := hwb.cell 2
    have z3 := hwb.cell 3
    simp at z0 z2 z3
    clear hx10 hr10 hs10 hb10 hb11 hwb
    go_wp2_with fail
    with_reducible refine (HSE.out w11 (Below.refl _ _)).mono ?_
    rintro e w12 ⟨rfl,hb12⟩
    have HB12 := Lib.hid (HFW.out _ hb12)
    clear hb12
    go_wp2_with fail
    go_ret
    exact ⟨rfl,HB12.out⟩
end Go.Proofs.YtneammhkgmkkfaaGreat.tr
