/- A part of the proof. -/
import Derived.Test.YtneammhkgmkkfaaGreatDoorPTyMa
namespace Go.Proofs.YtneammhkgmkkfaaGreatDoor.tr
open Go.RowKit Go.Proofs.YtneammhkgmkkfaaGreatDoor.er
set_option linter.unusedVariables false
set_option linter.unusedSimpArgs false
theorem beq_dec (a b : Int) : (a == b) = decide (a = b) := by
  by_cases h : a = b <;> simp [h]
theorem cmp_any (e : Ext) (s : Int) (w : World) (h : oneB e = true) (h0 : 0 ≤ s) (h1 : s ≤ 16777216) : Calls Tryz.prog 127 #[e.val,.int .i64 s] w fun x w' => x = .returned (.int .i64 (e.fr - s)) ∧ Below w.heap.size w w' := by
  obtain ⟨k1,k2,k3,k4⟩ := one_spec h
  obtain ⟨f,n,k,t⟩ := e
  simp only at k1 k2 k3
  have hw : wrap64 (f - s) = f - s := by unfold wrap64; omega
  show Calls Tryz.prog 127 #[.agg #[.int .i64 f,.int .i64 n,.int .i64 k,.int .i64 t],_] w _
  have HB := Lib.hid ((Below.refl w.heap.size w).alloc (Nat.le_refl _) (.cells #[.int .i64 f,.int .i64 n,.int .i64 k,.int .i64 t] 59))
  clear h k4
  go_enter Tryz.func127,Tryz.ntmps127
  go_wp2_with fail
  go_ret
  exact ⟨rfl,HB.out⟩
theorem rmt_any (e : Ext) (p : Nat) (s : Int) (w : World) (hp : w.cell? ⟨p,0,none⟩ = some (.int .i64 s)) : Calls Tryz.prog 124 #[e.val,.pointer (some ⟨p,0,none⟩)] w fun x w' => x = .returned (.bool (decide (e.fr = s))) ∧ Below w.heap.size w w' := by
  obtain ⟨f,n,k,t⟩ := e
  show Calls Tryz.prog 124 #[.agg #[.int .i64 f,.int .i64 n,.int .i64 k,.int .i64 t],_] w _
  have hbl := (Below.refl w.heap.size w).alloc (Nat.le_refl _) (.cells #[.int .i64 f,.int .i64 n,.int .i64 k,.int .i64 t] 59)
  have hp2 := below_c hbl hp
  have HB := Lib.hid hbl
  clear hbl
  go_enter Tryz.func124,Tryz.ntmps124
  go_wp2_with fail
  go_ret
  exact ⟨by rw [← beq_dec]; rfl,HB.out⟩
theorem lxt_any (e : Ext) (w : World) : Calls Tryz.prog 105 #[e.val] w fun x w' => x = .returned (.bool (decide (2048 ≤ e.at_))) ∧ Below w.heap.size w w' := by
  obtain ⟨f,n,k,t⟩ := e
  show Calls Tryz.prog 105 #[.agg #[.int .i64 f,.int .i64 n,.int .i64 k,.int .i64 t]] w _
  have HB := Lib.hid ((Below.refl w.heap.size w).alloc (Nat.le_refl _) (.cells #[.int .i64 f,.int .i64 n,.int .i64 k,.int .i64 t] 59))
  go_enter Tryz.func105,Tryz.ntmps105
  go_wp2_with fail
  go_ret
  exact ⟨rfl,HB.out⟩
def idxI (p : Ext → Bool) (l : List Ext) : Int := match l.findIdx? p with | some i => i | none => -1
theorem idxI_hit {p : Ext → Bool} {l : List Ext} {j : Nat} {e : Ext} (h : l[j]? = some e) (hp : p e = true) (hn : ∀ i x,i < j → l[i]? = some x → p x = false) : idxI p l = j := by
  have hj := (List.getElem?_eq_some_iff.1 h).1
  have : l.findIdx? p = some j := by
    rw [List.findIdx?_eq_some_iff_getElem]
    refine ⟨hj,?_,fun i hi => ?_⟩
    · rw [List.getElem?_eq_getElem hj] at h; injection h with h; rw [h]; exact hp
    · have := hn i _ hi (List.getElem?_eq_getElem (by omega))
      simpa using this
  unfold idxI
  rw [this]
theorem idxI_miss {p : Ext → Bool} {l : List Ext} (hn : ∀ i x,i < l.length → l[i]? = some x → p x = false) : idxI p l = -1 := by
  have : l.findIdx? p = none := by
    rw [List.findIdx?_eq_none_iff]
    intro x hx
    obtain ⟨i,hi,rfl⟩ := List.mem_iff_getElem.1 hx
    exact hn i _ hi (List.getElem?_eq_getElem hi)
  unfold idxI
  rw [this]
theorem idxI_any (p : Ext → Bool) (l : List Ext) : decide (0 ≤ idxI p l) = l.any p := by
  unfold idxI
  cases h : l.findIdx? p with
  | none =>
    rw [List.findIdx?_eq_none_iff] at h
    have : l.any p = false := by rw [List.any_eq_false]; intro x hx; rw [h x hx]; simp
    rw [this]; rfl
  | some i =>
    obtain ⟨hi,h1,h2⟩ := List.findIdx?_eq_some_iff_getElem.1 h
    have : l.any p = true := List.any_eq_true.2 ⟨_,List.getElem_mem hi,h1⟩
    rw [this]
    simp
set_option maxHeartbeats 4000000 in
set_option maxRecDepth 100000 in
theorem idxF_any (p : Ext → Bool) (g : Nat) (lb : Array Value) (l : List Ext) (v : Value) (w : World) (eg : ∀ args w,(callFunc g args).run Tryz.prog w = .ok (.enter g args) w) (h : ExtsAt w v l) (hl : l.length ≤ 100000000)
    (hp : ∀ e wq,e ∈ l → Below w.heap.size w wq → Calls Tryz.prog g (#[e.val] ++ lb) wq fun x w' => x = .returned (.bool (p e)) ∧ Below wq.heap.size wq w') :
    Calls Tryz.prog 135 #[v,.func (.func g) #[] lb] w fun x w' => x = .returned (.int .i64 (idxI p l)) ∧ Below w.heap.size w w' := by
  obtain ⟨A,c,rfl,hc⟩ := h
  have HC := Lib.hid hc
  have HP := Lib.hid hp
  obtain ⟨n,hn⟩ : ∃ n,l.length = n := ⟨_,rfl⟩
  rw [hn] at hl
  have HN := Lib.hid hn
  rw [hn]
  clear hc hn hp
  go_enter Tryz.func135,Tryz.ntmps135
  go_wp2_with fail
  go_loopw [5,8] (fun s5 i wr => ∃ (j : Nat),j ≤ n ∧ i = .int .i64 j ∧ Hid (∀ i x,i < j → l[i]? = some x → p x = false) ∧ Hid (Below w.heap.size w wr)) (fun _ i _ => n - (intOf i).toNat)
  case atStart => exact ⟨0,Nat.zero_le _,rfl,fun i x hi => by omega,Below.refl _ _⟩
  case round =>
    obtain ⟨j,hj,rfl,HM,HB⟩ := hrel
    by_cases hlt : j < n
    · have hji : (j : Int) < (n : Int) := by omega
      have hln := HN.out
      obtain ⟨g2,o,rfl,hcc⟩ := HC.out (by omega)
      obtain ⟨e,hx⟩ : ∃ e,l[j]? = some e := ⟨l[j]'(by omega),List.getElem?_eq_getElem (by omega)⟩
      obtain ⟨c0,c1,c2,c3⟩ := (hcc j e hx).below HB.out
      have HX := Lib.hid hx
      have HCL := Lib.hid (HP.out e wr (List.mem_of_getElem? hx) HB.out)
      cases hpe : p e
      · have HM2 : Hid (∀ i x,i < j + 1 → l[i]? = some x → p x = false) := by
          show ∀ i x,i < j + 1 → l[i]? = some x → p x = false
          intro i x hi hxi
          by_cases h2 : i < j
          · exact HM.out i x h2 hxi
          · obtain rfl : i = j := by omega
            rw [HX.out] at hxi; injection hxi with hxi; rw [← hxi]; exact hpe
        rw [hpe] at HCL
        obtain ⟨f,en,k,t⟩ := e
        simp only at c0 c1 c2 c3
        simp only [Ext.val] at HCL
        clear hcc hx hln hpe
        go_wp2_with fail
        refine (HCL.out).mono ?_
        rintro e w5 ⟨rfl,hb5⟩
        have HB5 := Lib.hid hb5
        clear hb5
        go_wp2_with fail
        go_roundw
        case rel => exact ⟨j + 1,by omega,by go_num,HM2,HB.out.trans (HB5.out.mono HB.out.size)⟩
        case measure => simp [intOf]; omega
      · have HI : Hid (idxI p l = j) := idxI_hit HX.out hpe HM.out
        rw [hpe] at HCL
        obtain ⟨f,en,k,t⟩ := e
        simp only at c0 c1 c2 c3
        simp only [Ext.val] at HCL
        clear hcc hx hln hpe
        go_wp2_with fail
        refine (HCL.out).mono ?_
        rintro e w5 ⟨rfl,hb5⟩
        have HB5 := Lib.hid hb5
        clear hb5
        go_wp2_with fail
        go_ret
        exact ⟨by rw [HI.out]; rfl,HB.out.trans (HB5.out.mono HB.out.size)⟩
    · obtain rfl : j = n := by omega
      have HI : Hid (idxI p l = -1) := idxI_miss (fun i x hi => HM.out i x (by have := HN.out; omega))
      go_wp2_with fail
      go_ret
      exact ⟨by rw [HI.out]; rfl,HB.out⟩
theorem conF_any (p : Ext → Bool) (g : Nat) (lb : Array Value) (l : List Ext) (v : Value) (w : World) (eg : ∀ args w,(callFunc g args).run Tryz.prog w = .ok (.enter g args) w) (h : ExtsAt w v l) (hl : l.length ≤ 100000000)
    (hp : ∀ e wq,e ∈ l → Below w.heap.size w wq → Calls Tryz.prog g (#[e.val] ++ lb) wq fun x w' => x = .returned (.bool (p e)) ∧ Below wq.heap.size wq w') :
    Calls Tryz.prog 104 #[v,.func (.func g) #[] lb] w fun x w' => x = .returned (.bool (l.any p)) ∧ Below w.heap.size w w' := by
  have HI := Lib.hid (idxF_any p g lb l v w eg h hl hp)
  have HA := Lib.hid (idxI_any p l)
  obtain ⟨z,hz⟩ : ∃ z,idxI p l = z := ⟨_,rfl⟩
  rw [hz] at HI HA
  clear h hp eg hz
  go_enter Tryz.func104,Tryz.ntmps104
  go_wp2_with fail
  refine (HI.out).mono ?_
  rintro e w5 ⟨rfl,hb5⟩
  have HB5 := Lib.hid hb5
  clear hb5
  go_wp2_with fail
  go_ret
  exact ⟨by rw [← HA.out]; rfl,HB5.out⟩
end Go.Proofs.YtneammhkgmkkfaaGreatDoor.tr
namespace Go.Proofs.YtneammhkgmkkfaaGreatDoor.tr
open Go.RowKit Go.Proofs.YtneammhkgmkkfaaGreatDoor.er
set_option linter.unusedVariables false
set_option linter.unusedSimpArgs false
def srchP (l : List Ext) (s : Int) (i : Nat) : Prop := i ≤ l.length ∧ (∀ j x,j < i → l[j]? = some x → x.fr < s) ∧ ∀ j x,i ≤ j → l[j]? = some x → s ≤ x.fr
def SrchRet (l : List Ext) (s : Int) (w : World) (e : Ending) (w' : World) : Prop := ∃ (i : Nat) (b : Bool),srchP l s i ∧ e = .returned (.tuple #[.int .i64 i,.bool b]) ∧ Below w.heap.size w w'
set_option maxHeartbeats 4000000 in
set_option maxRecDepth 100000 in
theorem bsearch_any (l : List Ext) (v : Value) (s : Int) (w : World) (h : ExtsAt w v l) (hl : l.length ≤ 1000) (h1 : ∀ e ∈ l,oneB e = true) (hi : Inc l) (h0 : 0 ≤ s) (hs : s ≤ 16777216) :
    Calls Tryz.prog 126 #[v,.int .i64 s,.func (.func 127) #[] #[]] w (SrchRet l s w) := by
  obtain ⟨A,c,rfl,hc⟩ := h
  have HC := Lib.hid hc
  have H1 := Lib.hid h1
  have HI := Lib.hid hi
  obtain ⟨n,hn⟩ : ∃ n,l.length = n := ⟨_,rfl⟩
  rw [hn] at hl
  have HN := Lib.hid hn
  rw [hn]
  have HCM := Lib.hid (fun (e : Ext) (wq : World) (he : oneB e = true) => cmp_any e s wq he h0 hs)
  clear hc hn h1 hi
  go_enter Tryz.func126,Tryz.ntmps126
  go_wp2_with fail
  go_loopw [9,10,11] (fun s9 s10 s11 wr => ∃ (i j : Nat),i ≤ j ∧ j ≤ n ∧ s9 = .int .i64 i ∧ s10 = .int .i64 j ∧ Hid (∀ k x,k < i → l[k]? = some x → x.fr < s) ∧ Hid (∀ k x,j ≤ k → l[k]? = some x → s ≤ x.fr) ∧ Hid (Below w.heap.size w wr)) (fun s9 s10 _ _ => (intOf s10).toNat - (intOf s9).toNat)
  case atStart => exact ⟨0,n,Nat.zero_le _,Nat.le_refl _,rfl,rfl,fun k x hk => by omega,(fun k x hk hx => by have := (List.getElem?_eq_some_iff.1 hx).1; have := HN.out; omega),Below.refl _ _⟩
  case round =>
    obtain ⟨i,j,hij,hj,rfl,rfl,HL,HR,HB⟩ := hrel
    by_cases hlt : i < j
    · have hji : (i : Int) < (j : Int) := by omega
      obtain ⟨m,hm⟩ : ∃ m,(i + j) / 2 = m := ⟨_,rfl⟩
      have hm1 : i ≤ m := by omega
      have hm2 : m < j := by omega
      have hmm : ((i : Int) + (j : Int)) / 2 = (m : Int) := by omega
      have hmi : (m : Int) < (n : Int) := by omega
      have hln := HN.out
      obtain ⟨g2,o,rfl,hcc⟩ := HC.out (by omega)
      obtain ⟨e,hx⟩ : ∃ e,l[m]? = some e := ⟨l[m]'(by omega),List.getElem?_eq_getElem (by omega)⟩
      obtain ⟨c0,c1,c2,c3⟩ := (hcc m e hx).below HB.out
      have HX := Lib.hid hx
      have HCL := Lib.hid (HCM.out e wr (H1.out e (List.mem_of_getElem? hx)))
      have HLT : Hid (∀ k x,k < m → l[k]? = some x → x.fr < e.fr) := by
        show ∀ k x,k < m → l[k]? = some x → x.fr < e.fr
        intro k x hk hxk
        obtain ⟨ik,ek⟩ := List.getElem?_eq_some_iff.1 hxk
        obtain ⟨im,em⟩ := List.getElem?_eq_some_iff.1 HX.out
        have := List.pairwise_iff_getElem.1 HI.out k m ik im hk
        rw [ek,em] at this
        exact this
      have HGT : Hid (∀ k x,m < k → l[k]? = some x → e.fr < x.fr) := by
        show ∀ k x,m < k → l[k]? = some x → e.fr < x.fr
        intro k x hk hxk
        obtain ⟨ik,ek⟩ := List.getElem?_eq_some_iff.1 hxk
        obtain ⟨im,em⟩ := List.getElem?_eq_some_iff.1 HX.out
        have := List.pairwise_iff_getElem.1 HI.out m k im ik hk
        rw [ek,em] at this
        exact this
      obtain ⟨f,en,k,t⟩ := e
      simp only at c0 c1 c2 c3 HLT HGT
      simp only [Ext.val] at HCL
      clear hcc hx hln hm
      by_cases hf : f < s
      · have hd : f - s < 0 := by omega
        go_wp2_with fail
        refine (HCL.out).mono ?_
        rintro e w5 ⟨rfl,hb5⟩
        have HB5 := Lib.hid hb5
        clear hb5
        go_wp2_with fail
        go_roundw
        case rel =>
          refine ⟨m + 1,j,by omega,hj,by go_num,rfl,(show ∀ k x,k < m + 1 → l[k]? = some x → x.fr < s from fun q x hq hxq => ?_),HR,HB.out.trans (HB5.out.mono HB.out.size)⟩
          by_cases h2 : q < m
          · have := HLT.out q x h2 hxq; omega
          · obtain rfl : q = m := by omega
            rw [HX.out] at hxq; injection hxq with hxq; rw [← hxq]; exact hf
        case measure => simp [intOf]; omega
      · have hd : ¬ f - s < 0 := by omega
        go_wp2_with fail
        refine (HCL.out).mono ?_
        rintro e w5 ⟨rfl,hb5⟩
        have HB5 := Lib.hid hb5
        clear hb5
        go_wp2_with fail
        go_roundw
        case rel =>
          refine ⟨i,m,hm1,by omega,rfl,rfl,HL,(show ∀ k x,m ≤ k → l[k]? = some x → s ≤ x.fr from fun q x hq hxq => ?_),HB.out.trans (HB5.out.mono HB.out.size)⟩
          by_cases h2 : m < q
          · have := HGT.out q x h2 hxq; omega
          · obtain rfl : q = m := by omega
            rw [HX.out] at hxq; injection hxq with hxq; rw [← hxq]; show s ≤ f; omega
        case measure => simp [intOf]; omega
    · obtain rfl : i = j := by omega
      have HS : Hid (srchP l s i) := ⟨by have := HN.out; omega,HL.out,HR.out⟩
      by_cases hin : i < n
      · have hmi : (i : Int) < (n : Int) := by omega
        have hln := HN.out
        obtain ⟨g2,o,rfl,hcc⟩ := HC.out (by omega)
        obtain ⟨e,hx⟩ : ∃ e,l[i]? = some e := ⟨l[i]'(by omega),List.getElem?_eq_getElem (by omega)⟩
        obtain ⟨c0,c1,c2,c3⟩ := (hcc i e hx).below HB.out
        have HCL := Lib.hid (HCM.out e wr (H1.out e (List.mem_of_getElem? hx)))
        obtain ⟨f,en,k,t⟩ := e
        simp only at c0 c1 c2 c3
        simp only [Ext.val] at HCL
        clear hcc hx hln
        go_wp2_with fail
        refine (HCL.out).mono ?_
        rintro e w5 ⟨rfl,hb5⟩
        have HB5 := Lib.hid hb5
        clear hb5
        go_wp2_with fail
        go_ret2
        exact ⟨i,_,HS.out,rfl,HB.out.trans (HB5.out.mono HB.out.size)⟩
      · have hmi : ¬ (i : Int) < (n : Int) := by omega
        go_wp2_with fail
        go_ret2
        exact ⟨i,_,HS.out,rfl,HB.out⟩
end Go.Proofs.YtneammhkgmkkfaaGreatDoor.tr
