/- A part of the proof. -/
import Derived.Test.YtneammhkgmkkfaaGreatDoorQTyG
namespace Go.Proofs.YtneammhkgmkkfaaGreatDoor.tr
open Go.RowKit Go.Proofs.YtneammhkgmkkfaaGreatDoor.er
set_option linter.unusedVariables false
set_option linter.unusedSimpArgs false
def srchP (l : List Ext) (s : Int) (i : Nat) : Prop := i ≤ l.length ∧ (∀ j x,j < i → l[j]? = some x → x.fr < s) ∧ ∀ j x,i ≤ j → l[j]? = some x → s ≤ x.fr
def SrchRet (l : List Ext) (s : Int) (w : World) (e : Ending) (w' : World) : Prop := ∃ (i : Nat) (b : Bool),srchP l s i ∧ e = .returned (.tuple #[.int .i64 i,.bool b]) ∧ Below w.heap.size w w'
set_option maxHeartbeats 4000000 in
set_option maxRecDepth 100000 in
theorem bsearch_any (l : List Ext) (v : Value) (s : Int) (w : World) (h : ExtsAt w v l) (hl : l.length ≤ 1000) (h1 : ∀ e ∈ l,oneB e = true) (hi : Inc l) (h0 : 0 ≤ s) (hs : s ≤ 16777216) :
    Calls Tryz.prog 126 #[v,.int .i64 s,.func (.func 127) #[] #[]] w (SrchRet l s w) := by
  obtain ⟨A,c,rfl,hc⟩ := h
  have HC := Lib.hid hc
  have H1 := Lib.hid h1
  have HI := Lib.hid hi
  obtain ⟨n,hn⟩ : ∃ n,l.length = n := ⟨_,rfl⟩
  rw [hn] at hl
  have HN := Lib.hid hn
  rw [hn]
  have HCM := Lib.hid (fun (e : Ext) (wq : World) (he : oneB e = true) => cmp_any e s wq he h0 hs)
  clear hc hn h1 hi
  go_enter Tryz.func126,Tryz.ntmps126
  go_wp2_with fail
  go_loopw [9,10,11] (fun s9 s10 s11 wr => ∃ (i j : Nat),i ≤ j ∧ j ≤ n ∧ s9 = .int .i64 i ∧ s10 = .int .i64 j ∧ Hid (∀ k x,k < i → l[k]? = some x → x.fr < s) ∧ Hid (∀ k x,j ≤ k → l[k]? = some x → s ≤ x.fr) ∧ Hid (Below w.heap.size w wr)) (fun s9 s10 _ _ => (intOf s10).toNat - (intOf s9).toNat)
  case atStart => exact ⟨0,n,Nat.zero_le _,Nat.le_refl _,rfl,rfl,fun k x hk => by omega,(fun k x hk hx => by have := (List.getElem?_eq_some_iff.1 hx).1; have := HN.out; omega),Below.refl _ _⟩
  case round =>
    obtain ⟨i,j,hij,hj,rfl,rfl,HL,HR,HB⟩ := hrel
    by_cases hlt : i < j
    · have hji : (i : Int) < (j : Int) := by omega
      obtain ⟨m,hm⟩ : ∃ m,(i + j) / 2 = m := ⟨_,rfl⟩
      have hm1 : i ≤ m := by omega
      have hm2 : m < j := by omega
      have hmm : ((i : Int) + (j : Int)) / 2 = (m : Int) := by omega
      have hmi : (m : Int) < (n : Int) := by omega
      have hln := HN.out
      obtain ⟨g2,o,rfl,hcc⟩ := HC.out (by omega)
      obtain ⟨e,hx⟩ : ∃ e,l[m]? = some e := ⟨l[m]'(by omega),List.getElem?_eq_getElem (by omega)⟩
      obtain ⟨c0,c1,c2,c3⟩ := (hcc m e hx).below HB.out
      have HX := Lib.hid hx
      have HCL := Lib.hid (HCM.out e wr (H1.out e (List.mem_of_getElem? hx)))
      have HLT : Hid (∀ k x,k < m → l[k]? = some x → x.fr < e.fr) := by
        show ∀ k x,k < m → l[k]? = some x → x.fr < e.fr
        intro k x hk hxk
        obtain ⟨ik,ek⟩ := List.getElem?_eq_some_iff.1 hxk
        obtain ⟨im,em⟩ := List.getElem?_eq_some_iff.1 HX.out
        have := List.pairwise_iff_getElem.1 HI.out k m ik im hk
        rw [ek,em] at this
        exact this
      have HGT : Hid (∀ k x,m < k → l[k]? = some x → e.fr < x.fr) := by
        show ∀ k x,m < k → l[k]? = some x → e.fr < x.fr
        intro k x hk hxk
        obtain ⟨ik,ek⟩ := List.getElem?_eq_some_iff.1 hxk
        obtain ⟨im,em⟩ := List.getElem?_eq_some_iff.1 HX.out
        have := List.pairwise_iff_getElem.1 HI.out m k im ik hk
        rw [ek,em] at this
        exact this
      obtain ⟨f,en,k,t⟩ := e
      simp only at c0 c1 c2 c3 HLT HGT
      simp only [Ext.val] at HCL
      clear hcc hx hln hm
      by_cases hf : f < s
      · have hd : f - s < 0 := by omega
        go_wp2_with fail
        refine (HCL.out).mono ?_
        rintro e w5 ⟨rfl,hb5⟩
        have HB5 := Lib.hid hb5
        clear hb5
        go_wp2_with fail
        go_roundw
        case rel =>
          refine ⟨m + 1,j,by omega,hj,by go_num,rfl,(show ∀ k x,k < m + 1 → l[k]? = some x → x.fr < s from fun q x hq hxq => ?_),HR,HB.out.trans (HB5.out.mono HB.out.size)⟩
          by_cases h2 : q < m
          · have := HLT.out q x h2 hxq; omega
          · obtain rfl : q = m := by omega
            rw [HX.out] at hxq; injection hxq with hxq; rw [← hxq]; exact hf
        case measure => simp [intOf]; omega
      · have hd : ¬ f - s < 0 := by omega
        go_wp2_with fail
        refine (HCL.out).mono ?_
        rintro e w5 ⟨rfl,hb5⟩
        have HB5 := Lib.hid hb5
        clear hb5
        go_wp2_with fail
        go_roundw
        case rel =>
          refine ⟨i,m,hm1,by omega,rfl,rfl,HL,(show ∀ k x,m ≤ k → l[k]? = some x → s ≤ x.fr from fun q x hq hxq => ?_),HB.out.trans (HB5.out.mono HB.out.size)⟩
          by_cases h2 : m < q
          · have := HGT.out q x h2 hxq; omega
          · obtain rfl : q = m := by omega
            rw [HX.out] at hxq; injection hxq with hxq; rw [← hxq]; show s ≤ f; omega
        case measure => simp [intOf]; omega
    · obtain rfl : i = j := by omega
      have HS : Hid (srchP l s i) := ⟨by have := HN.out; omega,HL.out,HR.out⟩
      by_cases hin : i < n
      · have hmi : (i : Int) < (n : Int) := by omega
        have hln := HN.out
        obtain ⟨g2,o,rfl,hcc⟩ := HC.out (by omega)
        obtain ⟨e,hx⟩ : ∃ e,l[i]? = some e := ⟨l[i]'(by omega),List.getElem?_eq_getElem (by omega)⟩
        obtain ⟨c0,c1,c2,c3⟩ := (hcc i e hx).below HB.out
        have HCL := Lib.hid (HCM.out e wr (H1.out e (List.mem_of_getElem? hx)))
        obtain ⟨f,en,k,t⟩ := e
        simp only at c0 c1 c2 c3
        simp only [Ext.val] at HCL
        clear hcc hx hln
        go_wp2_with fail
        refine (HCL.out).mono ?_
        rintro e w5 ⟨rfl,hb5⟩
        have HB5 := Lib.hid hb5
        clear hb5
        go_wp2_with fail
        go_ret2
        exact ⟨i,_,HS.out,rfl,HB.out.trans (HB5.out.mono HB.out.size)⟩
      · have hmi : ¬ (i : Int) < (n : Int) := by omega
        go_wp2_with fail
        go_ret2
        exact ⟨i,_,HS.out,rfl,HB.out⟩
end Go.Proofs.YtneammhkgmkkfaaGreatDoor.tr
