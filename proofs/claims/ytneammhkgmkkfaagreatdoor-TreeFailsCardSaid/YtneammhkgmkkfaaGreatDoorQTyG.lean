/- A part of the proof. -/
import Derived.Test.YtneammhkgmkkfaaGreatDoorQTyMa
namespace Go.Proofs.YtneammhkgmkkfaaGreatDoor.tr
open Go.RowKit Go.Proofs.YtneammhkgmkkfaaGreatDoor.er
set_option linter.unusedVariables false
set_option linter.unusedSimpArgs false
theorem beq_dec (a b : Int) : (a == b) = decide (a = b) := by
  by_cases h : a = b <;> simp [h]
theorem cmp_any (e : Ext) (s : Int) (w : World) (h : oneB e = true) (h0 : 0 ≤ s) (h1 : s ≤ 16777216) : Calls Tryz.prog 127 #[e.val,.int .i64 s] w fun x w' => x = .returned (.int .i64 (e.fr - s)) ∧ Below w.heap.size w w' := by
  obtain ⟨k1,k2,k3,k4⟩ := one_spec h
  obtain ⟨f,n,k,t⟩ := e
  simp only at k1 k2 k3
  have hw : wrap64 (f - s) = f - s := by unfold wrap64; omega
  show Calls Tryz.prog 127 #[.agg #[.int .i64 f,.int .i64 n,.int .i64 k,.int .i64 t],_] w _
  have HB := Lib.hid ((Below.refl w.heap.size w).alloc (Nat.le_refl _) (.cells #[.int .i64 f,.int .i64 n,.int .i64 k,.int .i64 t] 59))
  clear h k4
  go_enter Tryz.func127,Tryz.ntmps127
  go_wp2_with fail
  go_ret
  exact ⟨rfl,HB.out⟩
theorem rmt_any (e : Ext) (p : Nat) (s : Int) (w : World) (hp : w.cell? ⟨p,0,none⟩ = some (.int .i64 s)) : Calls Tryz.prog 124 #[e.val,.pointer (some ⟨p,0,none⟩)] w fun x w' => x = .returned (.bool (decide (e.fr = s))) ∧ Below w.heap.size w w' := by
  obtain ⟨f,n,k,t⟩ := e
  show Calls Tryz.prog 124 #[.agg #[.int .i64 f,.int .i64 n,.int .i64 k,.int .i64 t],_] w _
  have hbl := (Below.refl w.heap.size w).alloc (Nat.le_refl _) (.cells #[.int .i64 f,.int .i64 n,.int .i64 k,.int .i64 t] 59)
  have hp2 := below_c hbl hp
  have HB := Lib.hid hbl
  clear hbl
  go_enter Tryz.func124,Tryz.ntmps124
  go_wp2_with fail
  go_ret
  exact ⟨by rw [← beq_dec]; rfl,HB.out⟩
theorem lxt_any (e : Ext) (w : World) : Calls Tryz.prog 105 #[e.val] w fun x w' => x = .returned (.bool (decide (2048 ≤ e.at_))) ∧ Below w.heap.size w w' := by
  obtain ⟨f,n,k,t⟩ := e
  show Calls Tryz.prog 105 #[.agg #[.int .i64 f,.int .i64 n,.int .i64 k,.int .i64 t]] w _
  have HB := Lib.hid ((Below.refl w.heap.size w).alloc (Nat.le_refl _) (.cells #[.int .i64 f,.int .i64 n,.int .i64 k,.int .i64 t] 59))
  go_enter Tryz.func105,Tryz.ntmps105
  go_wp2_with fail
  go_ret
  exact ⟨rfl,HB.out⟩
def idxI (p : Ext → Bool) (l : List Ext) : Int := match l.findIdx? p with | some i => i | none => -1
theorem idxI_hit {p : Ext → Bool} {l : List Ext} {j : Nat} {e : Ext} (h : l[j]? = some e) (hp : p e = true) (hn : ∀ i x,i < j → l[i]? = some x → p x = false) : idxI p l = j := by
  have hj := (List.getElem?_eq_some_iff.1 h).1
  have : l.findIdx? p = some j := by
    rw [List.findIdx?_eq_some_iff_getElem]
    refine ⟨hj,?_,fun i hi => ?_⟩
    · rw [List.getElem?_eq_getElem hj] at h; injection h with h; rw [h]; exact hp
    · have := hn i _ hi (List.getElem?_eq_getElem (by omega))
      simpa using this
  unfold idxI
  rw [this]
theorem idxI_miss {p : Ext → Bool} {l : List Ext} (hn : ∀ i x,i < l.length → l[i]? = some x → p x = false) : idxI p l = -1 := by
  have : l.findIdx? p = none := by
    rw [List.findIdx?_eq_none_iff]
    intro x hx
    obtain ⟨i,hi,rfl⟩ := List.mem_iff_getElem.1 hx
    exact hn i _ hi (List.getElem?_eq_getElem hi)
  unfold idxI
  rw [this]
theorem idxI_any (p : Ext → Bool) (l : List Ext) : decide (0 ≤ idxI p l) = l.any p := by
  unfold idxI
  cases h : l.findIdx? p with
  | none =>
    rw [List.findIdx?_eq_none_iff] at h
    have : l.any p = false := by rw [List.any_eq_false]; intro x hx; rw [h x hx]; simp
    rw [this]; rfl
  | some i =>
    obtain ⟨hi,h1,h2⟩ := List.findIdx?_eq_some_iff_getElem.1 h
    have : l.any p = true := List.any_eq_true.2 ⟨_,List.getElem_mem hi,h1⟩
    rw [this]
    simp
set_option maxHeartbeats 4000000 in
set_option maxRecDepth 100000 in
theorem idxF_any (p : Ext → Bool) (g : Nat) (lb : Array Value) (l : List Ext) (v : Value) (w : World) (eg : ∀ args w,(callFunc g args).run Tryz.prog w = .ok (.enter g args) w) (h : ExtsAt w v l) (hl : l.length ≤ 100000000)
    (hp : ∀ e wq,e ∈ l → Below w.heap.size w wq → Calls Tryz.prog g (#[e.val] ++ lb) wq fun x w' => x = .returned (.bool (p e)) ∧ Below wq.heap.size wq w') :
    Calls Tryz.prog 135 #[v,.func (.func g) #[] lb] w fun x w' => x = .returned (.int .i64 (idxI p l)) ∧ Below w.heap.size w w' := by
  obtain ⟨A,c,rfl,hc⟩ := h
  have HC := Lib.hid hc
  have HP := Lib.hid hp
  obtain ⟨n,hn⟩ : ∃ n,l.length = n := ⟨_,rfl⟩
  rw [hn] at hl
  have HN := Lib.hid hn
  rw [hn]
  clear hc hn hp
  go_enter Tryz.func135,Tryz.ntmps135
  go_wp2_with fail
  go_loopw [5,8] (fun s5 i wr => ∃ (j : Nat),j ≤ n ∧ i = .int .i64 j ∧ Hid (∀ i x,i < j → l[i]? = some x → p x = false) ∧ Hid (Below w.heap.size w wr)) (fun _ i _ => n - (intOf i).toNat)
  case atStart => exact ⟨0,Nat.zero_le _,rfl,fun i x hi => by omega,Below.refl _ _⟩
  case round =>
    obtain ⟨j,hj,rfl,HM,HB⟩ := hrel
    by_cases hlt : j < n
    · have hji : (j : Int) < (n : Int) := by omega
      have hln := HN.out
      obtain ⟨g2,o,rfl,hcc⟩ := HC.out (by omega)
      obtain ⟨e,hx⟩ : ∃ e,l[j]? = some e := ⟨l[j]'(by omega),List.getElem?_eq_getElem (by omega)⟩
      obtain ⟨c0,c1,c2,c3⟩ := (hcc j e hx).below HB.out
      have HX := Lib.hid hx
      have HCL := Lib.hid (HP.out e wr (List.mem_of_getElem? hx) HB.out)
      cases hpe : p e
      · have HM2 : Hid (∀ i x,i < j + 1 → l[i]? = some x → p x = false) := by
          show ∀ i x,i < j + 1 → l[i]? = some x → p x = false
          intro i x hi hxi
          by_cases h2 : i < j
          · exact HM.out i x h2 hxi
          · obtain rfl : i = j := by omega
            rw [HX.out] at hxi; injection hxi with hxi; rw [← hxi]; exact hpe
        rw [hpe] at HCL
        obtain ⟨f,en,k,t⟩ := e
        simp only at c0 c1 c2 c3
        simp only [Ext.val] at HCL
        clear hcc hx hln hpe
        go_wp2_with fail
        refine (HCL.out).mono ?_
        rintro e w5 ⟨rfl,hb5⟩
        have HB5 := Lib.hid hb5
        clear hb5
        go_wp2_with fail
        go_roundw
        case rel => exact ⟨j + 1,by omega,by go_num,HM2,HB.out.trans (HB5.out.mono HB.out.size)⟩
        case measure => simp [intOf]; omega
      · have HI : Hid (idxI p l = j) := idxI_hit HX.out hpe HM.out
        rw [hpe] at HCL
        obtain ⟨f,en,k,t⟩ := e
        simp only at c0 c1 c2 c3
        simp only [Ext.val] at HCL
        clear hcc hx hln hpe
        go_wp2_with fail
        refine (HCL.out).mono ?_
        rintro e w5 ⟨rfl,hb5⟩
        have HB5 := Lib.hid hb5
        clear hb5
        go_wp2_with fail
        go_ret
        exact ⟨by rw [HI.out]; rfl,HB.out.trans (HB5.out.mono HB.out.size)⟩
    · obtain rfl : j = n := by omega
      have HI : Hid (idxI p l = -1) := idxI_miss (fun i x hi => HM.out i x (by have := HN.out; omega))
      go_wp2_with fail
      go_ret
      exact ⟨by rw [HI.out]; rfl,HB.out⟩
theorem conF_any (p : Ext → Bool) (g : Nat) (lb : Array Value) (l : List Ext) (v : Value) (w : World) (eg : ∀ args w,(callFunc g args).run Tryz.prog w = .ok (.enter g args) w) (h : ExtsAt w v l) (hl : l.length ≤ 100000000)
    (hp : ∀ e wq,e ∈ l → Below w.heap.size w wq → Calls Tryz.prog g (#[e.val] ++ lb) wq fun x w' => x = .returned (.bool (p e)) ∧ Below wq.heap.size wq w') :
    Calls Tryz.prog 104 #[v,.func (.func g) #[] lb] w fun x w' => x = .returned (.bool (l.any p)) ∧ Below w.heap.size w w' := by
  have HI := Lib.hid (idxF_any p g lb l v w eg h hl hp)
  have HA := Lib.hid (idxI_any p l)
  obtain ⟨z,hz⟩ : ∃ z,idxI p l = z := ⟨_,rfl⟩
  rw [hz] at HI HA
  clear h hp eg hz
  go_enter Tryz.func104,Tryz.ntmps104
  go_wp2_with fail
  refine (HI.out).mono ?_
  rintro e w5 ⟨rfl,hb5⟩
  have HB5 := Lib.hid hb5
  clear hb5
  go_wp2_with fail
  go_ret
  exact ⟨by rw [← HA.out]; rfl,HB5.out⟩
end Go.Proofs.YtneammhkgmkkfaaGreatDoor.tr
