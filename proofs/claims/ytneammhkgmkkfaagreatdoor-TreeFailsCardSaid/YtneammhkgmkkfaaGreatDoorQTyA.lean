/- A part of the proof. -/
import Derived.Test.YtneammhkgmkkfaaGreatDoorQTxMb
namespace Go.Proofs.YtneammhkgmkkfaaGreatDoor.tr
open Go.RowKit Go.Proofs.YtneammhkgmkkfaaGreatDoor.er
set_option linter.unusedVariables false
set_option linter.unusedSimpArgs false
def ndT : Nat → TypeId
  | 0 => 117
  | _ + 1 => 94
def fiF : Nat → FuncId
  | 0 => 194
  | _ + 1 => 191
def szF : Nat → FuncId
  | 0 => 195
  | _ + 1 => 192
def whF : Nat → FuncId
  | 0 => 196
  | _ + 1 => 193
theorem meFi (v : Value) (w : World) : ∀ h, (Go.method 400 (ndT h) v "scoria/tree.first").run Tryz.prog w = .ok (fiF h, v) w
  | 0 => by kernel_rfl
  | h + 1 => by kernel_rfl
theorem meSz (v : Value) (w : World) : ∀ h, (Go.method 400 (ndT h) v "scoria/tree.size").run Tryz.prog w = .ok (szF h, v) w
  | 0 => by kernel_rfl
  | h + 1 => by kernel_rfl
theorem meWh (v : Value) (w : World) : ∀ h, (Go.method 400 (ndT h) v "scoria/tree.where").run Tryz.prog w = .ok (whF h, v) w
  | 0 => by kernel_rfl
  | h + 1 => by kernel_rfl
theorem enFi (args : Array Value) (w : World) : ∀ h,(callFunc (fiF h) args).run Tryz.prog w = .ok (.enter (fiF h) args) w
  | 0 => by kernel_rfl
  | h + 1 => by kernel_rfl
theorem enSz (args : Array Value) (w : World) : ∀ h,(callFunc (szF h) args).run Tryz.prog w = .ok (.enter (szF h) args) w
  | 0 => by kernel_rfl
  | h + 1 => by kernel_rfl
theorem enWh (args : Array Value) (w : World) : ∀ h,(callFunc (whF h) args).run Tryz.prog w = .ok (.enter (whF h) args) w
  | 0 => by kernel_rfl
  | h + 1 => by kernel_rfl
theorem NdAt.form {w : World} : ∀ {h : Nat} {F : List Nat} {v : Value} {n : Nd h},NdAt w F v n → ∃ b F',F = b :: F' ∧ v = .iface (ndT h) (.pointer (some ⟨b,0,none⟩))
  | 0,F,v,n,⟨b,g,c,h1,h2,h3,h4⟩ => ⟨b,_,h1,h2⟩
  | h + 1,F,v,n,⟨b,g,c,ds,h1,h2,h3,h4,h5,h6⟩ => ⟨b,_,h1,h2⟩
theorem ptr_inj {T T' : TypeId} {b b' : Nat} (h : Value.iface T (.pointer (some ⟨b,0,none⟩)) = .iface T' (.pointer (some ⟨b',0,none⟩))) : b = b' := by
  injection h with _ h
  injection h with h
  injection h with h
  injection h
set_option maxHeartbeats 4000000 in
theorem size_any (w : World) (b : Nat) : ∀ (h : Nat) (F : List Nat) (n : Nd h),NdAt w F (.iface (ndT h) (.pointer (some ⟨b,0,none⟩))) n →
    Calls Tryz.prog (szF h) #[.pointer (some ⟨b,0,none⟩)] w fun e w' => e = .returned (.int .i64 n.size) ∧ w = w'
  | 0,F,n,⟨b',g,c,h1,h2,h3,h4⟩ => by
    obtain rfl := ptr_inj h2
    clear h2
    have HR : Hid (n.size = (Nd.l n).length) := rfl
    obtain ⟨m,hm⟩ : ∃ m,(Nd.l n).length = m := ⟨_,rfl⟩
    rw [HR.out,hm]
    rw [hm] at h3
    have c1 := h3.cell 1
    simp at c1
    clear hm h1 h4 h3
    show Calls Tryz.prog 195 _ w _
    go_enter Tryz.func195,Tryz.ntmps195
    go_wp2_with fail
    go_ret
    exact ⟨rfl,rfl⟩
  | h + 1,F,n,⟨b',g,c,ds,h1,h2,h3,h4,h5,h6⟩ => by
    obtain rfl := ptr_inj h2
    clear h2
    have HR : Hid (n.size = (Nd.ks n).length) := rfl
    obtain ⟨m,hm⟩ : ∃ m,(Nd.ks n).length = m := ⟨_,rfl⟩
    rw [HR.out,hm]
    rw [hm] at h3
    have c1 := h3.cell 1
    simp at c1
    clear hm h1 h4 h3 h5 h6
    show Calls Tryz.prog 192 _ w _
    go_enter Tryz.func192,Tryz.ntmps192
    go_wp2_with fail
    go_ret
    exact ⟨rfl,rfl⟩
theorem where_any (w : World) (b : Nat) : ∀ (h : Nat),Calls Tryz.prog (whF h) #[.pointer (some ⟨b,0,none⟩)] w fun e w' => e = .returned (.pointer (some ⟨b,0,none⟩)) ∧ w = w'
  | 0 => by
    show Calls Tryz.prog 196 _ w _
    go_enter Tryz.func196,Tryz.ntmps196
    go_wp2_with fail
    go_ret
    exact ⟨rfl,rfl⟩
  | h + 1 => by
    show Calls Tryz.prog 193 _ w _
    go_enter Tryz.func193,Tryz.ntmps193
    go_wp2_with fail
    go_ret
    exact ⟨rfl,rfl⟩
set_option maxHeartbeats 4000000 in
theorem first_any (w : World) : ∀ (h : Nat) (b : Nat) (F : List Nat) (n : Nd h),NdAt w F (.iface (ndT h) (.pointer (some ⟨b,0,none⟩))) n → Kw n → 1 ≤ n.size →
    Calls Tryz.prog (fiF h) #[.pointer (some ⟨b,0,none⟩)] w fun e w' => e = .returned (.int .i64 (firstN n)) ∧ w = w'
  | 0,b,F,n,⟨b',g,c,h1,h2,h3,h4⟩,hk,hs => by
    obtain rfl := ptr_inj h2
    clear h2
    have hs' : 1 ≤ (Nd.l n).length := hs
    have HR : Hid (firstN n = match n.l with | [] => 0 | e :: _ => e.fr) := by show _ = _; unfold firstN; rfl
    obtain ⟨e,r,hl⟩ : ∃ e r,Nd.l n = e :: r := by
      cases hl : Nd.l n with
      | nil => rw [hl] at hs'; simp at hs'
      | cons e r => exact ⟨e,r,rfl⟩
    rw [HR.out,hl]
    rw [hl] at h3 h4
    have c1 := h3.cell 1
    simp at c1
    have d0 := h4.cell (extCells_at (e :: r) 0 e rfl).1
    simp at d0
    have hp : (0 : Int) < ((r.length : Int) + 1) := by omega
    have hp' : 0 < r.length + 1 := by omega
    clear h1 h4 h3 hl hs' hs hk HR
    obtain ⟨m,hm⟩ : ∃ m,r.length = m := ⟨_,rfl⟩
    rw [hm] at c1 hp hp'
    clear hm
    show Calls Tryz.prog 194 _ w _
    go_enter Tryz.func194,Tryz.ntmps194
    go_wp2_with fail
    go_ret
    exact ⟨rfl,rfl⟩
  | h + 1,b,F,n,⟨b',g,c,ds,h1,h2,h3,h4,h5,h6⟩,hk,hs => by
    obtain rfl := ptr_inj h2
    clear h2
    have hs' : 1 ≤ (Nd.ks n).length := hs
    cases ds with
    | nil => rw [h4] at hs'; simp at hs'
    | cons d ds =>
      have hd := h6 d (by simp)
      have hkw := hk.mem (show d.2.2 ∈ n.ks by rw [h4]; simp)
      obtain ⟨kb,kF,hk1,hk2⟩ := hd.form
      have hr : firstN n = firstN d.2.2 := by show (match n.ks with | [] => (0 : Int) | k :: _ => firstN k) = _; rw [h4]; rfl
      rw [hr]
      rw [h4] at h3
      have c1 := h3.cell 1
      simp at c1
      have d0 := h5.cell (j := 0) (v := d.2.1) rfl
      rw [hk2] at hd d0
      have HC := Lib.hid (first_any w h kb d.1 d.2.2 hd hkw.2 (by have := hkw.1.1; omega))
      have hme := meFi (.pointer (some ⟨kb,0,none⟩)) w h
      have hen := enFi #[.pointer (some ⟨kb,0,none⟩)] w h
      obtain ⟨x,hx⟩ : ∃ x,firstN d.2.2 = x := ⟨_,rfl⟩
      rw [hx] at HC ⊢
      have hp : (0 : Int) < ((ds.length : Int) + 1) := by omega
      have hp' : 0 < ds.length + 1 := by omega
      obtain ⟨m,hm⟩ : ∃ m,ds.length = m := ⟨_,rfl⟩
      rw [hm] at c1 hp hp'
      clear hm h1 h3 h4 h5 h6 hs' hs hk hd hkw hk1 hk2 hr hx
      show Calls Tryz.prog 191 _ w _
      go_enter Tryz.func191,Tryz.ntmps191
      go_wp2_with fail
      refine HC.out.mono ?_
      rintro e w' ⟨rfl,rfl⟩
      go_wp2_with fail
      go_ret
      exact ⟨rfl,rfl⟩
end Go.Proofs.YtneammhkgmkkfaaGreatDoor.tr
