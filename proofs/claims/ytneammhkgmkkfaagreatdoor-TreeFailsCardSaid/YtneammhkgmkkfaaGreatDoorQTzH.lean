/- A part of the proof. -/
import Derived.Test.YtneammhkgmkkfaaGreatDoorQTzG
import Derived.Test.YtneammhkgmkkfaaGreatDoorQTzMb
namespace Go.Proofs.YtneammhkgmkkfaaGreatDoor.tr
open Go.RowKit Go.Proofs.YtneammhkgmkkfaaGreatDoor.er
set_option linter.unusedVariables false
set_option linter.unusedSimpArgs false
theorem listBy_new {w' : World} {F : List Nat} {v : Value} {l : List Ext} {B : Nat} (h : w'.ownsRow B 59 4 v l.length (extCells l)) (hF : ∀ k ∈ F,k < B) : ListBy w' F v l :=
  ⟨⟨B,h⟩,fun g hg => ⟨fun hm => by have := (h.lt g hg).1; have := hF g hm; omega,(h.lt g hg).2⟩⟩
theorem listBy_below {w w' : World} {F : List Nat} {v : Value} {l : List Ext} (h : ListBy w F v l) (hb : Below w.heap.size w w') : ListBy w' F v l := by
  obtain ⟨B,h1⟩ := h.own
  exact ⟨⟨B,own_below h1 hb⟩,fun g hg => ⟨(h.out g hg).1,Nat.lt_of_lt_of_le (h.out g hg).2 hb.size⟩⟩
theorem chg_from {w w1 w' : World} {F : List Nat} {p : Nat} {T : Tree} (hb : Below w.heap.size w w1) (h : ChgSt w1 F p T w') : ChgSt w F p T w' := by
  obtain ⟨F',h1,h2⟩ := h
  exact ⟨F',h1,(Mv.below hb).trans h2⟩
set_option maxHeartbeats 4000000 in
set_option maxRecDepth 100000 in
theorem tover_bad (w : World) (p : Nat) (y : Ext) (hy : oneB y = false) :
    Calls Tryz.prog 20 #[.pointer (some ⟨p,0,none⟩),y.val] w fun x w' => x = .returned (.int .i64 1) ∧ Below w.heap.size w w' := by
  have HON : Hid (∀ wq,Calls Tryz.prog 38 #[y.val] wq fun x w' => x = .returned (.bool false) ∧ Below wq.heap.size wq w') := fun wq => by have := one_any y wq; rw [hy] at this; exact this
  obtain ⟨f,en,k,t⟩ := y
  simp only [Ext.val] at HON
  have HB0 : Hid (Below w.heap.size w (w.alloc (.cells #[.int .i64 f,.int .i64 en,.int .i64 k,.int .i64 t] 59))) := (Below.refl _ _).alloc (Nat.le_refl _) _
  clear hy
  show Calls Tryz.prog 20 #[.pointer (some ⟨p,0,none⟩),.agg #[.int .i64 f,.int .i64 en,.int .i64 k,.int .i64 t]] w _
  go_enter Tryz.func20,Tryz.ntmps20
  go_wp2_with fail
  with_reducible refine (HON.out _).mono ?_
  rintro e w2 ⟨rfl,hb2⟩
  have HB2 := Lib.hid (bel_tr HB0.out hb2)
  clear hb2
  go_wp2_with fail
  go_ret
  exact ⟨rfl,HB2.out⟩
set_option maxHeartbeats 4000000 in
set_option maxRecDepth 100000 in
theorem tover_any (w : World) (F : List Nat) (p : Nat) (T : Tree) (y : Ext) (ht : TrAt w F p T) (hok : T.Ok) (hc : Chk T.flat) (hy : oneB y = true) :
    Calls Tryz.prog 20 #[.pointer (some ⟨p,0,none⟩),y.val] w fun x w' => x = .returned (.int .i64 0) ∧ ChgSt w F p (T.over y) w' := by
  have hsp := one_spec hy
  obtain ⟨z,hz⟩ : ∃ z,y.end_ = z := ⟨_,rfl⟩
  have hz2 : y.fr + y.n = z := hz
  have HON : Hid (∀ wq,Calls Tryz.prog 38 #[y.val] wq fun x w' => x = .returned (.bool true) ∧ Below wq.heap.size wq w') := fun wq => by have := one_any y wq; rw [hy] at this; exact this
  have hb0 : Below w.heap.size w (w.alloc (.cells #[.int .i64 y.fr,.int .i64 y.n,.int .i64 y.kind,.int .i64 y.at_] 59)) := (Below.refl _ _).alloc (Nat.le_refl _) _
  obtain ⟨W,hW⟩ : ∃ W,nearL T.flat y.fr z = W := ⟨_,rfl⟩
  obtain ⟨V,hV⟩ : ∃ V,overL W y = V := ⟨_,rfl⟩
  have hTW : ∀ wq,Below w.heap.size w wq → TrAt wq F p T := fun wq hb => ht.keep (Keep.below (F := fun _ => False) hb) (fun _ _ h => h)
  have hFl := ht.lt
  have HNR : Hid (∀ wq,Below w.heap.size w wq → Calls Tryz.prog 39 #[.pointer (some ⟨p,0,none⟩),.int .i64 y.fr,.int .i64 (y.fr + y.n)] wq fun x w' => ∃ v',x = .returned v' ∧ ListBy w' F v' W ∧ Below wq.heap.size wq w') := by
    intro wq hb
    have h := near_any wq F p T y.fr (y.fr + y.n) (hTW wq hb) hok hc (by omega) (by omega)
    rw [hz2,hW] at h
    rw [hz2]
    exact h.mono fun x w' ⟨v',q1,q2,q3⟩ => ⟨v',q1,listBy_new q2 (fun k hk => Nat.lt_of_lt_of_le (hFl k hk) hb.size),q3⟩
  have hWc : Chk W := by rw [← hW]; exact near_chk hc _ _
  have hVc : Chk V := by rw [← hV]; exact over_chk hWc hy
  have HOV : Hid (∀ wq v',Below w.heap.size w wq → ListBy wq F v' W → Calls Tryz.prog 40 #[v',y.val] wq fun e w' => ∃ v2,e = .returned (.tuple #[v2,.int .i64 0]) ∧ ListBy w' F v2 V ∧ ListBy w' F v' W ∧ Below wq.heap.size wq w') := by
    intro wq v' hb hl
    have h := overX_any W v' y wq hl.exts (chk_len hWc) (chk_chkB _ hWc) hy
    rw [hV] at h
    exact h.mono fun e w' ⟨v2,q1,q2,q3⟩ => ⟨v2,q1,listBy_new q2 (fun k hk => Nat.lt_of_lt_of_le (hFl k hk) hb.size),listBy_below hl q3,q3⟩
  have HCH : Hid (∀ wq v1 v2,Below w.heap.size w wq → ListBy wq F v1 W → ListBy wq F v2 V → Calls Tryz.prog 41 #[.pointer (some ⟨p,0,none⟩),v1,v2] wq fun x w' => x = .returned (.tuple #[]) ∧ ChgSt w F p (T.over y) w') := by
    intro wq v1 v2 hb h1 h2
    have k2 : y.end_ = y.fr + y.n := rfl
    have h3 := three (lo := y.fr) (hi := y.end_) hc (by omega)
    have hl := over_local hc hy
    have hco := over_chk hc hy
    rw [hz,hW] at h3 hl
    rw [hV] at hl
    have h := change_any wq F p T v1 v2 (leftL T.flat y.fr) W (rightL T.flat z) V (hTW wq hb) hok h3 (by rw [← h3]; exact chk_fr hc) (by rw [← hl]; exact chk_fr hco) hc.one hVc.one h1 h2 (by have := chk_len hWc; omega) (by have := chk_len hVc; omega)
    refine h.mono fun x w' ⟨q1,q2⟩ => ⟨q1,chg_from hb ?_⟩
    have e : T.over y = T.change W V := by unfold Tree.over; rw [hz,hW,hV]
    rw [e]; exact q2
  have hxc := Whole.new w 59 #[.int .i64 y.fr,.int .i64 y.n,.int .i64 y.kind,.int .i64 y.at_]
  obtain ⟨TO,hTO⟩ : ∃ TO,T.over y = TO := ⟨_,rfl⟩
  rw [hTO] at HCH ⊢
  obtain ⟨f,en,k,t⟩ := y
  simp only [Ext.val] at HON HOV
  simp only at HNR hb0 hxc hsp
  have HX0 : Hid (∀ wq,Below (w.heap.size + 1) (w.alloc (.cells #[.int .i64 f,.int .i64 en,.int .i64 k,.int .i64 t] 59)) wq → (wq.cell? ⟨w.heap.size,0,none⟩ = some (.int .i64 f) ∧ wq.cell? ⟨w.heap.size,1,none⟩ = some (.int .i64 en) ∧ wq.cell? ⟨w.heap.size,2,none⟩ = some (.int .i64 k) ∧ wq.cell? ⟨w.heap.size,3,none⟩ = some (.int .i64 t)) ∧ Below w.heap.size w wq) := fun wq hb => ⟨(tmp4 (hxc.below hb (by omega))).1,hb0.trans (hb.mono (by omega))⟩
  have HB1s : Hid (∀ a b,Below (w.heap.size + 1) (w.alloc (.cells #[.int .i64 f,.int .i64 en,.int .i64 k,.int .i64 t] 59)) a → Below a.heap.size a b → Below (w.heap.size + 1) (w.alloc (.cells #[.int .i64 f,.int .i64 en,.int .i64 k,.int .i64 t] 59)) b) := fun a b h1 h2 => h1.trans (h2.mono (by have := h1.size; simpa using this))
  have hwz : wrap64 (f + en) = f + en := by unfold wrap64; omega
  obtain ⟨s1,s2,s3,s4⟩ := hsp
  clear s4 hTO hVc hWc hFl hTW hV hW hz hz2 ht hok hc hy hxc hb0
  show Calls Tryz.prog 20 #[.pointer (some ⟨p,0,none⟩),.agg #[.int .i64 f,.int .i64 en,.int .i64 k,.int .i64 t]] w _
  go_enter Tryz.func20,Tryz.ntmps20
  go_wp2_with fail
  with_reducible refine (HON.out _).mono ?_
  rintro e w2 ⟨rfl,hb2⟩
  have HB2 := Lib.hid (HB1s.out _ _ (Below.refl _ _) hb2)
  obtain ⟨⟨y0,y1,y2,y3⟩,hbw⟩ := HX0.out _ HB2.out
  have HBW := Lib.hid hbw
  clear hb2 hbw
  go_wp2_with fail
  with_reducible refine (HNR.out _ HBW.out).mono ?_
  rintro e w3 ⟨v1,rfl,hl1,hb3⟩
  have HB3 := Lib.hid (HB1s.out _ _ HB2.out hb3)
  have HL1 := Lib.hid hl1
  clear y0 y1 y2 y3
  obtain ⟨⟨y0,y1,y2,y3⟩,hbw⟩ := HX0.out _ HB3.out
  have HBW3 := Lib.hid hbw
  clear hb3 hbw hl1
  go_wp2_with fail
  with_reducible refine (HOV.out _ _ HBW3.out HL1.out).mono ?_
  rintro e w4 ⟨v2,rfl,hl2,hl1,hb4⟩
  have HL2 := Lib.hid hl2
  have HL1' := Lib.hid hl1
  have HBW4 := Lib.hid (bel_tr HBW3.out hb4)
  clear y0 y1 y2 y3 hl2 hl1 hb4
  go_wp2_with fail
  with_reducible refine (HCH.out _ _ _ HBW4.out HL1'.out HL2.out).mono ?_
  rintro e w5 ⟨rfl,hs5⟩
  have HS5 := Lib.hid hs5
  clear hs5
  go_wp2_with fail
  go_ret
  exact ⟨rfl,HS5.out⟩
set_option maxHeartbeats 4000000 in
set_option maxRecDepth 100000 in
theorem tcut_bad (w : World) (p : Nat) (fr n : Int) (hs : spanB fr n = false) :
    Calls Tryz.prog 61 #[.pointer (some ⟨p,0,none⟩),.int .i64 fr,.int .i64 n] w fun x w' => x = .returned (.int .i64 1) ∧ Below w.heap.size w w' := by
  have HC := Lib.hid (cutX_bad [] (.slice none 0 0) fr n w ⟨none,0,rfl,fun h => by simp at h⟩ (by simp) rfl hs)
  clear hs
  go_enter Tryz.func61,Tryz.ntmps61
  go_wp2_with fail
  with_reducible refine HC.out.mono ?_
  rintro e w2 ⟨rfl,hb2⟩
  have HB2 := Lib.hid hb2
  clear hb2
  go_wp2_with fail
  go_ret
  exact ⟨rfl,HB2.out⟩
set_option maxHeartbeats 4000000 in
set_option maxRecDepth 100000 in
theorem tcut_any (w : World) (F : List Nat) (p : Nat) (T : Tree) (fr n : Int) (ht : TrAt w F p T) (hok : T.Ok) (hc : Chk T.flat) (hs : spanB fr n = true) :
    Calls Tryz.prog 61 #[.pointer (some ⟨p,0,none⟩),.int .i64 fr,.int .i64 n] w fun x w' => x = .returned (.int .i64 0) ∧ ChgSt w F p (T.cut fr n) w' := by
  obtain ⟨s1,s2,s3⟩ := span_spec hs
  obtain ⟨W,hW⟩ : ∃ W,nearL T.flat fr (fr + n) = W := ⟨_,rfl⟩
  obtain ⟨V,hV⟩ : ∃ V,cutL W fr n = V := ⟨_,rfl⟩
  have hTW : ∀ wq,Below w.heap.size w wq → TrAt wq F p T := fun wq hb => ht.keep (Keep.below (F := fun _ => False) hb) (fun _ _ h => h)
  have hFl := ht.lt
  have HC0 : Hid (Calls Tryz.prog 91 #[.slice none 0 0,.int .i64 fr,.int .i64 n] w fun e w' => ∃ v2,e = .returned (.tuple #[v2,.int .i64 0]) ∧ Below w.heap.size w w') :=
    (cutX_any [] (.slice none 0 0) fr n w ⟨none,0,rfl,fun h => by simp at h⟩ (by simp) rfl hs).mono fun e w' ⟨v2,q1,q2,q3⟩ => ⟨v2,q1,q3⟩
  have HNR : Hid (∀ wq,Below w.heap.size w wq → Calls Tryz.prog 39 #[.pointer (some ⟨p,0,none⟩),.int .i64 fr,.int .i64 (fr + n)] wq fun x w' => ∃ v',x = .returned v' ∧ ListBy w' F v' W ∧ Below wq.heap.size wq w') := by
    intro wq hb
    have h := near_any wq F p T fr (fr + n) (hTW wq hb) hok hc (by omega) (by omega)
    rw [hW] at h
    exact h.mono fun x w' ⟨v',q1,q2,q3⟩ => ⟨v',q1,listBy_new q2 (fun k hk => Nat.lt_of_lt_of_le (hFl k hk) hb.size),q3⟩
  have hWc : Chk W := by rw [← hW]; exact near_chk hc _ _
  have hVc : Chk V := by rw [← hV]; exact cut_chk hWc s1 s2 s3
  have HCT : Hid (∀ wq v',Below w.heap.size w wq → ListBy wq F v' W → Calls Tryz.prog 91 #[v',.int .i64 fr,.int .i64 n] wq fun e w' => ∃ v2,e = .returned (.tuple #[v2,.int .i64 0]) ∧ ListBy w' F v2 V ∧ ListBy w' F v' W ∧ Below wq.heap.size wq w') := by
    intro wq v' hb hl
    have h := cutX_any W v' fr n wq hl.exts (chk_len hWc) (chk_chkB _ hWc) hs
    rw [hV] at h
    exact h.mono fun e w' ⟨v2,q1,q2,q3⟩ => ⟨v2,q1,listBy_new q2 (fun k hk => Nat.lt_of_lt_of_le (hFl k hk) hb.size),listBy_below hl q3,q3⟩
  have HCH : Hid (∀ wq v1 v2,Below w.heap.size w wq → ListBy wq F v1 W → ListBy wq F v2 V → Calls Tryz.prog 41 #[.pointer (some ⟨p,0,none⟩),v1,v2] wq fun x w' => x = .returned (.tuple #[]) ∧ ChgSt w F p (T.cut fr n) w') := by
    intro wq v1 v2 hb h1 h2
    have h3 := three (lo := fr) (hi := fr + n) hc (by omega)
    have hl := cut_local hc s1 s2 s3
    have hco := cut_chk hc s1 s2 s3
    rw [hW] at h3 hl
    rw [hV] at hl
    have h := change_any wq F p T v1 v2 (leftL T.flat fr) W (rightL T.flat (fr + n)) V (hTW wq hb) hok h3 (by rw [← h3]; exact chk_fr hc) (by rw [← hl]; exact chk_fr hco) hc.one hVc.one h1 h2 (by have := chk_len hWc; omega) (by have := chk_len hVc; omega)
    refine h.mono fun x w' ⟨q1,q2⟩ => ⟨q1,chg_from hb ?_⟩
    have e : T.cut fr n = T.change W V := by unfold Tree.cut; rw [hW,hV]
    rw [e]; exact q2
  obtain ⟨TO,hTO⟩ : ∃ TO,T.cut fr n = TO := ⟨_,rfl⟩
  rw [hTO] at HCH ⊢
  clear hTO hVc hWc hFl hTW hV hW ht hok hc hs
  go_enter Tryz.func61,Tryz.ntmps61
  go_wp2_with fail
  with_reducible refine HC0.out.mono ?_
  rintro e w1 ⟨v0,rfl,hb1⟩
  have HBW1 := Lib.hid hb1
  clear hb1
  go_wp2_with fail
  with_reducible refine (HNR.out _ HBW1.out).mono ?_
  rintro e w3 ⟨v1,rfl,hl1,hb3⟩
  have HL1 := Lib.hid hl1
  have HBW3 := Lib.hid (bel_tr HBW1.out hb3)
  clear hb3 hl1
  go_wp2_with fail
  with_reducible refine (HCT.out _ _ HBW3.out HL1.out).mono ?_
  rintro e w4 ⟨v2,rfl,hl2,hl1,hb4⟩
  have HL2 := Lib.hid hl2
  have HL1' := Lib.hid hl1
  have HBW4 := Lib.hid (bel_tr HBW3.out hb4)
  clear hl2 hl1 hb4
  go_wp2_with fail
  with_reducible refine (HCH.out _ _ _ HBW4.out HL1'.out HL2.out).mono ?_
  rintro e w5 ⟨rfl,hs5⟩
  have HS5 := Lib.hid hs5
  clear hs5
  go_wp2_with fail
  go_ret
  exact ⟨rfl,HS5.out⟩
end Go.Proofs.YtneammhkgmkkfaaGreatDoor.tr
