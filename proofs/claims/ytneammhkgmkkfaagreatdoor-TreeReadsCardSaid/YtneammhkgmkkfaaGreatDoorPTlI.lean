/- A part of the proof. -/
import Derived.Test.YtneammhkgmkkfaaGreatDoorPTlE
namespace Go.Proofs.YtneammhkgmkkfaaGreatDoor.tr
open Go.RowKit Go.Proofs.YtneammhkgmkkfaaGreatDoor.er
set_option linter.unusedVariables false
set_option linter.unusedSimpArgs false
def ErrRet (w : World) (x : Ending) (w' : World) : Prop := ∃ e,x = .returned (.tuple #[.pointer none,.iface 88 e]) ∧ ErrAt w' (.iface 88 e) ∧ Below w.heap.size w w'
def TrdPost {h : Nat} (o : Option (Nd h)) (w : World) (x : Ending) (w' : World) : Prop :=
  match o with
  | some n => if chkB (flat n) = true then TreadPost (.top h n) w x w' else ErrRet w x w'
  | none => ErrRet w x w'
set_option maxHeartbeats 8000000 in
set_option maxRecDepth 100000 in
theorem tread_arg (w : World) (top high : Int) (g : Value) (hb : ((top = -1) ↔ ¬ (high = 0)) ∨ high < 0 ∨ 6 < high) :
    Calls Tryz.prog 6 #[.int .i64 top,.int .i64 high,g] w fun x w' => ∃ op b,x = .returned (.tuple #[.pointer none,.iface 88 (.pointer (some ⟨b,0,none⟩))]) ∧ Whole w' b 91 #[.string op,.int .i64 top,errV 1] ∧ Below w.heap.size w w' := by
  have HW : Hid (∀ op,Calls Tryz.prog 22 #[.string op,.int .i64 top,.iface 35 (.int .i64 1)] w fun x w' => ∃ b,x = .returned (.iface 88 (.pointer (some ⟨b,0,none⟩))) ∧ Whole w' b 91 #[.string op,.int .i64 top,errV 1] ∧ Below w.heap.size w w') := by
    intro op
    refine (wrap_any op top 1 w).mono ?_
    rintro x w' ⟨rfl,rfl⟩
    exact ⟨_,rfl,Whole.new _ _ _,(Below.refl _ _).alloc (Nat.le_refl _) _⟩
  obtain ⟨p1,hp1⟩ : ∃ p1,(top == -1) = p1 := ⟨_,rfl⟩
  obtain ⟨p2,hp2⟩ : ∃ p2,(high == 0) = p2 := ⟨_,rfl⟩
  by_cases hx : p1 = p2
  · subst hx
    have hh : high < 0 ∨ 6 < high := by
      refine hb.resolve_left (fun h => ?_)
      have e1 : (top = -1) ↔ p1 = true := by rw [← hp1]; simp
      have e2 : (high = 0) ↔ p1 = true := by rw [← hp2]; simp
      rw [e1,e2] at h
      cases p1 <;> simp at h
    by_cases h0 : high < 0
    · cases p1
      all_goals
        go_enter Tryz.func6,Tryz.ntmps6
        go_wp2_with fail
        with_reducible refine (HW.out _).mono ?_
        rintro e w1 ⟨b,rfl,z1,z2⟩
        have HZ := Lib.hid (And.intro z1 z2)
        clear z1 z2
        go_wp2_with fail
        refine bodyPost_ret (v := .tuple #[.pointer none,.iface 88 (.pointer (some ⟨b,0,none⟩))]) (by simp [results,Tryz.results6,go_sem]) rfl ⟨_,b,rfl,HZ.out.1,HZ.out.2⟩
    · have h6 : 6 < high := hh.resolve_left h0
      cases p1
      all_goals
        go_enter Tryz.func6,Tryz.ntmps6
        go_wp2_with fail
        with_reducible refine (HW.out _).mono ?_
        rintro e w1 ⟨b,rfl,z1,z2⟩
        have HZ := Lib.hid (And.intro z1 z2)
        clear z1 z2
        go_wp2_with fail
        refine bodyPost_ret (v := .tuple #[.pointer none,.iface 88 (.pointer (some ⟨b,0,none⟩))]) (by simp [results,Tryz.results6,go_sem]) rfl ⟨_,b,rfl,HZ.out.1,HZ.out.2⟩
  · have hxb : (p1 == p2) = false := by simpa using hx
    cases p1 <;> cases p2 <;> first | exact (hx rfl).elim | skip
    all_goals
      go_enter Tryz.func6,Tryz.ntmps6
      go_wp2_with fail
      with_reducible refine (HW.out _).mono ?_
      rintro e w1 ⟨b,rfl,z1,z2⟩
      have HZ := Lib.hid (And.intro z1 z2)
      clear z1 z2
      go_wp2_with fail
      refine bodyPost_ret (v := .tuple #[.pointer none,.iface 88 (.pointer (some ⟨b,0,none⟩))]) (by simp [results,Tryz.results6,go_sem]) rfl ⟨_,b,rfl,HZ.out.1,HZ.out.2⟩
set_option maxHeartbeats 8000000 in
set_option maxRecDepth 100000 in
theorem tread_gen (w : World) (G : Nat → Prop) (bb : Nat) (L : Bk) (h : Nat) (top : Int) (hb : BkV w bb L) (hs : SzOk L) (ha : I64 top) (hne : top ≠ -1) (hh : h ≤ 5) :
    Calls Tryz.prog 6 #[.int .i64 top,.int .i64 ((h : Int) + 1),getF bb] w (TrdPost (readN L top h top) w) := by
  obtain ⟨H,hH⟩ : ∃ H : Int,(h : Int) + 1 = H := ⟨_,rfl⟩
  rw [hH]
  obtain ⟨p,hp⟩ : ∃ p,w.heap.size = p := ⟨_,rfl⟩
  obtain ⟨w1,hw1⟩ : ∃ w1,w.alloc (.cells #[.nilIface] 69) = w1 := ⟨_,rfl⟩
  obtain ⟨r,hr⟩ : ∃ r,w1.heap.size = r := ⟨_,rfl⟩
  obtain ⟨w2,hw2⟩ : ∃ w2,w1.alloc (.cells #[getF bb,.int .i64 top] 66) = w2 := ⟨_,rfl⟩
  have hb1 : Below w.heap.size w w1 := by rw [← hw1]; exact (Below.refl _ _).alloc (Nat.le_refl _) _
  have hb2 : Below w1.heap.size w1 w2 := by rw [← hw2]; exact (Below.refl _ _).alloc (Nat.le_refl _) _
  have hr1 : r = p + 1 := by rw [← hr,← hp,← hw1]; simp
  have hwp : Whole w1 p 69 #[.nilIface] := by rw [← hw1,← hp]; exact Whole.new _ _ _
  have hwr : Whole w2 r 66 #[getF bb,.int .i64 top] := by rw [← hw2,← hr]; exact Whole.new _ _ _
  have HNEW : Hid (Calls Tryz.prog 19 #[] w fun x w' => x = .returned (.pointer (some ⟨p,0,none⟩)) ∧ w' = w1) := by
    have := new_any w
    rw [hp,hw1] at this
    exact this
  have HRD : Hid (Calls Tryz.prog 23 #[.pointer (some ⟨r,0,none⟩),.int .i64 top,.int .i64 H] w2 fun x w3 =>
      (∃ (b : Nat) (F : List Nat) (n : Nd h),readN L top h top = some n ∧ x = .returned (.tuple #[ptrV h b,.nilIface]) ∧ (w3.cell? ⟨p,0,none⟩ = some .nilIface ∧ w3.frozen? ⟨p,0,none⟩ = false) ∧ TrAt (w3.setCell ⟨p,0,none⟩ (ptrV h b)) (p :: F) p (.top h n) ∧ (∀ k ∈ p :: F,p ≤ k) ∧ Below w.heap.size w (w3.setCell ⟨p,0,none⟩ (ptrV h b))) ∨
      (readN L top h top = none ∧ ∃ e,x = .returned (.tuple #[.nilIface,.iface 88 e]) ∧ ErrAt w3 (.iface 88 e) ∧ Below w.heap.size w w3)) := by
    have := rd_any h (by omega) w2 r bb G L top top ⟨hwr,(hb.below hb1).below hb2⟩ hs ha
    rw [hH] at this
    refine this.mono ?_
    intro x w3 hx
    cases hn : readN L top h top with
    | none =>
      rw [hn] at hx
      obtain ⟨e,rfl,k1,k2⟩ := hx
      exact .inr ⟨rfl,e,rfl,k1,(hb1.trans (hb2.mono hb1.size)).trans (k2.mono (by have := hb1.size; have := hb2.size; omega))⟩
    | some n =>
      rw [hn] at hx
      obtain ⟨F,b,rfl,k1,k2,k3,k4,k5⟩ := hx
      have hp1 := hwp.lt
      have h2s := hb2.size
      have hwp3 := (hwp.below hb2 hwp.lt).below k5 (by omega)
      have hbk : Below w.heap.size w w3 := (hb1.trans (hb2.mono hb1.size)).trans (k5.mono (by have := hb1.size; omega))
      have hkp : Keep (fun k => k = p) w3 (w3.setCell ⟨p,0,none⟩ (ptrV h b)) := Keep.set1 w3 p 0 _
      have hpF : p ∉ F := fun hm => by have := k3 p hm; omega
      refine .inl ⟨b,F,n,rfl,rfl,⟨hwp3.cell 0,hwp3.fz 0⟩,⟨F,ptrV h b,rfl,by simpa using hwp3.set 0 (ptrV h b),⟨k1.keep hkp (fun k hk e => hpF (e ▸ hk)),k2⟩,hpF⟩,?_,?_⟩
      · intro k hk
        rcases List.mem_cons.1 hk with rfl | hk
        · omega
        · have := k3 k hk; omega
      · exact hbk.trans (hkp.toBelow hbk.size (fun k hk => by have hk' : k = p := hk; omega))
  have HAL : Hid (∀ w4 F (n : Nd h),readN L top h top = some n → TrAt w4 F p (.top h n) → Calls Tryz.prog 25 #[.pointer (some ⟨p,0,none⟩)] w4 fun x w' => ∃ A m c,m = (flat n).length ∧ x = .returned (.slice A m c) ∧ w'.ownsRow w4.heap.size 59 4 (.slice A m c) m (extCells (flat n)) ∧ Below w4.heap.size w4 w') := by
    intro w4 F n hn ht
    rw [read_same] at hn
    have hlen := (readD_bound hn).2.1
    have e1 : 8 ^ (h + 1) ≤ 8 ^ 6 := Nat.pow_le_pow_right (by omega) (by omega)
    have e2 : 8 ^ 6 = 262144 := by decide
    refine (allW_any w4 F p (.top h n) ht (readD_ok hn) (readD_made hn).2.2.2.2.2 (by show (flat n).length ≤ _; omega)).mono ?_
    rintro x w' ⟨v',rfl,q1,q2⟩
    obtain ⟨A,c,rfl⟩ := own_slice q1
    exact ⟨A,_,c,rfl,rfl,q1,q2⟩
  have HCK : Hid (∀ wq v m (n : Nd h),readN L top h top = some n → wq.ownsRow m 59 4 v (flat n).length (extCells (flat n)) → Calls Tryz.prog 24 #[v] wq fun x w' => x = .returned (.bool (chkB (flat n))) ∧ Below wq.heap.size wq w') := by
    intro wq v m n hn hv
    rw [read_same] at hn
    have hlen := (readD_bound hn).2.1
    have e1 : 8 ^ (h + 1) ≤ 8 ^ 6 := Nat.pow_le_pow_right (by omega) (by omega)
    have e2 : 8 ^ 6 = 262144 := by decide
    exact check_any _ v wq (ExtsAt.own hv).1 (by omega)
  have HP := Lib.hid hp
  have HWR := Lib.hid (fun op wq => wrapErr_any op top 3 (.inl rfl) wq)
  have ht0 : (top == -1) = false := by simpa using hne
  have hH0 : (H == 0) = false := by simp; omega
  have hH1 : decide (H < 0) = false := by simp; omega
  have hH6 : decide (6 < H) = false := by simp; omega
  obtain ⟨o,ho⟩ : ∃ o,readN L top h top = o := ⟨_,rfl⟩
  rw [ho] at HRD HAL HCK ⊢
  clear hb hs hb1 hb2 hwp hwr hH hr1 ho ha hne
  unfold getF at hw2 ⊢
  go_enter Tryz.func6,Tryz.ntmps6
  go_wp2_with fail
  with_reducible refine HNEW.out.mono ?_
  rintro e wx ⟨rfl,rfl⟩
  go_wp2_with fail
  with_reducible refine HRD.out.mono ?_
  rintro e w3 (⟨b,F,n,rfl,rfl,⟨z0,z1⟩,ht4,hF4,hb4⟩ | ⟨rfl,e3,rfl,he3,hb3⟩)
  · obtain ⟨w4,hw4⟩ : ∃ w4,w3.setCell ⟨p,0,none⟩ (ptrV h b) = w4 := ⟨_,rfl⟩
    rw [hw4] at ht4 hb4
    have HT4 := Lib.hid ht4
    have HF4 := Lib.hid hF4
    have HB4 := Lib.hid hb4
    have HA4 := Lib.hid (HAL.out w4 _ n rfl ht4)
    unfold ptrV at hw4 ⊢
    clear ht4 hF4 hb4 hw1 hw2 hr hp
    go_wp2_with fail
    with_reducible refine HA4.out.mono ?_
    rintro e w5 ⟨A5,m5,c5,hm5,rfl,ho5,hb5⟩
    have HC5 := Lib.hid (HCK.out w5 (.slice A5 m5 c5) _ n rfl (by rw [← hm5]; exact ho5))
    have HB5 := Lib.hid hb5
    obtain ⟨ck,hck⟩ : ∃ ck,chkB (flat n) = ck := ⟨_,rfl⟩
    rw [hck] at HC5
    have HCKB := Lib.hid hck
    clear ho5 hb5 hm5 hck
    go_wp2_with fail
    with_reducible refine HC5.out.mono ?_
    rintro e w6 ⟨rfl,hb6⟩
    have hbb : Below w4.heap.size w4 w6 := HB5.out.trans (hb6.mono HB5.out.size)
    have HB6 : Hid (Below w.heap.size w w6) := HB4.out.trans (hbb.mono HB4.out.size)
    cases ck with
    | true =>
      have HEND : Hid (TrdPost (some n) w (.returned (.tuple #[.pointer (some ⟨p,0,none⟩),.nilIface])) w6) := by
        show (if chkB (flat n) = true then TreadPost (.top h n) w _ w6 else ErrRet w _ w6)
        rw [if_pos HCKB.out]
        refine ⟨p,p :: F,rfl,HT4.out.keep (Keep.below (F := fun _ => False) hbb) (fun _ _ h => h),fun k hk => ?_,HB6.out⟩
        rw [HP.out]
        exact HF4.out k hk
      clear hb6 hbb
      go_wp2_with fail
      refine bodyPost_ret (v := .tuple #[.pointer (some ⟨p,0,none⟩),.nilIface]) (by simp [results,Tryz.results6,go_sem]) rfl HEND.out
    | false =>
      clear hb6 hbb
      go_wp2_with fail
      with_reducible refine (HWR.out _ _).mono ?_
      rintro e w7 ⟨y,rfl,he7,hb7⟩
      have HEND : Hid (TrdPost (some n) w (.returned (.tuple #[.pointer none,.iface 88 y])) w7) := by
        show (if chkB (flat n) = true then TreadPost (.top h n) w _ w7 else ErrRet w _ w7)
        rw [if_neg (by rw [HCKB.out]; decide)]
        exact ⟨y,rfl,he7,HB6.out.trans (hb7.mono HB6.out.size)⟩
      clear he7 hb7
      go_wp2_with fail
      refine bodyPost_ret (v := .tuple #[.pointer none,.iface 88 y]) (by simp [results,Tryz.results6,go_sem]) rfl HEND.out
  · have HEND : Hid (TrdPost (none : Option (Nd h)) w (.returned (.tuple #[.pointer none,.iface 88 e3])) w3) := ⟨e3,rfl,he3,hb3⟩
    clear he3 hb3 hw1 hw2 hr hp
    go_wp2_with fail
    refine bodyPost_ret (v := .tuple #[.pointer none,.iface 88 e3]) (by simp [results,Tryz.results6,go_sem]) rfl HEND.out
end Go.Proofs.YtneammhkgmkkfaaGreatDoor.tr
