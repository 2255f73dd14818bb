/- tree.Read of what Write wrote. -/
import Derived.Test.YtneammhkgmkkfaaGreatTqH
import Derived.Test.YtneammhkgmkkfaaGreatTuC
namespace Go.Proofs.YtneammhkgmkkfaaGreat.tr
open Go.RowKit Go.Proofs.YtneammhkgmkkfaaGreat.er
set_option linter.unusedVariables false
set_option linter.unusedSimpArgs false

def getF (bb : Nat) : Value := .func (.func 38) #[.pointer (some ⟨bb, 0, none⟩)] #[]
def TreadPost (T : Tree) (w : World) (x : Ending) (w' : World) : Prop := ∃ p F, x = .returned (.tuple #[.pointer (some ⟨p, 0, none⟩), .nilIface]) ∧ TrAt w' F p T ∧ (∀ k ∈ F, w.heap.size ≤ k) ∧ Below w.heap.size w w'
set_option maxHeartbeats 8000000 in
set_option maxRecDepth 100000 in
theorem tread_top (w : World) (G : Nat → Prop) (bb : Nat) (L : Bk) (h : Nat) (n : Nd h) (hb : BkAt w G bb L) (hs : SzOk L) (hn : readN L n.at_ h n.at_ = some n) (ha : 0 ≤ n.at_ ∧ n.at_ < 2048) (ho : (Tree.top h n).Ok) (hc : Chk (flat n)) (hh : h ≤ 5) :
    Calls Tryz.prog 37 #[.int .i64 n.at_, .int .i64 ((h : Int) + 1), getF bb] w (TreadPost (.top h n) w) := by
  obtain ⟨H, hH⟩ : ∃ H : Int, (h : Int) + 1 = H := ⟨_, rfl⟩
  obtain ⟨top, htop⟩ : ∃ top, n.at_ = top := ⟨_, rfl⟩
  rw [hH, htop]
  rw [htop] at hn ha
  obtain ⟨p, hp⟩ : ∃ p, w.heap.size = p := ⟨_, rfl⟩
  obtain ⟨w1, hw1⟩ : ∃ w1, w.alloc (.cells #[.nilIface] 80) = w1 := ⟨_, rfl⟩
  obtain ⟨r, hr⟩ : ∃ r, w1.heap.size = r := ⟨_, rfl⟩
  obtain ⟨w2, hw2⟩ : ∃ w2, w1.alloc (.cells #[getF bb, .int .i64 top] 117) = w2 := ⟨_, rfl⟩
  have hb1 : Below w.heap.size w w1 := by rw [← hw1]; exact (Below.refl _ _).alloc (Nat.le_refl _) _
  have hb2 : Below w1.heap.size w1 w2 := by rw [← hw2]; exact (Below.refl _ _).alloc (Nat.le_refl _) _
  have hr1 : r = p + 1 := by rw [← hr, ← hp, ← hw1]; simp
  have hwp : Whole w1 p 80 #[.nilIface] := by rw [← hw1, ← hp]; exact Whole.new _ _ _
  have hwr : Whole w2 r 117 #[getF bb, .int .i64 top] := by rw [← hw2, ← hr]; exact Whole.new _ _ _
  have HNEW : Hid (Calls Tryz.prog 35 #[] w fun x w' => x = .returned (.pointer (some ⟨p, 0, none⟩)) ∧ w' = w1) := by
    have := new_any w
    rw [hp, hw1] at this
    exact this
  have HRD : Hid (Calls Tryz.prog 60 #[.pointer (some ⟨r, 0, none⟩), .int .i64 top, .int .i64 H] w2 fun x w3 => ∃ b F, x = .returned (.tuple #[ptrV h b, .nilIface]) ∧ (w3.cell? ⟨p, 0, none⟩ = some .nilIface ∧ w3.frozen? ⟨p, 0, none⟩ = false) ∧ TrAt (w3.setCell ⟨p, 0, none⟩ (ptrV h b)) (p :: F) p (.top h n) ∧ (∀ k ∈ p :: F, p ≤ k) ∧ Below w.heap.size w (w3.setCell ⟨p, 0, none⟩ (ptrV h b))) := by
    have := rd_any h (by omega) w2 r bb G L top top ⟨hwr, (hb.below hb1).below hb2⟩ hs (by unfold I64; omega)
    rw [hn, hH] at this
    refine this.mono ?_
    rintro x w3 ⟨F, b, rfl, k1, k2, k3, k4, k5⟩
    have hp1 := hwp.lt
    have h2s := hb2.size
    have hwp3 := (hwp.below hb2 hwp.lt).below k5 (by omega)
    have hbk : Below w.heap.size w w3 := (hb1.trans (hb2.mono hb1.size)).trans (k5.mono (by have := hb1.size; omega))
    have hkp : Keep (fun k => k = p) w3 (w3.setCell ⟨p, 0, none⟩ (ptrV h b)) := Keep.set1 w3 p 0 _
    have hpF : p ∉ F := fun hm => by have := k3 p hm; omega
    refine ⟨b, F, rfl, ⟨hwp3.cell 0, hwp3.fz 0⟩, ⟨F, ptrV h b, rfl, by simpa using hwp3.set 0 (ptrV h b), ⟨k1.keep hkp (fun k hk e => hpF (e ▸ hk)), k2⟩, hpF⟩, ?_, ?_⟩
    · intro k hk
      rcases List.mem_cons.1 hk with rfl | hk
      · omega
      · have := k3 k hk; omega
    · exact hbk.trans (hkp.toBelow hbk.size (fun k hk => by have hk' : k = p := hk; omega))
  have HAL := Lib.hid (fun w4 F ht => all_any w4 F p (.top h n) ht ho hc)
  have HCK : Hid (∀ wq v m, wq.ownsRow m 39 4 v (Tree.top h n).flat.length (extCells (Tree.top h n).flat) → Calls Tryz.prog 61 #[v] wq fun x w' => x = .returned (.bool true) ∧ Below wq.heap.size wq w') := by
    intro wq v m hv
    have hc' : Chk (Tree.top h n).flat := hc
    have := check_any _ v wq (ExtsAt.own hv).1 (by have := chk_len hc'; omega)
    rw [chk_chkB _ hc'] at this
    exact this
  have HP := Lib.hid hp
  have ht0 : (top == -1) = false := by simp; omega
  have hH0 : (H == 0) = false := by simp; omega
  have hH1 : decide (H < 0) = false := by simp; omega
  have hH6 : decide (6 < H) = false := by simp; omega
  clear hb hs hn ho hc hb1 hb2 hwp hwr hH htop hr1
  unfold getF at hw2 ⊢
  go_enter Tryz.func37, Tryz.ntmps37
  go_wp2_with fail
  with_reducible refine HNEW.out.mono ?_
  rintro e wx ⟨rfl, rfl⟩
  go_wp2_with fail
  with_reducible refine HRD.out.mono ?_
  rintro e w3 ⟨b, F, rfl, ⟨z0, z1⟩, ht4, hF4, hb4⟩
  obtain ⟨w4, hw4⟩ : ∃ w4, w3.setCell ⟨p, 0, none⟩ (ptrV h b) = w4 := ⟨_, rfl⟩
  rw [hw4] at ht4 hb4
  have HT4 := Lib.hid ht4
  have HF4 := Lib.hid hF4
  have HB4 := Lib.hid hb4
  have HA4 := Lib.hid (HAL.out w4 _ ht4)
  unfold ptrV at hw4 ⊢
  clear ht4 hF4 hb4 hw1 hw2 hr hp
  go_wp2_with fail
  with_reducible refine HA4.out.mono ?_
  rintro e w5 ⟨v5, rfl, ho5, hb5⟩
  have HC5 := Lib.hid (HCK.out w5 v5 _ ho5)
  obtain ⟨A5, c5, rfl⟩ := own_slice ho5
  have HB5 := Lib.hid hb5
  clear ho5 hb5
  go_wp2_with fail
  with_reducible refine HC5.out.mono ?_
  rintro e w6 ⟨rfl, hb6⟩
  have HEND : Hid (TreadPost (.top h n) w (.returned (.tuple #[.pointer (some ⟨p, 0, none⟩), .nilIface])) w6) := by
    have hbb : Below w4.heap.size w4 w6 := HB5.out.trans (hb6.mono HB5.out.size)
    refine ⟨p, p :: F, rfl, HT4.out.keep (Keep.below (F := fun _ => False) hbb) (fun _ _ h => h), fun k hk => ?_, HB4.out.trans (hbb.mono HB4.out.size)⟩
    rw [HP.out]
    exact HF4.out k hk
  clear hb6
  go_wp2_with fail
  refine bodyPost_ret (v := .tuple #[.pointer (some ⟨p, 0, none⟩), .nilIface]) (by simp [results, Tryz.results37, go_sem]) rfl HEND.out
set_option maxHeartbeats 8000000 in
set_option maxRecDepth 100000 in
theorem tread_no (w : World) (g : Value) :
    Calls Tryz.prog 37 #[.int .i64 (-1), .int .i64 0, g] w (TreadPost .no w) := by
  have HNEW : Hid (Calls Tryz.prog 35 #[] w fun x w' => ∃ p, x = .returned (.pointer (some ⟨p, 0, none⟩)) ∧ TreadPost .no w (.returned (.tuple #[.pointer (some ⟨p, 0, none⟩), .nilIface])) w') := by
    refine (new_any w).mono ?_
    rintro x w' ⟨rfl, rfl⟩
    exact ⟨_, rfl, _, [w.heap.size], rfl, ⟨rfl, Whole.new _ _ _⟩, by simp, (Below.refl _ _).alloc (Nat.le_refl _) _⟩
  go_enter Tryz.func37, Tryz.ntmps37
  go_wp2_with fail
  with_reducible refine HNEW.out.mono ?_
  rintro e w1 ⟨p, rfl, hp⟩
  have HP := Lib.hid hp
  clear hp
  go_wp2_with fail
  refine bodyPost_ret (v := .tuple #[.pointer (some ⟨p, 0, none⟩), .nilIface]) (by simp [results, Tryz.results37, go_sem]) rfl HP.out
/-- A tree that was built and never written is written and then read, out of a book that has grown. -/
theorem tread_any (w : World) (G : Nat → Prop) (bb : Nat) {T T' : Tree} {L L' M : Bk} (hw : Wrote T [] T' L') (hn : T.nfs = []) (ho : T.Ok) (hc : Chk T.flat) (hl : L'.length ≤ 2000) (hL : L = L' ++ M) (hs : SzOk L) (hb : BkAt w G bb L) (hh : T.high ≤ 6) :
    Calls Tryz.prog 37 #[.int .i64 T'.topAt, .int .i64 T'.high, getF bb] w (TreadPost T' w) := by
  cases T with
  | no =>
    obtain ⟨rfl, rfl⟩ := hw
    exact tread_no w _
  | top h n =>
    obtain ⟨n', rfl, k1, k2, k3⟩ := wrote_read hw hn ho hc hl
    obtain ⟨q1, q2, _⟩ := wrote_of hw ho
    have h5 : h ≤ 5 := by have : h + 1 ≤ 6 := hh; omega
    have hr := k3 M
    rw [← hL] at hr
    have q2' : flat n' = flat n := q2
    have := tread_top w G bb L h n' hb hs hr ⟨k1, k2⟩ q1 (by rw [q2']; exact hc) h5
    exact this
end Go.Proofs.YtneammhkgmkkfaaGreat.tr
