/- A part of the proof. -/
import Derived.Test.YtneammhkgmkkfaaGreatPTpE
namespace Go.Proofs.YtneammhkgmkkfaaGreat.tr
open Go.RowKit Go.Proofs.YtneammhkgmkkfaaGreat.er
set_option linter.unusedVariables false
set_option linter.unusedSimpArgs false
theorem KidsAt.ownT {w : World} {B n : Nat} {T : TypeId} {v : Value} {l : List Kid} (h : w.ownsRow B T 2 v n (kidCells l)) : KidsAt w v l ∧ l.length = n := by
  obtain ⟨A,c,rfl⟩ := own_slice h
  have hl : (kidCells l).length = n * 2 := own_lenE h
  have hn : l.length = n := by rw [kidCells_len] at hl; omega
  refine ⟨⟨A,c,by rw [hn],by rw [hn]; exact own_cap h,fun h0 => ?_⟩,hn⟩
  obtain ⟨g,rfl,_,_,_,hc,_⟩ := own_cell h (by omega)
  refine ⟨g,0,rfl,fun j k hk => ?_⟩
  obtain ⟨q1,q2⟩ := kidCells_at l j k hk
  rw [Nat.zero_add]
  exact ⟨hc _ _ q1,hc _ _ q2⟩
set_option maxHeartbeats 8000000 in
set_option maxRecDepth 100000 in
theorem rkids_ok (l : List Kid) (v : Value) (w : World) (h : KidsAt w v l) (hl : KidsOk l) (h2 : 2 ≤ l.length) (h8 : l.length ≤ 8) :
    Calls Tryz.prog 119 #[v] w fun x w' => x = .returned (.bool true) ∧ Below w.heap.size w w' := by
  obtain ⟨A,c,rfl,_,hc⟩ := h
  have HC := Lib.hid hc
  obtain ⟨n,hn⟩ : ∃ n,l.length = n := ⟨_,rfl⟩
  rw [hn] at h2 h8
  have HN := Lib.hid hn
  rw [hn]
  have HL := Lib.hid hl
  have HNE : Hid (∀ (q j : Nat) (y e : Kid),q < j → l[q]? = some y → l[j]? = some e → y.at_ ≠ e.at_) := by
    intro q j y e hqj hy he
    obtain ⟨i1,rfl⟩ := List.getElem?_eq_some_iff.1 hy
    obtain ⟨i2,rfl⟩ := List.getElem?_eq_some_iff.1 he
    exact List.pairwise_iff_getElem.1 hl.ne q j i1 i2 hqj
  have HINC : Hid (∀ (q j : Nat) (y e : Kid),q < j → l[q]? = some y → l[j]? = some e → y.key < e.key) := by
    intro q j y e hqj hy he
    obtain ⟨i1,rfl⟩ := List.getElem?_eq_some_iff.1 hy
    obtain ⟨i2,rfl⟩ := List.getElem?_eq_some_iff.1 he
    exact List.pairwise_iff_getElem.1 hl.inc q j i1 i2 hqj
  have hni : (n : Int) ≤ 8 := by omega
  have hn2 : (2 : Int) ≤ (n : Int) := by omega
  clear hc hn hl
  go_enter Tryz.func119,Tryz.ntmps119
  go_wp2_with fail
  go_loopw [3,4] (fun i _ wr => ∃ (j : Nat),j ≤ n ∧ i = .int .i64 j ∧ Hid (Below w.heap.size w wr)) (fun i _ _ => n - (intOf i).toNat)
  case atStart => exact ⟨0,Nat.zero_le _,rfl,Below.refl _ _⟩
  case round =>
    obtain ⟨j,hj,rfl,HB⟩ := hrel
    by_cases hlt : j < n
    · have hji : (j : Int) < (n : Int) := by omega
      have hj0 : (0 : Int) ≤ (j : Int) := by omega
      obtain ⟨g,o,rfl,hcc⟩ := HC.out (by have := HN.out; omega)
      have HCC := Lib.hid hcc
      obtain ⟨e,hx⟩ : ∃ e,l[j]? = some e := ⟨l[j]'(by have := HN.out; omega),List.getElem?_eq_getElem (by have := HN.out; omega)⟩
      have HX := Lib.hid hx
      obtain ⟨c0,c1⟩ := (hcc j e hx).below HB.out
      have hk := HL.out.each e (List.mem_of_getElem? hx)
      unfold kidB at hk
      simp at hk
      have d1 : decide (e.key < 0) = false := by simp; omega
      have d2 : decide (16777215 < e.key) = false := by simp; omega
      have d3 : decide (e.at_ < 0) = false := by simp; omega
      have d4 : decide (2047 < e.at_) = false := by simp; omega
      clear hcc hx hk
      rcases Nat.eq_zero_or_pos j with hj0 | hj0
      · subst hj0
        simp only [Nat.zero_mul,Nat.add_zero] at c0 c1
        go_wp2_with fail
        refine wp_region_held_drew (S := fun _ => True) (by kernel_rfl) trivial (fun hHeld => ?_)
        refine wpAnyH_take (i := 0) (oi := { dst := some 41,op := _,type := _,pos := _,after := _,guard := _ }) (v := ?_) rfl (by kernel_rfl) (by kernel_rfl) (by kernel_rfl) (fun _ _ _ h => h) (Or.inl ⟨by rfl,?_⟩) (by assumption) ?_
        rotate_left
        · intro wz hSw; (try dsimp only at hSw); go_simp; (try with_reducible rfl)
        try simp only [Act.put,List.setIfInBounds_toArray,List.set_cons_zero,List.set_cons_succ]
        refine wpAnyH_take (i := 1) (oi := { dst := some 42,op := _,type := _,pos := _,after := _,guard := _ }) (v := ?_) rfl (by kernel_rfl) (by kernel_rfl) (by kernel_rfl) (fun _ _ _ h => h) (Or.inl ⟨by rfl,?_⟩) (by assumption) ?_
        rotate_left
        · intro wz hSw; (try dsimp only at hSw); go_simp; (try with_reducible rfl)
        try simp only [Act.put,List.setIfInBounds_toArray,List.set_cons_zero,List.set_cons_succ]
        refine wpAnyH_take (i := 2) (oi := { dst := some 43,op := _,type := _,pos := _,after := _,guard := _ }) (v := ?_) rfl (by kernel_rfl) (by kernel_rfl) (by kernel_rfl) (fun _ _ _ h => h) (Or.inl ⟨by rfl,?_⟩) (by assumption) ?_
        rotate_left
        · intro wz hSw; (try dsimp only at hSw); go_simp; (try with_reducible rfl)
        try simp only [Act.put,List.setIfInBounds_toArray,List.set_cons_zero,List.set_cons_succ]
        refine wpAnyH_take (i := 3) (oi := { dst := some 44,op := _,type := _,pos := _,after := _,guard := _ }) (v := undef) rfl (by kernel_rfl) (by kernel_rfl) (by kernel_rfl) (fun _ _ _ h => h) (Or.inr ⟨by rfl,rfl⟩) (by assumption) ?_
        try simp only [Act.put,List.setIfInBounds_toArray,List.set_cons_zero,List.set_cons_succ]
        refine wpAnyH_take (i := 4) (oi := { dst := some 45,op := _,type := _,pos := _,after := _,guard := _ }) (v := undef) rfl (by kernel_rfl) (by kernel_rfl) (by kernel_rfl) (fun _ _ _ h => h) (Or.inr ⟨by rfl,rfl⟩) (by assumption) ?_
        try simp only [Act.put,List.setIfInBounds_toArray,List.set_cons_zero,List.set_cons_succ]
        refine wpAnyH_take (i := 5) (oi := { dst := some 46,op := _,type := _,pos := _,after := _,guard := _ }) (v := undef) rfl (by kernel_rfl) (by kernel_rfl) (by kernel_rfl) (fun _ _ _ h => h) (Or.inr ⟨by rfl,rfl⟩) (by assumption) ?_
        try simp only [Act.put,List.setIfInBounds_toArray,List.set_cons_zero,List.set_cons_succ]
        refine wpAnyH_take (i := 6) (oi := { dst := some 47,op := _,type := _,pos := _,after := _,guard := _ }) (v := undef) rfl (by kernel_rfl) (by kernel_rfl) (by kernel_rfl) (fun _ _ _ h => h) (Or.inr ⟨by rfl,rfl⟩) (by assumption) ?_
        try simp only [Act.put,List.setIfInBounds_toArray,List.set_cons_zero,List.set_cons_succ]
        refine wpAnyH_take (i := 7) (oi := { dst := some 48,op := _,type := _,pos := _,after := _,guard := _ }) (v := undef) rfl (by kernel_rfl) (by kernel_rfl) (by kernel_rfl) (fun _ _ _ h => h) (Or.inr ⟨by rfl,rfl⟩) (by assumption) ?_
        try simp only [Act.put,List.setIfInBounds_toArray,List.set_cons_zero,List.set_cons_succ]
        refine wpAnyH_take (i := 8) (oi := { dst := some 49,op := _,type := _,pos := _,after := _,guard := _ }) (v := undef) rfl (by kernel_rfl) (by kernel_rfl) (by kernel_rfl) (fun _ _ _ h => h) (Or.inr ⟨by rfl,rfl⟩) (by assumption) ?_
        try simp only [Act.put,List.setIfInBounds_toArray,List.set_cons_zero,List.set_cons_succ]
        refine wpAnyH_take (i := 9) (oi := { dst := some 50,op := _,type := _,pos := _,after := _,guard := _ }) (v := undef) rfl (by kernel_rfl) (by kernel_rfl) (by kernel_rfl) (fun _ _ _ h => h) (Or.inr ⟨by rfl,rfl⟩) (by assumption) ?_
        try simp only [Act.put,List.setIfInBounds_toArray,List.set_cons_zero,List.set_cons_succ]
        refine wpAnyH_take (i := 10) (oi := { dst := some 51,op := _,type := _,pos := _,after := _,guard := _ }) (v := undef) rfl (by kernel_rfl) (by kernel_rfl) (by kernel_rfl) (fun _ _ _ h => h) (Or.inr ⟨by rfl,rfl⟩) (by assumption) ?_
        try simp only [Act.put,List.setIfInBounds_toArray,List.set_cons_zero,List.set_cons_succ]
        refine wpAnyH_take (i := 11) (oi := { dst := some 52,op := _,type := _,pos := _,after := _,guard := _ }) (v := undef) rfl (by kernel_rfl) (by kernel_rfl) (by kernel_rfl) (fun _ _ _ h => h) (Or.inr ⟨by rfl,rfl⟩) (by assumption) ?_
        try simp only [Act.put,List.setIfInBounds_toArray,List.set_cons_zero,List.set_cons_succ]
        refine wpAnyH_take (i := 12) (oi := { dst := some 53,op := _,type := _,pos := _,after := _,guard := _ }) (v := undef) rfl (by kernel_rfl) (by kernel_rfl) (by kernel_rfl) (fun _ _ _ h => h) (Or.inr ⟨by rfl,rfl⟩) (by assumption) ?_
        try simp only [Act.put,List.setIfInBounds_toArray,List.set_cons_zero,List.set_cons_succ]
        refine wpAnyH_take (i := 13) (oi := { dst := some 54,op := _,type := _,pos := _,after := _,guard := _ }) (v := undef) rfl (by kernel_rfl) (by kernel_rfl) (by kernel_rfl) (fun _ _ _ h => h) (Or.inr ⟨by rfl,rfl⟩) (by assumption) ?_
        try simp only [Act.put,List.setIfInBounds_toArray,List.set_cons_zero,List.set_cons_succ]
        refine wpAnyH_take (i := 14) (oi := { dst := some 55,op := _,type := _,pos := _,after := _,guard := _ }) (v := undef) rfl (by kernel_rfl) (by kernel_rfl) (by kernel_rfl) (fun _ _ _ h => h) (Or.inr ⟨by rfl,rfl⟩) (by assumption) ?_
        try simp only [Act.put,List.setIfInBounds_toArray,List.set_cons_zero,List.set_cons_succ]
        refine wpAnyH_take (i := 15) (oi := { dst := some 56,op := _,type := _,pos := _,after := _,guard := _ }) (v := ?_) rfl (by kernel_rfl) (by kernel_rfl) (by kernel_rfl) (fun _ _ _ h => h) (Or.inl ⟨by rfl,?_⟩) (by assumption) ?_
        rotate_left
        · intro wz hSw; (try dsimp only at hSw); go_simp; (try with_reducible rfl)
        try simp only [Act.put,List.setIfInBounds_toArray,List.set_cons_zero,List.set_cons_succ]
        refine wpAnyH_done (by kernel_rfl) ?_ _
        go_wp2_with fail
        obtain ⟨wo,hwo⟩ : ∃ wo,wo = wr.drew := ⟨_,rfl⟩
        have HBO : Hid (Below w.heap.size w wo) := by show Below _ _ _; rw [hwo]; exact Below.drew HB.out
        subst hwo
        go_loopw [4] (fun s4 wr => s4 = .int .i64 0 ∧ Hid (Below w.heap.size w wr)) (fun s4 _ => 0)
        case atStart => exact ⟨rfl,HBO⟩
        case round =>
          obtain ⟨rfl,HQ⟩ := hrel
          go_wp2_with fail
          have hmeas : n - (intOf (.int .i64 (((0 : Nat) : Int) + 1))).toNat < n - (intOf (.int .i64 ((0 : Nat) : Int))).toNat := by simp [intOf]; omega
          refine ⟨⟨0 + 1,?_,?_,HQ⟩,hmeas⟩
          · omega
          · go_num
      · obtain ⟨i,hij⟩ : ∃ i,i + 1 = j := ⟨j - 1,by omega⟩
        obtain ⟨a,hxa⟩ : ∃ a,l[i]? = some a := ⟨l[i]'(by have := HN.out; omega),List.getElem?_eq_getElem (by have := HN.out; omega)⟩
        have hinc := HINC.out i j a e (by omega) hxa HX.out
        have hi1 : (j : Int) - 1 = (i : Int) := by omega
        have hw1 : IntKind.i64.wrap ((j : Int) - 1) = (i : Int) := by rw [hi1,IntKind.wrap_i64]; omega
        have hwi : IntKind.i64.wrap (i : Int) = (i : Int) := by rw [IntKind.wrap_i64]; omega
        have hi2 : (i : Int) < (n : Int) := by omega
        have hi0 : (0 : Int) ≤ (i : Int) := by omega
        have hj0i : (0 : Int) < (j : Int) := by omega
        have hdg : decide (e.key ≤ a.key) = false := by simp; omega
        have HKA : Hid (∀ w',Below w.heap.size w w' → w'.cell? ⟨g,o + i * 2,none⟩ = some (.int .i64 a.key) ∧ w'.cell? ⟨g,o + j * 2,none⟩ = some (.int .i64 e.key)) := fun w' hb => ⟨((HCC.out i a hxa).below hb).1,((HCC.out j e HX.out).below hb).1⟩
        obtain ⟨z0,z1⟩ := HKA.out _ HB.out
        clear hxa hinc
        go_wp2_with fail
        go_region_held3 (fun w' => w'.cell? ⟨g,o + i * 2,none⟩ = some (.int .i64 a.key) ∧ w'.cell? ⟨g,o + j * 2,none⟩ = some (.int .i64 e.key)) (first | exact HKA.out _ (by repeat (first | with_reducible exact HB.out | refine Below.drew ?_))) (fail)
        clear z0 z1 c0 c1
        go_wp2_with fail
        obtain ⟨wo,hwo⟩ : ∃ wo,wo = wr.drew := ⟨_,rfl⟩
        have HBO : Hid (Below w.heap.size w wo) := by show Below _ _ _; rw [hwo]; exact Below.drew HB.out
        subst hwo
        go_loopw [4] (fun s4 wr => ∃ q : Nat,q ≤ j ∧ s4 = .int .i64 q ∧ Hid (Below w.heap.size w wr)) (fun s4 _ => j - (intOf s4).toNat)
        case atStart => exact ⟨0,Nat.zero_le _,rfl,HBO⟩
        case round =>
          obtain ⟨q,hq,rfl,HQ⟩ := hrel
          by_cases hql : q < j
          · have hqi : (q : Int) < (j : Int) := by omega
            obtain ⟨y,hy⟩ : ∃ y,l[q]? = some y := ⟨l[q]'(by have := HN.out; omega),List.getElem?_eq_getElem (by have := HN.out; omega)⟩
            have hne := HNE.out q j y e hql hy HX.out
            have hqn : (q : Int) < (n : Int) := by omega
            have hq0 : (0 : Int) ≤ (q : Int) := by omega
            have HKB : Hid (∀ w',Below w.heap.size w w' → w'.cell? ⟨g,o + q * 2 + 1,none⟩ = some (.int .i64 y.at_) ∧ w'.cell? ⟨g,o + j * 2 + 1,none⟩ = some (.int .i64 e.at_)) := fun w' hb => ⟨((HCC.out q y hy).below hb).2,((HCC.out j e HX.out).below hb).2⟩
            obtain ⟨b0,b1⟩ := HKB.out _ HQ.out
            have hdn : (y.at_ == e.at_) = false := by simpa using hne
            clear hy hne
            go_wp2_with fail
            go_region_held3 (fun w' => w'.cell? ⟨g,o + q * 2 + 1,none⟩ = some (.int .i64 y.at_) ∧ w'.cell? ⟨g,o + j * 2 + 1,none⟩ = some (.int .i64 e.at_)) (first | exact HKB.out _ (by repeat (first | with_reducible exact HQ.out | refine Below.drew ?_))) (fail)
            go_wp2_with fail
            go_roundw
            case rel => exact ⟨q + 1,by omega,by go_num,Below.drew HQ.out⟩
            case measure => simp [intOf]; omega
          · obtain rfl : q = j := by omega
            go_wp2_with fail
            have hmeas : n - (intOf (.int .i64 ((q : Int) + 1))).toNat < n - (intOf (.int .i64 (q : Int))).toNat := by simp [intOf]; omega
            refine ⟨⟨q + 1,?_,?_,HQ⟩,hmeas⟩
            · omega
            · go_num
    · obtain rfl : j = n := by omega
      go_wp2_with fail
      go_ret
      exact ⟨rfl,HB.out⟩
end Go.Proofs.YtneammhkgmkkfaaGreat.tr
