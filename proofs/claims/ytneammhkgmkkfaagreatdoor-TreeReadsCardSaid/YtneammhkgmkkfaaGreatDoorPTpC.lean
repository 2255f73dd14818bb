/- A part of the proof. -/
import Derived.Test.YtneammhkgmkkfaaGreatDoorPTqH
namespace Go.Proofs.YtneammhkgmkkfaaGreatDoor.tr
open Go.RowKit Go.Proofs.YtneammhkgmkkfaaGreatDoor.er
set_option linter.unusedVariables false
set_option linter.unusedSimpArgs false
set_option maxHeartbeats 8000000 in
set_option maxRecDepth 100000 in
theorem rcheck_ok (l : List Ext) (v : Value) (w : World) (h : ExtsAt w v l) (hl : Chk l) :
    Calls Tryz.prog 11 #[v] w fun x w' => x = .returned (.bool true) ∧ Below w.heap.size w w' := by
  have hlen := chk_len hl
  obtain ⟨A,c,rfl,hc⟩ := h
  have HC := Lib.hid hc
  obtain ⟨n,hn⟩ : ∃ n,l.length = n := ⟨_,rfl⟩
  rw [hn] at hlen
  have HN := Lib.hid hn
  rw [hn]
  have HL := Lib.hid hl
  have hni : (n : Int) ≤ 100000000 := by omega
  clear hc hn hl
  go_enter Tryz.func11,Tryz.ntmps11
  go_wp2_with fail
  go_loopw [3] (fun i wr => ∃ (j : Nat),j ≤ n ∧ i = .int .i64 j ∧ Hid (Below w.heap.size w wr)) (fun i _ => n - (intOf i).toNat)
  case atStart => exact ⟨0,Nat.zero_le _,rfl,Below.refl _ _⟩
  case round =>
    obtain ⟨j,hj,rfl,HB⟩ := hrel
    by_cases hlt : j < n
    · have hji : (j : Int) < (n : Int) := by omega
      obtain ⟨g,o,rfl,hcc⟩ := HC.out (by have := HN.out; omega)
      have HCC := Lib.hid hcc
      obtain ⟨e,hx⟩ : ∃ e,l[j]? = some e := ⟨l[j]'(by have := HN.out; omega),List.getElem?_eq_getElem (by have := HN.out; omega)⟩
      obtain ⟨c0,c1,c2,c3⟩ := (hcc j e hx).below HB.out
      have ho := HL.out.one e (List.mem_of_getElem? hx)
      have HX := Lib.hid hx
      have HO := Lib.hid (rone_any e wr)
      rw [ho] at HO
      have HKA : Hid (∀ w',Below wr.heap.size wr w' → ExtAt w' g (o + j * 4) e) := fun w' hb => ((hcc j e hx).below HB.out).below hb
      clear hcc hx
      rcases Nat.eq_zero_or_pos j with hj0 | hj0
      · subst hj0
        obtain ⟨f,en,k,t⟩ := e
        simp only [Nat.zero_mul,Nat.add_zero] at c0 c1 c2 c3
        simp only [Ext.val] at HO
        go_wp2_with fail
        with_reducible refine HO.out.mono ?_
        rintro e w5 ⟨rfl,hb5⟩
        have HB5 := Lib.hid (HB.out.trans (hb5.mono HB.out.size))
        clear hb5 c0 c1 c2 c3
        go_wp2_with fail
        refine wp_region_held_drew (S := fun _ => True) (by kernel_rfl) trivial (fun hHeld => ?_)
        refine wpAnyH_take (i := 0) (oi := { dst := some 16,op := _,type := _,pos := _,after := _,guard := _ }) (v := ?_) rfl (by kernel_rfl) (by kernel_rfl) (by kernel_rfl) (fun _ _ _ h => h) (Or.inl ⟨by rfl,?_⟩) (by assumption) ?_
        rotate_left
        · intro wz hSw; (try dsimp only at hSw); go_simp; (try with_reducible rfl)
        try simp only [Act.put,List.setIfInBounds_toArray,List.set_cons_zero,List.set_cons_succ]
        refine wpAnyH_take (i := 1) (oi := { dst := some 17,op := _,type := _,pos := _,after := _,guard := _ }) (v := ?_) rfl (by kernel_rfl) (by kernel_rfl) (by kernel_rfl) (fun _ _ _ h => h) (Or.inl ⟨by rfl,?_⟩) (by assumption) ?_
        rotate_left
        · intro wz hSw; (try dsimp only at hSw); go_simp; (try with_reducible rfl)
        try simp only [Act.put,List.setIfInBounds_toArray,List.set_cons_zero,List.set_cons_succ]
        refine wpAnyH_take (i := 2) (oi := { dst := some 18,op := _,type := _,pos := _,after := _,guard := _ }) (v := ?_) rfl (by kernel_rfl) (by kernel_rfl) (by kernel_rfl) (fun _ _ _ h => h) (Or.inl ⟨by rfl,?_⟩) (by assumption) ?_
        rotate_left
        · intro wz hSw; (try dsimp only at hSw); go_simp; (try with_reducible rfl)
        try simp only [Act.put,List.setIfInBounds_toArray,List.set_cons_zero,List.set_cons_succ]
        refine wpAnyH_take (i := 3) (oi := { dst := some 19,op := _,type := _,pos := _,after := _,guard := _ }) (v := undef) rfl (by kernel_rfl) (by kernel_rfl) (by kernel_rfl) (fun _ _ _ h => h) (Or.inr ⟨by rfl,rfl⟩) (by assumption) ?_
        try simp only [Act.put,List.setIfInBounds_toArray,List.set_cons_zero,List.set_cons_succ]
        refine wpAnyH_take (i := 4) (oi := { dst := some 20,op := _,type := _,pos := _,after := _,guard := _ }) (v := undef) rfl (by kernel_rfl) (by kernel_rfl) (by kernel_rfl) (fun _ _ _ h => h) (Or.inr ⟨by rfl,rfl⟩) (by assumption) ?_
        try simp only [Act.put,List.setIfInBounds_toArray,List.set_cons_zero,List.set_cons_succ]
        refine wpAnyH_take (i := 5) (oi := { dst := some 21,op := _,type := _,pos := _,after := _,guard := _ }) (v := undef) rfl (by kernel_rfl) (by kernel_rfl) (by kernel_rfl) (fun _ _ _ h => h) (Or.inr ⟨by rfl,rfl⟩) (by assumption) ?_
        try simp only [Act.put,List.setIfInBounds_toArray,List.set_cons_zero,List.set_cons_succ]
        refine wpAnyH_take (i := 6) (oi := { dst := some 22,op := _,type := _,pos := _,after := _,guard := _ }) (v := undef) rfl (by kernel_rfl) (by kernel_rfl) (by kernel_rfl) (fun _ _ _ h => h) (Or.inr ⟨by rfl,rfl⟩) (by assumption) ?_
        try simp only [Act.put,List.setIfInBounds_toArray,List.set_cons_zero,List.set_cons_succ]
        refine wpAnyH_take (i := 7) (oi := { dst := some 23,op := _,type := _,pos := _,after := _,guard := _ }) (v := undef) rfl (by kernel_rfl) (by kernel_rfl) (by kernel_rfl) (fun _ _ _ h => h) (Or.inr ⟨by rfl,rfl⟩) (by assumption) ?_
        try simp only [Act.put,List.setIfInBounds_toArray,List.set_cons_zero,List.set_cons_succ]
        refine wpAnyH_take (i := 8) (oi := { dst := some 24,op := _,type := _,pos := _,after := _,guard := _ }) (v := undef) rfl (by kernel_rfl) (by kernel_rfl) (by kernel_rfl) (fun _ _ _ h => h) (Or.inr ⟨by rfl,rfl⟩) (by assumption) ?_
        try simp only [Act.put,List.setIfInBounds_toArray,List.set_cons_zero,List.set_cons_succ]
        refine wpAnyH_take (i := 9) (oi := { dst := some 25,op := _,type := _,pos := _,after := _,guard := _ }) (v := undef) rfl (by kernel_rfl) (by kernel_rfl) (by kernel_rfl) (fun _ _ _ h => h) (Or.inr ⟨by rfl,rfl⟩) (by assumption) ?_
        try simp only [Act.put,List.setIfInBounds_toArray,List.set_cons_zero,List.set_cons_succ]
        refine wpAnyH_take (i := 10) (oi := { dst := some 26,op := _,type := _,pos := _,after := _,guard := _ }) (v := undef) rfl (by kernel_rfl) (by kernel_rfl) (by kernel_rfl) (fun _ _ _ h => h) (Or.inr ⟨by rfl,rfl⟩) (by assumption) ?_
        try simp only [Act.put,List.setIfInBounds_toArray,List.set_cons_zero,List.set_cons_succ]
        refine wpAnyH_take (i := 11) (oi := { dst := some 27,op := _,type := _,pos := _,after := _,guard := _ }) (v := undef) rfl (by kernel_rfl) (by kernel_rfl) (by kernel_rfl) (fun _ _ _ h => h) (Or.inr ⟨by rfl,rfl⟩) (by assumption) ?_
        try simp only [Act.put,List.setIfInBounds_toArray,List.set_cons_zero,List.set_cons_succ]
        refine wpAnyH_take (i := 12) (oi := { dst := some 28,op := _,type := _,pos := _,after := _,guard := _ }) (v := undef) rfl (by kernel_rfl) (by kernel_rfl) (by kernel_rfl) (fun _ _ _ h => h) (Or.inr ⟨by rfl,rfl⟩) (by assumption) ?_
        try simp only [Act.put,List.setIfInBounds_toArray,List.set_cons_zero,List.set_cons_succ]
        refine wpAnyH_take (i := 13) (oi := { dst := some 29,op := _,type := _,pos := _,after := _,guard := _ }) (v := undef) rfl (by kernel_rfl) (by kernel_rfl) (by kernel_rfl) (fun _ _ _ h => h) (Or.inr ⟨by rfl,rfl⟩) (by assumption) ?_
        try simp only [Act.put,List.setIfInBounds_toArray,List.set_cons_zero,List.set_cons_succ]
        refine wpAnyH_take (i := 14) (oi := { dst := some 30,op := _,type := _,pos := _,after := _,guard := _ }) (v := undef) rfl (by kernel_rfl) (by kernel_rfl) (by kernel_rfl) (fun _ _ _ h => h) (Or.inr ⟨by rfl,rfl⟩) (by assumption) ?_
        try simp only [Act.put,List.setIfInBounds_toArray,List.set_cons_zero,List.set_cons_succ]
        refine wpAnyH_take (i := 15) (oi := { dst := some 31,op := _,type := _,pos := _,after := _,guard := _ }) (v := undef) rfl (by kernel_rfl) (by kernel_rfl) (by kernel_rfl) (fun _ _ _ h => h) (Or.inr ⟨by rfl,rfl⟩) (by assumption) ?_
        try simp only [Act.put,List.setIfInBounds_toArray,List.set_cons_zero,List.set_cons_succ]
        refine wpAnyH_take (i := 16) (oi := { dst := some 32,op := _,type := _,pos := _,after := _,guard := _ }) (v := undef) rfl (by kernel_rfl) (by kernel_rfl) (by kernel_rfl) (fun _ _ _ h => h) (Or.inr ⟨by rfl,rfl⟩) (by assumption) ?_
        try simp only [Act.put,List.setIfInBounds_toArray,List.set_cons_zero,List.set_cons_succ]
        refine wpAnyH_take (i := 17) (oi := { dst := some 33,op := _,type := _,pos := _,after := _,guard := _ }) (v := undef) rfl (by kernel_rfl) (by kernel_rfl) (by kernel_rfl) (fun _ _ _ h => h) (Or.inr ⟨by rfl,rfl⟩) (by assumption) ?_
        try simp only [Act.put,List.setIfInBounds_toArray,List.set_cons_zero,List.set_cons_succ]
        refine wpAnyH_take (i := 18) (oi := { dst := some 34,op := _,type := _,pos := _,after := _,guard := _ }) (v := undef) rfl (by kernel_rfl) (by kernel_rfl) (by kernel_rfl) (fun _ _ _ h => h) (Or.inr ⟨by rfl,rfl⟩) (by assumption) ?_
        try simp only [Act.put,List.setIfInBounds_toArray,List.set_cons_zero,List.set_cons_succ]
        refine wpAnyH_take (i := 19) (oi := { dst := some 35,op := _,type := _,pos := _,after := _,guard := _ }) (v := undef) rfl (by kernel_rfl) (by kernel_rfl) (by kernel_rfl) (fun _ _ _ h => h) (Or.inr ⟨by rfl,rfl⟩) (by assumption) ?_
        try simp only [Act.put,List.setIfInBounds_toArray,List.set_cons_zero,List.set_cons_succ]
        refine wpAnyH_take (i := 20) (oi := { dst := some 36,op := _,type := _,pos := _,after := _,guard := _ }) (v := undef) rfl (by kernel_rfl) (by kernel_rfl) (by kernel_rfl) (fun _ _ _ h => h) (Or.inr ⟨by rfl,rfl⟩) (by assumption) ?_
        try simp only [Act.put,List.setIfInBounds_toArray,List.set_cons_zero,List.set_cons_succ]
        refine wpAnyH_take (i := 21) (oi := { dst := some 37,op := _,type := _,pos := _,after := _,guard := _ }) (v := undef) rfl (by kernel_rfl) (by kernel_rfl) (by kernel_rfl) (fun _ _ _ h => h) (Or.inr ⟨by rfl,rfl⟩) (by assumption) ?_
        try simp only [Act.put,List.setIfInBounds_toArray,List.set_cons_zero,List.set_cons_succ]
        refine wpAnyH_take (i := 22) (oi := { dst := some 38,op := _,type := _,pos := _,after := _,guard := _ }) (v := undef) rfl (by kernel_rfl) (by kernel_rfl) (by kernel_rfl) (fun _ _ _ h => h) (Or.inr ⟨by rfl,rfl⟩) (by assumption) ?_
        try simp only [Act.put,List.setIfInBounds_toArray,List.set_cons_zero,List.set_cons_succ]
        refine wpAnyH_take (i := 23) (oi := { dst := some 39,op := _,type := _,pos := _,after := _,guard := _ }) (v := undef) rfl (by kernel_rfl) (by kernel_rfl) (by kernel_rfl) (fun _ _ _ h => h) (Or.inr ⟨by rfl,rfl⟩) (by assumption) ?_
        try simp only [Act.put,List.setIfInBounds_toArray,List.set_cons_zero,List.set_cons_succ]
        refine wpAnyH_take (i := 24) (oi := { dst := some 40,op := _,type := _,pos := _,after := _,guard := _ }) (v := undef) rfl (by kernel_rfl) (by kernel_rfl) (by kernel_rfl) (fun _ _ _ h => h) (Or.inr ⟨by rfl,rfl⟩) (by assumption) ?_
        try simp only [Act.put,List.setIfInBounds_toArray,List.set_cons_zero,List.set_cons_succ]
        refine wpAnyH_take (i := 25) (oi := { dst := some 41,op := _,type := _,pos := _,after := _,guard := _ }) (v := undef) rfl (by kernel_rfl) (by kernel_rfl) (by kernel_rfl) (fun _ _ _ h => h) (Or.inr ⟨by rfl,rfl⟩) (by assumption) ?_
        try simp only [Act.put,List.setIfInBounds_toArray,List.set_cons_zero,List.set_cons_succ]
        refine wpAnyH_take (i := 26) (oi := { dst := some 42,op := _,type := _,pos := _,after := _,guard := _ }) (v := undef) rfl (by kernel_rfl) (by kernel_rfl) (by kernel_rfl) (fun _ _ _ h => h) (Or.inr ⟨by rfl,rfl⟩) (by assumption) ?_
        try simp only [Act.put,List.setIfInBounds_toArray,List.set_cons_zero,List.set_cons_succ]
        refine wpAnyH_take (i := 27) (oi := { dst := some 43,op := _,type := _,pos := _,after := _,guard := _ }) (v := undef) rfl (by kernel_rfl) (by kernel_rfl) (by kernel_rfl) (fun _ _ _ h => h) (Or.inr ⟨by rfl,rfl⟩) (by assumption) ?_
        try simp only [Act.put,List.setIfInBounds_toArray,List.set_cons_zero,List.set_cons_succ]
        refine wpAnyH_take (i := 28) (oi := { dst := some 44,op := _,type := _,pos := _,after := _,guard := _ }) (v := undef) rfl (by kernel_rfl) (by kernel_rfl) (by kernel_rfl) (fun _ _ _ h => h) (Or.inr ⟨by rfl,rfl⟩) (by assumption) ?_
        try simp only [Act.put,List.setIfInBounds_toArray,List.set_cons_zero,List.set_cons_succ]
        refine wpAnyH_take (i := 29) (oi := { dst := some 45,op := _,type := _,pos := _,after := _,guard := _ }) (v := undef) rfl (by kernel_rfl) (by kernel_rfl) (by kernel_rfl) (fun _ _ _ h => h) (Or.inr ⟨by rfl,rfl⟩) (by assumption) ?_
        try simp only [Act.put,List.setIfInBounds_toArray,List.set_cons_zero,List.set_cons_succ]
        refine wpAnyH_take (i := 30) (oi := { dst := some 46,op := _,type := _,pos := _,after := _,guard := _ }) (v := undef) rfl (by kernel_rfl) (by kernel_rfl) (by kernel_rfl) (fun _ _ _ h => h) (Or.inr ⟨by rfl,rfl⟩) (by assumption) ?_
        try simp only [Act.put,List.setIfInBounds_toArray,List.set_cons_zero,List.set_cons_succ]
        refine wpAnyH_take (i := 31) (oi := { dst := some 47,op := _,type := _,pos := _,after := _,guard := _ }) (v := undef) rfl (by kernel_rfl) (by kernel_rfl) (by kernel_rfl) (fun _ _ _ h => h) (Or.inr ⟨by rfl,rfl⟩) (by assumption) ?_
        try simp only [Act.put,List.setIfInBounds_toArray,List.set_cons_zero,List.set_cons_succ]
        refine wpAnyH_take (i := 32) (oi := { dst := some 48,op := _,type := _,pos := _,after := _,guard := _ }) (v := undef) rfl (by kernel_rfl) (by kernel_rfl) (by kernel_rfl) (fun _ _ _ h => h) (Or.inr ⟨by rfl,rfl⟩) (by assumption) ?_
        try simp only [Act.put,List.setIfInBounds_toArray,List.set_cons_zero,List.set_cons_succ]
        refine wpAnyH_take (i := 33) (oi := { dst := some 49,op := _,type := _,pos := _,after := _,guard := _ }) (v := undef) rfl (by kernel_rfl) (by kernel_rfl) (by kernel_rfl) (fun _ _ _ h => h) (Or.inr ⟨by rfl,rfl⟩) (by assumption) ?_
        try simp only [Act.put,List.setIfInBounds_toArray,List.set_cons_zero,List.set_cons_succ]
        refine wpAnyH_take (i := 34) (oi := { dst := some 50,op := _,type := _,pos := _,after := _,guard := _ }) (v := ?_) rfl (by kernel_rfl) (by kernel_rfl) (by kernel_rfl) (fun _ _ _ h => h) (Or.inl ⟨by rfl,?_⟩) (by assumption) ?_
        rotate_left
        · intro wz hSw; (try dsimp only at hSw); go_simp; (try with_reducible rfl)
        try simp only [Act.put,List.setIfInBounds_toArray,List.set_cons_zero,List.set_cons_succ]
        refine wpAnyH_done (by kernel_rfl) ?_ _
        go_wp2_with fail
        go_roundw
        case rel => exact ⟨0 + 1,by omega,by go_num,Below.drew HB5.out⟩
        case measure => simp [intOf]; omega
      · obtain ⟨i,hij⟩ : ∃ i,i + 1 = j := ⟨j - 1,by omega⟩
        obtain ⟨a,hxa⟩ : ∃ a,l[i]? = some a := ⟨l[i]'(by have := HN.out; omega),List.getElem?_eq_getElem (by have := HN.out; omega)⟩
        obtain ⟨n1,n2,n3,n4⟩ := chk_next HL.out hxa (by rw [hij]; exact HX.out)
        have HTG := Lib.hid (fun wq => rtog_any a e wq n1 n2)
        rw [rTog_eq n1 n2,n4] at HTG
        have HKB : Hid (∀ w',Below wr.heap.size wr w' → ExtAt w' g (o + i * 4) a) := fun w' hb => ((HCC.out i a hxa).below HB.out).below hb
        have hae : ¬ e.fr < a.fr + a.n := by have n3' : a.fr + a.n ≤ e.fr := n3; omega
        have k1 := one_spec n1
        have hab : a.fr + a.n ≤ 16777216 := by omega
        have ha0 : 0 ≤ a.fr := k1.1
        have ha1 : 1 ≤ a.n := k1.2.1
        have hi1 : (j : Int) - 1 = (i : Int) := by omega
        have hw1 : IntKind.i64.wrap ((j : Int) - 1) = (i : Int) := by rw [hi1,IntKind.wrap_i64]; omega
        have hw2 : IntKind.i64.wrap (a.fr + a.n) = a.fr + a.n := by rw [IntKind.wrap_i64]; omega
        have hi2 : (i : Int) < (n : Int) := by omega
        have hj0i : (0 : Int) < (j : Int) := by omega
        have hi0 : (0 : Int) ≤ (i : Int) := by omega
        have hj00 : (0 : Int) ≤ (j : Int) := by omega
        have hwi : IntKind.i64.wrap (i : Int) = (i : Int) := by rw [IntKind.wrap_i64]; omega
        obtain ⟨f,en,k,t⟩ := e
        obtain ⟨f',en',k',t'⟩ := a
        simp only at c0 c1 c2 c3 hae hab ha0 ha1 hw2
        simp only [Ext.val] at HO HTG
        have hdf : decide (f < f' + en') = false := by simp; omega
        have HKC : Hid (∀ w',Below wr.heap.size wr w' → (w'.cell? ⟨g,o + i * 4,none⟩ = some (.int .i64 f') ∧ w'.cell? ⟨g,o + i * 4 + 1,none⟩ = some (.int .i64 en') ∧ w'.cell? ⟨g,o + i * 4 + 2,none⟩ = some (.int .i64 k') ∧ w'.cell? ⟨g,o + i * 4 + 3,none⟩ = some (.int .i64 t')) ∧ (w'.cell? ⟨g,o + j * 4,none⟩ = some (.int .i64 f) ∧ w'.cell? ⟨g,o + j * 4 + 1,none⟩ = some (.int .i64 en) ∧ w'.cell? ⟨g,o + j * 4 + 2,none⟩ = some (.int .i64 k) ∧ w'.cell? ⟨g,o + j * 4 + 3,none⟩ = some (.int .i64 t))) := fun w' hb => ⟨HKB.out w' hb,HKA.out w' hb⟩
        clear hxa n1 n2 n3 n4 k1 HKA HKB
        go_wp2_with fail
        with_reducible refine HO.out.mono ?_
        rintro e w5 ⟨rfl,hb5⟩
        have HB5 : Hid (Below wr.heap.size wr w5) := hb5
        obtain ⟨⟨b0,b1,b2,b3⟩,c0',c1',c2',c3'⟩ := HKC.out w5 hb5
        clear hb5 c0 c1 c2 c3
        go_wp2_with fail
        go_region_held3 (fun w' => (w'.cell? ⟨g,o + i * 4,none⟩ = some (.int .i64 f') ∧ w'.cell? ⟨g,o + i * 4 + 1,none⟩ = some (.int .i64 en') ∧ w'.cell? ⟨g,o + i * 4 + 2,none⟩ = some (.int .i64 k') ∧ w'.cell? ⟨g,o + i * 4 + 3,none⟩ = some (.int .i64 t')) ∧ (w'.cell? ⟨g,o + j * 4,none⟩ = some (.int .i64 f) ∧ w'.cell? ⟨g,o + j * 4 + 1,none⟩ = some (.int .i64 en) ∧ w'.cell? ⟨g,o + j * 4 + 2,none⟩ = some (.int .i64 k) ∧ w'.cell? ⟨g,o + j * 4 + 3,none⟩ = some (.int .i64 t))) (first | exact HKC.out _ (by repeat (first | with_reducible exact HB6.out | with_reducible exact HB5.out | refine Below.drew ?_))) ((go_at_call 32; (with_reducible refine (HTG.out _).mono ?_); rintro e w6 ⟨rfl,hb6⟩; have HB6 : Hid (Below wr.heap.size wr w6) := bel_tr (by repeat (first | with_reducible exact HB5.out | refine Below.drew ?_)) hb6; clear hb6))
        go_wp2_with fail
        have HE := Lib.hid (HB.out.trans (HB6.out.mono HB.out.size))
        go_roundw
        case rel => exact ⟨j + 1,by omega,by go_num,HE.out⟩
        case measure => simp [intOf]; omega
    · obtain rfl : j = n := by omega
      go_wp2_with fail
      go_ret
      exact ⟨rfl,HB.out⟩
end Go.Proofs.YtneammhkgmkkfaaGreatDoor.tr
