/- A part of the proof. -/
import Derived.Test.YtneammhkgmkkfaaGreatDoorPRg
import Derived.Test.YtneammhkgmkkfaaGreatDoorPTqH
namespace Go.Proofs.YtneammhkgmkkfaaGreatDoor.tr
open Go.RowKit Go.Proofs.YtneammhkgmkkfaaGreatDoor.er
set_option linter.unusedVariables false
set_option linter.unusedSimpArgs false
set_option maxHeartbeats 8000000 in
set_option maxRecDepth 100000 in
theorem rcheck_any (l : List Ext) (v : Value) (w : World) (h : ExtsAt w v l) (hlen : l.length ≤ 100000000) :
    Calls Tryz.prog 11 #[v] w fun x w' => x = .returned (.bool (chkB l)) ∧ Below w.heap.size w w' := by
  obtain ⟨A,c,rfl,hc⟩ := h
  have HC := Lib.hid hc
  obtain ⟨n,hn⟩ : ∃ n,l.length = n := ⟨_,rfl⟩
  rw [hn] at hlen
  have HN := Lib.hid hn
  rw [hn]
  have hni : (n : Int) ≤ 100000000 := by omega
  clear hc hn
  go_enter Tryz.func11,Tryz.ntmps11
  go_wp2_with fail
  go_loopw [3] (fun i wr => ∃ (j : Nat),j ≤ n ∧ i = .int .i64 j ∧ Hid (chkB (l.take j) = true) ∧ Hid (Below w.heap.size w wr)) (fun i _ => n - (intOf i).toNat)
  case atStart => exact ⟨0,Nat.zero_le _,rfl,rfl,Below.refl _ _⟩
  case round =>
    obtain ⟨j,hj,rfl,HM,HB⟩ := hrel
    by_cases hlt : j < n
    · have hji : (j : Int) < (n : Int) := by omega
      obtain ⟨g,o,rfl,hcc⟩ := HC.out (by have := HN.out; omega)
      have HCC := Lib.hid hcc
      obtain ⟨e,hx⟩ : ∃ e,l[j]? = some e := ⟨l[j]'(by have := HN.out; omega),List.getElem?_eq_getElem (by have := HN.out; omega)⟩
      obtain ⟨c0,c1,c2,c3⟩ := (hcc j e hx).below HB.out
      have HX := Lib.hid hx
      have HO := Lib.hid (rone_any e wr)
      have HKA : Hid (∀ w',Below wr.heap.size wr w' → ExtAt w' g (o + j * 4) e) := fun w' hb => ((hcc j e hx).below HB.out).below hb
      clear hcc hx
      cases ho : oneB e with
      | false =>
        have HF : Hid (chkB l = false) := by
          show _ = _
          refine chk_no (j := j + 1) ?_
          cases hc : chkB (l.take (j + 1))
          · rfl
          · rw [one_of_take hc HX.out] at ho; exact ho
        rw [ho] at HO
        obtain ⟨f,en,k,t⟩ := e
        simp only at c0 c1 c2 c3
        simp only [Ext.val] at HO
        clear ho
        go_wp2_with fail
        with_reducible refine HO.out.mono ?_
        rintro e w5 ⟨rfl,hb5⟩
        have HB5 := Lib.hid (HB.out.trans (hb5.mono HB.out.size))
        clear hb5 c0 c1 c2 c3
        go_wp2_with fail
        go_ret
        exact ⟨by rw [HF.out]; rfl,HB5.out⟩
      | true =>
        rw [ho] at HO
        have HOE := Lib.hid ho
        clear ho
        rcases Nat.eq_zero_or_pos j with hj0 | hj0
        · subst hj0
          have HM1 : Hid (chkB (l.take (0 + 1)) = true) := by
            show _ = _
            rw [take_one l e HX.out]
            exact HOE.out
          obtain ⟨f,en,k,t⟩ := e
          simp only [Nat.zero_mul,Nat.add_zero] at c0 c1 c2 c3
          simp only [Ext.val] at HO
          go_wp2_with fail
          with_reducible refine HO.out.mono ?_
          rintro e w5 ⟨rfl,hb5⟩
          have HB5 := Lib.hid (HB.out.trans (hb5.mono HB.out.size))
          clear hb5 c0 c1 c2 c3
          go_wp2_with fail
          refine rg.rgB (fun _ => True) (by kernel_rfl) trivial (fun hHeld => ?_)
          iterate 3 (refine rg.rgT (oi := { dst := _,op := _,type := _,pos := _,after := _,guard := _ }) ?_ rfl (by kernel_rfl) (fun _ _ _ h => h) (by rfl) ?_ (by assumption) ?_; rotate_left; (focus (intro wz hSw; (try dsimp only at hSw); go_simp; (try with_reducible rfl))); (try simp only [Go.Act.put,List.setIfInBounds_toArray,List.set_cons_zero,List.set_cons_succ]))
          iterate 31 (refine rg.rgS (oi := { dst := _,op := _,type := _,pos := _,after := _,guard := _ }) rfl (by kernel_rfl) (fun _ _ _ h => h) (by rfl) (by assumption) ?_; (try simp only [Go.Act.put,List.setIfInBounds_toArray,List.set_cons_zero,List.set_cons_succ]))
          iterate 1 (refine rg.rgT (oi := { dst := _,op := _,type := _,pos := _,after := _,guard := _ }) ?_ rfl (by kernel_rfl) (fun _ _ _ h => h) (by rfl) ?_ (by assumption) ?_; rotate_left; (focus (intro wz hSw; (try dsimp only at hSw); go_simp; (try with_reducible rfl))); (try simp only [Go.Act.put,List.setIfInBounds_toArray,List.set_cons_zero,List.set_cons_succ]))
          refine rg.rgD (by kernel_rfl) ?_
          go_wp2_with fail
          go_roundw
          case rel => exact ⟨0 + 1,by omega,by go_num,HM1,Below.drew HB5.out⟩
          case measure => simp [intOf]; omega
        · obtain ⟨i,hij⟩ : ∃ i,i + 1 = j := ⟨j - 1,by omega⟩
          obtain ⟨a,hxa⟩ : ∃ a,l[i]? = some a := ⟨l[i]'(by have := HN.out; omega),List.getElem?_eq_getElem (by have := HN.out; omega)⟩
          have n1 : oneB a = true := one_of_take (j := i) (by rw [hij]; exact HM.out) hxa
          have HTG := Lib.hid (fun wq => rtog_any a e wq n1 HOE.out)
          rw [rTog_eq n1 HOE.out] at HTG
          have HSN : Hid (chkB (l.take (j + 1)) = (decide (a.fr + a.n ≤ e.fr) && !tog a e)) := by
            show _ = _
            obtain ⟨t1,t2⟩ := take_two l i a e hxa (by rw [hij]; exact HX.out)
            have hm := HM.out
            rw [← hij,t1] at hm
            rw [← hij,t2,chk_snoc,hm,HOE.out]
            rw [Bool.true_and,Bool.and_true]
            rfl
          have HKB : Hid (∀ w',Below wr.heap.size wr w' → ExtAt w' g (o + i * 4) a) := fun w' hb => ((HCC.out i a hxa).below HB.out).below hb
          have k1 := one_spec n1
          have k2 : a.fr + a.n ≤ 16777216 := k1.2.2.1
          have ha0 : 0 ≤ a.fr := k1.1
          have ha1 : 1 ≤ a.n := k1.2.1
          have hi1 : (j : Int) - 1 = (i : Int) := by omega
          have hw1 : IntKind.i64.wrap ((j : Int) - 1) = (i : Int) := by rw [hi1,IntKind.wrap_i64]; omega
          have hw2 : IntKind.i64.wrap (a.fr + a.n) = a.fr + a.n := by rw [IntKind.wrap_i64]; omega
          have hi2 : (i : Int) < (n : Int) := by omega
          have hj0i : (0 : Int) < (j : Int) := by omega
          have hi0 : (0 : Int) ≤ (i : Int) := by omega
          have hj00 : (0 : Int) ≤ (j : Int) := by omega
          have hwi : IntKind.i64.wrap (i : Int) = (i : Int) := by rw [IntKind.wrap_i64]; omega
          obtain ⟨tg,htg⟩ : ∃ tg,tog a e = tg := ⟨_,rfl⟩
          rw [htg] at HTG HSN
          obtain ⟨f,en,k,t⟩ := e
          obtain ⟨f',en',k',t'⟩ := a
          simp only at c0 c1 c2 c3 k2 ha0 ha1 hw2 HSN
          simp only [Ext.val] at HO HTG
          have HKC : Hid (∀ w',Below wr.heap.size wr w' → (w'.cell? ⟨g,o + i * 4,none⟩ = some (.int .i64 f') ∧ w'.cell? ⟨g,o + i * 4 + 1,none⟩ = some (.int .i64 en') ∧ w'.cell? ⟨g,o + i * 4 + 2,none⟩ = some (.int .i64 k') ∧ w'.cell? ⟨g,o + i * 4 + 3,none⟩ = some (.int .i64 t')) ∧ (w'.cell? ⟨g,o + j * 4,none⟩ = some (.int .i64 f) ∧ w'.cell? ⟨g,o + j * 4 + 1,none⟩ = some (.int .i64 en) ∧ w'.cell? ⟨g,o + j * 4 + 2,none⟩ = some (.int .i64 k) ∧ w'.cell? ⟨g,o + j * 4 + 3,none⟩ = some (.int .i64 t))) := fun w' hb => ⟨HKB.out w' hb,HKA.out w' hb⟩
          clear hxa n1 k1 HKA HKB htg
          by_cases hae : f < f' + en'
          · have hdt : decide (f < f' + en') = true := by simpa using hae
            have HF : Hid (chkB l = false) := by
              show _ = _
              refine chk_no (j := j + 1) ?_
              rw [HSN.out,decide_eq_false (by omega)]
              rfl
            go_wp2_with fail
            with_reducible refine HO.out.mono ?_
            rintro e w5 ⟨rfl,hb5⟩
            have HB5 : Hid (Below wr.heap.size wr w5) := hb5
            have HK5 := Lib.hid (HKC.out _ (Below.drew hb5))
            clear hb5 c0 c1 c2 c3
            go_wp2_with fail
            refine rg.rgB (fun w' => (w'.cell? ⟨g,o + i * 4,none⟩ = some (.int .i64 f') ∧ w'.cell? ⟨g,o + i * 4 + 1,none⟩ = some (.int .i64 en') ∧ w'.cell? ⟨g,o + i * 4 + 2,none⟩ = some (.int .i64 k') ∧ w'.cell? ⟨g,o + i * 4 + 3,none⟩ = some (.int .i64 t')) ∧ (w'.cell? ⟨g,o + j * 4,none⟩ = some (.int .i64 f) ∧ w'.cell? ⟨g,o + j * 4 + 1,none⟩ = some (.int .i64 en) ∧ w'.cell? ⟨g,o + j * 4 + 2,none⟩ = some (.int .i64 k) ∧ w'.cell? ⟨g,o + j * 4 + 3,none⟩ = some (.int .i64 t))) (by kernel_rfl) HK5.out (fun hHeld => ?_)
            iterate 23 (refine rg.rgT (oi := { dst := _,op := _,type := _,pos := _,after := _,guard := _ }) ?_ rfl (by kernel_rfl) (fun _ _ _ h => h) (by rfl) ?_ (by assumption) ?_; rotate_left; (focus (intro wz hSw; (try dsimp only at hSw); go_simp; (try with_reducible rfl))); (try simp only [Go.Act.put,List.setIfInBounds_toArray,List.set_cons_zero,List.set_cons_succ]))
            iterate 10 (refine rg.rgS (oi := { dst := _,op := _,type := _,pos := _,after := _,guard := _ }) rfl (by kernel_rfl) (fun _ _ _ h => h) (by rfl) (by assumption) ?_; (try simp only [Go.Act.put,List.setIfInBounds_toArray,List.set_cons_zero,List.set_cons_succ]))
            iterate 2 (refine rg.rgT (oi := { dst := _,op := _,type := _,pos := _,after := _,guard := _ }) ?_ rfl (by kernel_rfl) (fun _ _ _ h => h) (by rfl) ?_ (by assumption) ?_; rotate_left; (focus (intro wz hSw; (try dsimp only at hSw); go_simp; (try with_reducible rfl))); (try simp only [Go.Act.put,List.setIfInBounds_toArray,List.set_cons_zero,List.set_cons_succ]))
            refine rg.rgD (by kernel_rfl) ?_
            go_wp2_with fail
            have HE := Lib.hid (HB.out.trans (HB5.out.drew.mono HB.out.size))
            go_ret
            exact ⟨by rw [HF.out]; rfl,HE.out⟩
          · have hdf : decide (f < f' + en') = false := by simp; omega
            have hde : decide (f' + en' ≤ f) = true := by simp; omega
            rw [hde] at HSN
            go_wp2_with fail
            with_reducible refine HO.out.mono ?_
            rintro e w5 ⟨rfl,hb5⟩
            have HB5 : Hid (Below wr.heap.size wr w5) := hb5
            obtain ⟨⟨b0,b1,b2,b3⟩,c0',c1',c2',c3'⟩ := HKC.out w5 hb5
            clear hb5 c0 c1 c2 c3
            go_wp2_with fail
            go_region_held3 (fun w' => (w'.cell? ⟨g,o + i * 4,none⟩ = some (.int .i64 f') ∧ w'.cell? ⟨g,o + i * 4 + 1,none⟩ = some (.int .i64 en') ∧ w'.cell? ⟨g,o + i * 4 + 2,none⟩ = some (.int .i64 k') ∧ w'.cell? ⟨g,o + i * 4 + 3,none⟩ = some (.int .i64 t')) ∧ (w'.cell? ⟨g,o + j * 4,none⟩ = some (.int .i64 f) ∧ w'.cell? ⟨g,o + j * 4 + 1,none⟩ = some (.int .i64 en) ∧ w'.cell? ⟨g,o + j * 4 + 2,none⟩ = some (.int .i64 k) ∧ w'.cell? ⟨g,o + j * 4 + 3,none⟩ = some (.int .i64 t))) (first | exact HKC.out _ (by repeat (first | with_reducible exact HB6.out | with_reducible exact HB5.out | refine Below.drew ?_))) ((go_at_call 32; (with_reducible refine (HTG.out _).mono ?_); rintro e w6 ⟨rfl,hb6⟩; have HB6 : Hid (Below wr.heap.size wr w6) := bel_tr (by repeat (first | with_reducible exact HB5.out | refine Below.drew ?_)) hb6; clear hb6))
            have HE := Lib.hid (HB.out.trans (HB6.out.mono HB.out.size))
            cases tg with
            | true =>
              have HF : Hid (chkB l = false) := chk_no (j := j + 1) (by rw [HSN.out]; rfl)
              go_wp2_with fail
              go_ret
              exact ⟨by rw [HF.out]; rfl,HE.out⟩
            | false =>
              have HM1 : Hid (chkB (l.take (j + 1)) = true) := by show _ = _; rw [HSN.out]; rfl
              go_wp2_with fail
              go_roundw
              case rel => exact ⟨j + 1,by omega,by go_num,HM1,HE.out⟩
              case measure => simp [intOf]; omega
    · obtain rfl : j = n := by omega
      have hfull : l.take j = l := by rw [← HN.out]; exact List.take_length
      rw [hfull] at HM
      go_wp2_with fail
      go_ret
      exact ⟨by rw [HM.out]; rfl,HB.out⟩
end Go.Proofs.YtneammhkgmkkfaaGreatDoor.tr
