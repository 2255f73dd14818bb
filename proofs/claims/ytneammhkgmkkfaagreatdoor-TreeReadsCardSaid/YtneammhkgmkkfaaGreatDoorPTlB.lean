/- A part of the proof. -/
import Derived.Test.YtneammhkgmkkfaaGreatDoorPTlA
import Derived.Test.YtneammhkgmkkfaaGreatDoorPTpG
namespace Go.Proofs.YtneammhkgmkkfaaGreatDoor.tr
open Go.RowKit Go.Proofs.YtneammhkgmkkfaaGreatDoor.er
set_option linter.unusedVariables false
set_option linter.unusedSimpArgs false
set_option maxHeartbeats 8000000 in
set_option maxRecDepth 100000 in
theorem leafy_any (l : List Ext) (v : Value) (w : World) (h : ExtsAt w v l) (hlen : l.length ≤ 100000000) :
    Calls Tryz.prog 86 #[v] w fun x w' => x = .returned (.bool (extB l)) ∧ Below w.heap.size w w' := by
  have HCK := Lib.hid (rcheck_any l v w h hlen)
  obtain ⟨A,c,rfl,hc⟩ := h
  have HC := Lib.hid hc
  have HX : Hid (extB l = (decide (1 ≤ l.length) && decide (l.length ≤ 8) && chkB l)) := rfl
  obtain ⟨n,hn⟩ : ∃ n,l.length = n := ⟨_,rfl⟩
  rw [hn] at hlen HCK HX
  have HN := Lib.hid hn
  rw [hn]
  have hni : (n : Int) ≤ 100000000 := by omega
  clear hc hn
  go_enter Tryz.func86,Tryz.ntmps86
  go_wp2_with fail
  go_loopw [3] (fun i wr => ∃ (j : Nat),j ≤ n ∧ i = .int .i64 j ∧ w = wr) (fun i _ => n - (intOf i).toNat)
  case atStart => exact ⟨0,Nat.zero_le _,rfl,rfl⟩
  case round =>
    obtain ⟨j,hj,rfl,rfl⟩ := hrel
    by_cases hlt : j < n
    · have hji : (j : Int) < (n : Int) := by omega
      obtain ⟨g,o,rfl,hcc⟩ := HC.out (by have := HN.out; omega)
      obtain ⟨e,hx⟩ : ∃ e,l[j]? = some e := ⟨l[j]'(by have := HN.out; omega),List.getElem?_eq_getElem (by have := HN.out; omega)⟩
      obtain ⟨c0,c1,c2,c3⟩ := hcc j e hx
      have HBAD : Hid (2047 < e.at_ → extB l = false) := by
        intro h
        cases hb : extB l with
        | false => rfl
        | true =>
          rw [HX.out] at hb
          simp only [Bool.and_eq_true] at hb
          have := one_low ((chkB_chk l hb.2).one e (List.mem_of_getElem? hx))
          simp at this
          omega
      obtain ⟨f,en,k,t⟩ := e
      simp only at c0 c1 c2 c3 HBAD
      clear hcc hx
      by_cases ht : 2047 < t
      · have hf := Lib.hid (HBAD.out ht)
        go_wp2_with fail
        go_ret
        exact ⟨by rw [hf.out]; rfl,Below.refl _ _⟩
      · go_wp2_with fail
        go_roundw
        case rel => exact ⟨j + 1,by omega,by go_num,trivial⟩
        case measure => simp [intOf]; omega
    · obtain rfl : j = n := by omega
      by_cases h1 : 1 ≤ j
      · have h1i : (1 : Int) ≤ (j : Int) := by omega
        by_cases h8 : j ≤ 8
        · have h8i : (j : Int) ≤ 8 := by omega
          have HE : Hid (extB l = chkB l) := by show _ = _; rw [HX.out,decide_eq_true h1,decide_eq_true h8]; rfl
          go_wp2_with fail
          with_reducible refine HCK.out.mono ?_
          rintro e w5 ⟨rfl,hb5⟩
          have HB5 := Lib.hid hb5
          clear hb5
          go_wp2_with fail
          go_ret
          exact ⟨by rw [HE.out]; rfl,HB5.out⟩
        · have h8i : ¬ (j : Int) ≤ 8 := by omega
          have HE : Hid (extB l = false) := by show _ = _; rw [HX.out,decide_eq_false h8]; simp
          go_wp2_with fail
          go_ret
          exact ⟨by rw [HE.out]; rfl,Below.refl _ _⟩
      · obtain rfl : j = 0 := by omega
        have HE : Hid (extB l = false) := by show _ = _; rw [HX.out]; rfl
        go_wp2_with fail
        go_ret
        exact ⟨by rw [HE.out]; rfl,Below.refl _ _⟩
set_option maxHeartbeats 8000000 in
set_option maxRecDepth 100000 in
theorem rkids_any (l : List Kid) (v : Value) (w : World) (h : KidsAt w v l) (hlen : l.length ≤ 100000000) :
    Calls Tryz.prog 88 #[v] w (KidsRet l w) := by
  obtain ⟨A,c,rfl,_,hc⟩ := h
  have HC := Lib.hid hc
  have HNO : Hid (∀ w',¬ (2 ≤ l.length ∧ l.length ≤ 8 ∧ KidsOk l) → Below w.heap.size w w' → KidsRet l w (.returned (.bool false)) w') := fun w' h1 hb => ⟨false,rfl,⟨fun h => (by cases h),fun h => (h1 h).elim⟩,hb⟩
  have HYES : Hid (∀ w',2 ≤ l.length → l.length ≤ 8 → KidsOk l → Below w.heap.size w w' → KidsRet l w (.returned (.bool true)) w') := fun w' h1 h2 h3 hb => ⟨true,rfl,⟨fun _ => ⟨h1,h2,h3⟩,fun _ => rfl⟩,hb⟩
  obtain ⟨n,hn⟩ : ∃ n,l.length = n := ⟨_,rfl⟩
  rw [hn] at hlen
  have HN := Lib.hid hn
  rw [hn]
  have hni : (n : Int) ≤ 100000000 := by omega
  clear hc hn
  go_enter Tryz.func88,Tryz.ntmps88
  go_wp2_with fail
  go_loopw [3,4] (fun i _ wr => ∃ (j : Nat),j ≤ n ∧ i = .int .i64 j ∧ Hid (KidsOk (l.take j)) ∧ Hid (Below w.heap.size w wr)) (fun i _ _ => n - (intOf i).toNat)
  case atStart => exact ⟨0,Nat.zero_le _,rfl,by show KidsOk _; rw [List.take_zero]; exact KidsOk.nil,Below.refl _ _⟩
  case round =>
    obtain ⟨j,hj,rfl,HK,HB⟩ := hrel
    by_cases hlt : j < n
    · have hji : (j : Int) < (n : Int) := by omega
      have hj0 : (0 : Int) ≤ (j : Int) := by omega
      obtain ⟨g,o,rfl,hcc⟩ := HC.out (by have := HN.out; omega)
      have HCC := Lib.hid hcc
      obtain ⟨e,hx⟩ : ∃ e,l[j]? = some e := ⟨l[j]'(by have := HN.out; omega),List.getElem?_eq_getElem (by have := HN.out; omega)⟩
      have HX := Lib.hid hx
      obtain ⟨c0,c1⟩ := (hcc j e hx).below HB.out
      have HKB : Hid (kidB e = true ↔ (0 ≤ e.key ∧ e.key ≤ 16777215) ∧ 0 ≤ e.at_ ∧ e.at_ ≤ 2047) := by
        show _ ↔ _
        unfold kidB
        simp
        omega
      have HNK : Hid (¬ ((0 ≤ e.key ∧ e.key ≤ 16777215) ∧ 0 ≤ e.at_ ∧ e.at_ ≤ 2047) → ∀ w',Below w.heap.size w w' → KidsRet l w (.returned (.bool false)) w') := fun hn w' hb => HNO.out w' (fun h => KidsOk.bad HX.out (.inl (by cases hk : kidB e; rfl; exact (hn (HKB.out.1 hk)).elim)) h.2.2) hb
      clear hcc hx
      by_cases d1 : e.key < 0
      · have HR := Lib.hid (HNK.out (by omega) wr HB.out)
        go_wp2_with fail
        go_ret
        exact HR.out
      by_cases d2 : 16777215 < e.key
      · have HR := Lib.hid (HNK.out (by omega) wr HB.out)
        go_wp2_with fail
        go_ret
        exact HR.out
      by_cases d3 : e.at_ < 0
      · have HR := Lib.hid (HNK.out (by omega) wr HB.out)
        go_wp2_with fail
        go_ret
        exact HR.out
      by_cases d4 : 2047 < e.at_
      · have HR := Lib.hid (HNK.out (by omega) wr HB.out)
        go_wp2_with fail
        go_ret
        exact HR.out
      have HKT : Hid (kidB e = true) := HKB.out.2 (by omega)
      have d1' : decide (e.key < 0) = false := by simp; omega
      have d2' : decide (16777215 < e.key) = false := by simp; omega
      have d3' : decide (e.at_ < 0) = false := by simp; omega
      have d4' : decide (2047 < e.at_) = false := by simp; omega
      rcases Nat.eq_zero_or_pos j with hj0 | hj0
      · subst hj0
        simp only [Nat.zero_mul,Nat.add_zero] at c0 c1
        have HK1 : Hid (KidsOk (l.take (0 + 1))) := KidsOk.next HK.out HX.out HKT.out (fun p i h => by omega) (by simp)
        go_wp2_with fail
        refine rg.rgB (fun _ => True) (by kernel_rfl) trivial (fun hHeld => ?_)
        iterate 3 (refine rg.rgT (oi := { dst := _,op := _,type := _,pos := _,after := _,guard := _ }) ?_ rfl (by kernel_rfl) (fun _ _ _ h => h) (by rfl) ?_ (by assumption) ?_; rotate_left; (focus (intro wz hSw; (try dsimp only at hSw); go_simp; (try with_reducible rfl))); (try simp only [Go.Act.put,List.setIfInBounds_toArray,List.set_cons_zero,List.set_cons_succ]))
        iterate 12 (refine rg.rgS (oi := { dst := _,op := _,type := _,pos := _,after := _,guard := _ }) rfl (by kernel_rfl) (fun _ _ _ h => h) (by rfl) (by assumption) ?_; (try simp only [Go.Act.put,List.setIfInBounds_toArray,List.set_cons_zero,List.set_cons_succ]))
        iterate 1 (refine rg.rgT (oi := { dst := _,op := _,type := _,pos := _,after := _,guard := _ }) ?_ rfl (by kernel_rfl) (fun _ _ _ h => h) (by rfl) ?_ (by assumption) ?_; rotate_left; (focus (intro wz hSw; (try dsimp only at hSw); go_simp; (try with_reducible rfl))); (try simp only [Go.Act.put,List.setIfInBounds_toArray,List.set_cons_zero,List.set_cons_succ]))
        refine rg.rgD (by kernel_rfl) ?_
        go_wp2_with fail
        obtain ⟨wo,hwo⟩ : ∃ wo,wo = wr.drew := ⟨_,rfl⟩
        have HBO : Hid (Below w.heap.size w wo) := by show Below _ _ _; rw [hwo]; exact Below.drew HB.out
        subst hwo
        go_loopw [4] (fun s4 wr => s4 = .int .i64 0 ∧ Hid (Below w.heap.size w wr)) (fun s4 _ => 0)
        case atStart => exact ⟨rfl,HBO⟩
        case round =>
          obtain ⟨rfl,HQ⟩ := hrel
          go_wp2_with fail
          have hmeas : n - (intOf (.int .i64 (((0 : Nat) : Int) + 1))).toNat < n - (intOf (.int .i64 ((0 : Nat) : Int))).toNat := by simp [intOf]; omega
          refine ⟨⟨0 + 1,?_,?_,HK1,HQ⟩,hmeas⟩
          · omega
          · go_num
      · obtain ⟨i,hij⟩ : ∃ i,i + 1 = j := ⟨j - 1,by omega⟩
        obtain ⟨a,hxa⟩ : ∃ a,l[i]? = some a := ⟨l[i]'(by have := HN.out; omega),List.getElem?_eq_getElem (by have := HN.out; omega)⟩
        have HXA := Lib.hid hxa
        have hi1 : (j : Int) - 1 = (i : Int) := by omega
        have hw1 : IntKind.i64.wrap ((j : Int) - 1) = (i : Int) := by rw [hi1,IntKind.wrap_i64]; omega
        have hwi : IntKind.i64.wrap (i : Int) = (i : Int) := by rw [IntKind.wrap_i64]; omega
        have hi2 : (i : Int) < (n : Int) := by omega
        have hi0 : (0 : Int) ≤ (i : Int) := by omega
        have hj0i : (0 : Int) < (j : Int) := by omega
        have HKA : Hid (∀ w',Below w.heap.size w w' → w'.cell? ⟨g,o + i * 2,none⟩ = some (.int .i64 a.key) ∧ w'.cell? ⟨g,o + j * 2,none⟩ = some (.int .i64 e.key)) := fun w' hb => ⟨((HCC.out i a hxa).below hb).1,((HCC.out j e HX.out).below hb).1⟩
        have HBA : Hid (e.key ≤ a.key → ∀ w',Below w.heap.size w w' → KidsRet l w (.returned (.bool false)) w') := fun hn w' hb => HNO.out w' (fun h => KidsOk.bad HX.out (.inr (.inl ⟨a,i,hij.symm,hxa,hn⟩)) h.2.2) hb
        obtain ⟨z0,z1⟩ := HKA.out _ HB.out
        clear hxa
        obtain ⟨dg,hdg⟩ : ∃ dg,decide (e.key ≤ a.key) = dg := ⟨_,rfl⟩
        cases dg with
        | true =>
          have hle : e.key ≤ a.key := by simpa using hdg
          have HR := Lib.hid (HBA.out hle)
          go_wp2_with fail
          go_region_held3 (fun w' => w'.cell? ⟨g,o + i * 2,none⟩ = some (.int .i64 a.key) ∧ w'.cell? ⟨g,o + j * 2,none⟩ = some (.int .i64 e.key)) (first | exact HKA.out _ (by repeat (first | with_reducible exact HB.out | refine Below.drew ?_))) (fail)
          clear z0 z1 c0 c1
          go_wp2_with fail
          go_ret
          exact HR.out _ (Below.drew HB.out)
        | false =>
          have hlt2 : a.key < e.key := by simp at hdg; omega
          have HLT := Lib.hid hlt2
          clear hlt2
          go_wp2_with fail
          go_region_held3 (fun w' => w'.cell? ⟨g,o + i * 2,none⟩ = some (.int .i64 a.key) ∧ w'.cell? ⟨g,o + j * 2,none⟩ = some (.int .i64 e.key)) (first | exact HKA.out _ (by repeat (first | with_reducible exact HB.out | refine Below.drew ?_))) (fail)
          clear z0 z1 c0 c1
          go_wp2_with fail
          obtain ⟨wo,hwo⟩ : ∃ wo,wo = wr.drew := ⟨_,rfl⟩
          have HBO : Hid (Below w.heap.size w wo) := by show Below _ _ _; rw [hwo]; exact Below.drew HB.out
          subst hwo
          go_loopw [4] (fun s4 wr => ∃ q : Nat,q ≤ j ∧ s4 = .int .i64 q ∧ Hid (((l.take j).take q).any (fun o => decide (o.at_ = e.at_)) = false) ∧ Hid (Below w.heap.size w wr)) (fun s4 _ => j - (intOf s4).toNat)
          case atStart => exact ⟨0,Nat.zero_le _,rfl,by show _ = _; simp,HBO⟩
          case round =>
            obtain ⟨q,hq,rfl,HA,HQ⟩ := hrel
            by_cases hql : q < j
            · have hqi : (q : Int) < (j : Int) := by omega
              obtain ⟨y,hy⟩ : ∃ y,l[q]? = some y := ⟨l[q]'(by have := HN.out; omega),List.getElem?_eq_getElem (by have := HN.out; omega)⟩
              have hyt : (l.take j)[q]? = some y := by rw [List.getElem?_take,if_pos hql]; exact hy
              have HNX : Hid (((l.take j).take (q + 1)).any (fun o => decide (o.at_ = e.at_)) = decide (y.at_ = e.at_)) := by
                show _ = _
                rw [List.take_add_one,hyt,List.any_append,HA.out]
                simp
              have HBQ : Hid (y.at_ = e.at_ → ∀ w',Below w.heap.size w w' → KidsRet l w (.returned (.bool false)) w') := fun hn w' hb => HNO.out w' (fun h => KidsOk.bad HX.out (.inr (.inr (by
                rw [List.any_eq_true]
                exact ⟨y,List.mem_of_getElem? hyt,by simpa using hn⟩))) h.2.2) hb
              have hqn : (q : Int) < (n : Int) := by omega
              have hq0 : (0 : Int) ≤ (q : Int) := by omega
              have HKQ : Hid (∀ w',Below w.heap.size w w' → w'.cell? ⟨g,o + q * 2 + 1,none⟩ = some (.int .i64 y.at_) ∧ w'.cell? ⟨g,o + j * 2 + 1,none⟩ = some (.int .i64 e.at_)) := fun w' hb => ⟨((HCC.out q y hy).below hb).2,((HCC.out j e HX.out).below hb).2⟩
              obtain ⟨b0,b1⟩ := HKQ.out _ HQ.out
              clear hy hyt
              by_cases hye : y.at_ = e.at_
              · have HR := Lib.hid (HBQ.out hye)
                have hdn : (y.at_ == e.at_) = true := by simpa using hye
                clear hye
                go_wp2_with fail
                go_region_held3 (fun w' => w'.cell? ⟨g,o + q * 2 + 1,none⟩ = some (.int .i64 y.at_) ∧ w'.cell? ⟨g,o + j * 2 + 1,none⟩ = some (.int .i64 e.at_)) (first | exact HKQ.out _ (by repeat (first | with_reducible exact HQ.out | refine Below.drew ?_))) (fail)
                go_wp2_with fail
                go_ret
                exact HR.out _ (Below.drew HQ.out)
              · have hdn : (y.at_ == e.at_) = false := by simpa using hye
                have HA1 : Hid (((l.take j).take (q + 1)).any (fun o => decide (o.at_ = e.at_)) = false) := by show _ = _; rw [HNX.out,decide_eq_false hye]
                clear hye
                go_wp2_with fail
                go_region_held3 (fun w' => w'.cell? ⟨g,o + q * 2 + 1,none⟩ = some (.int .i64 y.at_) ∧ w'.cell? ⟨g,o + j * 2 + 1,none⟩ = some (.int .i64 e.at_)) (first | exact HKQ.out _ (by repeat (first | with_reducible exact HQ.out | refine Below.drew ?_))) (fail)
                go_wp2_with fail
                go_roundw
                case rel => exact ⟨q + 1,by omega,by go_num,HA1,Below.drew HQ.out⟩
                case measure => simp [intOf]; omega
            · obtain rfl : q = j := by omega
              have HK1 : Hid (KidsOk (l.take (q + 1))) := KidsOk.next HK.out HX.out HKT.out (fun p i' h hp => by
                obtain rfl : i = i' := by omega
                rw [HXA.out] at hp
                injection hp with hp
                subst hp
                exact HLT.out) (by have := HA.out; rw [List.take_take,Nat.min_self] at this; exact this)
              go_wp2_with fail
              have hmeas : n - (intOf (.int .i64 ((q : Int) + 1))).toNat < n - (intOf (.int .i64 (q : Int))).toNat := by simp [intOf]; omega
              refine ⟨⟨q + 1,?_,?_,HK1,HQ⟩,hmeas⟩
              · omega
              · go_num
    · obtain rfl : j = n := by omega
      have hfull : l.take j = l := by rw [← HN.out]; exact List.take_length
      rw [hfull] at HK
      by_cases h2 : 2 ≤ j
      · have h2i : (2 : Int) ≤ (j : Int) := by omega
        by_cases h8 : j ≤ 8
        · have h8i : (j : Int) ≤ 8 := by omega
          have HR := Lib.hid (HYES.out wr (by rw [HN.out]; exact h2) (by rw [HN.out]; exact h8) HK.out HB.out)
          go_wp2_with fail
          go_ret
          exact HR.out
        · have h8i : ¬ (j : Int) ≤ 8 := by omega
          have HR := Lib.hid (HNO.out wr (fun h => h8 (by rw [← HN.out]; exact h.2.1)) HB.out)
          go_wp2_with fail
          go_ret
          exact HR.out
      · have h2i : ¬ (2 : Int) ≤ (j : Int) := by omega
        have HR := Lib.hid (HNO.out wr (fun h => h2 (by rw [← HN.out]; exact h.1)) HB.out)
        go_wp2_with fail
        go_ret
        exact HR.out
end Go.Proofs.YtneammhkgmkkfaaGreatDoor.tr
