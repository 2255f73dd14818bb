/- A part of the proof. -/
import Derived.Test.YtneammhkgmkkfaaGreatDoorPTlF
namespace Go.Proofs.YtneammhkgmkkfaaGreatDoor.tr
open Go.RowKit Go.Proofs.YtneammhkgmkkfaaGreatDoor.er
set_option linter.unusedVariables false
set_option linter.unusedSimpArgs false
open Classical in
set_option maxHeartbeats 32000000 in
set_option maxRecDepth 100000 in
theorem sany_inner {h : Nat} (hh : h ≤ 6) (ih : SAny h) : SAny (h + 1) := by
  intro w v L t pg ho hsz hL hpg
  have HRD : Hid (readD L (h + 1) t pg = match getB L pg with | none => none | some p => if p.1 = 3 ∧ (okK p.2 = true ∧ MayK (kidsD p.2)) ∧ rsmallB t (kidsD p.2).length 2 = false then (rdKids (readD L h false) (kidsD p.2)).map (fun t => mkI pg t) else none) := by show _ = _; rfl
  have HBAD : Hid (∀ wr rb w9,readD L (h + 1) t pg = none → SBox w rb wr → w9 = (((wr.setCell ⟨rb,0,none⟩ (.slice none 0 0)).setCell ⟨rb,1,none⟩ (.int .i64 0)).setCell ⟨rb,2,none⟩ (.bool true)).setCell ⟨rb,3,none⟩ (.int .i64 0) →
      (w9.cell? ⟨rb,0,none⟩ = some (.slice none 0 0) ∧ w9.cell? ⟨rb,1,none⟩ = some (.int .i64 0) ∧ w9.cell? ⟨rb,2,none⟩ = some (.bool true) ∧ w9.cell? ⟨rb,3,none⟩ = some (.int .i64 0)) ∧ SPost (readD L (h + 1) t pg) w (.returned (.agg #[.slice none 0 0,.int .i64 0,.bool true,.int .i64 0])) w9) := by
    intro wr rb w9 hn hs h9
    obtain ⟨k1,k2,k3⟩ := hs.put _ _ _ _ h9
    refine ⟨k1,?_⟩
    rw [hn]
    exact ⟨rfl,k3⟩
  have hoo := ho
  obtain ⟨A,c,rfl,hcc⟩ := ho
  have HNB := Lib.hid (SBox.new w)
  obtain ⟨rb,hrb⟩ : ∃ rb,w.heap.size = rb := ⟨_,rfl⟩
  obtain ⟨w1,hw1⟩ : ∃ w1,w.alloc (.cells #[.slice none 0 0,.int .i64 0,.bool false,.int .i64 0] 40) = w1 := ⟨_,rfl⟩
  have HS1 : Hid (SBox w rb w1) := by show SBox _ _ _; rw [← hw1,← hrb]; exact HNB.out
  obtain ⟨⟨z0,z1,z2,z3⟩,y0,y1,y2,y3⟩ := HS1.out.cells
  have HBB : Hid (∀ wq,SBox w rb wq → Below w.heap.size w wq) := fun wq h => h.2.2
  obtain ⟨H,hH⟩ : ∃ H : Int,((h + 1 : Nat) : Int) + 1 = H := ⟨_,rfl⟩
  have HSY : Hid (∀ wq k,Below w.heap.size w wq → I64 k → Calls Tryz.prog 10 #[.slice A L.length c,.int .i64 k,.int .i64 (H - 1),.bool false] wq (SPost (readD L h false k) wq)) := by
    intro wq k hb hk
    have := ih wq _ L false k (hoo.below hb) hsz hL hk
    rw [show (h : Int) + 1 = H - 1 by omega] at this
    exact this
  have HBND : Hid (∀ k (n : Nd h),readD L h false k = some n → cntN n ≤ 600000 ∧ (flat n).length ≤ 2097152) := by
    intro k n hr
    obtain ⟨b1,b2,_⟩ := readD_bound hr
    have e1 : 8 ^ h ≤ 8 ^ 6 := Nat.pow_le_pow_right (by omega) hh
    have e2 : 8 ^ (h + 1) ≤ 8 ^ 7 := Nat.pow_le_pow_right (by omega) (by omega)
    have e3 : 8 ^ 6 = 262144 := by decide
    have e4 : 8 ^ 7 = 2097152 := by decide
    omega
  rw [hH]
  have hH1 : 2 ≤ H := by omega
  have hH2 : H ≤ 100 := by omega
  have hH3 : (H == 1) = false := by simp; omega
  obtain ⟨N,hN⟩ : ∃ N,L.length = N := ⟨_,rfl⟩
  have hNi : (N : Int) ≤ 1000000 := by omega
  by_cases hp0 : pg < 0
  · have hn : readD L (h + 1) t pg = none := by show _ = _; rw [HRD.out]; unfold getB; rw [if_pos hp0]
    have HB := Lib.hid (HBAD.out w1 rb _ hn HS1.out rfl)
    rw [hN]
    clear hoo hcc hsz hn
    go_enter Tryz.func10,Tryz.ntmps10
    go_wp2_with fail
    obtain ⟨⟨q0,q1,q2,q3⟩,hfin⟩ := HB.out
    refine bodyPost_ret (v := .agg #[.slice none 0 0,.int .i64 0,.bool true,.int .i64 0]) (by simp [results,Tryz.results10,go_sem,q0,q1,q2,q3]) rfl hfin
  · by_cases hp1 : (N : Int) ≤ pg
    · have hn : readD L (h + 1) t pg = none := by
        show _ = _
        rw [HRD.out]
        have : getB L pg = none := by unfold getB; rw [if_neg hp0]; exact List.getElem?_eq_none (by omega)
        rw [this]
      have HB := Lib.hid (HBAD.out w1 rb _ hn HS1.out rfl)
      rw [hN]
      clear hoo hcc hsz hn
      go_enter Tryz.func10,Tryz.ntmps10
      go_wp2_with fail
      obtain ⟨⟨q0,q1,q2,q3⟩,hfin⟩ := HB.out
      refine bodyPost_ret (v := .agg #[.slice none 0 0,.int .i64 0,.bool true,.int .i64 0]) (by simp [results,Tryz.results10,go_sem,q0,q1,q2,q3]) rfl hfin
    · obtain ⟨i,rfl⟩ : ∃ i : Nat,pg = i := ⟨pg.toNat,by omega⟩
      have hiN : i < N := by omega
      obtain ⟨p,hgi⟩ : ∃ p,L[i]? = some p := ⟨_,List.getElem?_eq_getElem (by omega)⟩
      have hgb : getB L i = some p := by unfold getB; rw [if_neg (by omega)]; simpa using hgi
      obtain ⟨g,o,rfl,hcell⟩ := hcc (by omega)
      obtain ⟨c0,c1⟩ := hcell i _ hgi
      have hss := hsz _ (List.mem_of_getElem? hgi)
      obtain ⟨kd,S⟩ := p
      simp only at c0 c1 hss
      rw [hgb] at HRD
      simp only at HRD
      have HRL := Lib.hid (fun wq => rReadInner_any S wq hss)
      have HCB : Hid (∀ w',Below w.heap.size w w' → w'.cell? ⟨g,o + i * 2,none⟩ = some (.int .i64 kd) ∧ w'.cell? ⟨g,o + i * 2 + 1,none⟩ = some (.string S)) := fun w' hb => ⟨below_c hb c0,below_c hb c1⟩
      obtain ⟨b0,b1⟩ := HCB.out _ HS1.out.2.2
      have hiN' : (i : Int) < (N : Int) := by omega
      have hi0 : (0 : Int) ≤ (i : Int) := by omega
      have HSM := Lib.hid (fun n wq => rsmall_any t n 2 wq)
      rw [hN] at HSY ⊢
      clear hoo hcc hsz hgi hgb hcell hL hN c0 c1 hH ih
      go_enter Tryz.func10,Tryz.ntmps10
      go_wp2_with fail
      try rw [hw1]
      try rw [hrb]
      clear hw1 hrb
      with_reducible refine (HRL.out _).mono ?_
      rintro x w2 (⟨B,c2,rfl,hk,ho2,hb2⟩ | ⟨rfl,hk,hb2⟩)
      · have HS2 := Lib.hid (HS1.out.below hb2)
        obtain ⟨d0,d1⟩ := HCB.out _ HS2.out.2.2
        obtain ⟨⟨z0,z1,z2,z3⟩,y0,y1,y2,y3⟩ := HS2.out.cells
        obtain ⟨ks,hks⟩ : ∃ ks,kidsD S = ks := ⟨_,rfl⟩
        rw [hks] at ho2 hk HRD ⊢
        have hk2 := hk.2.1
        have hk8 := hk.2.2.1
        have HKI : Hid (∀ k ∈ ks,I64 k.key ∧ I64 k.at_) := fun k hm => by
          have := hk.2.2.2.1 k hm
          unfold kidB at this
          simp at this
          unfold I64
          omega
        obtain ⟨m,hm⟩ : ∃ m,ks.length = m := ⟨_,rfl⟩
        have HKK := Lib.hid hk
        have HML := Lib.hid hm
        rw [hm] at hk2 hk8 ho2 ⊢
        have hmi : (m : Int) ≤ 8 := by omega
        have hm0 : (0 : Int) < (m : Int) := by omega
        by_cases hkd : kd = 3
        · subst hkd
          obtain ⟨sb,hsb⟩ : ∃ sb,rsmallB t (m : Int) 2 = sb := ⟨_,rfl⟩
          have HS3 := Lib.hid (HSM.out (m : Int) w2)
          rw [hsb] at HS3
          cases sb with
          | true =>
            have hno : readD L (h + 1) t i = none := by show _ = _; rw [HRD.out]; exact if_neg (by simp only; rw [hm]; rintro ⟨_,_,h⟩; rw [hsb] at h; cases h)
            have HB := Lib.hid (HBAD.out w2 rb _ hno HS2.out rfl)
            clear hno hsb hm hk ho2 hb2 hks
            go_wp2_with fail
            with_reducible refine HS3.out.mono ?_
            rintro x w3 ⟨rfl,rfl⟩
            go_wp2_with fail
            obtain ⟨⟨q0,q1,q2,q3⟩,hfin⟩ := HB.out
            refine bodyPost_ret (v := .agg #[.slice none 0 0,.int .i64 0,.bool true,.int .i64 0]) (by simp [results,Tryz.results10,go_sem,q0,q1,q2,q3]) rfl hfin
          | false =>
            have HRO : Hid (readD L (h + 1) t i = (rdKids (readD L h false) ks).map (fun t => mkI i t)) := by show _ = _; rw [HRD.out]; exact if_pos ⟨rfl,hk,by rw [hm]; exact hsb⟩
            obtain ⟨gk,rfl,_,_,_,hkc,_⟩ := own_cell ho2 (by omega)
            have HKC : Hid (∀ (j : Nat) (k : Kid) wq,ks[j]? = some k → Below w2.heap.size w2 wq → wq.cell? ⟨gk,j * 2,none⟩ = some (.int .i64 k.key) ∧ wq.cell? ⟨gk,j * 2 + 1,none⟩ = some (.int .i64 k.at_)) := by
              intro j k wq hj hb
              obtain ⟨d0,d1⟩ := kidCells_at ks j k hj
              exact ⟨below_c hb (hkc _ _ d0),below_c hb (hkc _ _ d1)⟩
            obtain ⟨kf,hkf⟩ : ∃ k,ks[0]? = some k := ⟨_,List.getElem?_eq_getElem (by omega)⟩
            have f0 := (HKC.out 0 kf w2 hkf (Below.refl _ _)).1
            simp only [Nat.zero_mul] at f0
            obtain ⟨ky0,hky0⟩ : ∃ ky0,kf.key = ky0 := ⟨_,rfl⟩
            rw [hky0] at f0
            have HKF : Hid (ks.head? = some kf ∧ kf.key = ky0) := ⟨by rw [List.head?_eq_getElem?]; exact hkf,hky0⟩
            have HNW := Lib.hid (sy_new (w := w2) ky0 (Below.refl w2.heap.size w2))
            obtain ⟨bo,hbo⟩ : ∃ bo,w2.heap.size = bo := ⟨_,rfl⟩
            obtain ⟨w4,hw4⟩ : ∃ w4,w2.alloc (.cells #[.slice none 0 0,.int .i64 ky0,.bool false,.int .i64 1] 40) = w4 := ⟨_,rfl⟩
            have HS4 : Hid (SyW w2 bo ky0 1 [] none 0 w4) := by show SyW _ _ _ _ _ _ _ _; rw [← hw4,← hbo]; exact HNW.out
            have HBO := Lib.hid hbo
            clear hsb hm hk ho2 hb2 hks hkc hkf hky0 HNW
            go_wp2_with fail
            with_reducible refine HS3.out.mono ?_
            rintro x w3 ⟨rfl,rfl⟩
            go_wp2_with fail
            try rw [hw4]
            try rw [hbo]
            clear hw4 hbo f0
            go_loopw [14,15,16] (fun s14 s15 s16 wr => ∃ (j : Nat) (A' : Option Addr) (d : Nat) (ns : List (Nd h)),j ≤ m ∧ s14 = .int .i64 j ∧ Hid (SyW w2 bo ky0 (1 + ((ns.map cntN).sum : Nat)) (flats ns) A' d wr) ∧ Hid (RdN (readD L h false) ks j ns) ∧ Hid ((ns.map cntN).sum ≤ j * 600000 ∧ (flats ns).length ≤ j * 2097152)) (fun s14 _ _ _ => m - (intOf s14).toNat)
            case atStart => exact ⟨0,none,0,[],Nat.zero_le _,rfl,HS4,rdn_new _ _,by show _ ∧ _; exact ⟨Nat.zero_le _,Nat.zero_le _⟩⟩
            case round =>
              obtain ⟨j,A',d,ns,hj,rfl,HSY4,HRN,HBS⟩ := hrel
              by_cases hlt : j < m
              · have hji : (j : Int) < (m : Int) := by omega
                have hj0 : (0 : Int) ≤ (j : Int) := by omega
                obtain ⟨k,hkj⟩ : ∃ k,ks[j]? = some k := ⟨_,List.getElem?_eq_getElem (by rw [HML.out]; exact hlt)⟩
                obtain ⟨d0,d1⟩ := HKC.out j k wr hkj HSY4.out.bel
                have hki := (HKI.out k (List.mem_of_getElem? hkj)).2
                have HCALL := Lib.hid (HSY.out wr k.at_ (HS2.out.2.2.trans (HSY4.out.bel.mono HS2.out.2.2.size)) hki)
                obtain ⟨st1,st2⟩ := rdn_step HRN.out hkj
                have hk1 := hki.1
                have hk2' := hki.2
                cases hrd : readD L h false k.at_ with
                | none =>
                  have hno : readD L (h + 1) t i = none := by show _ = _; rw [HRO.out,st1 hrd]; rfl
                  have HNO := Lib.hid hno
                  rw [hrd] at HCALL
                  clear st1 st2 hno hrd
                  go_wp2_with fail
                  with_reducible refine HCALL.out.mono ?_
                  rintro x w5 ⟨rfl,hb5⟩
                  have hsb := HS2.out.below HSY4.out.bel
                  have HSB5 := Lib.hid (hsb.below hb5)
                  clear hb5 hsb
                  go_wp2_with fail
                  obtain ⟨bs,hbs⟩ : ∃ bs,w5.heap.size = bs := ⟨_,rfl⟩
                  obtain ⟨w6,hw6⟩ : ∃ w6,w5.alloc (.cells #[.slice none 0 0,.int .i64 0,.bool true,.int .i64 0] 40) = w6 := ⟨_,rfl⟩
                  have hb56 : Below w5.heap.size w5 w6 := by rw [← hw6]; exact (Below.refl _ _).alloc (Nat.le_refl _) _
                  have hwn : Whole w6 bs 40 #[.slice none 0 0,.int .i64 0,.bool true,.int .i64 0] := by rw [← hw6,← hbs]; exact Whole.new _ _ _
                  have e2 := hwn.cell 2
                  simp at e2
                  have HS6 : Hid (SBox w rb w6) := HSB5.out.below hb56
                  have HC := Lib.hid (HBAD.out w6 rb _ HNO.out HS6.out rfl).1
                  have HB := Lib.hid (HBAD.out w6.drew rb _ HNO.out (HS6.out.below (Below.refl _ _).drew) rfl)
                  obtain ⟨⟨z0,z1,z2,z3⟩,y0,y1,y2,y3⟩ := HS6.out.cells
                  rw [hw6,hbs]
                  clear hb56 hwn hw6 hbs
                  refine rg.rgB (fun w' => w'.cell? ⟨bs,2,none⟩ = some (.bool true)) (by kernel_rfl) e2 (fun hHeld => ?_)
                  iterate 3 (refine rg.rgT (oi := { dst := _,op := _,type := _,pos := _,after := _,guard := _ }) ?_ rfl (by kernel_rfl) (fun _ _ _ h => h) (by rfl) ?_ (by assumption) ?_; rotate_left; (focus (intro wz hSw; (try dsimp only at hSw); go_simp; (try with_reducible rfl))); (try simp only [Go.Act.put,List.setIfInBounds_toArray,List.set_cons_zero,List.set_cons_succ]))
                  iterate 8 (refine rg.rgS (oi := { dst := _,op := _,type := _,pos := _,after := _,guard := _ }) rfl (by kernel_rfl) (fun _ _ _ h => h) (by rfl) (by assumption) ?_; (try simp only [Go.Act.put,List.setIfInBounds_toArray,List.set_cons_zero,List.set_cons_succ]))
                  iterate 1 (refine rg.rgT (oi := { dst := _,op := _,type := _,pos := _,after := _,guard := _ }) ?_ rfl (by kernel_rfl) (fun _ _ _ h => h) (by rfl) ?_ (by assumption) ?_; rotate_left; (focus (intro wz hSw; (try dsimp only at hSw); go_simp; (try with_reducible rfl))); (try simp only [Go.Act.put,List.setIfInBounds_toArray,List.set_cons_zero,List.set_cons_succ]))
                  refine rg.rgD (by kernel_rfl) ?_
                  go_wp2_with fail
                  obtain ⟨q0,q1,q2,q3⟩ := HC.out
                  have hfin := HB.out.2
                  refine bodyPost_ret (v := .agg #[.slice none 0 0,.int .i64 0,.bool true,.int .i64 0]) (by simp [results,Tryz.results10,go_sem,q0,q1,q2,q3]) rfl hfin
                | some nk =>
                  obtain ⟨st3,st4⟩ := st2 nk hrd
                  have HBK := Lib.hid (HBND.out _ _ hrd)
                  rw [hrd] at HCALL
                  clear st1 st2
                  go_wp2_with fail
                  with_reducible refine HCALL.out.mono ?_
                  rintro x w5 ⟨Aq,cq,rfl,ho5,hb5⟩
                  obtain ⟨bs,hbs⟩ : ∃ bs,w5.heap.size = bs := ⟨_,rfl⟩
                  obtain ⟨mq,hmq⟩ : ∃ mq,(flat nk).length = mq := ⟨_,rfl⟩
                  obtain ⟨cn,hcn⟩ : ∃ cn,cntN nk = cn := ⟨_,rfl⟩
                  obtain ⟨fk,hfk⟩ : ∃ fk,firstN nk = fk := ⟨_,rfl⟩
                  rw [hmq] at ho5
                  rw [hmq,hcn,hfk]
                  rw [hfk] at st3 st4
                  obtain ⟨w6,hw6⟩ : ∃ w6,w5.alloc (.cells #[.slice Aq mq cq,.int .i64 fk,.bool false,.int .i64 cn] 40) = w6 := ⟨_,rfl⟩
                  have HW6 : Hid (Whole w6 bs 40 #[.slice Aq mq cq,.int .i64 fk,.bool false,.int .i64 cn] ∧ Below w5.heap.size w5 w6) := by
                    show _ ∧ _
                    rw [← hw6,← hbs]
                    exact ⟨Whole.new _ _ _,(Below.refl _ _).alloc (Nat.le_refl _) _⟩
                  have HSY5 := Lib.hid (HSY4.out.below hb5)
                  have HSY6 := Lib.hid (HSY5.out.below HW6.out.2)
                  have HO6 := Lib.hid (own_below ho5 HW6.out.2)
                  have e1 := HW6.out.1.cell 1
                  have e2 := HW6.out.1.cell 2
                  simp at e1 e2
                  have e0 := (HKC.out j k w6 hkj HSY6.out.bel).1
                  have HKQ : Hid (∀ w',Below w6.heap.size w6 w' → w'.cell? ⟨bs,1,none⟩ = some (.int .i64 fk) ∧ w'.cell? ⟨bs,2,none⟩ = some (.bool false) ∧ w'.cell? ⟨gk,j * 2,none⟩ = some (.int .i64 k.key)) := fun w' hb => ⟨below_c hb e1,below_c hb e2,below_c hb e0⟩
                  clear d0 d1 ho5 hb5
                  by_cases hfe : fk = k.key
                  · have HST := Lib.hid (st4 hfe)
                    rw [← hfe] at e0 HKQ
                    clear st3 st4 hfe hrd
                    go_wp2_with fail
                    go_region_held3 (fun w' => w'.cell? ⟨bs,1,none⟩ = some (.int .i64 fk) ∧ w'.cell? ⟨bs,2,none⟩ = some (.bool false) ∧ w'.cell? ⟨gk,j * 2,none⟩ = some (.int .i64 fk)) (first | exact HKQ.out _ (by repeat (first | with_reducible exact Below.refl _ _ | refine Below.drew ?_))) (fail)
                    obtain ⟨w7,hw7⟩ : ∃ w7,w6.drew = w7 := ⟨_,rfl⟩
                    have HD7 : Hid (Below w6.heap.size w6 w7) := by show Below _ _ _; rw [← hw7]; exact (Below.refl _ _).drew
                    rw [hw7]
                    clear hw7 HKQ e0 e1 e2
                    have HSY7 := Lib.hid (HSY6.out.below HD7.out)
                    have HWS7 : Hid (Whole w7 bs 40 #[.slice Aq mq cq,.int .i64 fk,.bool false,.int .i64 cn]) := HW6.out.1.below HD7.out HW6.out.1.lt
                    have HO7 := Lib.hid (own_below HO6.out HD7.out)
                    have s3 := HWS7.out.cell 3
                    have tf3 := HSY7.out.box.fz 3
                    simp at s3
                    have hsm := HBS.out.1
                    have hcb := HBK.out.1
                    rw [hcn] at hcb
                    obtain ⟨nj,hnj⟩ : ∃ nj,(ns.map cntN).sum = nj := ⟨_,rfl⟩
                    rw [hnj] at hsm
                    have t3 : w7.cell? ⟨bo,3,none⟩ = some (.int .i64 (1 + (nj : Int))) := by rw [← hnj]; simpa using HSY7.out.box.cell 3
                    have hnb : (nj : Int) + (cn : Int) ≤ 100000000 := by omega
                    have hnb2 : (0 : Int) ≤ (nj : Int) := by omega
                    have hnb3 : (0 : Int) ≤ (cn : Int) := by omega
                    have HLN : Hid ((flat nk).length ≤ 2097152 ∧ ∀ q,(flats ns ++ (flat nk).take q).length ≤ 100000000) := ⟨HBK.out.2,fun q => by
                      have h1 := HBK.out.2
                      have h2 := HBS.out.2
                      have h3 : ((flat nk).take q).length ≤ (flat nk).length := List.length_take_le' _ _
                      rw [List.length_append]
                      omega⟩
                    have HNX : Hid (((ns ++ [nk]).map cntN).sum ≤ (j + 1) * 600000 ∧ (flats (ns ++ [nk])).length ≤ (j + 1) * 2097152) := by
                      have h1 := HBK.out
                      have h2 := HBS.out
                      show _ ∧ _
                      have f0 : flats ([] : List (Nd h)) = [] := rfl
                      rw [List.map_append,List.sum_append,flats_append,List.length_append,flats_cons,List.length_append,f0]
                      simp only [List.map_cons,List.map_nil,List.sum_cons,List.sum_nil,List.length_nil]
                      omega
                    go_wp2_with fail
                    obtain ⟨w8,hw8⟩ : ∃ w8,w7.setCell ⟨bo,3,none⟩ (.int .i64 (1 + (nj : Int) + (cn : Int))) = w8 := ⟨_,rfl⟩
                    have hkeep8 : Keep (fun k => k = bo) w7 w8 := by rw [← hw8]; exact Keep.set1 w7 bo 3 _
                    have hsbo : bs ≠ bo := by
                      intro e
                      have h1 := HSY5.out.box.lt
                      omega
                    have HSI : Hid (SyI w2 bo bs ky0 (1 + (nj : Int) + (cn : Int)) (flats ns) A' d wr.heap.size Aq cq fk cn (flat nk) 0 w8) := by
                      have hs8 := sy_nodes (by rw [← HBO.out]; exact Nat.le_refl _) HSY7.out (1 + (nj : Int) + (cn : Int))
                      rw [hw8] at hs8
                      have hrow := HO7.out
                      have hbox := HWS7.out
                      rw [← hmq] at hrow hbox
                      refine ⟨by simpa using hs8,hbox.keep hkeep8 hsbo,own_keep hrow hkeep8 (fun g hg hk => own_ne hrow HSY7.out.box (by decide) (by rw [hg,show g = bo from hk])),hsbo,fun g hg e => ?_⟩
                      have h1 := (hrow.lt g hg).1
                      have h2 := (HSY4.out.row.lt g (by simpa using e)).2
                      omega
                    obtain ⟨B0,hB0⟩ : ∃ B0,wr.heap.size = B0 := ⟨_,rfl⟩
                    rw [hB0] at HSI
                    rw [hw8]
                    clear hw8 hkeep8 s3 t3 tf3 hsbo hB0 hsm hcb
                    go_loopw [16] (fun s16 wq => ∃ (q : Nat) (A2 : Option Addr) (d2 : Nat),q ≤ mq ∧ s16 = .int .i64 q ∧ Hid (SyI w2 bo bs ky0 (1 + (nj : Int) + (cn : Int)) (flats ns) A2 d2 B0 Aq cq fk cn (flat nk) q wq)) (fun s16 _ => mq - (intOf s16).toNat)
                    case atStart => exact ⟨0,A',d,Nat.zero_le _,rfl,HSI⟩
                    case round =>
                      obtain ⟨q,A2,d2,hq,rfl,HI⟩ := hrel
                      have v0 : wr.cell? ⟨bs,0,none⟩ = some (.slice Aq mq cq) := by rw [← hmq]; simpa using HI.out.box.cell 0
                      by_cases hql : q < mq
                      · have hqi : (q : Int) < (mq : Int) := by omega
                        have hq0 : (0 : Int) ≤ (q : Int) := by omega
                        obtain ⟨e,he⟩ : ∃ e,(flat nk)[q]? = some e := ⟨_,List.getElem?_eq_getElem (by rw [hmq]; exact hql)⟩
                        have hrow := HI.out.row
                        rw [hmq] at hrow
                        obtain ⟨gq,rfl,_,_,_,hcq,_⟩ := own_cell hrow (by omega)
                        obtain ⟨x0,x1,x2,x3⟩ := extCells_at (flat nk) q e he
                        have u0 := hcq _ _ x0
                        have u1 := hcq _ _ x1
                        have u2 := hcq _ _ x2
                        have u3 := hcq _ _ x3
                        have HPUT := Lib.hid (fun w6 g2 c2 => syi_put (w6 := w6) (g2 := g2) (c2 := c2) (by rw [← HBO.out]; exact Nat.le_refl _) HI.out he)
                        have HPK := Lib.hid (fun w6 g2 c2 q1 q2 => (sy_put (w6 := w6) (g2 := g2) (c2 := c2) (e := e) (by rw [← HBO.out]; exact Nat.le_refl _) HI.out.out q1 q2).1)
                        have v1 := HI.out.out.box.cell 0
                        obtain ⟨LL,hLL⟩ : ∃ LL,flats ns ++ (flat nk).take q = LL := ⟨_,rfl⟩
                        obtain ⟨n2,hn2⟩ : ∃ n2,LL.length = n2 := ⟨_,rfl⟩
                        have hro := HI.out.out.row
                        rw [hLL,hn2] at HPUT HPK hro v1
                        simp at v1
                        have HRO := Lib.hid hro
                        obtain ⟨ef,en,ek,et⟩ := e
                        simp only at u0 u1 u2 u3 HPUT HPK
                        have HSZ : Hid (w2.heap.size ≤ wr.heap.size) := HI.out.out.bel.size
                        clear hrow hcq x0 x1 x2 x3 hro he
                        obtain ⟨i0,hi0,hz0,hz1,hz2⟩ := info_parts infoR
                        have HNEW : Hid (∀ (j' : Nat) (u : Value),([.int .i64 ef,.int .i64 en,.int .i64 ek,.int .i64 et] : List Value)[j']? = some u → (wr.drew.alloc (.cells #[.int .i64 ef,.int .i64 en,.int .i64 ek,.int .i64 et] 80)).cell? ((⟨wr.heap.size,0,none⟩ : Addr).add j') = some u) := World.news_of_block (w := wr.drew.alloc (.cells #[.int .i64 ef,.int .i64 en,.int .i64 ek,.int .i64 et] 80)) (heap_alloc_new wr.drew _)
                        have HONE : Hid (∀ u ∈ ([.int .i64 ef,.int .i64 en,.int .i64 ek,.int .i64 et] : List Value),u.oneCell' = true) := by show ∀ u ∈ _,_; simp [Value.oneCell']
                        have HOA := Lib.hid ((own_below HRO.out (Below.refl _ _).drew).alloc (.cells #[.int .i64 ef,.int .i64 en,.int .i64 ek,.int .i64 et] 80))
                        have HSZ2 : Hid (w2.heap.size ≤ (wr.drew.alloc (.cells #[.int .i64 ef,.int .i64 en,.int .i64 ek,.int .i64 et] 80)).heap.size) := by show _ ≤ _; simp only [World.size_alloc]; exact Nat.le_succ_of_le HSZ.out
                        have hn2m : n2 ≤ 100000000 := by
                          have := HLN.out.2 q
                          rw [hLL,hn2] at this
                          omega
                        have hqm : (mq : Int) ≤ 100000000 := by
                          have := HLN.out.1
                          rw [hmq] at this
                          omega
                        have v1a : (wr.alloc (.cells #[.int .i64 ef,.int .i64 en,.int .i64 ek,.int .i64 et] 80)).cell? ⟨bo,0,none⟩ = some (.slice A2 n2 d2) := below_c ((Below.refl wr.heap.size wr).alloc (Nat.le_refl _) _) v1
                        go_wp2_with fail
                        go_region_law ((refine step_append_lies _ ?_ (.tmp 133) (.tmp 139) 38 ?_ w2.heap.size 80 i0 (.agg #[.int .i64 0,.int .i64 0,.int .i64 0,.int .i64 0]) 4 32 Tryz.underlying38 hi0 hz0 hz1 hz2 (by rfl) (by omega) (.slice A2 n2 d2) n2 (extCells LL) (by rfl) HOA.out ⟨wr.heap.size,0,none⟩ 1 1 [.int .i64 ef,.int .i64 en,.int .i64 ek,.int .i64 et] (by rfl) (by rfl) HNEW.out HONE.out (by omega) (by unfold maxLen; omega) (by omega) HSZ2.out (wr.heap.size + 1) (by simp) ?_; rfl; rfl; (intro g2 c2' w6 hown6 hg6 hat6 hlt6; obtain ⟨q6,z6⟩ := HPK.out w6 g2 c2' hown6 hg6; have HP6 := Lib.hid (HPUT.out w6 g2 c2' hown6 hg6 (by rcases hat6 with h | h; exact .inl h; exact .inr (by omega))); clear hown6 hg6 hat6)))
                        all_goals
                          go_wp2_with fail
                          have hmeas : mq - (intOf (.int .i64 ((q : Int) + 1))).toNat < mq - (intOf (.int .i64 (q : Int))).toNat := by simp [intOf]; omega
                          refine ⟨⟨q + 1,some ⟨g2,0,none⟩,c2',?_,?_,HP6⟩,hmeas⟩
                          · omega
                          · go_num
                      · obtain rfl : q = mq := by omega
                        have HFIN : Hid (SyW w2 bo ky0 (1 + ((((ns ++ [nk]).map cntN).sum : Nat) : Int)) (flats (ns ++ [nk])) A2 d2 wr) := by
                          show SyW _ _ _ _ _ _ _ _
                          have h := HI.out.out
                          have e2 : flats (ns ++ [nk]) = flats ns ++ (flat nk).take q := by
                            rw [flats_append,flats_cons,← hmq,List.take_length]
                            simp [flats]
                          have e3 : (1 : Int) + ((((ns ++ [nk]).map cntN).sum : Nat) : Int) = 1 + (nj : Int) + (cn : Int) := by
                            rw [List.map_append,List.sum_append,hnj]
                            simp [hcn]
                            omega
                          rw [e2,e3]
                          exact h
                        go_wp2_with fail
                        have hmeas : m - (intOf (.int .i64 ((j : Int) + 1))).toNat < m - (intOf (.int .i64 (j : Int))).toNat := by simp [intOf]; omega
                        refine ⟨⟨j + 1,A2,d2,ns ++ [nk],?_,?_,HFIN,HST,HNX⟩,hmeas⟩
                        · omega
                        · go_num
                  · have hno : readD L (h + 1) t i = none := by show _ = _; rw [HRO.out,st3 hfe]; rfl
                    have HNO := Lib.hid hno
                    have hfb : (fk == k.key) = false := by simpa using hfe
                    have HS6 : Hid (SBox w rb w6) := (HS2.out.below HSY6.out.bel)
                    have HC := Lib.hid (HBAD.out w6 rb _ HNO.out HS6.out rfl).1
                    have HB := Lib.hid (HBAD.out w6.drew rb _ HNO.out (HS6.out.below (Below.refl _ _).drew) rfl)
                    obtain ⟨⟨z0,z1,z2,z3⟩,y0,y1,y2,y3⟩ := HS6.out.cells
                    clear st3 st4 hfe hrd hno
                    go_wp2_with fail
                    go_region_held3 (fun w' => w'.cell? ⟨bs,1,none⟩ = some (.int .i64 fk) ∧ w'.cell? ⟨bs,2,none⟩ = some (.bool false) ∧ w'.cell? ⟨gk,j * 2,none⟩ = some (.int .i64 k.key)) (first | exact HKQ.out _ (by repeat (first | with_reducible exact Below.refl _ _ | refine Below.drew ?_))) (fail)
                    go_wp2_with fail
                    obtain ⟨q0,q1,q2,q3⟩ := HC.out
                    have hfin := HB.out.2
                    refine bodyPost_ret (v := .agg #[.slice none 0 0,.int .i64 0,.bool true,.int .i64 0]) (by simp [results,Tryz.results10,go_sem,q0,q1,q2,q3]) rfl hfin
              · obtain rfl : j = m := by omega
                have hend : rdKids (readD L h false) ks = some ns := rdn_end (by rw [HML.out]; exact HRN.out)
                have hyes : readD L (h + 1) t i = some (mkI i ns) := by show _ = _; rw [HRO.out,hend]; rfl
                have HYES := Lib.hid hyes
                have HS9 := Lib.hid (HS2.out.below HSY4.out.bel)
                have hfirst : firstN (mkI (i : Int) ns) = ky0 := by
                  have h3 := HRN.out.2.2
                  have hl := HRN.out.1
                  show (match ns with | [] => (0 : Int) | k :: _ => firstN k) = _
                  cases ns with
                  | nil => simp at hl; omega
                  | cons x r =>
                    obtain ⟨k,hk1,hk2⟩ := h3 x rfl
                    rw [HKF.out.1] at hk1
                    injection hk1 with hk1
                    show firstN x = _
                    rw [hk2,← hk1]
                    exact HKF.out.2
                have HFT := Lib.hid hfirst
                obtain ⟨FL,hFL⟩ : ∃ FL,flats ns = FL := ⟨_,rfl⟩
                obtain ⟨SU,hSU⟩ : ∃ SU,(ns.map cntN).sum = SU := ⟨_,rfl⟩
                rw [hFL,hSU] at HSY4
                have HEND : Hid (∀ w9,w9 = (((wr.setCell ⟨rb,0,none⟩ (.slice A' FL.length d)).setCell ⟨rb,1,none⟩ (.int .i64 ky0)).setCell ⟨rb,2,none⟩ (.bool false)).setCell ⟨rb,3,none⟩ (.int .i64 (1 + (SU : Int))) → (w9.cell? ⟨rb,0,none⟩ = some (.slice A' FL.length d) ∧ w9.cell? ⟨rb,1,none⟩ = some (.int .i64 ky0) ∧ w9.cell? ⟨rb,2,none⟩ = some (.bool false) ∧ w9.cell? ⟨rb,3,none⟩ = some (.int .i64 (1 + (SU : Int)))) ∧ SPost (readD L (h + 1) t i) w (.returned (.agg #[.slice A' FL.length d,.int .i64 ky0,.bool false,.int .i64 (1 + (SU : Int))])) w9) := by
                  intro w9 h9
                  obtain ⟨k1,k2,k3⟩ := HS9.out.put _ _ _ _ h9
                  refine ⟨k1,?_⟩
                  have hrow := own_le HSY4.out.row HS2.out.2.2.size
                  have hcn : ((cntN (mkI (i : Int) ns) : Nat) : Int) = 1 + (SU : Int) := by
                    have : cntN (mkI (i : Int) ns) = 1 + (ns.map cntN).sum := rfl
                    rw [this,hSU]; omega
                  have hfl : flat (mkI (i : Int) ns) = FL := hFL
                  rw [HYES.out]
                  show ∃ A c,_ ∧ _ ∧ _
                  rw [hfl,HFT.out,hcn]
                  exact ⟨A',d,rfl,own_keep hrow k2 (fun j hj e => own_ne hrow HS9.out.1 (by decide) (e ▸ hj.symm)),k3⟩
                have o0 := HSY4.out.box.cell 0
                have o1 := HSY4.out.box.cell 1
                have o2 := HSY4.out.box.cell 2
                have o3 := HSY4.out.box.cell 3
                simp at o0 o1 o2 o3
                obtain ⟨⟨z0,z1,z2,z3⟩,y0,y1,y2,y3⟩ := HS9.out.cells
                clear hend hyes hfirst
                go_wp2_with fail
                obtain ⟨⟨q0,q1,q2,q3⟩,hfin⟩ := HEND.out _ rfl
                refine bodyPost_ret (v := .agg #[.slice A' FL.length d,.int .i64 ky0,.bool false,.int .i64 (1 + (SU : Int))]) (by simp [results,Tryz.results10,go_sem,q0,q1,q2,q3]) rfl hfin
        · have hno : readD L (h + 1) t i = none := by show _ = _; rw [HRD.out]; exact if_neg (by rintro ⟨h,_⟩; exact hkd h)
          have HB := Lib.hid (HBAD.out w2 rb _ hno HS2.out rfl)
          clear hno hm hk ho2 hb2 hks
          go_wp2_with fail
          obtain ⟨⟨q0,q1,q2,q3⟩,hfin⟩ := HB.out
          refine bodyPost_ret (v := .agg #[.slice none 0 0,.int .i64 0,.bool true,.int .i64 0]) (by simp [results,Tryz.results10,go_sem,q0,q1,q2,q3]) rfl hfin
      · have HS2 := Lib.hid (HS1.out.below hb2)
        obtain ⟨d0,d1⟩ := HCB.out _ HS2.out.2.2
        obtain ⟨⟨z0,z1,z2,z3⟩,y0,y1,y2,y3⟩ := HS2.out.cells
        have hno : readD L (h + 1) t i = none := by show _ = _; rw [HRD.out]; exact if_neg (by rintro ⟨_,h,_⟩; exact hk h)
        have HB := Lib.hid (HBAD.out w2 rb _ hno HS2.out rfl)
        clear hno hk hb2
        by_cases hkd : kd = 3
        · subst hkd
          go_wp2_with fail
          obtain ⟨⟨q0,q1,q2,q3⟩,hfin⟩ := HB.out
          refine bodyPost_ret (v := .agg #[.slice none 0 0,.int .i64 0,.bool true,.int .i64 0]) (by simp [results,Tryz.results10,go_sem,q0,q1,q2,q3]) rfl hfin
        · go_wp2_with fail
          obtain ⟨⟨q0,q1,q2,q3⟩,hfin⟩ := HB.out
          refine bodyPost_ret (v := .agg #[.slice none 0 0,.int .i64 0,.bool true,.int .i64 0]) (by simp [results,Tryz.results10,go_sem,q0,q1,q2,q3]) rfl hfin
end Go.Proofs.YtneammhkgmkkfaaGreatDoor.tr
