/- A part of the proof. -/
import Derived.Test.YtneammhkgmkkfaaGreatDoorPTqD
namespace Go.Proofs.YtneammhkgmkkfaaGreatDoor.tr
open Go.RowKit Go.Proofs.YtneammhkgmkkfaaGreatDoor.er
set_option linter.unusedVariables false
set_option linter.unusedSimpArgs false
open Classical in
set_option maxHeartbeats 16000000 in
set_option maxRecDepth 100000 in
theorem rd_inner {h : Nat} (hh : h ≤ 50) (ih : RdCtr h) : RdCtr (h + 1) := by
  intro w r bb G L top pg hr hsz hpg
  have c0 := hr.1.cell 0
  have c1 := hr.1.cell 1
  simp at c0 c1
  have HG := Lib.hid (get_any w G bb L pg hr.2 hpg)
  have HC1 : Hid (∀ wq,Below w.heap.size w wq → wq.cell? ⟨r,1,none⟩ = some (.int .i64 top)) := fun wq hb => below_c hb c1
  have HRN : Hid (readN L top (h + 1) pg = match getB L pg with | none => none | some p => if p.1 = 3 ∧ (okK p.2 = true ∧ MayK (kidsD p.2)) ∧ smallB pg top (kidsD p.2).length 2 = false then (rdKids (readN L top h) (kidsD p.2)).map (fun t => mkI pg t) else none) := by show _ = _; rfl
  have HWR := Lib.hid (fun op c h wq => wrapErr_any op pg c h wq)
  have HERR : Hid (∀ y wq,readN L top (h + 1) pg = none → ErrAt wq (.iface 88 y) → Below w.heap.size w wq → RdPost (readN L top (h + 1) pg) w (.returned (.tuple #[.nilIface,.iface 88 y])) wq) := by
    intro y wq h1 h2 h3
    rw [h1]
    exact ⟨y,rfl,h2,h3⟩
  have HSM := Lib.hid (fun wq n hb => small_any r pg top n 2 wq (HC1.out wq hb))
  obtain ⟨H,hH⟩ : ∃ H : Int,((h + 1 : Nat) : Int) + 1 = H := ⟨_,rfl⟩
  have HRD : Hid (∀ wq k,Below w.heap.size w wq → I64 k → Calls Tryz.prog 23 #[.pointer (some ⟨r,0,none⟩),.int .i64 k,.int .i64 (H - 1)] wq (RdPost (readN L top h k) wq)) := by
    intro wq k hb hk
    have := ih wq r bb G L top k (hr.below hb) hsz hk
    rw [show (h : Int) + 1 = H - 1 by omega] at this
    exact this
  rw [hH]
  have hH1 : 2 ≤ H := by omega
  have hH2 : H ≤ 100 := by omega
  have hH3 : ¬ H = 1 := by omega
  clear hH ih
  cases hgb : getB L pg with
  | none =>
    rw [hgb] at HG HRN
    have HNN : Hid (readN L top (h + 1) pg = none) := HRN.out
    clear hr hsz hpg hgb HRN HSM HC1 HRD
    go_enter Tryz.func23,Tryz.ntmps23
    go_wp2_with fail
    with_reducible refine HG.out.mono ?_
    rintro e w1 ⟨rfl,hb1⟩
    have HB1 := Lib.hid hb1
    clear hb1
    go_wp2_with fail
    with_reducible refine (HWR.out _ 4 (.inr rfl) _).mono ?_
    rintro e w2 ⟨y,rfl,he2,hb2⟩
    have HE := Lib.hid (HERR.out y w2 HNN.out he2 (HB1.out.trans (hb2.mono HB1.out.size)))
    clear he2 hb2
    go_wp2_with fail
    refine bodyPost_ret (v := .tuple #[.nilIface,.iface 88 y]) (by simp [results,Tryz.results23,go_sem]) rfl HE.out
  | some p =>
    obtain ⟨kd,s⟩ := p
    have hss := hsz _ (getB_mem hgb)
    rw [hgb] at HG HRN
    simp only at hss
    have HRL := Lib.hid (fun wq => readInner_any s wq hss)
    clear hr hsz hpg hgb HC1
    go_enter Tryz.func23,Tryz.ntmps23
    go_wp2_with fail
    with_reducible refine HG.out.mono ?_
    rintro e w1 ⟨rfl,hb1⟩
    have HB1 := Lib.hid hb1
    clear hb1
    go_wp2_with fail
    with_reducible refine (HWR.out _ 3 (.inl rfl) _).mono ?_
    rintro e w2 ⟨y,rfl,he2,hb2⟩
    have HE2 := Lib.hid he2
    have HB2 := Lib.hid (HB1.out.trans (hb2.mono HB1.out.size))
    have HL2 := Lib.hid (HRL.out w2)
    clear he2 hb2
    go_wp2_with fail
    with_reducible refine HL2.out.mono ?_
    rintro e w3 (⟨A,c,rfl,k1,k2,k3,k4⟩ | ⟨rfl,k1,k2⟩)
    · obtain ⟨ks,hks⟩ : ∃ ks,kidsD s = ks := ⟨_,rfl⟩
      rw [hks] at k2 k3 HRN
      obtain ⟨n,hn⟩ : ∃ n,ks.length = n := ⟨_,rfl⟩
      have hn8 : 2 ≤ n ∧ n ≤ 8 := by have := k2.1; have := k2.2.1; omega
      have hni : (n : Int) ≤ 8 := by omega
      have HB3 := Lib.hid (HB2.out.trans (k4.mono HB2.out.size))
      have HE3 := Lib.hid (HE2.out.below k4)
      have HKB : Hid (∀ k ∈ ks,I64 k.key ∧ I64 k.at_) := fun k hk => by
        have := k2.2.2.1 k hk
        unfold kidB at this
        simp at this
        unfold I64
        omega
      rw [hn] at k3
      rw [hks,hn]
      by_cases hk : kd = 3
      · subst hk
        obtain ⟨sb,hsb⟩ : ∃ sb,smallB pg top n 2 = sb := ⟨_,rfl⟩
        have HS3 := Lib.hid (HSM.out w3 n HB3.out)
        rw [hsb] at HS3
        cases sb with
        | true =>
          have HNN : Hid (readN L top (h + 1) pg = none) := by
            show _ = _
            rw [HRN.out]
            exact if_neg (by simp only; rw [hn]; rintro ⟨_,_,h⟩; rw [hsb] at h; cases h)
          have HE := Lib.hid (HERR.out y w3 HNN.out HE3.out HB3.out)
          clear k1 k2 k3 k4 hn hsb hks
          go_wp2_with fail
          with_reducible refine HS3.out.mono ?_
          rintro e w4 ⟨rfl,rfl⟩
          go_wp2_with fail
          refine bodyPost_ret (v := .tuple #[.nilIface,.iface 88 y]) (by simp [results,Tryz.results23,go_sem]) rfl HE.out
        | false =>
          have HSO : Hid (readN L top (h + 1) pg = (rdKids (readN L top h) ks).map (fun t => mkI pg t)) := by
            show _ = _
            rw [HRN.out]
            exact if_pos ⟨rfl,⟨k1,k2⟩,by rw [hn]; exact hsb⟩
          obtain ⟨gk,rfl,_,hgl,hgf,hkc,_⟩ := own_cell k3 (by omega)
          have HKC : Hid (∀ (j : Nat) (k : Kid) wq,ks[j]? = some k → Below w3.heap.size w3 wq → wq.cell? ⟨gk,j * 2,none⟩ = some (.int .i64 k.key) ∧ wq.cell? ⟨gk,j * 2 + 1,none⟩ = some (.int .i64 k.at_)) := by
            intro j k wq hj hb
            obtain ⟨d0,d1⟩ := kidCells_at ks j k hj
            exact ⟨below_c hb (hkc _ _ d0),below_c hb (hkc _ _ d1)⟩
          have HNL := Lib.hid hn
          have HNW := Lib.hid (rdw_new (h := h) (pg := pg) (Below.refl w3.heap.size w3))
          obtain ⟨b,hb⟩ : ∃ b,w3.heap.size = b := ⟨_,rfl⟩
          obtain ⟨w4,hw4⟩ : ∃ w4,w3.alloc (.cells #[.int .i64 pg,.slice none 0 0] 97) = w4 := ⟨_,rfl⟩
          have hb4 : Below w3.heap.size w3 w4 := by rw [← hw4]; exact (Below.refl _ _).alloc (Nat.le_refl _) _
          have HW4 : Hid (RdW w3 b pg ([] : List (Kd h)) none 0 w4) := by
            show RdW _ _ _ _ _ _ _
            rw [← hw4,← hb]
            exact HNW.out
          have HBS := Lib.hid hb
          clear k1 k2 k3 k4 hn hsb hks hgl hgf hkc HNW hb4
          go_wp2_with fail
          with_reducible refine HS3.out.mono ?_
          rintro e w5 ⟨rfl,rfl⟩
          go_wp2_with fail
          try rw [hw4]
          try rw [hb]
          clear hw4 hb
          go_loopw [18,19,20,89] (fun s18 s19 s20 s89 wr => ∃ (j : Nat) (B : Option Addr) (d : Nat) (ds : List (Kd h)),j ≤ n ∧ s89 = .int .i64 j ∧ Hid (RdW w3 b pg ds B d wr) ∧ Hid (RdS (readN L top h) ks j ds)) (fun _ _ _ s89 _ => n - (intOf s89).toNat)
          case atStart => exact ⟨0,none,0,[],Nat.zero_le _,rfl,HW4,rds_new _ _⟩
          case round =>
            obtain ⟨j,B,d,ds,hj,rfl,HW,HS⟩ := hrel
            by_cases hlt : j < n
            · have hji : (j : Int) < (n : Int) := by omega
              obtain ⟨k,hkj⟩ : ∃ k,ks[j]? = some k := ⟨_,List.getElem?_eq_getElem (by rw [HNL.out]; exact hlt)⟩
              obtain ⟨d0,d1⟩ := HKC.out j k wr hkj HW.out.bel
              have HST := Lib.hid (rds_step HS.out hkj)
              have hki := HKB.out k (List.mem_of_getElem? hkj)
              have HRK := Lib.hid (fun wq hb => HRD.out wq k.at_ hb hki.2)
              obtain ⟨ky,ka⟩ := k
              simp only at d0 d1 hki HRK HST
              have hk1 := hki.1
              have hk2 := hki.2
              unfold I64 at hk1 hk2
              clear hki hkj
              obtain ⟨qb,hqb⟩ : ∃ qb,wr.heap.size = qb := ⟨_,rfl⟩
              obtain ⟨wx,hwx⟩ : ∃ wx,wr.alloc (.cells #[.int .i64 ky,.int .i64 ka] 123) = wx := ⟨_,rfl⟩
              have HWX : Hid (Whole wx qb 123 #[.int .i64 ky,.int .i64 ka] ∧ Below wr.heap.size wr wx) := by
                show _ ∧ _
                rw [← hwx,← hqb]
                exact ⟨Whole.new _ _ _,(Below.refl _ _).alloc (Nat.le_refl _) _⟩
              have HBWX : Hid (Below w.heap.size w wx) := HB3.out.trans ((HW.out.bel.mono HB3.out.size).trans (HWX.out.2.mono (Nat.le_trans HB3.out.size HW.out.bel.size)))
              have x0 : wx.cell? ⟨qb,0,none⟩ = some (.int .i64 ky) := by simpa using HWX.out.1.cell 0
              have x1 : wx.cell? ⟨qb,1,none⟩ = some (.int .i64 ka) := by simpa using HWX.out.1.cell 1
              go_wp2_with fail
              with_reducible refine (HRK.out wx HBWX.out).mono ?_
              rintro e w7 hpost
              clear hwx hqb d0 d1 x0 x1
              cases hsub : readN L top h ka with
              | none =>
                rw [hsub] at hpost
                obtain ⟨y7,rfl,he7,hb7⟩ := hpost
                have HNN : Hid (readN L top (h + 1) pg = none) := by
                  show _ = _
                  rw [HSO.out,HST.out.1 hsub]; rfl
                have HE7 := Lib.hid (HERR.out y7 w7 HNN.out he7 (HBWX.out.trans (hb7.mono HBWX.out.size)))
                clear he7 hb7 hsub
                go_wp2_with fail
                refine bodyPost_ret (v := .tuple #[.nilIface,.iface 88 y7]) (by simp [results,Tryz.results23,go_sem]) rfl HE7.out
              | some nd =>
                rw [hsub] at hpost
                obtain ⟨F,b7,rfl,hn7,hf7,hg7,hne7,hb7⟩ := hpost
                have HN7 := Lib.hid (And.intro hn7 (And.intro hf7 (And.intro hg7 (And.intro hne7 hb7))))
                have q0 : w7.cell? ⟨qb,0,none⟩ = some (.int .i64 ky) := by simpa using (HWX.out.1.below hb7 HWX.out.1.lt).cell 0
                have HB7 := Lib.hid (HBWX.out.trans (hb7.mono HBWX.out.size))
                have HBR : Hid (Below wr.heap.size wr w7) := HWX.out.2.trans (hb7.mono HWX.out.2.size)
                have HB37 : Hid (Below w3.heap.size w3 w7) := HW.out.bel.trans (HBR.out.mono HW.out.bel.size)
                have HKQ : Hid (∀ w',Below w7.heap.size w7 w' → w'.cell? ⟨qb,0,none⟩ = some (.int .i64 ky)) := fun w' hb => below_c hb q0
                have hme := fun b w => meFi (.pointer (some ⟨b,0,none⟩)) w h
                have hen := fun b w => enFi #[.pointer (some ⟨b,0,none⟩)] w h
                obtain ⟨fx,hfx⟩ : ∃ fx,firstN nd = fx := ⟨_,rfl⟩
                have HFI : Hid (∀ wq,Below w7.heap.size w7 wq → Calls Tryz.prog (fiF h) #[.pointer (some ⟨b7,0,none⟩)] wq fun e w' => e = .returned (.int .i64 fx) ∧ wq = w') := by
                  intro wq hb
                  rw [← hfx]
                  exact firstNe_any wq h b7 F nd (hn7.keep (Keep.below (F := fun _ => False) hb) (fun _ _ h => h)) hne7
                have HST2 := Lib.hid (HST.out.2 nd hsub)
                rw [hfx] at HST2
                clear hn7 hf7 hg7 hne7 hb7 hsub hfx
                unfold ptrV
                go_wp2_with fail
                go_region_held3 (fun w' => w'.cell? ⟨qb,0,none⟩ = some (.int .i64 ky)) (first | with_reducible exact q0 | exact HKQ.out _ (by repeat (first | with_reducible exact Below.refl _ _ | refine Below.drew ?_))) (((with_reducible refine (HFI.out _ (by repeat (first | with_reducible exact Below.refl _ _ | refine Below.drew ?_))).mono ?_); rintro e w8 ⟨rfl,rfl⟩))
                have HBD : Hid (Below w7.heap.size w7 w7.drew) := (Below.refl _ _).drew
                obtain ⟨w8,hw8⟩ : ∃ w8,w7.drew = w8 := ⟨_,rfl⟩
                rw [hw8] at HBD ⊢
                clear hw8 q0 HKQ
                by_cases hfk : fx = ky
                · subst hfk
                  have HRW : Hid (RdW w3 b pg ds B d w8) := (HW.out.below HBR.out).below HBD.out
                  have hdl : ds.length = j := HS.out.1
                  have HSN : Hid (RdS (readN L top h) ks (j + 1) (ds ++ [(F,ptrV h b7,nd)])) := HST2.out.2 rfl (F,ptrV h b7,nd) rfl
                  obtain ⟨V,hV⟩ : ∃ V : List Value,(ds.map fun d => d.2.1) = V := ⟨_,rfl⟩
                  have hrow := HRW.out.row
                  have hbox := HRW.out.box.cell 1
                  rw [hdl,hV] at hrow
                  rw [hdl] at hbox
                  simp at hbox
                  have HOA := Lib.hid (hrow.alloc (.cells #[.iface (ndT h) (.pointer (some ⟨b7,0,none⟩))] 62))
                  have HNW : Hid (∀ (j' : Nat) (u : Value),([.iface (ndT h) (.pointer (some ⟨b7,0,none⟩))] : List Value)[j']? = some u → (w8.alloc (.cells #[.iface (ndT h) (.pointer (some ⟨b7,0,none⟩))] 62)).cell? ((⟨w8.heap.size,0,none⟩ : Addr).add j') = some u) := World.news_of_block (by simpa using heap_alloc_new w8 (.cells #[.iface (ndT h) (.pointer (some ⟨b7,0,none⟩))] 62))
                  have hone : ∀ u ∈ ([.iface (ndT h) (.pointer (some ⟨b7,0,none⟩))] : List Value),u.oneCell' = true := by simp [Value.oneCell']
                  have HONE := Lib.hid hone
                  have HSZ2 : Hid (w3.heap.size ≤ (w8.alloc (.cells #[.iface (ndT h) (.pointer (some ⟨b7,0,none⟩))] 62)).heap.size) := by
                    show _ ≤ _
                    have := HRW.out.bel.size
                    simp only [World.size_alloc]; omega
                  have HEND : Hid (∀ g2 c2 w6,w6.ownsRow w3.heap.size 62 1 (.slice (some ⟨g2,0,none⟩) (j + 1) c2) (j + 1) (V ++ [.iface (ndT h) (.pointer (some ⟨b7,0,none⟩))]) → (w8.alloc (.cells #[.iface (ndT h) (.pointer (some ⟨b7,0,none⟩))] 62)).grownBy w6 (Value.slice B j d).ownBlock → ((Value.slice B j d).ownBlock = some g2 ∨ g2 = (w8.alloc (.cells #[.iface (ndT h) (.pointer (some ⟨b7,0,none⟩))] 62)).heap.size) → (w6.cell? ⟨b,1,none⟩ = some (.slice B j d) ∧ w6.frozen? ⟨b,1,none⟩ = false) ∧ RdW w3 b pg (ds ++ [(F,ptrV h b7,nd)]) (some ⟨g2,0,none⟩) c2 (w6.setCell ⟨b,1,none⟩ (.slice (some ⟨g2,0,none⟩) (j + 1) c2))) := by
                    intro g2 c2 w6 q1 q2 q3
                    obtain ⟨p1,p2,p3,p4,p5⟩ := HN7.out
                    have hrl := HRW.out
                    have hltB := HW.out.box.lt
                    have hltF := kids_lt HW.out.nds
                    have hwx := HWX.out.2.size
                    have hltR : ∀ k,(Value.slice B ds.length d).ownBlock = some k → k < wr.heap.size := fun k hk => (HW.out.row.lt k hk).2
                    rw [← hdl] at q1 q2 q3 ⊢
                    rw [← hV] at q1
                    refine rdw_put (by rw [← HBS.out]; exact Nat.le_refl _) hrl (p1.keep (Keep.below (F := fun _ => False) HBD.out) (fun _ _ h => h)) p4 p2 (fun k hk => ?_) q1 q2 q3
                    have h1 := p3 k hk
                    have h2 := HW.out.bel.size
                    refine ⟨by omega,by omega,fun e => by have := hltR k e; omega,fun e => by have := hltF k e; omega⟩
                  obtain ⟨i0,hi0,hz0,hz1,hz2⟩ := info_parts infoN
                  have HI0 := Lib.hid hi0
                  have HZ0 := Lib.hid hz0
                  have HZ1 := Lib.hid hz1
                  have HZ2 := Lib.hid hz2
                  have hj8 : (j : Int) ≤ 8 := by omega
                  clear hi0 hz0 hz1 hz2 hone hrow hV
                  go_wp2_with (at_builtin; go_must (refine wpList_append_lies _ rfl (.tmp 115) (.tmp 117) 75 rfl w3.heap.size 62 i0 _ 1 16 Tryz.underlying75 HI0.out HZ0.out HZ1.out HZ2.out rfl (by omega) (.slice B j d) j V rfl HOA.out ⟨w8.heap.size,0,none⟩ 1 1 [.iface (ndT h) (.pointer (some ⟨b7,0,none⟩))] rfl rfl HNW.out HONE.out (by omega) (by simp only [maxLen]; omega) (by omega) HSZ2.out _ rfl ?_; intro g2 c2 w6 hown6 hg6 hat6 _; obtain ⟨⟨z0,z1⟩,hfin⟩ := HEND.out g2 c2 w6 hown6 hg6 hat6; have HFIN := Lib.hid hfin; clear hown6 hg6 hat6 hfin))
                  have hmeas : n - (intOf (.int .i64 ((j : Int) + 1))).toNat < n - (intOf (.int .i64 (j : Int))).toNat := by simp [intOf]; omega
                  refine ⟨⟨j + 1,_,_,_,?_,?_,HFIN,HSN⟩,hmeas⟩
                  · omega
                  · go_num
                · have HNN : Hid (readN L top (h + 1) pg = none) := by
                    show _ = _
                    rw [HSO.out,HST2.out.1 hfk]; rfl
                  have HEQ := Lib.hid (HERR.out y w8 HNN.out ((HE3.out.below HB37.out).below HBD.out) (HB7.out.trans (HBD.out.mono HB7.out.size)))
                  go_wp2_with fail
                  refine bodyPost_ret (v := .tuple #[.nilIface,.iface 88 y]) (by simp [results,Tryz.results23,go_sem]) rfl HEQ.out
            · obtain rfl : j = n := by omega
              have HEQ : Hid (RdPost (readN L top (h + 1) pg) w (.returned (.tuple #[.iface 94 (.pointer (some ⟨b,0,none⟩)),.nilIface])) wr) := by
                show RdPost _ _ _ _
                have hs := HS.out
                have hle : 0 < ds.length := by rw [hs.1]; omega
                rw [← HNL.out] at hs
                rw [HSO.out,rds_end hs]
                obtain ⟨F,m1,m2,m3,m4⟩ := rdw_end (by rw [← HBS.out]; exact Nat.le_refl _) HW.out hle
                have h3 := HB3.out.size
                exact ⟨F,b,rfl,m1,m2,fun k hk => by have := m3 k hk; omega,m4,HB3.out.trans (HW.out.bel.mono h3)⟩
              go_wp2_with fail
              refine bodyPost_ret (v := .tuple #[.iface 94 (.pointer (some ⟨b,0,none⟩)),.nilIface]) (by simp [results,Tryz.results23,go_sem]) rfl HEQ.out
      · have HNN : Hid (readN L top (h + 1) pg = none) := by
          show _ = _
          rw [HRN.out]
          exact if_neg (by rintro ⟨h,_⟩; exact hk h)
        have HE := Lib.hid (HERR.out y w3 HNN.out HE3.out HB3.out)
        clear k1 k2 k3 k4 hn hks
        go_wp2_with fail
        refine bodyPost_ret (v := .tuple #[.nilIface,.iface 88 y]) (by simp [results,Tryz.results23,go_sem]) rfl HE.out
    · have HB3 := Lib.hid (HB2.out.trans (k2.mono HB2.out.size))
      have HNN : Hid (readN L top (h + 1) pg = none) := by
        show _ = _
        rw [HRN.out]
        exact if_neg (by rintro ⟨_,h,_⟩; exact k1 h)
      have HE := Lib.hid (HERR.out y w3 HNN.out (HE2.out.below k2) HB3.out)
      clear k1 k2
      by_cases hk : kd = 3
      · subst hk
        go_wp2_with fail
        refine bodyPost_ret (v := .tuple #[.nilIface,.iface 88 y]) (by simp [results,Tryz.results23,go_sem]) rfl HE.out
      · go_wp2_with fail
        refine bodyPost_ret (v := .tuple #[.nilIface,.iface 88 y]) (by simp [results,Tryz.results23,go_sem]) rfl HE.out
end Go.Proofs.YtneammhkgmkkfaaGreatDoor.tr
