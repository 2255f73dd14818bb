/- A part of the proof. -/
import Derived.Test.YtneammhkgmkkfaaGreatPTpI
namespace Go.Proofs.YtneammhkgmkkfaaGreat.tr
open Go.RowKit Go.Proofs.YtneammhkgmkkfaaGreat.er
set_option linter.unusedVariables false
set_option linter.unusedSimpArgs false
theorem kid_hyps {L : Bk} {h : Nat} {n : Nd (h + 1)} (hl : LieZ L n) (hn : (ats n).Nodup) (hr : ∀ a ∈ ats n,0 ≤ a ∧ a < 2048) (hk : Kw n) (hc : Chk (flat n)) : ∀ k ∈ n.ks,LieZ L k ∧ (ats k).Nodup ∧ (∀ a ∈ ats k,0 ≤ a ∧ a < 2048) ∧ Kw k ∧ Chk (flat k) ∧ Big k ∧ 1 ≤ k.size ∧ k.size ≤ 8 ∧ 4 ≤ k.size := by
  intro k hm
  have hw := hk k hm
  have hat := ats_in n
  have hck : Chk (flat k) := by
    obtain ⟨P,Q,e⟩ := List.append_of_mem hm
    have : Chk (flats n.ks) := hc
    rw [e,flats_append,flats_cons] at this
    exact this.right.left
  refine ⟨lie_kids hl k hm,nodup_kid (by rw [hat] at hn; exact (List.nodup_append.1 hn).1) k hm,fun a ha => hr a ?_,hw.2,hck,?_,by omega,hw.1.2,hw.1.1⟩
  · rw [hat]
    exact List.mem_append_left _ (List.mem_flatMap.2 ⟨k,hm,ha⟩)
  · cases h with
    | zero => trivial
    | succ h => show 2 ≤ k.ks.length; have : 4 ≤ k.ks.length := hw.1.1; omega
set_option maxHeartbeats 16000000 in
set_option maxRecDepth 100000 in
theorem says_inner {h : Nat} (hh : h ≤ 50) (ih : SaysCtr h) : SaysCtr (h + 1) := by
  intro w v L nd top ho hlie hnd hrg hk hc hb h1 h8 ht
  have hkid := kid_hyps hlie hnd hrg hk hc
  have hb' : 2 ≤ nd.ks.length := hb
  have h8' : nd.ks.length ≤ 8 := h8
  have hat' := ats_in nd
  have hsub : (nd.ks.map Nd.at_).Sublist (ats nd) := by
    rw [hat']
    exact (kids_sub nd.ks).trans (List.sublist_append_left _ _)
  have hko := kids_ok hk hc (fun a ha => hrg a (hsub.subset ha)) (hnd.sublist hsub)
  have hkl : (kidsN nd).length = nd.ks.length := by unfold kidsN; simp
  have hg : getB L nd.at_ = some (3,⟨(innerL (kidsN nd)).toArray⟩) := lie_top hlie
  have hat := hrg _ (at_mem nd)
  obtain ⟨i,hi⟩ : ∃ i : Nat,nd.at_ = i := ⟨nd.at_.toNat,by omega⟩
  have hgi : L[i]? = some (3,⟨(innerL (kidsN nd)).toArray⟩) := by
    rw [hi] at hg
    unfold getB at hg
    rw [if_neg (by omega)] at hg
    simpa using hg
  have hiL := (List.getElem?_eq_some_iff.1 hgi).1
  obtain ⟨A,c,rfl⟩ := own_slice ho
  obtain ⟨g,rfl,_,_,_,hcell,_⟩ := own_cell ho (by omega)
  obtain ⟨k0,k1⟩ := bkCells_at L i _ hgi
  have c0 := hcell _ _ k0
  have c1 := hcell _ _ k1
  have HRL := Lib.hid (fun wq => rreadInner_ok (kidsN nd) wq hko (by omega) (by omega))
  obtain ⟨H,hH⟩ : ∃ H : Int,((h + 1 : Nat) : Int) + 1 = H := ⟨_,rfl⟩
  have HSY : Hid (∀ wq (k : Nd h),k ∈ nd.ks → Below w.heap.size w wq → Calls Tryz.prog 32 #[.slice (some ⟨g,0,none⟩) L.length c,.int .i64 k.at_,.int .i64 (H - 1),.bool false] wq (SaysRet k wq)) := by
    intro wq k hm hbq
    obtain ⟨p1,p2,p3,p4,p5,p6,p7,p8,p9⟩ := hkid k hm
    have := ih wq _ L k false (own_below ho hbq) p1 p2 p3 p4 p5 p6 p7 p8 (.inr p9)
    rw [show (h : Int) + 1 = H - 1 by omega] at this
    exact this
  have HFN : Hid (firstN nd = (nd.ks.map firstN).headD 0) := by
    show (match nd.ks with | [] => (0 : Int) | k :: _ => firstN k) = _
    cases nd.ks <;> rfl
  have HSUM : Hid (∀ (j : Nat) (k : Nd h),nd.ks[j]? = some k → ((nd.ks.take j).map cntN).sum + cntN k ≤ 2048) := by
    intro j k hj
    have hcb := cnt_bound hnd hrg
    have hcn : cntN nd = 1 + (nd.ks.map cntN).sum := rfl
    obtain ⟨i1,e1⟩ := List.getElem?_eq_some_iff.1 hj
    have e2 : nd.ks = nd.ks.take j ++ k :: nd.ks.drop (j + 1) := by
      rw [← e1,← List.drop_eq_getElem_cons i1,List.take_append_drop]
    have e3 : (nd.ks.map cntN).sum = ((nd.ks.take j).map cntN).sum + (cntN k + ((nd.ks.drop (j + 1)).map cntN).sum) := by
      conv => lhs; rw [e2]
      simp
    omega
  have HLN : Hid (∀ (j : Nat) (k : Nd h) (q : Nat),nd.ks[j]? = some k → (flat k).length ≤ 16777216 ∧ (flats (nd.ks.take j) ++ (flat k).take q).length ≤ 16777216) := by
    intro j k q hj
    have hcl := chk_len hc
    have e0 : flat nd = flats nd.ks := rfl
    obtain ⟨i1,e1⟩ := List.getElem?_eq_some_iff.1 hj
    have e2 : nd.ks = nd.ks.take j ++ k :: nd.ks.drop (j + 1) := by
      rw [← e1,← List.drop_eq_getElem_cons i1,List.take_append_drop]
    have e3 : (flats nd.ks).length = (flats (nd.ks.take j)).length + ((flat k).length + (flats (nd.ks.drop (j + 1))).length) := by
      conv => lhs; rw [e2]
      rw [flats_append,flats_cons,List.length_append,List.length_append]
    rw [e0] at hcl
    have e4 : ((flat k).take q).length ≤ (flat k).length := List.length_take_le' _ _
    rw [List.length_append]
    omega
  have HSM := Lib.hid (fun wq => rsmall_any top (nd.ks.length : Int) 2 wq)
  have hsm := rsmall_no (least := 2) (n := nd.ks.length) (ht) hb'
  have HKS : Hid (∀ (j : Nat) (k : Nd h),nd.ks[j]? = some k → (kidsN nd)[j]? = some ⟨firstN k,k.at_⟩) := by
    intro j k hj
    unfold kidsN
    rw [List.getElem?_map,hj]
    rfl
  obtain ⟨N,hN⟩ : ∃ N,L.length = N := ⟨_,rfl⟩
  obtain ⟨m,hm⟩ : ∃ m,nd.ks.length = m := ⟨_,rfl⟩
  obtain ⟨ks,hks⟩ : ∃ ks,kidsN nd = ks := ⟨_,rfl⟩
  obtain ⟨S,hS⟩ : ∃ S : ByteArray,(⟨(innerL ks).toArray⟩ : ByteArray) = S := ⟨_,rfl⟩
  simp only at c0 c1
  rw [hks,hS] at c1
  rw [hks] at HRL HKS hkl
  rw [hS,hkl,hm] at HRL
  rw [hm] at hb' h8' HSM hsm
  have hsm' : rsmallB top (m : Int) 2 = false := hsm
  rw [hsm'] at HSM
  rw [hN] at hiL HSY ⊢
  rw [hi,hH]
  have hiN : (i : Int) < (N : Int) := by omega
  have hi0 : (0 : Int) ≤ (i : Int) := by omega
  have hm0 : (0 : Int) < (m : Int) := by omega
  have hm0n : 0 < m := by omega
  have hH1 : 2 ≤ H := by omega
  have hH2 : H ≤ 100 := by omega
  have hH3 : (H == 1) = false := by simp; omega
  have HML := Lib.hid hm
  have HCB : Hid (∀ w',Below w.heap.size w w' → w'.cell? ⟨g,i * 2,none⟩ = some (.int .i64 3)) := fun w' hb => below_c hb c0
  clear ho hlie hnd hrg hk hc hb h1 h8 hg hgi hcell k0 k1 hat hi hN hm hS hks hkl hsm hsm' hko hsub hat' hkid ih hH ht
  go_enter Tryz.func32,Tryz.ntmps32
  go_wp2_with fail
  obtain ⟨rb,hrb⟩ : ∃ rb,w.heap.size = rb := ⟨_,rfl⟩
  obtain ⟨w1,hw1⟩ : ∃ w1,w.alloc (.cells #[.slice none 0 0,.int .i64 0,.bool false,.int .i64 0] 67) = w1 := ⟨_,rfl⟩
  have HW1 : Hid (Whole w1 rb 67 #[.slice none 0 0,.int .i64 0,.bool false,.int .i64 0] ∧ Below w.heap.size w w1) := by
    show _ ∧ _
    rw [← hw1,← hrb]
    exact ⟨Whole.new _ _ _,(Below.refl _ _).alloc (Nat.le_refl _) _⟩
  rw [hw1]
  try rw [hrb]
  with_reducible refine (HRL.out _).mono ?_
  rintro x w2 ⟨B,c2,rfl,ho2,hb2⟩
  have HB2 : Hid (Below w.heap.size w w2) := HW1.out.2.trans (hb2.mono HW1.out.2.size)
  have HWR : Hid (Whole w2 rb 67 #[.slice none 0 0,.int .i64 0,.bool false,.int .i64 0]) := HW1.out.1.below hb2 HW1.out.1.lt
  obtain ⟨gk,rfl,_,_,_,hkc,_⟩ := own_cell ho2 hm0n
  have HKC : Hid (∀ (j : Nat) (k : Nd h) wq,nd.ks[j]? = some k → Below w2.heap.size w2 wq → wq.cell? ⟨gk,j * 2,none⟩ = some (.int .i64 (firstN k)) ∧ wq.cell? ⟨gk,j * 2 + 1,none⟩ = some (.int .i64 k.at_)) := by
    intro j k wq hj hb
    obtain ⟨d0,d1⟩ := kidCells_at ks j _ (HKS.out j k hj)
    exact ⟨below_c hb (hkc _ _ d0),below_c hb (hkc _ _ d1)⟩
  obtain ⟨kf,hkf⟩ : ∃ k,nd.ks[0]? = some k := ⟨_,List.getElem?_eq_getElem (by rw [HML.out]; exact hm0n)⟩
  have f0 := (HKC.out 0 kf w2 hkf (Below.refl _ _)).1
  simp only [Nat.zero_mul] at f0
  have b0 := HCB.out w2 HB2.out
  clear ho2 hb2 hw1 c0 c1 hkc
  go_wp2_with fail
  with_reducible refine (HSM.out _).mono ?_
  rintro x w3 ⟨rfl,rfl⟩
  go_wp2_with fail
  have HNW := Lib.hid (sy_new (w := w2) (firstN kf) (Below.refl w2.heap.size w2))
  obtain ⟨bo,hbo⟩ : ∃ bo,w2.heap.size = bo := ⟨_,rfl⟩
  obtain ⟨w4,hw4⟩ : ∃ w4,w2.alloc (.cells #[.slice none 0 0,.int .i64 (firstN kf),.bool false,.int .i64 1] 67) = w4 := ⟨_,rfl⟩
  have HS4 : Hid (SyW w2 bo (firstN kf) 1 [] none 0 w4) := by show SyW _ _ _ _ _ _ _ _; rw [← hw4,← hbo]; exact HNW.out
  have HBO := Lib.hid hbo
  rw [hw4]
  try rw [hbo]
  clear hw4 hbo HNW f0 b0
  go_loopw [14,15,16] (fun s14 s15 s16 wr => ∃ (j : Nat) (A' : Option Addr) (d : Nat),j ≤ m ∧ s14 = .int .i64 j ∧ Hid (SyW w2 bo (firstN kf) (1 + (((nd.ks.take j).map cntN).sum : Nat)) (flats (nd.ks.take j)) A' d wr)) (fun s14 _ _ _ => m - (intOf s14).toNat)
  case atStart => exact ⟨0,none,0,Nat.zero_le _,rfl,HS4⟩
  case round =>
    obtain ⟨j,A',d,hj,rfl,HSY4⟩ := hrel
    by_cases hlt : j < m
    · have hji : (j : Int) < (m : Int) := by omega
      have hj0 : (0 : Int) ≤ (j : Int) := by omega
      obtain ⟨k,hkj⟩ : ∃ k,nd.ks[j]? = some k := ⟨_,List.getElem?_eq_getElem (by rw [HML.out]; exact hlt)⟩
      obtain ⟨d0,d1⟩ := HKC.out j k wr hkj HSY4.out.bel
      have HCALL := Lib.hid (HSY.out wr k (List.mem_of_getElem? hkj) (HB2.out.trans (HSY4.out.bel.mono HB2.out.size)))
      go_wp2_with fail
      with_reducible refine HCALL.out.mono ?_
      rintro x w5 ⟨Aq,cq,rfl,ho5,hb5⟩
      obtain ⟨bs,hbs⟩ : ∃ bs,w5.heap.size = bs := ⟨_,rfl⟩
      obtain ⟨mq,hmq⟩ : ∃ mq,(flat k).length = mq := ⟨_,rfl⟩
      obtain ⟨cn,hcn⟩ : ∃ cn,cntN k = cn := ⟨_,rfl⟩
      obtain ⟨fk,hfk⟩ : ∃ fk,firstN k = fk := ⟨_,rfl⟩
      rw [hmq] at ho5
      rw [hmq,hcn,hfk]
      rw [hfk] at d0
      obtain ⟨w6,hw6⟩ : ∃ w6,w5.alloc (.cells #[.slice Aq mq cq,.int .i64 fk,.bool false,.int .i64 cn] 67) = w6 := ⟨_,rfl⟩
      have HW6 : Hid (Whole w6 bs 67 #[.slice Aq mq cq,.int .i64 fk,.bool false,.int .i64 cn] ∧ Below w5.heap.size w5 w6) := by
        show _ ∧ _
        rw [← hw6,← hbs]
        exact ⟨Whole.new _ _ _,(Below.refl _ _).alloc (Nat.le_refl _) _⟩
      have HSY5 := Lib.hid (HSY4.out.below hb5)
      have HSY6 := Lib.hid (HSY5.out.below HW6.out.2)
      have HO6 := Lib.hid (own_below ho5 HW6.out.2)
      have e1 := HW6.out.1.cell 1
      have e2 := HW6.out.1.cell 2
      simp at e1 e2
      have e0 := (HKC.out j k w6 hkj HSY6.out.bel).1
      rw [hfk] at e0
      have HKQ : Hid (∀ w',Below w6.heap.size w6 w' → w'.cell? ⟨bs,1,none⟩ = some (.int .i64 fk) ∧ w'.cell? ⟨bs,2,none⟩ = some (.bool false) ∧ w'.cell? ⟨gk,j * 2,none⟩ = some (.int .i64 fk)) := fun w' hb => ⟨below_c hb e1,below_c hb e2,below_c hb e0⟩
      clear d0 d1 ho5 hb5
      go_wp2_with fail
      go_region_held3 (fun w' => w'.cell? ⟨bs,1,none⟩ = some (.int .i64 fk) ∧ w'.cell? ⟨bs,2,none⟩ = some (.bool false) ∧ w'.cell? ⟨gk,j * 2,none⟩ = some (.int .i64 fk)) (first | exact HKQ.out _ (by repeat (first | with_reducible exact Below.refl _ _ | refine Below.drew ?_))) (fail)
      obtain ⟨w7,hw7⟩ : ∃ w7,w6.drew = w7 := ⟨_,rfl⟩
      have HD7 : Hid (Below w6.heap.size w6 w7) := by show Below _ _ _; rw [← hw7]; exact (Below.refl _ _).drew
      rw [hw7]
      clear hw7 HKQ e0 e1 e2
      have HSY7 := Lib.hid (HSY6.out.below HD7.out)
      have HWS7 : Hid (Whole w7 bs 67 #[.slice Aq mq cq,.int .i64 fk,.bool false,.int .i64 cn]) := HW6.out.1.below HD7.out HW6.out.1.lt
      have HO7 := Lib.hid (own_below HO6.out HD7.out)
      have s3 := HWS7.out.cell 3
      have tf3 := HSY7.out.box.fz 3
      simp at s3
      have hsm := HSUM.out j k hkj
      rw [hcn] at hsm
      obtain ⟨nj,hnj⟩ : ∃ nj,((nd.ks.take j).map cntN).sum = nj := ⟨_,rfl⟩
      rw [hnj] at hsm
      have t3 : w7.cell? ⟨bo,3,none⟩ = some (.int .i64 (1 + (nj : Int))) := by rw [← hnj]; simpa using HSY7.out.box.cell 3
      have hnb : (nj : Int) + (cn : Int) ≤ 2048 := by omega
      have hnb2 : (0 : Int) ≤ (nj : Int) := by omega
      have hnb3 : (0 : Int) ≤ (cn : Int) := by omega
      go_wp2_with fail
      obtain ⟨w8,hw8⟩ : ∃ w8,w7.setCell ⟨bo,3,none⟩ (.int .i64 (1 + (nj : Int) + (cn : Int))) = w8 := ⟨_,rfl⟩
      have hkeep8 : Keep (fun k => k = bo) w7 w8 := by rw [← hw8]; exact Keep.set1 w7 bo 3 _
      have hsb : bs ≠ bo := by
        intro e
        have h1 := HSY5.out.box.lt
        omega
      have HSI : Hid (SyI w2 bo bs (firstN kf) (1 + (nj : Int) + (cn : Int)) (flats (nd.ks.take j)) A' d wr.heap.size Aq cq fk cn (flat k) 0 w8) := by
        have hs8 := sy_nodes (by rw [← HBO.out]; exact Nat.le_refl _) HSY7.out (1 + (nj : Int) + (cn : Int))
        rw [hw8] at hs8
        have hrow := HO7.out
        have hbox := HWS7.out
        rw [← hmq] at hrow hbox
        refine ⟨by simpa using hs8,hbox.keep hkeep8 hsb,own_keep hrow hkeep8 (fun g hg hk => own_ne hrow HSY7.out.box (by decide) (by rw [hg,show g = bo from hk])),hsb,fun g hg e => ?_⟩
        have h1 := (hrow.lt g hg).1
        have h2 := (HSY4.out.row.lt g (by simpa using e)).2
        omega
      obtain ⟨B0,hB0⟩ : ∃ B0,wr.heap.size = B0 := ⟨_,rfl⟩
      rw [hB0] at HSI
      rw [hw8]
      clear hw8 hkeep8 s3 t3 tf3 hsb hB0
      go_loopw [16] (fun s16 wq => ∃ (q : Nat) (A2 : Option Addr) (d2 : Nat),q ≤ mq ∧ s16 = .int .i64 q ∧ Hid (SyI w2 bo bs (firstN kf) (1 + (nj : Int) + (cn : Int)) (flats (nd.ks.take j)) A2 d2 B0 Aq cq fk cn (flat k) q wq)) (fun s16 _ => mq - (intOf s16).toNat)
      case atStart => exact ⟨0,A',d,Nat.zero_le _,rfl,HSI⟩
      case round =>
        obtain ⟨q,A2,d2,hq,rfl,HI⟩ := hrel
        have v0 : wr.cell? ⟨bs,0,none⟩ = some (.slice Aq mq cq) := by rw [← hmq]; simpa using HI.out.box.cell 0
        by_cases hql : q < mq
        · have hqi : (q : Int) < (mq : Int) := by omega
          have hq0 : (0 : Int) ≤ (q : Int) := by omega
          obtain ⟨e,he⟩ : ∃ e,(flat k)[q]? = some e := ⟨_,List.getElem?_eq_getElem (by rw [hmq]; exact hql)⟩
          have hrow := HI.out.row
          rw [hmq] at hrow
          obtain ⟨gq,rfl,_,_,_,hcq,_⟩ := own_cell hrow (by omega)
          obtain ⟨x0,x1,x2,x3⟩ := extCells_at (flat k) q e he
          have u0 := hcq _ _ x0
          have u1 := hcq _ _ x1
          have u2 := hcq _ _ x2
          have u3 := hcq _ _ x3
          have HPUT := Lib.hid (fun w6 g2 c2 => syi_put (w6 := w6) (g2 := g2) (c2 := c2) (by rw [← HBO.out]; exact Nat.le_refl _) HI.out he)
          have HPK := Lib.hid (fun w6 g2 c2 q1 q2 => (sy_put (w6 := w6) (g2 := g2) (c2 := c2) (e := e) (by rw [← HBO.out]; exact Nat.le_refl _) HI.out.out q1 q2).1)
          have v1 := HI.out.out.box.cell 0
          obtain ⟨LL,hLL⟩ : ∃ LL,flats (nd.ks.take j) ++ (flat k).take q = LL := ⟨_,rfl⟩
          obtain ⟨n2,hn2⟩ : ∃ n2,LL.length = n2 := ⟨_,rfl⟩
          have hro := HI.out.out.row
          rw [hLL,hn2] at HPUT HPK hro v1
          simp at v1
          have HRO := Lib.hid hro
          obtain ⟨ef,en,ek,et⟩ := e
          simp only at u0 u1 u2 u3 HPUT HPK
          have HSZ : Hid (w2.heap.size ≤ wr.heap.size) := HI.out.out.bel.size
          clear hrow hcq x0 x1 x2 x3 hro he
          obtain ⟨i0,hi0,hz0,hz1,hz2⟩ := info_parts infoR
          have HNEW : Hid (∀ (j' : Nat) (u : Value),([.int .i64 ef,.int .i64 en,.int .i64 ek,.int .i64 et] : List Value)[j']? = some u → (wr.drew.alloc (.cells #[.int .i64 ef,.int .i64 en,.int .i64 ek,.int .i64 et] 49)).cell? ((⟨wr.heap.size,0,none⟩ : Addr).add j') = some u) := World.news_of_block (w := wr.drew.alloc (.cells #[.int .i64 ef,.int .i64 en,.int .i64 ek,.int .i64 et] 49)) (heap_alloc_new wr.drew _)
          have HONE : Hid (∀ u ∈ ([.int .i64 ef,.int .i64 en,.int .i64 ek,.int .i64 et] : List Value),u.oneCell' = true) := by show ∀ u ∈ _,_; simp [Value.oneCell']
          have HOA := Lib.hid ((own_below HRO.out (Below.refl _ _).drew).alloc (.cells #[.int .i64 ef,.int .i64 en,.int .i64 ek,.int .i64 et] 49))
          have HSZ2 : Hid (w2.heap.size ≤ (wr.drew.alloc (.cells #[.int .i64 ef,.int .i64 en,.int .i64 ek,.int .i64 et] 49)).heap.size) := by show _ ≤ _; simp only [World.size_alloc]; exact Nat.le_succ_of_le HSZ.out
          have hn2m : n2 ≤ 100000000 := by
            have := (HLN.out j k q hkj).2
            rw [hLL,hn2] at this
            omega
          have hqm : (mq : Int) ≤ 100000000 := by
            have := (HLN.out j k q hkj).1
            rw [hmq] at this
            omega
          have v1a : (wr.alloc (.cells #[.int .i64 ef,.int .i64 en,.int .i64 ek,.int .i64 et] 49)).cell? ⟨bo,0,none⟩ = some (.slice A2 n2 d2) := below_c ((Below.refl wr.heap.size wr).alloc (Nat.le_refl _) _) v1
          go_wp2_with fail
          go_region_law ((refine step_append_lies _ ?_ (.tmp 133) (.tmp 139) 24 ?_ w2.heap.size 49 i0 (.agg #[.int .i64 0,.int .i64 0,.int .i64 0,.int .i64 0]) 4 32 Tryz.underlying24 hi0 hz0 hz1 hz2 (by rfl) (by omega) (.slice A2 n2 d2) n2 (extCells LL) (by rfl) HOA.out ⟨wr.heap.size,0,none⟩ 1 1 [.int .i64 ef,.int .i64 en,.int .i64 ek,.int .i64 et] (by rfl) (by rfl) HNEW.out HONE.out (by omega) (by unfold maxLen; omega) (by omega) HSZ2.out (wr.heap.size + 1) (by simp) ?_; rfl; rfl; (intro g2 c2' w6 hown6 hg6 hat6 hlt6; obtain ⟨q6,z6⟩ := HPK.out w6 g2 c2' hown6 hg6; have HP6 := Lib.hid (HPUT.out w6 g2 c2' hown6 hg6 (by rcases hat6 with h | h; exact .inl h; exact .inr (by omega))); clear hown6 hg6 hat6)))
          all_goals
            go_wp2_with fail
            have hmeas : mq - (intOf (.int .i64 ((q : Int) + 1))).toNat < mq - (intOf (.int .i64 (q : Int))).toNat := by simp [intOf]; omega
            refine ⟨⟨q + 1,some ⟨g2,0,none⟩,c2',?_,?_,HP6⟩,hmeas⟩
            · omega
            · go_num
        · obtain rfl : q = mq := by omega
          have HFIN : Hid (SyW w2 bo (firstN kf) (1 + ((((nd.ks.take (j + 1)).map cntN).sum : Nat) : Int)) (flats (nd.ks.take (j + 1))) A2 d2 wr) := by
            show SyW _ _ _ _ _ _ _ _
            have h := HI.out.out
            have e1 : nd.ks.take (j + 1) = nd.ks.take j ++ [k] := by rw [List.take_add_one,hkj]; rfl
            have e2 : flats (nd.ks.take (j + 1)) = flats (nd.ks.take j) ++ (flat k).take q := by
              rw [e1,flats_append,flats_cons,← hmq,List.take_length]
              simp [flats]
            have e3 : (1 : Int) + ((((nd.ks.take (j + 1)).map cntN).sum : Nat) : Int) = 1 + (nj : Int) + (cn : Int) := by
              rw [e1,List.map_append,List.sum_append,hnj]
              simp [hcn]
              omega
            rw [e2,e3]
            exact h
          go_wp2_with fail
          have hmeas : m - (intOf (.int .i64 ((j : Int) + 1))).toNat < m - (intOf (.int .i64 (j : Int))).toNat := by simp [intOf]; omega
          refine ⟨⟨j + 1,A2,d2,?_,?_,HFIN⟩,hmeas⟩
          · omega
          · go_num
    · obtain rfl : j = m := by omega
      have hfull : nd.ks.take j = nd.ks := by rw [← HML.out]; exact List.take_length
      rw [hfull] at HSY4
      have hrw : Whole wr rb 67 #[.slice none 0 0,.int .i64 0,.bool false,.int .i64 0] := HWR.out.below HSY4.out.bel HWR.out.lt
      have HRB := Lib.hid hrw
      obtain ⟨FL,hFL⟩ : ∃ FL,flats nd.ks = FL := ⟨_,rfl⟩
      obtain ⟨SU,hSU⟩ : ∃ SU,(nd.ks.map cntN).sum = SU := ⟨_,rfl⟩
      rw [hFL,hSU] at HSY4
      have HFT : Hid (firstN nd = firstN kf) := by
        show _ = _
        rw [HFN.out]
        cases hk : nd.ks with
        | nil => rw [hk] at hkf; simp at hkf
        | cons a r => rw [hk] at hkf; simp at hkf; simp [hkf]
      have HEND : Hid (∀ w9,w9 = (((wr.setCell ⟨rb,0,none⟩ (.slice A' FL.length d)).setCell ⟨rb,1,none⟩ (.int .i64 (firstN kf))).setCell ⟨rb,2,none⟩ (.bool false)).setCell ⟨rb,3,none⟩ (.int .i64 (1 + (SU : Int))) → (w9.cell? ⟨rb,0,none⟩ = some (.slice A' FL.length d) ∧ w9.cell? ⟨rb,1,none⟩ = some (.int .i64 (firstN kf)) ∧ w9.cell? ⟨rb,2,none⟩ = some (.bool false) ∧ w9.cell? ⟨rb,3,none⟩ = some (.int .i64 (1 + (SU : Int)))) ∧ SaysRet nd w (.returned (.agg #[.slice A' FL.length d,.int .i64 (firstN kf),.bool false,.int .i64 (1 + (SU : Int))])) w9) := by
        intro w9 h9
        have hk : Keep (fun k => k = rb) wr w9 := by
          rw [h9]
          exact ((((Keep.refl (fun k => k = rb) wr).setCell (p := ⟨rb,0,none⟩) (.inl rfl) _).setCell (p := ⟨rb,1,none⟩) (.inl rfl) _).setCell (p := ⟨rb,2,none⟩) (.inl rfl) _).setCell (p := ⟨rb,3,none⟩) (.inl rfl) _
        have hW9 : Whole w9 rb 67 #[.slice A' FL.length d,.int .i64 (firstN kf),.bool false,.int .i64 (1 + (SU : Int))] := by
          rw [h9]
          simpa using ((((HRB.out.set 0 (.slice A' FL.length d)).set 1 (.int .i64 (firstN kf))).set 2 (.bool false)).set 3 (.int .i64 (1 + (SU : Int))))
        have q0 := hW9.cell 0
        have q1 := hW9.cell 1
        have q2 := hW9.cell 2
        have q3 := hW9.cell 3
        simp at q0 q1 q2 q3
        have hrow := own_le HSY4.out.row HB2.out.size
        have hbel := HB2.out.trans (HSY4.out.bel.mono HB2.out.size)
        have hrbw : w.heap.size ≤ rb := by rw [hrb]; exact Nat.le_refl _
        refine ⟨⟨q0,q1,q2,q3⟩,?_⟩
        have hcn : ((cntN nd : Nat) : Int) = 1 + (SU : Int) := by
          have : cntN nd = 1 + (nd.ks.map cntN).sum := rfl
          rw [this,hSU]; omega
        have hfl : flat nd = FL := hFL
        show ∃ A c,_ ∧ _ ∧ _
        rw [hfl,HFT.out,hcn]
        exact ⟨A',d,rfl,own_keep hrow hk (fun j hj e => own_ne hrow HRB.out (by decide) (by rw [hj,e])),hbel.trans (hk.toBelow hbel.size (fun k hk => by have hk' : k = rb := hk; omega))⟩
      have o0 := HSY4.out.box.cell 0
      have o1 := HSY4.out.box.cell 1
      have o2 := HSY4.out.box.cell 2
      have o3 := HSY4.out.box.cell 3
      have z0 := hrw.cell 0
      have z1 := hrw.cell 1
      have z2 := hrw.cell 2
      have z3 := hrw.cell 3
      simp at o0 o1 o2 o3 z0 z1 z2 z3
      have y0 := hrw.fz 0
      have y1 := hrw.fz 1
      have y2 := hrw.fz 2
      have y3 := hrw.fz 3
      go_wp2_with fail
      obtain ⟨⟨q0,q1,q2,q3⟩,hfin⟩ := HEND.out _ rfl
      refine bodyPost_ret (v := .agg #[.slice A' FL.length d,.int .i64 (firstN kf),.bool false,.int .i64 (1 + (SU : Int))]) (by simp [results,Tryz.results32,go_sem,q0,q1,q2,q3]) rfl hfin
end Go.Proofs.YtneammhkgmkkfaaGreat.tr
