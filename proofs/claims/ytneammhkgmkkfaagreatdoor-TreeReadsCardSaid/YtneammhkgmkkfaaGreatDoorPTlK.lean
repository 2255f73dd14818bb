/- A part of the proof. -/
import Derived.Test.YtneammhkgmkkfaaGreatDoorPFlU
import Derived.Test.YtneammhkgmkkfaaGreatDoorPTlG
import Derived.Test.YtneammhkgmkkfaaGreatDoorPTlI
namespace Go.Proofs.YtneammhkgmkkfaaGreatDoor.tr
open Go.RowKit Go.Proofs.YtneammhkgmkkfaaGreatDoor.er
set_option linter.unusedVariables false
set_option linter.unusedSimpArgs false
theorem sany_any : ∀ h,h ≤ 6 → SAny h
  | 0,_ => sany_leaf
  | h + 1,hh => sany_inner (by omega) (sany_any h (by omega))
theorem err_er {w : World} {v : Value} (h : tr.ErrAt w v) : ∃ b op pg c,er.ErrAt w [b] [(op,pg)] c v ∧ (c = 3 ∨ c = 4) := by
  obtain ⟨b,op,pg,c,rfl,h2,h3⟩ := h
  exact ⟨b,op,pg,c,⟨rfl,_,h2,rfl⟩,h3⟩
set_option maxHeartbeats 32000000 in
set_option maxRecDepth 100000 in
theorem lawReads_any (w : World) (v : Value) (L : Bk) (top high : Int) (h : BkR w v L) (hL : L.length ≤ 9223372036854775807) (ht : I64 top) (hh : I64 high) (hg : LaidT w) :
    Calls Tryz.prog 3 #[v,.int .i64 top,.int .i64 high] w fun y w' => y = .returned (.bool true) ∧ Below w.heap.size w w' := by
  have HAW := Lib.hid (fun wq => awake_any wq)
  have HBR := Lib.hid h
  have HG : Hid (∀ wq,Below w.heap.size w wq → LaidT wq) := fun wq hb => hg.below hb hg.lt
  obtain ⟨A,c,rfl,hcc⟩ := h
  have HC := Lib.hid hcc
  obtain ⟨n,hn⟩ : ∃ n,L.length = n := ⟨_,rfl⟩
  have HN := Lib.hid hn
  rw [hn] at hL HBR ⊢
  have hni : (n : Int) ≤ 9223372036854775807 := by omega
  have ht1 := ht.1
  have ht2 := ht.2
  have hh1 := hh.1
  have hh2 := hh.2
  clear hcc hn hg
  by_cases hn60 : 60 < n
  · have hn60i : (60 : Int) < (n : Int) := by omega
    go_enter Tryz.func3,Tryz.ntmps3
    go_wp2_with fail
    with_reducible refine (HAW.out _).mono ?_
    rintro e w1 ⟨rfl,hb1⟩
    have HB1 := Lib.hid hb1
    clear hb1
    go_wp2_with fail
    go_ret
    exact ⟨rfl,HB1.out⟩
  have hn60i : ¬ (60 : Int) < (n : Int) := by omega
  by_cases hhi : 3 < high ∧ high ≤ 6
  · obtain ⟨g1,g2⟩ := hhi
    go_enter Tryz.func3,Tryz.ntmps3
    go_wp2_with fail
    with_reducible refine (HAW.out _).mono ?_
    rintro e w1 ⟨rfl,hb1⟩
    have HB1 := Lib.hid hb1
    clear hb1
    go_wp2_with fail
    go_ret
    exact ⟨rfl,HB1.out⟩
  have HHI : Hid (high ≤ 3 ∨ 6 < high) := by show _ ∨ _; omega
  have hd3 : (decide (3 < high) && decide (high ≤ 6)) = false := by
    rcases HHI.out with h | h
    · rw [decide_eq_false (by omega)]; rfl
    · rw [decide_eq_false (p := high ≤ 6) (by omega)]; simp
  rcases HHI.out with hx | hx
  · go_enter Tryz.func3,Tryz.ntmps3
    go_wp2_with fail
    go_loopw [7] (fun s7 wr => ∃ (j : Nat),j ≤ n ∧ s7 = .int .i64 j ∧ Hid (∀ p ∈ L.take j,p.2.size ≤ 300) ∧ w = wr) (fun s7 _ => n - (intOf s7).toNat)
    case atStart => exact ⟨0,Nat.zero_le _,rfl,fun p hp => by simp at hp,rfl⟩
    case round =>
      obtain ⟨j,hj,rfl,HP,rfl⟩ := hrel
      by_cases hlt : j < n
      · have hji : (j : Int) < (n : Int) := by omega
        obtain ⟨g,o,rfl,hcc⟩ := HC.out (by have := HN.out; omega)
        obtain ⟨p,hx⟩ : ∃ p,L[j]? = some p := ⟨L[j]'(by have := HN.out; omega),List.getElem?_eq_getElem (by have := HN.out; omega)⟩
        obtain ⟨c0,c1⟩ := hcc j p hx
        have HP1 : Hid (p.2.size ≤ 300 → ∀ q ∈ L.take (j + 1),q.2.size ≤ 300) := by
          intro h q hq
          rw [List.take_add_one,hx] at hq
          rcases List.mem_append.1 hq with hq | hq
          · exact HP.out q hq
          · simp at hq
            rw [hq]; exact h
        obtain ⟨kd,s⟩ := p
        simp only at c0 c1 HP1
        obtain ⟨z,hz⟩ : ∃ z,s.size = z := ⟨_,rfl⟩
        clear hcc hx
        by_cases h300 : 300 < s.size
        · have h300i : (300 : Int) < (s.size : Int) := by omega
          go_wp2_with fail
          with_reducible refine (HAW.out _).mono ?_
          rintro e w1 ⟨rfl,hb1⟩
          have HB1 := Lib.hid hb1
          clear hb1
          go_wp2_with fail
          go_ret
          exact ⟨rfl,HB1.out⟩
        · have h300i : ¬ (300 : Int) < (s.size : Int) := by omega
          have HP2 := Lib.hid (HP1.out (by omega))
          go_wp2_with fail
          go_roundw
          case rel => exact ⟨j + 1,by omega,by go_num,HP2,trivial⟩
          case measure => simp [intOf]; omega
      · obtain rfl : j = n := by omega
        have HSZ : Hid (SzOk L) := fun p hp => by
          have hfull : L.take j = L := by rw [← HN.out]; exact List.take_length
          have := HP.out p (by rw [hfull]; exact hp)
          omega
        obtain ⟨bb,hbb⟩ : ∃ bb,w.heap.size = bb := ⟨_,rfl⟩
        obtain ⟨w2,hw2⟩ : ∃ w2,w.alloc (.cells #[.slice A j c] 28) = w2 := ⟨_,rfl⟩
        have HB2 : Hid (Below w.heap.size w w2) := by show Below _ _ _; rw [← hw2]; exact (Below.refl _ _).alloc (Nat.le_refl _) _
        have HBV : Hid (BkV w2 bb L) := ⟨_,by rw [← hw2,← hbb]; exact Whole.new _ _ _,HBR.out.below HB2.out⟩
        obtain ⟨p1,hp1⟩ : ∃ p1,(top == -1) = p1 := ⟨_,rfl⟩
        obtain ⟨p2,hp2⟩ : ∃ p2,(high == 0) = p2 := ⟨_,rfl⟩
        by_cases hn0 : high < 0
        · have hbad : ((top = -1) ↔ ¬ (high = 0)) ∨ high < 0 ∨ 6 < high := .inr (.inl hn0)
          have HRD : Hid (Calls Tryz.prog 6 #[.int .i64 top,.int .i64 high,.func (.func 7) #[.pointer (some ⟨bb,0,none⟩)] #[]] w2 fun x w' => ∃ op b,x = .returned (.tuple #[.pointer none,.iface 88 (.pointer (some ⟨b,0,none⟩))]) ∧ Whole w' b 91 #[.string op,.int .i64 top,errV 1] ∧ Below w2.heap.size w2 w') := tread_arg w2 top high _ hbad
          obtain rfl : p2 = false := by rw [← hp2]; simp; omega
          cases p1 with
          | true =>
            go_wp2_with fail

            with_reducible refine HRD.out.mono ?_
            rintro e w3 ⟨op,b,rfl,hwh,hb3⟩
            have hb03 := HB2.out.trans (hb3.mono HB2.out.size)
            have HER : Hid (er.ErrAt w3 [b] [(op,top)] 1 (.iface 88 (.pointer (some ⟨b,0,none⟩)))) := ⟨rfl,_,hwh,rfl⟩
            have HB3 := Lib.hid hb03
            clear hwh hb3 hb03
            go_wp2_with fail
            with_reducible refine (HAW.out _).mono ?_
            rintro e w4 ⟨rfl,hb4⟩
            have HB4 := Lib.hid (HB3.out.trans (hb4.mono HB3.out.size))
            have HCD := Lib.hid (code_at _ _ _ _ w4 (HER.out.below hb4) (HG.out _ HB4.out))
            clear hb4
            go_wp2_with fail
            with_reducible refine HCD.out.mono ?_
            rintro e w5 ⟨rfl,hb5⟩
            have HB5 := Lib.hid (HB4.out.trans (hb5.mono HB4.out.size))
            clear hb5
            go_wp2_with fail
            go_ret
            exact ⟨rfl,HB5.out⟩
          | false =>
            go_wp2_with fail

            with_reducible refine HRD.out.mono ?_
            rintro e w3 ⟨op,b,rfl,hwh,hb3⟩
            have hb03 := HB2.out.trans (hb3.mono HB2.out.size)
            have HER : Hid (er.ErrAt w3 [b] [(op,top)] 1 (.iface 88 (.pointer (some ⟨b,0,none⟩)))) := ⟨rfl,_,hwh,rfl⟩
            have HB3 := Lib.hid hb03
            clear hwh hb3 hb03
            go_wp2_with fail
            with_reducible refine (HAW.out _).mono ?_
            rintro e w4 ⟨rfl,hb4⟩
            have HB4 := Lib.hid (HB3.out.trans (hb4.mono HB3.out.size))
            have HCD := Lib.hid (code_at _ _ _ _ w4 (HER.out.below hb4) (HG.out _ HB4.out))
            clear hb4
            go_wp2_with fail
            with_reducible refine HCD.out.mono ?_
            rintro e w5 ⟨rfl,hb5⟩
            have HB5 := Lib.hid (HB4.out.trans (hb5.mono HB4.out.size))
            clear hb5
            go_wp2_with fail
            go_ret
            exact ⟨rfl,HB5.out⟩
        · by_cases hz : high = 0
          · subst hz
            obtain rfl : p2 = true := by rw [← hp2]; rfl
            by_cases htp : top = -1
            · subst htp
              obtain rfl : p1 = true := by rw [← hp1]; rfl
              have HRD := Lib.hid (tread_no w2 (getF bb))
              unfold getF at HRD
              go_wp2_with fail
              with_reducible refine HRD.out.mono ?_
              rintro e w3 ⟨p,F,rfl,htr,hF,hb3⟩
              have HB3 := Lib.hid (HB2.out.trans (hb3.mono HB2.out.size))
              have HTR := Lib.hid htr
              clear hb3 hF htr
              go_wp2_with fail
              with_reducible refine (HAW.out _).mono ?_
              rintro e w4 ⟨rfl,hb4⟩
              have HB4 := Lib.hid (HB3.out.trans (hb4.mono HB3.out.size))
              have HND := Lib.hid (Nodes_any w4 F p .no (HTR.out.keep (Keep.below (F := fun _ => False) hb4) (fun _ _ h => h)) trivial (Nat.zero_le _))
              clear hb4
              go_wp2_with fail
              with_reducible refine HND.out.mono ?_
              rintro e w5 ⟨rfl,hb5⟩
              have HB5 := Lib.hid (HB4.out.trans (hb5.mono HB4.out.size))
              clear hb5
              go_wp2_with fail
              go_ret
              exact ⟨rfl,HB5.out⟩
            · have hbad : ((top = -1) ↔ ¬ ((0 : Int) = 0)) ∨ (0 : Int) < 0 ∨ (6 : Int) < 0 := .inl ⟨fun h => (htp h).elim,fun h => (h rfl).elim⟩
              have HRD : Hid (Calls Tryz.prog 6 #[.int .i64 top,.int .i64 0,.func (.func 7) #[.pointer (some ⟨bb,0,none⟩)] #[]] w2 fun x w' => ∃ op b,x = .returned (.tuple #[.pointer none,.iface 88 (.pointer (some ⟨b,0,none⟩))]) ∧ Whole w' b 91 #[.string op,.int .i64 top,errV 1] ∧ Below w2.heap.size w2 w') := tread_arg w2 top 0 _ hbad
              obtain rfl : p1 = false := by rw [← hp1]; simpa using htp
              go_wp2_with fail

              with_reducible refine HRD.out.mono ?_
              rintro e w3 ⟨op,b,rfl,hwh,hb3⟩
              have hb03 := HB2.out.trans (hb3.mono HB2.out.size)
              have HER : Hid (er.ErrAt w3 [b] [(op,top)] 1 (.iface 88 (.pointer (some ⟨b,0,none⟩)))) := ⟨rfl,_,hwh,rfl⟩
              have HB3 := Lib.hid hb03
              clear hwh hb3 hb03
              go_wp2_with fail
              with_reducible refine (HAW.out _).mono ?_
              rintro e w4 ⟨rfl,hb4⟩
              have HB4 := Lib.hid (HB3.out.trans (hb4.mono HB3.out.size))
              have HCD := Lib.hid (code_at _ _ _ _ w4 (HER.out.below hb4) (HG.out _ HB4.out))
              clear hb4
              go_wp2_with fail
              with_reducible refine HCD.out.mono ?_
              rintro e w5 ⟨rfl,hb5⟩
              have HB5 := Lib.hid (HB4.out.trans (hb5.mono HB4.out.size))
              clear hb5
              go_wp2_with fail
              go_ret
              exact ⟨rfl,HB5.out⟩
          · obtain rfl : p2 = false := by rw [← hp2]; simpa using hz
            by_cases htp : top = -1
            · subst htp
              have hbad : (((-1 : Int) = -1) ↔ ¬ (high = 0)) ∨ high < 0 ∨ 6 < high := .inl ⟨fun _ => hz,fun _ => rfl⟩
              have HRD : Hid (Calls Tryz.prog 6 #[.int .i64 (-1),.int .i64 high,.func (.func 7) #[.pointer (some ⟨bb,0,none⟩)] #[]] w2 fun x w' => ∃ op b,x = .returned (.tuple #[.pointer none,.iface 88 (.pointer (some ⟨b,0,none⟩))]) ∧ Whole w' b 91 #[.string op,.int .i64 (-1),errV 1] ∧ Below w2.heap.size w2 w') := tread_arg w2 (-1) high _ hbad
              obtain rfl : p1 = true := by rw [← hp1]; rfl
              go_wp2_with fail

              with_reducible refine HRD.out.mono ?_
              rintro e w3 ⟨op,b,rfl,hwh,hb3⟩
              have hb03 := HB2.out.trans (hb3.mono HB2.out.size)
              have HER : Hid (er.ErrAt w3 [b] [(op,-1)] 1 (.iface 88 (.pointer (some ⟨b,0,none⟩)))) := ⟨rfl,_,hwh,rfl⟩
              have HB3 := Lib.hid hb03
              clear hwh hb3 hb03
              go_wp2_with fail
              with_reducible refine (HAW.out _).mono ?_
              rintro e w4 ⟨rfl,hb4⟩
              have HB4 := Lib.hid (HB3.out.trans (hb4.mono HB3.out.size))
              have HCD := Lib.hid (code_at _ _ _ _ w4 (HER.out.below hb4) (HG.out _ HB4.out))
              clear hb4
              go_wp2_with fail
              with_reducible refine HCD.out.mono ?_
              rintro e w5 ⟨rfl,hb5⟩
              have HB5 := Lib.hid (HB4.out.trans (hb5.mono HB4.out.size))
              clear hb5
              go_wp2_with fail
              go_ret
              exact ⟨rfl,HB5.out⟩
            · obtain rfl : p1 = false := by rw [← hp1]; simpa using htp
              obtain ⟨h0,hh0⟩ : ∃ h0 : Nat,(h0 : Int) + 1 = high := ⟨(high - 1).toNat,by omega⟩
              have hh02 : h0 ≤ 2 := by omega
              have HRD : Hid (Calls Tryz.prog 6 #[.int .i64 top,.int .i64 high,.func (.func 7) #[.pointer (some ⟨bb,0,none⟩)] #[]] w2 (TrdPost (readN L top h0 top) w2)) := by
                have := tread_gen w2 (fun _ => True) bb L h0 top HBV.out HSZ.out ht htp (by omega)
                rw [hh0] at this
                exact this
              go_wp2_with fail
              have HSY : Hid (∀ wq,Below w.heap.size w wq → Calls Tryz.prog 10 #[.slice A j c,.int .i64 top,.int .i64 high,.bool true] wq (SPost (readD L h0 true top) wq)) := by
                intro wq hb
                have := sany_any h0 (by omega) wq (.slice A j c) L true top (HBR.out.below hb) HSZ.out (by have := HN.out; omega) ht
                rw [hh0] at this
                exact this
              with_reducible refine HRD.out.mono ?_
              intro e w3 hrd
              have HSY3 : Hid (∀ wq,Below w.heap.size w wq → Calls Tryz.prog 10 #[.slice A j c,.int .i64 top,.int .i64 high,.bool true] wq (SPost (readD L h0 true top) wq)) := HSY.out
              obtain ⟨o,ho⟩ : ∃ o,readD L h0 true top = o := ⟨_,rfl⟩
              rw [read_same,ho] at hrd
              rw [ho] at HSY3
              have HO := Lib.hid ho
              clear HSY ho
              cases o with
              | none =>
                obtain ⟨y,rfl,herr,hb3⟩ := hrd
                have HB3 := Lib.hid (HB2.out.trans (hb3.mono HB2.out.size))
                clear hb3
                have HE3 := Lib.hid herr
                have HS3 := Lib.hid (HSY3.out _ HB3.out)
                clear herr
                go_wp2_with fail
                with_reducible refine HS3.out.mono ?_
                rintro e w4 ⟨rfl,hb4⟩
                have HB34 := Lib.hid hb4
                clear hb4
                go_wp2_with fail
                obtain ⟨w5,hw5⟩ : ∃ w5,w4.alloc (.cells #[.slice none 0 0,.int .i64 0,.bool true,.int .i64 0] 40) = w5 := ⟨_,rfl⟩
                have hb45 : Below w4.heap.size w4 w5 := by rw [← hw5]; exact (Below.refl _ _).alloc (Nat.le_refl _) _
                have hb34 := HB34.out.trans (hb45.mono HB34.out.size)
                have HB5 := Lib.hid (HB3.out.trans (hb34.mono HB3.out.size))
                have herr := HE3.out.below hb34
                rw [hw5]
                clear hb45 hb34 hw5
                have HEA := Lib.hid (err_er herr)
                obtain ⟨b,op,pg,ec,her,hec⟩ := HEA.out
                have HER := Lib.hid her
                clear her herr HEA
                with_reducible refine (HAW.out _).mono ?_
                rintro e w6 ⟨rfl,hb6⟩
                have HB6 := Lib.hid (HB5.out.trans (hb6.mono HB5.out.size))
                have HE6 := Lib.hid (HER.out.below hb6)
                obtain ⟨te,ye,hye⟩ := HER.out.iface
                have HCD := Lib.hid (fun wq hb => code_at _ _ _ _ wq (HE6.out.below hb) (HG.out _ (HB6.out.trans (hb.mono HB6.out.size))))
                have HTL := Lib.hid (fun wq hb => trail_at _ _ _ _ wq (HE6.out.below hb) (HG.out _ (HB6.out.trans (hb.mono HB6.out.size))) (by simp))
                clear hb6 hye
                rcases hec with rfl | rfl
                · go_wp2_with fail
                  with_reducible refine (HCD.out _ (Below.refl _ _)).mono ?_
                  rintro e w7 ⟨rfl,hb7⟩
                  have HB7 : Hid (Below w6.heap.size w6 w7) := hb7
                  clear hb7
                  go_wp2_with fail
                  with_reducible refine (HTL.out _ HB7.out).mono ?_
                  rintro e w8 ⟨s,rfl,hs8,hb8⟩
                  have HB8 := Lib.hid (HB6.out.trans ((HB7.out.trans (hb8.mono HB7.out.size)).mono HB6.out.size))
                  obtain ⟨A8,c8,rfl⟩ := own_slice hs8
                  clear hb8 hs8
                  go_wp2_with fail
                  go_ret
                  exact ⟨rfl,HB8.out⟩
                · go_wp2_with fail
                  with_reducible refine (HCD.out _ (Below.refl _ _)).mono ?_
                  rintro e w7 ⟨rfl,hb7⟩
                  have HB7 : Hid (Below w6.heap.size w6 w7) := hb7
                  clear hb7
                  go_wp2_with fail
                  with_reducible refine (HCD.out _ HB7.out).mono ?_
                  rintro e w7b ⟨rfl,hb7⟩
                  have HB7b : Hid (Below w6.heap.size w6 w7b) := HB7.out.trans (hb7.mono HB7.out.size)
                  clear hb7
                  go_wp2_with fail
                  with_reducible refine (HTL.out _ HB7b.out).mono ?_
                  rintro e w8 ⟨s,rfl,hs8,hb8⟩
                  have HB8 := Lib.hid (HB6.out.trans ((HB7b.out.trans (hb8.mono HB7b.out.size)).mono HB6.out.size))
                  obtain ⟨A8,c8,rfl⟩ := own_slice hs8
                  clear hb8 hs8
                  go_wp2_with fail
                  go_ret
                  exact ⟨rfl,HB8.out⟩
              | some nd =>
                have hmade := readD_made HO.out
                have hbnd := readD_bound HO.out
                have h8 : 8 ^ h0 ≤ 8 ^ 2 := Nat.pow_le_pow_right (by omega) (by omega)
                have h8' : 8 ^ (h0 + 1) ≤ 8 ^ 3 := Nat.pow_le_pow_right (by omega) (by omega)
                have h82 : 8 ^ 2 = 64 := by decide
                have h83 : 8 ^ 3 = 512 := by decide
                have HFL : Hid ((flat nd).length ≤ 512 ∧ cntN nd ≤ 200) := ⟨by omega,by omega⟩
                have HOK := Lib.hid (readD_ok HO.out)
                obtain ⟨m,hm⟩ : ∃ m,(flat nd).length = m := ⟨_,rfl⟩
                obtain ⟨ck,hck⟩ : ∃ ck,chkB (flat nd) = ck := ⟨_,rfl⟩
                have HCK := Lib.hid hck
                have HMM := Lib.hid hm
                clear hmade hbnd h8 h8' h82 h83
                cases ck with
                | false =>
                  have hrd2 : ErrRet w2 e w3 := by
                    have hr : (if chkB (flat nd) = true then TreadPost (.top h0 nd) w2 e w3 else ErrRet w2 e w3) := hrd
                    rw [if_neg (by rw [hck]; decide)] at hr
                    exact hr
                  obtain ⟨y,rfl,herr,hb3⟩ := hrd2
                  have HB3 := Lib.hid (HB2.out.trans (hb3.mono HB2.out.size))
                  have HE3 := Lib.hid herr
                  have HS3 := Lib.hid (HSY3.out _ HB3.out)
                  clear hb3 hrd hck herr hm
                  go_wp2_with fail
                  with_reducible refine HS3.out.mono ?_
                  rintro e w4 ⟨A4,c4,rfl,ho4,hb4⟩
                  rw [HMM.out] at ho4 ⊢
                  obtain ⟨fk,hfk⟩ : ∃ fk,firstN nd = fk := ⟨_,rfl⟩
                  obtain ⟨cn,hcn⟩ : ∃ cn,cntN nd = cn := ⟨_,rfl⟩
                  rw [hfk,hcn]
                  have hex := (ExtsAt.ownT ho4).1
                  have HCH : Hid (∀ wq,Below w4.heap.size w4 wq → Calls Tryz.prog 11 #[.slice A4 m c4] wq fun x w' => x = .returned (.bool false) ∧ Below wq.heap.size wq w') := by
                    intro wq hb
                    have := rcheck_any (flat nd) _ wq (hex.below hb) (by have := HFL.out.1; omega)
                    rw [HCK.out] at this
                    exact this
                  have HE4 := Lib.hid (HE3.out.below hb4)
                  have HB4 := Lib.hid (HB3.out.trans (hb4.mono HB3.out.size))
                  clear hb4 ho4 hex hfk hcn
                  go_wp2_with fail
                  with_reducible refine (HCH.out _ (by first | exact (Below.refl _ _).alloc (Nat.le_refl _) _ | (repeat (first | exact Below.refl _ _ | refine Below.drew ?_ | refine Below.alloc ?_ (by first | omega | (simp <;> omega)) _)))).mono ?_
                  rintro e w5 ⟨rfl,hb5⟩
                  have hb45 : Below w4.heap.size w4 w5 := ((Below.refl _ _).alloc (Nat.le_refl _) _).trans (hb5.mono (by simp))
                  have HB5 := Lib.hid (HB4.out.trans (hb45.mono HB4.out.size))
                  have herr := HE4.out.below hb45
                  clear hb5 hb45
                  go_wp2_with fail
                  have HEA := Lib.hid (err_er herr)
                  obtain ⟨b,op,pg,ec,her,hec⟩ := HEA.out
                  have HER := Lib.hid her
                  clear her herr HEA
                  with_reducible refine (HAW.out _).mono ?_
                  rintro e w6 ⟨rfl,hb6⟩
                  have HB6 := Lib.hid (HB5.out.trans (hb6.mono HB5.out.size))
                  have HE6 := Lib.hid (HER.out.below hb6)
                  obtain ⟨te,ye,hye⟩ := HER.out.iface
                  have HCD := Lib.hid (fun wq hb => code_at _ _ _ _ wq (HE6.out.below hb) (HG.out _ (HB6.out.trans (hb.mono HB6.out.size))))
                  have HTL := Lib.hid (fun wq hb => trail_at _ _ _ _ wq (HE6.out.below hb) (HG.out _ (HB6.out.trans (hb.mono HB6.out.size))) (by simp))
                  clear hb6 hye
                  rcases hec with rfl | rfl
                  · go_wp2_with fail
                    with_reducible refine (HCD.out _ (Below.refl _ _)).mono ?_
                    rintro e w7 ⟨rfl,hb7⟩
                    have HB7 : Hid (Below w6.heap.size w6 w7) := hb7
                    clear hb7
                    go_wp2_with fail
                    with_reducible refine (HTL.out _ HB7.out).mono ?_
                    rintro e w8 ⟨s,rfl,hs8,hb8⟩
                    have HB8 := Lib.hid (HB6.out.trans ((HB7.out.trans (hb8.mono HB7.out.size)).mono HB6.out.size))
                    obtain ⟨A8,c8,rfl⟩ := own_slice hs8
                    clear hb8 hs8
                    go_wp2_with fail
                    go_ret
                    exact ⟨rfl,HB8.out⟩
                  · go_wp2_with fail
                    with_reducible refine (HCD.out _ (Below.refl _ _)).mono ?_
                    rintro e w7 ⟨rfl,hb7⟩
                    have HB7 : Hid (Below w6.heap.size w6 w7) := hb7
                    clear hb7
                    go_wp2_with fail
                    with_reducible refine (HCD.out _ HB7.out).mono ?_
                    rintro e w7b ⟨rfl,hb7⟩
                    have HB7b : Hid (Below w6.heap.size w6 w7b) := HB7.out.trans (hb7.mono HB7.out.size)
                    clear hb7
                    go_wp2_with fail
                    with_reducible refine (HTL.out _ HB7b.out).mono ?_
                    rintro e w8 ⟨s,rfl,hs8,hb8⟩
                    have HB8 := Lib.hid (HB6.out.trans ((HB7b.out.trans (hb8.mono HB7b.out.size)).mono HB6.out.size))
                    obtain ⟨A8,c8,rfl⟩ := own_slice hs8
                    clear hb8 hs8
                    go_wp2_with fail
                    go_ret
                    exact ⟨rfl,HB8.out⟩
                | true =>
                  have hrd2 : TreadPost (.top h0 nd) w2 e w3 := by
                    have hr : (if chkB (flat nd) = true then TreadPost (.top h0 nd) w2 e w3 else ErrRet w2 e w3) := hrd
                    rw [if_pos hck] at hr
                    exact hr
                  obtain ⟨p,F,rfl,htr,hF,hb3⟩ := hrd2
                  have HB3 := Lib.hid (HB2.out.trans (hb3.mono HB2.out.size))
                  have HS3 := Lib.hid (HSY3.out _ HB3.out)
                  have HTR := Lib.hid htr
                  have HFF : Hid (∀ k ∈ F,w.heap.size ≤ k) := fun k hk => Nat.le_trans HB2.out.size (hF k hk)
                  clear hb3 hrd hck htr hF hm
                  go_wp2_with fail
                  with_reducible refine HS3.out.mono ?_
                  rintro e w4 ⟨A4,c4,rfl,ho4,hb4⟩
                  rw [HMM.out] at ho4 ⊢
                  obtain ⟨fk,hfk⟩ : ∃ fk,firstN nd = fk := ⟨_,rfl⟩
                  obtain ⟨cn,hcn⟩ : ∃ cn,cntN nd = cn := ⟨_,rfl⟩
                  rw [hfk,hcn]
                  have hex := (ExtsAt.ownT ho4).1
                  have HCH : Hid (∀ wq,Below w4.heap.size w4 wq → Calls Tryz.prog 11 #[.slice A4 m c4] wq fun x w' => x = .returned (.bool true) ∧ Below wq.heap.size wq w') := by
                    intro wq hb
                    have := rcheck_any (flat nd) _ wq (hex.below hb) (by have := HFL.out.1; omega)
                    rw [HCK.out] at this
                    exact this
                  have HB4 := Lib.hid (HB3.out.trans (hb4.mono HB3.out.size))
                  have HT4 := Lib.hid (HTR.out.keep (Keep.below (F := fun _ => False) hb4) (fun _ _ h => h))
                  have HST : Hid (∀ wq,Below w4.heap.size w4 wq → St w wq p (.top h0 nd) (.slice A4 m c4) (Tree.top h0 nd).flat) := by
                    intro wq hb
                    have hch := chkB_chk _ HCK.out
                    have hrow : wq.ownsRow w3.heap.size 80 4 (.slice A4 m c4) (flat nd).length (extCells (flat nd)) := by rw [HMM.out]; exact own_below ho4 hb
                    refine ⟨Keep.below (F := fun _ => False) (HB4.out.trans (hb.mono HB4.out.size)),HOK.out,hch,hch,F,HT4.out.keep (Keep.below (F := fun _ => False) hb) (fun _ _ h => h),HFF.out,⟨w3.heap.size,hrow,hch.one⟩,fun g hg hk => ?_⟩
                    have h1 := HTR.out.lt g hk
                    have h2 := (hrow.lt g hg).1
                    omega
                  have HSM := Lib.hid (fun wq hb => same_any w wq p m c4 (.top h0 nd) A4 (HST.out wq hb))
                  have HNDS : Hid (∀ wq,Below w4.heap.size w4 wq → Calls Tryz.prog 9 #[.pointer (some ⟨p,0,none⟩)] wq fun x w' => x = .returned (.int .i64 cn) ∧ Below wq.heap.size wq w') := by
                    intro wq hb
                    have := Nodes_any wq F p (.top h0 nd) (HT4.out.keep (Keep.below (F := fun _ => False) hb) (fun _ _ h => h)) HOK.out (by have h1 := HFL.out.2; have h2 : (Tree.top h0 nd).cnt = cntN nd := rfl; omega)
                    rw [show (Tree.top h0 nd).cnt = cn from hcn] at this
                    exact this
                  have HHGT : Hid (∀ wq,Below w4.heap.size w4 wq → Calls Tryz.prog 14 #[.pointer (some ⟨p,0,none⟩)] wq fun x w' => x = .returned (.int .i64 high) ∧ w' = wq) := by
                    intro wq hb
                    have := height_any wq F p (.top h0 nd) (HT4.out.keep (Keep.below (F := fun _ => False) hb) (fun _ _ h => h)) HOK.out (chkB_chk _ HCK.out)
                    rw [show ((Tree.top h0 nd).high : Int) = high by rw [← hh0]; rfl] at this
                    exact this
                  have hcn200 : (cn : Int) ≤ 200 := by have := HFL.out.2; rw [hcn] at this; omega
                  obtain ⟨sb,hsb⟩ : ∃ sb,w4.heap.size = sb := ⟨_,rfl⟩
                  obtain ⟨w5,hw5⟩ : ∃ w5,w4.alloc (.cells #[.slice A4 m c4,.int .i64 fk,.bool false,.int .i64 cn] 40) = w5 := ⟨_,rfl⟩
                  have hb45 : Below w4.heap.size w4 w5 := by rw [← hw5]; exact (Below.refl _ _).alloc (Nat.le_refl _) _
                  have hwb : Whole w5 sb 40 #[.slice A4 m c4,.int .i64 fk,.bool false,.int .i64 cn] := by rw [← hw5,← hsb]; exact Whole.new _ _ _
                  have HB45 := Lib.hid hb45
                  have z0 := hwb.cell 0
                  have z2 := hwb.cell 2
                  have z3 := hwb.cell 3
                  simp at z0 z2 z3
                  have HKK : Hid (∀ w',Below w5.heap.size w5 w' → w'.cell? ⟨sb,0,none⟩ = some (.slice A4 m c4) ∧ w'.cell? ⟨sb,3,none⟩ = some (.int .i64 cn)) := fun w' hb => ⟨below_c hb z0,below_c hb z3⟩
                  clear hb4 ho4 hex hfk hcn hb45 hwb
                  go_wp2_with fail
                  try rw [hw5]
                  with_reducible refine (HCH.out _ HB45.out).mono ?_
                  rintro e w6 ⟨rfl,hb6⟩
                  have HB6 := Lib.hid hb6
                  obtain ⟨z0',z3'⟩ := HKK.out _ hb6
                  clear hb6 z0 z2 z3
                  go_wp2_with fail
                  go_region_held3 (fun w' => w'.cell? ⟨sb,0,none⟩ = some (.slice A4 m c4) ∧ w'.cell? ⟨sb,3,none⟩ = some (.int .i64 cn)) (first | with_reducible exact HKK.out _ HBc.out | with_reducible exact HKK.out _ HBb.out | with_reducible exact HKK.out _ HBa.out | exact HKK.out _ (by repeat (first | with_reducible exact HB6.out | refine Below.drew ?_))) (first | (go_at_call 5; (with_reducible refine (HAW.out _).mono ?_); rintro e wa ⟨rfl,hba⟩; have HBa : Hid (Below w5.heap.size w5 wa) := bel_tr (by repeat (first | with_reducible exact HB6.out | refine Below.drew ?_)) hba; clear hba) | (go_at_call 13; (with_reducible refine (HSM.out _ (HB45.out.trans (HBa.out.mono HB45.out.size))).mono ?_); rintro e wb ⟨rfl,hbb⟩; have HBb : Hid (Below w5.heap.size w5 wb) := bel_tr HBa.out hbb; clear hbb) | (go_at_call 9; (with_reducible refine (HNDS.out _ (HB45.out.trans (HBb.out.mono HB45.out.size))).mono ?_); rintro e wc ⟨rfl,hbc⟩; have HBc : Hid (Below w5.heap.size w5 wc) := bel_tr HBb.out hbc; clear hbc) | (go_at_call 14; (with_reducible refine (HHGT.out _ (HB45.out.trans (HBc.out.mono HB45.out.size))).mono ?_); rintro e wd ⟨rfl,rfl⟩))
                  go_wp2_with fail
                  go_ret
                  exact ⟨rfl,HB4.out.trans ((HB45.out.trans (HBc.out.mono HB45.out.size)).mono HB4.out.size)⟩
  · go_enter Tryz.func3,Tryz.ntmps3
    go_wp2_with fail
    go_loopw [7] (fun s7 wr => ∃ (j : Nat),j ≤ n ∧ s7 = .int .i64 j ∧ Hid (∀ p ∈ L.take j,p.2.size ≤ 300) ∧ w = wr) (fun s7 _ => n - (intOf s7).toNat)
    case atStart => exact ⟨0,Nat.zero_le _,rfl,fun p hp => by simp at hp,rfl⟩
    case round =>
      obtain ⟨j,hj,rfl,HP,rfl⟩ := hrel
      by_cases hlt : j < n
      · have hji : (j : Int) < (n : Int) := by omega
        obtain ⟨g,o,rfl,hcc⟩ := HC.out (by have := HN.out; omega)
        obtain ⟨p,hx⟩ : ∃ p,L[j]? = some p := ⟨L[j]'(by have := HN.out; omega),List.getElem?_eq_getElem (by have := HN.out; omega)⟩
        obtain ⟨c0,c1⟩ := hcc j p hx
        have HP1 : Hid (p.2.size ≤ 300 → ∀ q ∈ L.take (j + 1),q.2.size ≤ 300) := by
          intro h q hq
          rw [List.take_add_one,hx] at hq
          rcases List.mem_append.1 hq with hq | hq
          · exact HP.out q hq
          · simp at hq
            rw [hq]; exact h
        obtain ⟨kd,s⟩ := p
        simp only at c0 c1 HP1
        obtain ⟨z,hz⟩ : ∃ z,s.size = z := ⟨_,rfl⟩
        clear hcc hx
        by_cases h300 : 300 < s.size
        · have h300i : (300 : Int) < (s.size : Int) := by omega
          go_wp2_with fail
          with_reducible refine (HAW.out _).mono ?_
          rintro e w1 ⟨rfl,hb1⟩
          have HB1 := Lib.hid hb1
          clear hb1
          go_wp2_with fail
          go_ret
          exact ⟨rfl,HB1.out⟩
        · have h300i : ¬ (300 : Int) < (s.size : Int) := by omega
          have HP2 := Lib.hid (HP1.out (by omega))
          go_wp2_with fail
          go_roundw
          case rel => exact ⟨j + 1,by omega,by go_num,HP2,trivial⟩
          case measure => simp [intOf]; omega
      · obtain rfl : j = n := by omega
        have HSZ : Hid (SzOk L) := fun p hp => by
          have hfull : L.take j = L := by rw [← HN.out]; exact List.take_length
          have := HP.out p (by rw [hfull]; exact hp)
          omega
        obtain ⟨bb,hbb⟩ : ∃ bb,w.heap.size = bb := ⟨_,rfl⟩
        obtain ⟨w2,hw2⟩ : ∃ w2,w.alloc (.cells #[.slice A j c] 28) = w2 := ⟨_,rfl⟩
        have HB2 : Hid (Below w.heap.size w w2) := by show Below _ _ _; rw [← hw2]; exact (Below.refl _ _).alloc (Nat.le_refl _) _
        have HBV : Hid (BkV w2 bb L) := ⟨_,by rw [← hw2,← hbb]; exact Whole.new _ _ _,HBR.out.below HB2.out⟩
        have hbad : ((top = -1) ↔ ¬ (high = 0)) ∨ high < 0 ∨ 6 < high := .inr (.inr hx)

        have HRD : Hid (Calls Tryz.prog 6 #[.int .i64 top,.int .i64 high,.func (.func 7) #[.pointer (some ⟨bb,0,none⟩)] #[]] w2 fun x w' => ∃ op b,x = .returned (.tuple #[.pointer none,.iface 88 (.pointer (some ⟨b,0,none⟩))]) ∧ Whole w' b 91 #[.string op,.int .i64 top,errV 1] ∧ Below w2.heap.size w2 w') := tread_arg w2 top high _ hbad

        have h60 : (high == 0) = false := by simp; omega
        obtain ⟨p1,hp1⟩ : ∃ p1,(top == -1) = p1 := ⟨_,rfl⟩
        cases p1 with
        | true =>
          go_wp2_with fail
          with_reducible refine HRD.out.mono ?_
          rintro e w3 ⟨op,b,rfl,hwh,hb3⟩
          have hb03 := HB2.out.trans (hb3.mono HB2.out.size)
          have HER : Hid (er.ErrAt w3 [b] [(op,top)] 1 (.iface 88 (.pointer (some ⟨b,0,none⟩)))) := ⟨rfl,_,hwh,rfl⟩
          have HB3 := Lib.hid hb03
          clear hwh hb3 hb03
          go_wp2_with fail
          with_reducible refine (HAW.out _).mono ?_
          rintro e w4 ⟨rfl,hb4⟩
          have HB4 := Lib.hid (HB3.out.trans (hb4.mono HB3.out.size))
          have HCD := Lib.hid (code_at _ _ _ _ w4 (HER.out.below hb4) (HG.out _ HB4.out))
          clear hb4
          go_wp2_with fail
          with_reducible refine HCD.out.mono ?_
          rintro e w5 ⟨rfl,hb5⟩
          have HB5 := Lib.hid (HB4.out.trans (hb5.mono HB4.out.size))
          clear hb5
          go_wp2_with fail
          go_ret
          exact ⟨rfl,HB5.out⟩
        | false =>
          go_wp2_with fail
          with_reducible refine HRD.out.mono ?_
          rintro e w3 ⟨op,b,rfl,hwh,hb3⟩
          have hb03 := HB2.out.trans (hb3.mono HB2.out.size)
          have HER : Hid (er.ErrAt w3 [b] [(op,top)] 1 (.iface 88 (.pointer (some ⟨b,0,none⟩)))) := ⟨rfl,_,hwh,rfl⟩
          have HB3 := Lib.hid hb03
          clear hwh hb3 hb03
          go_wp2_with fail
          with_reducible refine (HAW.out _).mono ?_
          rintro e w4 ⟨rfl,hb4⟩
          have HB4 := Lib.hid (HB3.out.trans (hb4.mono HB3.out.size))
          have HCD := Lib.hid (code_at _ _ _ _ w4 (HER.out.below hb4) (HG.out _ HB4.out))
          clear hb4
          go_wp2_with fail
          with_reducible refine HCD.out.mono ?_
          rintro e w5 ⟨rfl,hb5⟩
          have HB5 := Lib.hid (HB4.out.trans (hb5.mono HB4.out.size))
          clear hb5
          go_wp2_with fail
          go_ret
          exact ⟨rfl,HB5.out⟩
end Go.Proofs.YtneammhkgmkkfaaGreatDoor.tr
