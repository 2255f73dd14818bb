/- NandKept. (By wip/tools/gen_ndx.py.) -/
import Derived.Test.YtfnoojhnhkodaaaDoorNdW
import Derived.Deep.RegionHeld3
namespace Go.Proofs.YtfnoojhnhkodaaaDoor.nd
open Go.RowKit Go.Proofs.YtfnoojhnhkodaaaDoor.er
attribute [local go_sem ↓] Go.wp_at_zero Go.wp_at_succ
set_option linter.unusedVariables false

/-- A list of texts that the caller lays. -/
def TextArg (w : World) (A : Option Addr) (l : List ByteArray) : Prop := 0 < l.length → ∃ b off, A = some ⟨b, off, none⟩ ∧ ∀ (j : Nat) (t : ByteArray), l[j]? = some t → w.cell? ⟨b, off + j, none⟩ = some (.string t)
def ActArg (w : World) (A : Option Addr) (l : List ActD) : Prop := 0 < l.length → ∃ b off, A = some ⟨b, off, none⟩ ∧ ActArgs w b off l
theorem cell_one (w : World) (a : Value) (t : TypeId) : ∀ j u, [a][j]? = some u → (w.alloc (.cells #[a] t)).cell? ((⟨w.heap.size, 0, none⟩ : Addr).add j) = some u := by
  intro j u hj
  match j, hj with
  | 0, hj => simp at hj; subst hj; simp [Addr.add]
theorem strInfoX : (Tryd.prog.info? 9).map (fun i => (i.zero, i.size, i.bytes)) = some (some (.string ⟨#[]⟩), 1, 16) := by kernel_rfl
theorem grow' {w0 w w5 w2 : World} {o : Obj} {F F5 : Nat → Prop} {p m : Nat} {s s5 : Nand} {A : Option Addr} {c : Nat} {kept : List ByteArray} {t : ByteArray} {v2 : Value} (e : kept.length = m) (h : KpSt w0 w F p s A c kept) (hs : St w0 w5 F5 p s5) (hm : Mv F w F5 w5) (hk : Kp s5 (kept ++ [t])) (hl : m < 8)
    (hown : w2.ownsRow w0.heap.size 9 1 v2 (m + 1) (strVals kept ++ [.string t])) (hg : (w5.alloc o).grownBy w2 (Value.slice A m c).ownBlock)
    (hb : v2.ownBlock = (Value.slice A m c).ownBlock ∨ v2.ownBlock = some (w5.alloc o).heap.size) :
    ∃ A2 c2, v2 = .slice A2 (m + 1) c2 ∧ KpSt w0 w2 F5 p s5 A2 c2 (kept ++ [t]) := by
  subst e
  exact KpSt.grow h hs hm hk hl hown hg hb
/-- The state behind the first loop. -/
def Early (s : Nand) (n : Nat) : Prop := s.down = false ∧ s.plan = [] ∧ s.ops = n

set_option maxHeartbeats 40000000 in
set_option maxRecDepth 100000 in
theorem kept_any (A1 A2 : Option Addr) (c1 c2 n1 n2 : Nat) (ts : List ByteArray) (l : List ActD) (w : World) (hg : LaidT w) (h1 : ts.length = n1) (h2 : l.length = n2) (hn1 : n1 ≤ 9223372036854775807) (hn2 : n2 ≤ 9223372036854775807) (ht : TextArg w A1 ts) (ha : ActArg w A2 l) :
    Calls Tryd.prog 5 #[.slice A1 n1 c1, .slice A2 n2 c2] w fun e w' => e = .returned (.bool true) ∧ Below w.heap.size w w' := by
  obtain ⟨i0, hi0, hz0, hz1, hz2⟩ := info_parts strInfoX
  have HI0 := Lib.hid hi0
  have HZ0 := Lib.hid hz0
  have HZ1 := Lib.hid hz1
  have HZ2 := Lib.hid hz2
  clear hi0 hz0 hz1 hz2
  have HT := Lib.hid ht
  have HA := Lib.hid ha
  have HL1 := Lib.hid h1
  have HL2 := Lib.hid h2
  clear ht ha h1 h2
  have HG := Lib.hid hg
  have HGL := Lib.hid hg.lt
  clear hg
  go_enter Tryd.func5, Tryd.ntmps5
  go_wp2_with fail
  refine (plain_any _).mono ?_
  rintro e w1 ⟨rfl, hb1⟩
  have HB1 := Lib.hid hb1
  have HG1 := Lib.hid (HG.out.below hb1 HG.out.lt)
  clear hb1
  go_wp2_with fail
  refine (New16 w _ HB1.out HG1.out HGL.out).mono ?_
  rintro e w2 ⟨F2, p, rfl, S2, hb2, hF2⟩
  have HS2 := Lib.hid S2
  have hpn := heql p
  clear S2 hb2 hF2
  go_wp2_with fail
  refine (awake_yes _ HS2.out.laid).mono ?_
  rintro e w3 ⟨rfl, hb3⟩
  have HO4 : Hid (KpSt w w3 F2 p fs none 0 []) := ⟨HS2.out.below hb3, kp_new, by simp, World.ownsRow_nil _ _ _ _, fun g hg => by simp [Value.ownBlock] at hg⟩
  have HD4 : Hid (Early fs 0) := ⟨rfl, rfl, rfl⟩
  clear hb3
  go_wp2_with fail
  go_loopw [7, 8] (fun kv i wr => ∃ (j : Nat) (A : Option Addr) (c m : Nat) (kept : List ByteArray) (F : Nat → Prop) (s : Nand), j ≤ n1 ∧ m ≤ 8 ∧ i = .int .i64 j ∧ kv = .slice A m c ∧ Hid (kept.length = m) ∧ Hid (KpSt w wr F p s A c kept) ∧ Hid (Early s m)) (fun _ i _ => n1 - (intOf i).toNat)
  case atStart => exact ⟨0, none, 0, 0, [], F2, fs, by omega, by omega, rfl, rfl, rfl, HO4.out, HD4.out⟩
  case round =>
    obtain ⟨j, A, c, m, kept, F, s, hj, hm8, rfl, rfl, HM, HO, HD⟩ := hrel
    by_cases hlt : j < n1 ∧ m < 8
    · obtain ⟨hj1, hm1⟩ := hlt
      obtain ⟨t, htx⟩ : ∃ t, ts[j]? = some t := ⟨ts[j]'(by rw [HL1.out]; exact hj1), List.getElem?_eq_getElem _⟩
      obtain ⟨b, off, hA1, hcells⟩ := HT.out (by rw [HL1.out]; omega)
      subst hA1
      have HBW : Hid (b < w.heap.size) := World.block_lt_of_cell? _ _ (hcells j t htx)
      have ct := below_c HO.out.st.bel (hcells j t htx)
      have hj0 : (0 : Int) ≤ (j : Int) := by omega
      have hji : (j : Int) < (n1 : Int) := by omega
      have hmi : (m : Int) < 8 := by omega
      clear htx hcells
      by_cases hsz : t.size ≤ 128
      · have hszi : (t.size : Int) ≤ 128 := by omega
        have hPR := kp_own HO.out.kp HD.out.1 HD.out.2.1 (by rw [HM.out]; omega) t hsz
        rw [HM.out] at hPR
        have HPR := Lib.hid hPR
        clear hPR
        go_wp2_with fail
        refine (Prog0 HO.out.st (m : Int) t (by have := HD.out.2.2; omega) (by omega) HPR.out.1).mono ?_
        rintro e w5 ⟨rfl, F5, S5, M5⟩
        have HS5 := Lib.hid S5
        have HM5 := Lib.hid M5
        have c5 : w5.cell? ⟨b, off + j, none⟩ = some (.string t) := M5.keep.cell ct (fun h => by
          have := HO.out.st.base _ h
          have := HBW.out
          simp only at *
          omega)
        have OWN1 : Hid ((w5.alloc (.cells #[.string t] 9)).ownsRow w.heap.size 9 1 (.slice A m c) m (strVals kept)) := by
          have h := own_keep HO.out.own M5.keep HO.out.nf
          rw [HM.out] at h
          exact h.alloc _
        have HNEW : Hid (∀ (j : Nat) (u : Value), [Value.string t][j]? = some u → (w5.alloc (.cells #[.string t] 9)).cell? ((⟨w5.heap.size, 0, none⟩ : Addr).add j) = some u) := cell_one _ _ _
        have HONE : Hid (∀ u ∈ [Value.string t], u.oneCell' = true) := by show ∀ u ∈ _, _; simp [Value.oneCell']
        have HSZ : Hid (w.heap.size ≤ (w5.alloc (.cells #[.string t] 9)).heap.size) := by show _ ≤ _; simp only [World.size_alloc]; have := S5.bel.size; omega
        clear S5 M5 ct
        go_wp2_with (at_builtin; go_must (refine wpList_append_own_at _ rfl (.tmp 51) (.tmp 56) 50 rfl w.heap.size 9 i0 (.string ⟨#[]⟩) 1 16 Tryd.underlying50 HI0.out HZ0.out HZ1.out HZ2.out rfl (by omega) (.slice A m c) m (strVals kept) rfl OWN1.out ⟨w5.heap.size, 0, none⟩ 1 1 [.string t] rfl rfl HNEW.out HONE.out (by simp only [maxLen]; omega) (by omega) HSZ.out ?_; intro v2 w2 hown2 hg2 _ hat2; obtain ⟨A2', c2', rfl, hk2⟩ := grow' HM.out HO.out HS5.out HM5.out HPR.out.2.1 hm1 hown2 hg2 hat2; have HK2 := Lib.hid hk2; clear hown2 hg2 hat2 hk2))
        go_roundw
        case rel => exact ⟨j + 1, A2', c2', m + 1, kept ++ [t], F5, _, by omega, by omega, by go_num, rfl, by show _ = _; simp [HM.out], HK2.out, HPR.out.2.2.1, HPR.out.2.2.2.1, by rw [HPR.out.2.2.2.2, HD.out.2.2]; rfl⟩
        case measure => simp [intOf]; omega
      · have hszi : (128 : Int) < (t.size : Int) := by omega
        go_wp2_with fail
        go_roundw
        case rel => exact ⟨j + 1, A, c, m, kept, F, s, by omega, hm8, by go_num, rfl, HM, HO.out, HD.out⟩
        case measure => simp [intOf]; omega
    · have hm' : (m : Int) ≤ 8 := by omega
      have hend : ((j : Int) < (n1 : Int) ∧ (8 : Int) ≤ (m : Int)) ∨ (n1 : Int) ≤ (j : Int) := by omega
      have HOP : Hid (s.ops ≤ 8) := by show _ ≤ _; have := HD.out.2.2; omega
      clear hlt
      rcases hend with ⟨hji, h8'⟩ | hji
      all_goals
        go_wp2_with fail
        go_loopw [9] (fun i wr => ∃ (k : Nat) (F : Nat → Prop) (s : Nand), k ≤ n2 ∧ k ≤ 120 ∧ i = .int .i64 k ∧ Hid (KpSt w wr F p s A c kept) ∧ Hid (s.ops ≤ 8 + k)) (fun i _ => n2 - (intOf i).toNat)
        case atStart => exact ⟨0, F, s, by omega, by omega, rfl, HO.out, HOP.out⟩
        case round =>
          clear HO HOP HD
          obtain ⟨k, F, s, hk, hk120, rfl, HO, HOP⟩ := hrel
          by_cases hlt : k < n2 ∧ k < 120
          · obtain ⟨hkn, hk2⟩ := hlt
            obtain ⟨x, hx⟩ : ∃ x, l[k]? = some x := ⟨l[k]'(by rw [HL2.out]; exact hkn), List.getElem?_eq_getElem _⟩
            obtain ⟨b, off, hA2, hacts⟩ := HA.out (by rw [HL2.out]; omega)
            subst hA2
            have hxa := hacts k x hx
            obtain ⟨xk, xa, xs, xA, xc, xm⟩ := x
            have hbw : Below w.heap.size w wr := HO.out.st.bel
            obtain ⟨a0, a1, a2, a3, hmp⟩ := hxa
            simp only at a0 a1 a2 a3
            have c0 := below_c hbw a0
            have c1' := below_c hbw a1
            have c2' := below_c hbw a2
            have c3 := below_c hbw a3
            have HMP := Lib.hid hmp
            have HMPr := Lib.hid ((hmp.below hbw).below (w' := wr.alloc (.cells #[.int .i64 xk, .int .i64 xa, .string xs, .slice xA xm.length xc] 35)) ((Below.refl _ _).alloc (Nat.le_refl _) _))
            have hk0 : (0 : Int) ≤ (k : Int) := by omega
            have hki : (k : Int) < (n2 : Int) := by omega
            have hk120i : (k : Int) < 120 := by omega
            have BX : Hid (Whole (wr.alloc (.cells #[.int .i64 xk, .int .i64 xa, .string xs, .slice xA xm.length xc] 35)) wr.heap.size 35 #[.int .i64 xk, .int .i64 xa, .string xs, .slice xA xm.length xc]) := Whole.new _ _ _
            have HOa := Lib.hid (HO.out.below (w' := wr.alloc (.cells #[.int .i64 xk, .int .i64 xa, .string xs, .slice xA xm.length xc] 35)) ((Below.refl _ _).alloc (Nat.le_refl _) _))
            clear hx a0 a1 a2 a3 hmp hbw hacts
            cases hli : lightB ⟨xk, xa, xs, xA, xc, xm⟩
            · have HLI := Lib.hid hli
              clear hli
              go_wp2_with (go_at_call 11; refine (light_any ⟨xk, xa, xs, xA, xc, xm⟩ _ HMPr.out).mono ?_; rw [HLI.out]; rintro e w4 ⟨rfl, hb4⟩)
              go_roundw
              case rel => exact ⟨k + 1, F, s, by omega, by omega, by go_num, HOa.out.below hb4, by show s.ops ≤ _; have := HOP.out; omega⟩
              case measure => simp [intOf]; omega
            · have HLI := Lib.hid hli
              clear hli
              go_wp2_with fail
              refine (light_any ⟨xk, xa, xs, xA, xc, xm⟩ _ HMPr.out).mono ?_
              rw [HLI.out]
              rintro e w4 ⟨rfl, hb4⟩
              have HO4 := Lib.hid (HOa.out.below hb4)
              have BX4 := Lib.hid (BX.out.below hb4 BX.out.lt)
              have hs4 : wr.heap.size < w4.heap.size := BX4.out.lt
              have d0 := BX4.out.cell 0
              have d1 := BX4.out.cell 1
              have d2 := BX4.out.cell 2
              have d3 := BX4.out.cell 3
              simp only [List.getElem?_toArray, List.getElem?_cons_zero, List.getElem?_cons_succ] at d0 d1 d2 d3
              clear hb4 c0 c1' c2' c3
              have hsl : xs.size ≤ 9223372036854775807 := HMP.out.2.1
              have HSPEC := Lib.hid (lightB_spec HLI.out)
              have OPK : Hid (s.ops ≤ 1000000000000000000) := by show _ ≤ _; have := HOP.out; omega
              by_cases hk0' : xk = 0
              · subst hk0'
                by_cases hxa8 : xa < 8
                · go_wp2_with fail
                  go_roundw
                  case rel => exact ⟨k + 1, F, s, by omega, by omega, by go_num, HO4.out, by show s.ops ≤ _; have := HOP.out; omega⟩
                  case measure => simp [intOf]; omega
                · have hxa8' : 8 ≤ xa := by omega
                  have HF := Lib.hid (kp_far HO4.out.st.at_.ok HO4.out.kp xa xs hxa8')
                  go_wp2_with fail
                  refine (Program_any _ _ _ _ _ xs HO4.out.st.at_ OPK.out hsl).mono ?_
                  rintro e w5 ⟨v5, F5, rfl, N5, M5, E5⟩
                  have HO5 := Lib.hid (HO4.out.mv (HO4.out.st.mv N5 M5) M5 HF.out.1)
                  clear N5 M5 E5
                  go_wp2_with fail
                  go_roundw
                  case rel => exact ⟨k + 1, F5, _, by omega, by omega, by go_num, HO5.out, by show _ ≤ _; have := HOP.out; have := HF.out.2; omega⟩
                  case measure => simp [intOf]; omega
              · have t0 : (xk == 0) = false := by rw [beq_eq_false_iff_ne]; exact hk0'
                clear hk0'
                by_cases hk1' : xk = 1
                · subst hk1'
                  by_cases hxa1 : xa < 1
                  · go_wp2_with fail
                    go_roundw
                    case rel => exact ⟨k + 1, F, s, by omega, by omega, by go_num, HO4.out, by show s.ops ≤ _; have := HOP.out; omega⟩
                    case measure => simp [intOf]; omega
                  · have hxa1' : 1 ≤ xa := by omega
                    have HF := Lib.hid (kp_erase HO4.out.st.at_.ok HO4.out.kp xa hxa1')
                    go_wp2_with fail
                    refine (Erase_any _ _ _ _ xa HO4.out.st.at_ OPK.out).mono ?_
                    rintro e w5 ⟨v5, F5, rfl, N5, M5, E5⟩
                    have HO5 := Lib.hid (HO4.out.mv (HO4.out.st.mv N5 M5) M5 HF.out.1)
                    clear N5 M5 E5
                    go_wp2_with fail
                    go_roundw
                    case rel => exact ⟨k + 1, F5, _, by omega, by omega, by go_num, HO5.out, by show _ ≤ _; have := HOP.out; have := HF.out.2; omega⟩
                    case measure => simp [intOf]; omega
                · have t1 : (xk == 1) = false := by rw [beq_eq_false_iff_ne]; exact hk1'
                  clear hk1'
                  by_cases hk3' : xk = 3
                  · subst hk3'
                    rcases Nat.eq_zero_or_pos xm.length with hm0 | hm0
                    · obtain rfl : xm = [] := List.eq_nil_of_length_eq_zero hm0
                      go_wp2_with fail
                      refine (Plan_zero HO4.out.st xA xc).mono ?_
                      rintro e w5 ⟨rfl, F5, S5, M5⟩
                      have HO5 : Hid (KpSt w w5 F5 p _ A c kept) := HO4.out.mv S5 M5 ⟨HO4.out.kp.bl, HO4.out.kp.pr, HO4.out.kp.b0⟩
                      clear S5 M5
                      go_wp2_with fail
                      go_roundw
                      case rel => exact ⟨k + 1, F5, _, by omega, by omega, by go_num, HO5.out, by show s.ops ≤ _; have := HOP.out; omega⟩
                      case measure => simp [intOf]; omega
                    · obtain ⟨bm, om, hAx, hbl, harg⟩ := HMP.out.2.2 hm0
                      simp only at hAx harg
                      subst hAx
                      have HARG : Hid (MisArg w4 bm om xm) := harg.below HO4.out.st.bel hbl
                      have HNFB : Hid (¬ F bm) := fun h => by have := HO4.out.st.base _ h; omega
                      have HJK : Hid (∀ m ∈ xm, m.junk.size ≤ 1000000) := fun m hm => by have := HSPEC.out.2.2 m hm; omega
                      have HLN : Hid (xm.length ≤ 1000000) := by show _ ≤ _; have := HSPEC.out.1; simp only at this; omega
                      clear harg hm0
                      go_wp2_with fail
                      refine (PlanS HO4.out.st OPK.out bm om xc xm.length xm rfl HLN.out HARG.out HNFB.out HJK.out).mono ?_
                      rintro e w5 ⟨rfl, F5, S5, M5⟩
                      have HO5 : Hid (KpSt w w5 F5 p (s.planned xm) A c kept) := HO4.out.mv S5 M5 ⟨HO4.out.kp.bl, HO4.out.kp.pr, HO4.out.kp.b0⟩
                      clear S5 M5
                      go_wp2_with fail
                      go_roundw
                      case rel => exact ⟨k + 1, F5, _, by omega, by omega, by go_num, HO5.out, by show s.ops ≤ _; have := HOP.out; omega⟩
                      case measure => simp [intOf]; omega
                  · have t3 : (xk == 3) = false := by rw [beq_eq_false_iff_ne]; exact hk3'
                    clear hk3'
                    by_cases hk4' : xk = 4
                    · subst hk4'
                      go_wp2_with fail
                      refine (UpS HO4.out.st).mono ?_
                      rintro e w5 ⟨rfl, F5, S5, M5⟩
                      have HO5 : Hid (KpSt w w5 F5 p s.up A c kept) := HO4.out.mv S5 M5 ⟨HO4.out.kp.bl, HO4.out.kp.pr, HO4.out.kp.b0⟩
                      clear S5 M5
                      go_wp2_with fail
                      go_roundw
                      case rel => exact ⟨k + 1, F5, _, by omega, by omega, by go_num, HO5.out, by show s.ops ≤ _; have := HOP.out; omega⟩
                      case measure => simp [intOf]; omega
                    · have t4 : (xk == 4) = false := by rw [beq_eq_false_iff_ne]; exact hk4'
                      clear hk4'
                      go_wp2_with fail
                      go_roundw
                      case rel => exact ⟨k + 1, F, s, by omega, by omega, by go_num, HO4.out, by show s.ops ≤ _; have := HOP.out; omega⟩
                      case measure => simp [intOf]; omega
          · have hend : ((k : Int) < (n2 : Int) ∧ (120 : Int) ≤ (k : Int)) ∨ (n2 : Int) ≤ (k : Int) := by omega
            clear hlt
            rcases hend with ⟨hki, hk8'⟩ | hki
            all_goals
              go_wp2_with fail
              refine (UpS HO.out.st).mono ?_
              rintro e w5 ⟨rfl, F5, S5, M5⟩
              have HO5 : Hid (KpSt w w5 F5 p s.up A c kept) := HO.out.mv S5 M5 ⟨HO.out.kp.bl, HO.out.kp.pr, HO.out.kp.b0⟩
              clear S5 M5
              go_wp2_with fail
              go_loopw [11] (fun i wr => ∃ k : Nat, k ≤ m ∧ i = .int .i64 k ∧ Hid (KpSt w wr F5 p s.up A c kept)) (fun i _ => m - (intOf i).toNat)
              case atStart => exact ⟨0, by omega, rfl, HO5.out⟩
              case round =>
                clear HO5 HO
                obtain ⟨k, hk, rfl, HO⟩ := hrel
                by_cases hlt : k < m
                · obtain ⟨t, htx⟩ : ∃ t, kept[k]? = some t := ⟨kept[k]'(by rw [HM.out]; exact hlt), List.getElem?_eq_getElem _⟩
                  have HTX := Lib.hid htx
                  clear htx
                  have HRD := Lib.hid (kp_read HO.out.kp rfl k (by omega) t HTX.out)
                  obtain ⟨g, hA, -, hmc⟩ := HO.out.cell HTX.out
                  subst hA
                  rw [HM.out] at hmc
                  have hk0 : (0 : Int) ≤ (k : Int) := by omega
                  have hki : (k : Int) < (m : Int) := by omega
                  go_wp2_with fail
                  refine (Read0 HO.out.st (k : Int) t HRD.out).mono ?_
                  rintro e w6 ⟨rfl, hb6⟩
                  have HO6 := Lib.hid (HO.out.below hb6)
                  obtain ⟨g', hA, ct, -⟩ := HO6.out.cell HTX.out
                  obtain rfl : g = g' := by injection hA with hA; injection hA
                  clear hA hb6
                  go_wp2_with fail
                  go_roundw
                  case rel => exact ⟨k + 1, by omega, by go_num, HO6.out⟩
                  case measure => simp [intOf]; omega
                · have hki : (m : Int) ≤ (k : Int) := by omega
                  obtain ⟨q1, q2, q3⟩ := kp_next HO.out.kp
                  rw [HM.out] at q1
                  have Q1 := Lib.hid q1
                  have Q2 := Lib.hid q2
                  have Q3 := Lib.hid q3
                  clear q1 q2 q3
                  go_wp2_with fail
                  refine (Next_any _ _ _ _ 0 HO.out.st.at_).mono ?_
                  rw [Q1.out]
                  rintro e wt1 ⟨rfl, x1, hW1⟩
                  have HT1 : Hid (KpSt w wt1 F5 p s.up A c kept) := by rw [hW1]; exact HO.out.below (below_drewN (Below.refl _ _) x1)
                  clear hW1
                  go_wp2_with fail
                  refine (Worn_any _ _ _ _ 0 HT1.out.st.at_).mono ?_
                  rw [Q2.out]
                  rintro e wt2 ⟨rfl, x2, hW2⟩
                  have HT2 : Hid (KpSt w wt2 F5 p s.up A c kept) := by rw [hW2]; exact HT1.out.below (below_drewN (Below.refl _ _) x2)
                  clear hW2
                  go_wp2_with fail
                  refine (Bad_any _ _ _ _ 0 HT2.out.st.at_).mono ?_
                  rw [Q3.out]
                  rintro e wt3 ⟨rfl, x3, hW3⟩
                  have HT3 : Hid (KpSt w wt3 F5 p s.up A c kept) := by rw [hW3]; exact HT2.out.below (below_drewN (Below.refl _ _) x3)
                  clear hW3
                  go_wp2_with fail
                  go_ret
                  exact ⟨rfl, HT3.out.st.bel⟩

end Go.Proofs.YtfnoojhnhkodaaaDoor.nd
