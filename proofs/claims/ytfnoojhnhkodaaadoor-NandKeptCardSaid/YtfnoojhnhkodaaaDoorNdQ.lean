/- NandTorn. (By wip/tools/gen_ndq.py.) -/
import Derived.Test.YtfnoojhnhkodaaaDoorNdP
import Derived.Deep.DeepCutAuto
namespace Go.Proofs.YtfnoojhnhkodaaaDoor.nd
open Go.RowKit Go.Proofs.YtfnoojhnhkodaaaDoor.er
attribute [local go_sem ↓] Go.wp_at_zero Go.wp_at_succ
set_option linter.unusedVariables false

def FNAME : Nat := 4
theorem keepOf_neg (b : ByteArray) (mt mk k : Int) (j : ByteArray) (h : k < 0) : keepOf ⟨mt, mk, k, j⟩ b = 0 := by unfold keepOf; show (max (min k (b.size : Int)) 0).toNat = 0; omega
theorem keepOf_mid (b : ByteArray) (mt mk : Int) (n : Nat) (j : ByteArray) (h : n ≤ b.size) : keepOf ⟨mt, mk, n, j⟩ b = n := by unfold keepOf; show (max (min (n : Int) (b.size : Int)) 0).toNat = n; omega
theorem keepOf_all (b : ByteArray) (mt mk k : Int) (j : ByteArray) (h : (b.size : Int) < k) : keepOf ⟨mt, mk, k, j⟩ b = b.size := by unfold keepOf; show (max (min k (b.size : Int)) 0).toNat = b.size; omega
theorem keepOf_le (m : Mis) (b : ByteArray) : keepOf m b ≤ b.size := by unfold keepOf; omega

set_option maxHeartbeats 2000000 in
set_option maxRecDepth 100000 in
theorem torn_a (a b : ByteArray) (mt mk k : Int) (j : ByteArray) (w : World) (hg : LaidT w) (h1 : 128 < a.size) :
    Calls Tryd.prog 4 #[.string a, .string b, .agg #[.int .i64 mt, .int .i64 mk, .int .i64 k, .string j]] w fun e w' => e = .returned (.bool true) ∧ Below w.heap.size w w' := by
  have HB0 : Hid (Below w.heap.size w (w.alloc (.cells #[.int .i64 mt, .int .i64 mk, .int .i64 k, .string j] 44))) := (Below.refl _ _).alloc (Nat.le_refl _) _
  have HG := Lib.hid (hg.below HB0.out hg.lt)
  have i1 : (128 : Int) < (a.size : Int) := by omega
  clear hg
  go_enter Tryd.func4, Tryd.ntmps4
  go_wp2_with fail
  refine (awake_yes _ HG.out).mono ?_
  rintro e w1 ⟨rfl, hb1⟩
  have HB1 := Lib.hid hb1
  clear hb1
  go_wp2_with fail
  go_ret
  exact ⟨rfl, HB0.out.trans (HB1.out.mono HB0.out.size)⟩

set_option maxHeartbeats 2000000 in
set_option maxRecDepth 100000 in
theorem torn_b (a b : ByteArray) (mt mk k : Int) (j : ByteArray) (w : World) (hg : LaidT w) (h1 : a.size ≤ 128) (h2 : 128 < b.size) :
    Calls Tryd.prog 4 #[.string a, .string b, .agg #[.int .i64 mt, .int .i64 mk, .int .i64 k, .string j]] w fun e w' => e = .returned (.bool true) ∧ Below w.heap.size w w' := by
  have HB0 : Hid (Below w.heap.size w (w.alloc (.cells #[.int .i64 mt, .int .i64 mk, .int .i64 k, .string j] 44))) := (Below.refl _ _).alloc (Nat.le_refl _) _
  have HG := Lib.hid (hg.below HB0.out hg.lt)
  have i1 : (a.size : Int) ≤ 128 := by omega
  have i2 : (128 : Int) < (b.size : Int) := by omega
  clear hg
  go_enter Tryd.func4, Tryd.ntmps4
  go_wp2_with fail
  refine (awake_yes _ HG.out).mono ?_
  rintro e w1 ⟨rfl, hb1⟩
  have HB1 := Lib.hid hb1
  clear hb1
  go_wp2_with fail
  go_ret
  exact ⟨rfl, HB0.out.trans (HB1.out.mono HB0.out.size)⟩

set_option maxHeartbeats 2000000 in
set_option maxRecDepth 100000 in
theorem torn_j (a b : ByteArray) (mt mk k : Int) (j : ByteArray) (w : World) (hg : LaidT w) (h1 : a.size ≤ 128) (h2 : b.size ≤ 128) (h3 : 2000 < j.size) :
    Calls Tryd.prog 4 #[.string a, .string b, .agg #[.int .i64 mt, .int .i64 mk, .int .i64 k, .string j]] w fun e w' => e = .returned (.bool true) ∧ Below w.heap.size w w' := by
  have HB0 : Hid (Below w.heap.size w (w.alloc (.cells #[.int .i64 mt, .int .i64 mk, .int .i64 k, .string j] 44))) := (Below.refl _ _).alloc (Nat.le_refl _) _
  have HG := Lib.hid (hg.below HB0.out hg.lt)
  have i1 : (a.size : Int) ≤ 128 := by omega
  have i2 : (b.size : Int) ≤ 128 := by omega
  have i3 : (2000 : Int) < (j.size : Int) := by omega
  clear hg
  go_enter Tryd.func4, Tryd.ntmps4
  go_wp2_with fail
  refine (awake_yes _ HG.out).mono ?_
  rintro e w1 ⟨rfl, hb1⟩
  have HB1 := Lib.hid hb1
  clear hb1
  go_wp2_with fail
  go_ret
  exact ⟨rfl, HB0.out.trans (HB1.out.mono HB0.out.size)⟩

set_option maxHeartbeats 4000000 in
set_option maxRecDepth 100000 in
theorem torn_yes (a b : ByteArray) (mt mk k : Int) (j : ByteArray) (w : World) (hg : LaidT w) (h1 : a.size ≤ 128) (h2 : b.size ≤ 128) (h3 : j.size ≤ 2000) :
    Calls Tryd.prog 4 #[.string a, .string b, .agg #[.int .i64 mt, .int .i64 mk, .int .i64 k, .string j]] w fun e w' => e = .returned (.bool true) ∧ Below w.heap.size w w' := by
  have HB0 : Hid (Below w.heap.size w (w.alloc (.cells #[.int .i64 mt, .int .i64 mk, .int .i64 k, .string j] 44))) := (Below.refl _ _).alloc (Nat.le_refl _) _
  have HG := Lib.hid (hg.below HB0.out hg.lt)
  have HGL := Lib.hid hg.lt
  have WX0 : Hid (Whole (w.alloc (.cells #[.int .i64 mt, .int .i64 mk, .int .i64 k, .string j] 44)) w.heap.size 44 #[.int .i64 mt, .int .i64 mk, .int .i64 k, .string j]) := Whole.new _ _ _
  have i1 : (a.size : Int) ≤ 128 := by omega
  have i2 : (b.size : Int) ≤ 128 := by omega
  have i3 : (j.size : Int) ≤ 2000 := by omega
  have i3' : j.size ≤ 1000000 := by omega
  have big1 : a.size ≤ 9223372036854775807 := by omega
  have big2 : b.size ≤ 9223372036854775807 := by omega
  clear hg
  go_enter Tryd.func4, Tryd.ntmps4
  go_wp2_with fail
  refine (plain_any _).mono ?_
  rintro e w1 ⟨rfl, hb1⟩
  have HB1 := Lib.hid hb1
  have HG1 := Lib.hid (HG.out.below hb1 HG.out.lt)
  have WX1 := Lib.hid (WX0.out.below hb1 WX0.out.lt)
  clear hb1
  have HB01 := Lib.hid (HB0.out.trans (HB1.out.mono HB0.out.size))
  go_wp2_with fail
  refine (New16 w _ HB01.out HG1.out HGL.out).mono ?_
  rintro e w2 ⟨F2, p, rfl, S2, hb2, hF2⟩
  have HS2 := Lib.hid S2
  have WX2 := Lib.hid (WX1.out.below hb2 WX1.out.lt)
  have NX2 : Hid (¬ F2 w.heap.size) := fun h => by have h1 := hF2 _ h; have h2 := WX1.out.lt; omega
  have hpn := heql p
  clear S2 hb2 hF2
  go_wp2_with fail
  refine (awake_yes _ HS2.out.laid).mono ?_
  rintro e w3 ⟨rfl, hb3⟩
  have HS3 := Lib.hid (HS2.out.below hb3)
  have WX3 := Lib.hid (WX2.out.below hb3 WX2.out.lt)
  clear hb3
  go_wp2_with fail
  refine (Prog0 HS3.out 0 a (by decide) big1 (by show (fs.program 0 a).1 = 0; rw [torn1 a h1])).mono ?_
  rintro e w4 ⟨rfl, F4, S4, M4⟩
  have HS4 : Hid (St w w4 F4 p (t1 a)) := by have := S4; rw [show (freshNand 16 8).program 0 a = (0, t1 a) from torn1 a h1] at this; exact this
  obtain ⟨x4, y4⟩ := M4.whole WX3.out NX2.out
  have WX4 := Lib.hid x4
  have NX4 := Lib.hid y4
  have cz0 := x4.cell 0
  have cz1 := x4.cell 1
  have cz2 := x4.cell 2
  have cz3 := x4.cell 3
  have cf0 := x4.fz 0
  have cf1 := x4.fz 1
  have clt := x4.lt
  simp only [List.getElem?_toArray, List.getElem?_cons_zero, List.getElem?_cons_succ] at cz0 cz1 cz2 cz3
  clear S4 M4 x4 y4
  have KX5 : Hid (Keep (fun x => x = w.heap.size) w4 ((w4.setCell ⟨w.heap.size, 0, none⟩ (.int .i64 1)).setCell ⟨w.heap.size, 1, none⟩ (.int .i64 1))) := Keep.setCell (p := ⟨w.heap.size, 1, none⟩) (Keep.set1 _ _ _ _) (.inl rfl) _
  have WX5 : Hid (Whole ((w4.setCell ⟨w.heap.size, 0, none⟩ (.int .i64 1)).setCell ⟨w.heap.size, 1, none⟩ (.int .i64 1)) w.heap.size 44 #[.int .i64 1, .int .i64 1, .int .i64 k, .string j]) := by
    show Whole _ _ _ _
    simpa using (WX4.out.set 0 (.int .i64 1)).set 1 (.int .i64 1)
  have HS5 : Hid (St w ((w4.setCell ⟨w.heap.size, 0, none⟩ (.int .i64 1)).setCell ⟨w.heap.size, 1, none⟩ (.int .i64 1)) F4 p (t1 a)) := HS4.out.box KX5.out NX4.out (Nat.le_refl _)
  have HB6 : Hid (Below ((w4.setCell ⟨w.heap.size, 0, none⟩ (.int .i64 1)).setCell ⟨w.heap.size, 1, none⟩ (.int .i64 1)).heap.size ((w4.setCell ⟨w.heap.size, 0, none⟩ (.int .i64 1)).setCell ⟨w.heap.size, 1, none⟩ (.int .i64 1)) (((w4.setCell ⟨w.heap.size, 0, none⟩ (.int .i64 1)).setCell ⟨w.heap.size, 1, none⟩ (.int .i64 1)).alloc (.cells #[.int .i64 1, .int .i64 1, .int .i64 k, .string j] 44))) := (Below.refl _ _).alloc (Nat.le_refl _) _
  have HS6 := Lib.hid (HS5.out.below HB6.out)
  have WX6 := Lib.hid (WX5.out.below HB6.out WX5.out.lt)
  have HMA : Hid (MisArg (((w4.setCell ⟨w.heap.size, 0, none⟩ (.int .i64 1)).setCell ⟨w.heap.size, 1, none⟩ (.int .i64 1)).alloc (.cells #[.int .i64 1, .int .i64 1, .int .i64 k, .string j] 44)) w4.heap.size 0 [⟨1, 1, k, j⟩]) := by
    have := misArg_new ((w4.setCell ⟨w.heap.size, 0, none⟩ (.int .i64 1)).setCell ⟨w.heap.size, 1, none⟩ (.int .i64 1)) [⟨1, 1, k, j⟩]
    rw [size_set, size_set] at this
    exact this
  have HN6 : Hid (¬ F4 w4.heap.size) := fun h => by obtain ⟨_, _, _, hi⟩ := HS4.out.at_; exact absurd (hi.lt _ h) (Nat.lt_irrefl _)
  go_wp2_with fail
  refine (PlanS (s := t1 a) HS6.out (by show (1 : Int) ≤ 1000000000000000000; decide) w4.heap.size 0 1 1 [⟨1, 1, k, j⟩] rfl (by decide) HMA.out HN6.out (fun m hm => by simp only [List.mem_singleton] at hm; subst hm; exact i3')).mono ?_
  rintro e w7 ⟨rfl, F7, S7, M7⟩
  have HS7 : Hid (St w w7 F7 p (t2 a k j)) := S7
  obtain ⟨x7, y7⟩ := M7.whole WX6.out NX4.out
  have WX7 := Lib.hid x7
  have NX7 := Lib.hid y7
  clear S7 M7 x7 y7 cz0 cz1 cz2 cz3 cf0 cf1
  go_wp2_with fail
  refine (ProgE HS7.out 1 b (by show (1 : Int) ≤ 1000000000000000000; decide) big2 9 (by rw [torn3 a b k j h2]) (by decide)).mono ?_
  rintro e w8 ⟨b8, F8, rfl, S8, M8, E8⟩
  have HS8 : Hid (St w w8 F8 p (t3 a b k j)) := by have := S8; rw [torn3 a b k j h2] at this; exact this
  have HE8 := Lib.hid E8
  obtain ⟨x8, y8⟩ := M8.whole WX7.out NX7.out
  have WX8 := Lib.hid x8
  have NX8 := Lib.hid y8
  clear S8 M8 E8 x8 y8
  go_wp2_with fail
  refine (ReadE HS8.out 0 9 ⟨#[]⟩ (read_down _ _ rfl) (by decide)).mono ?_
  rintro e w9 ⟨b9, rfl, hb9, E9⟩
  have HS9 := Lib.hid (HS8.out.below hb9)
  have HE9 := Lib.hid (HE8.out.below hb9)
  have HF9 := Lib.hid E9
  have WX9 := Lib.hid (WX8.out.below hb9 WX8.out.lt)
  clear hb9 E9
  go_wp2_with fail
  refine (Code_w HE9.out HS9.out.laid).mono ?_
  rintro e wa ⟨rfl, hba⟩
  have HSa := Lib.hid (HS9.out.below hba)
  have HFa := Lib.hid (HF9.out.below hba)
  have WXa := Lib.hid (WX9.out.below hba WX9.out.lt)
  clear hba
  go_wp2_with fail
  refine (Down_any _ _ _ _ HSa.out.at_).mono ?_
  rw [show (t3 a b k j).down = true from rfl]
  rintro e w' ⟨rfl, rfl⟩
  go_wp2_with fail
  refine (Code_w HFa.out HSa.out.laid).mono ?_
  rintro e wb ⟨rfl, hbb⟩
  have HSb := Lib.hid (HSa.out.below hbb)
  have WXb := Lib.hid (WXa.out.below hbb WXa.out.lt)
  clear hbb
  go_wp2_with fail
  refine (ErasE HSb.out 0 (by show (2 : Int) ≤ 1000000000000000000; decide) 9 (by rw [erase_down _ _ rfl]) (by decide)).mono ?_
  rintro e wc ⟨bc, Fc, rfl, Sc, Mc, Ec⟩
  have HSc : Hid (St w wc Fc p (t3 a b k j)) := by have := Sc; rw [erase_down _ _ rfl] at this; exact this
  have HEc := Lib.hid Ec
  obtain ⟨xc, yc⟩ := Mc.whole WXb.out NX8.out
  have WXc := Lib.hid xc
  have NXc := Lib.hid yc
  clear Sc Mc Ec xc yc
  go_wp2_with fail
  refine (Code_w HEc.out HSc.out.laid).mono ?_
  rintro e wd ⟨rfl, hbd⟩
  have HSd := Lib.hid (HSc.out.below hbd)
  have WXd := Lib.hid (WXc.out.below hbd WXc.out.lt)
  clear hbd
  go_wp2_with fail
  refine (UpS HSd.out).mono ?_
  rintro e we ⟨rfl, Fe, Se, Me⟩
  have HSe : Hid (St w we Fe p (t4 a b k j)) := Se
  obtain ⟨xe, ye⟩ := Me.whole WXd.out NXc.out
  have ce2 := xe.cell 2
  have ce3 := xe.cell 3
  simp only [List.getElem?_toArray, List.getElem?_cons_zero, List.getElem?_cons_succ] at ce2 ce3
  have clte := xe.lt
  clear Se Me xe ye
  go_upto_region 13 with fail
  go_cut [12] (fun v wx => v = .int .i64 (keepOf ⟨2, 1, k, j⟩ b : Nat) ∧ we = wx)
  case first =>
    by_cases hk : k < 0
    · have hk2 : ¬ (b.size : Int) < k := by omega
      have HK := Lib.hid (keepOf_neg b 2 1 k j hk)
      go_wp2_with fail
      go_meet
      exact ⟨by rw [HK.out]; rfl, rfl⟩
    · obtain ⟨kn, rfl⟩ := Int.eq_ofNat_of_zero_le (show 0 ≤ k by omega)
      by_cases hk2 : (b.size : Int) < (kn : Int)
      · have HK := Lib.hid (keepOf_all b 2 1 kn j hk2)
        have hb0 : (0 : Int) ≤ (b.size : Int) := by omega
        go_wp2_with fail
        go_meet
        exact ⟨by rw [HK.out], rfl⟩
      · have HK := Lib.hid (keepOf_mid b 2 1 kn j (by omega))
        have hb0 : (kn : Int) ≤ (b.size : Int) := by omega
        go_wp2_with fail
        go_meet
        exact ⟨by rw [HK.out], rfl⟩
  case rest =>
    obtain ⟨rfl, rfl⟩ := hcut
    have hKle := keepOf_le ⟨2, 1, k, j⟩ b
    have HSP : Hid (spoilt ⟨2, 1, k, j⟩ b = cut128 (b.extract 0 (keepOf ⟨2, 1, k, j⟩ b) ++ j)) := rfl
    generalize keepOf ⟨2, 1, k, j⟩ b = K at *
    have hK1 : (0 : Int) ≤ (K : Int) := by omega
    have hK2 : (K : Int) ≤ (b.size : Int) := by omega
    go_upto_region 14 with fail
    go_cut [13] (fun v wx => v = .string (b.extract 0 K ++ j) ∧ ∃ d, wx = we.drewN d)
    case first =>
      go_quiet (fail)
      go_wp2_with fail
      go_meet
      exact ⟨rfl, _, rfl⟩
    case rest =>
      obtain ⟨rfl, d1, hW⟩ := hcut
      have HSf : Hid (St w wc Fe p (t4 a b k j)) := by rw [hW]; exact HSe.out.below (below_drewN (Below.refl _ _) d1)
      clear hW
      have hszX : (b.extract 0 K ++ j).size ≤ 100000 := by simp [ByteArray.size_append]; omega
      generalize b.extract 0 K ++ j = X at *
      go_upto_region 15 with fail
      obtain ⟨wf, hwf⟩ : ∃ wf : World, wf = wc := ⟨_, rfl⟩
      subst hwf
      go_cut [13] (fun v wx => v = .string (cut128 X) ∧ wf = wx)
      case first =>
        by_cases hX : 128 < X.size
        · have i4 : (128 : Int) < (X.size : Int) := by omega
          have HC : Hid (X.extract 0 128 = cut128 X) := cut_at X 128 (by omega)
          go_wp2_with fail
          go_meet
          exact ⟨by rw [HC.out], rfl⟩
        · have i4 : (X.size : Int) ≤ 128 := by omega
          have HC : Hid (X.extract 0 X.size = cut128 X) := cut_at X X.size (by omega)
          have HC2 : Hid (X = cut128 X) := cut_all X (by omega)
          go_wp2_with fail
          go_meet
          exact ⟨by first | rw [HC.out] | exact congrArg Value.string HC2.out, rfl⟩
      case rest =>
        obtain ⟨rfl, rfl⟩ := hcut
        go_wp2_with fail
        refine (Read0 HSf.out 0 a (by kernel_rfl)).mono ?_
        rintro e wg ⟨rfl, hbg⟩
        have HSg := Lib.hid (HSf.out.below hbg)
        clear hbg
        go_wp2_with fail
        refine (Read0 HSg.out 1 (cut128 X) (by rw [← HSP.out]; kernel_rfl)).mono ?_
        rintro e wh ⟨rfl, hbh⟩
        have HSh := Lib.hid (HSg.out.below hbh)
        clear hbh
        go_wp2_with fail
        refine (Next_any _ _ _ _ 0 HSh.out.at_).mono ?_
        rw [show (t4 a b k j).next 0 = 2 from rfl]
        rintro e wi ⟨rfl, d2, hWi⟩
        have HSi : Hid (St w wi Fe p (t4 a b k j)) := by rw [hWi]; exact HSh.out.below (below_drewN (Below.refl _ _) d2)
        clear hWi
        go_wp2_with fail
        refine (Prog0 HSi.out 2 a (by show (2 : Int) ≤ 1000000000000000000; decide) big1 (by rw [torn5 a b k j h1])).mono ?_
        rintro e wj ⟨rfl, Fj, Sj, Mj⟩
        have HSj : Hid (St w wj Fj p (t5 a b k j)) := by have := Sj; rw [torn5 a b k j h1] at this; exact this
        clear Sj Mj
        go_wp2_with fail
        refine (ProgE HSj.out 1 b (by show (3 : Int) ≤ 1000000000000000000; decide) big2 40 (by rw [torn6 a b k j h2]) (by decide)).mono ?_
        rintro e wk ⟨bk, Fk, rfl, Sk, Mk, Ek⟩
        have HSk : Hid (St w wk Fk p (t5 a b k j)) := by have := Sk; rw [torn6 a b k j h2] at this; exact this
        have HEk := Lib.hid Ek
        clear Sk Mk Ek
        go_wp2_with fail
        refine (Code_w HEk.out HSk.out.laid).mono ?_
        rintro e wl ⟨rfl, hbl⟩
        have HSl := Lib.hid (HSk.out.below hbl)
        clear hbl
        go_wp2_with fail
        refine (Ops_any _ _ _ _ HSl.out.at_).mono ?_
        rw [show (t5 a b k j).ops = 3 from rfl]
        rintro e w' ⟨rfl, rfl⟩
        go_wp2_with fail
        go_ret
        exact ⟨rfl, HSl.out.bel⟩
end Go.Proofs.YtfnoojhnhkodaaaDoor.nd
