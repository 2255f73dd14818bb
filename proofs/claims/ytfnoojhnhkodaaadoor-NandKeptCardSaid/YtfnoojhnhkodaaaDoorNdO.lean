/- NandNil. -/
import Derived.Test.YtfnoojhnhkodaaaDoorNdN
namespace Go.Proofs.YtfnoojhnhkodaaaDoor.nd
open Go.RowKit Go.Proofs.YtfnoojhnhkodaaaDoor.er
attribute [local go_sem ↓] Go.wp_at_zero Go.wp_at_succ
set_option linter.unusedVariables false

theorem Plan_nil (v : Value) (w : World) : Calls Tryd.prog 16 #[.pointer none, v] w fun e w' => e = .returned (.tuple #[]) ∧ w = w' := by
  go_enter Tryd.func16, Tryd.ntmps16
  go_wp2
  exact bodyPost_ret (v := .tuple #[]) (by simp [results, Tryd.results16, go_sem]) rfl ⟨rfl, rfl⟩
theorem errw_at {w : World} {b : Nat} {x : ByteArray × Int} {c : Int} {v : Value} (h : ErrAt w [b] [x] c v) (hc : c ≠ 0) : ErrW w (fun _ => False) [x] c v ∧ v = .iface 66 (.pointer (some ⟨b, 0, none⟩)) :=
  ⟨.inr ⟨hc, [b], h, fun _ _ => id⟩, h.1⟩
set_option maxHeartbeats 2000000 in
set_option maxRecDepth 100000 in
theorem nil_yes (a : Int) (s : ByteArray) (v : Value) (w : World) (hg : LaidT w) : Calls Tryd.prog 7 #[.int .i64 a, .string s, v] w fun e w' => e = .returned (.bool true) ∧ Below w.heap.size w w' := by
  have HG := Lib.hid hg
  have HL := Lib.hid hg.lt
  clear hg
  go_enter Tryd.func7, Tryd.ntmps7
  go_wp2_with fail
  refine (Plan_nil _ _).mono ?_
  rintro e w' ⟨rfl, rfl⟩
  go_wp2_with fail
  refine (Up_nil _).mono ?_
  rintro e w' ⟨rfl, rfl⟩
  go_wp2_with fail
  refine (Read_nil a _).mono ?_
  rintro e w1 ⟨v1, b1, rfl, hb1, he1⟩
  obtain ⟨hw1, hv1⟩ := errw_at he1 (by decide)
  subst hv1
  have HB1 := Lib.hid hb1
  have HE1 := Lib.hid hw1
  have HG1 := Lib.hid (HG.out.below hb1 HL.out)
  clear hb1 he1 hw1
  go_wp2_with fail
  refine (awake_yes _ HG1.out).mono ?_
  rintro e w2 ⟨rfl, hb2⟩
  have HB2 := Lib.hid (HB1.out.trans (hb2.mono HB1.out.size))
  have HE2 := Lib.hid (HE1.out.below hb2)
  have HG2 := Lib.hid (HG1.out.below hb2 HG1.out.lt)
  clear hb2
  go_wp2_with fail
  refine (Program_nil a s _).mono ?_
  rintro e w3 ⟨v3, b3, rfl, hb3, he3⟩
  obtain ⟨hw3, hv3⟩ := errw_at he3 (by decide)
  subst hv3
  have HB3 := Lib.hid (HB2.out.trans (hb3.mono HB2.out.size))
  have HE3 := Lib.hid (HE2.out.below hb3)
  have HP3 := Lib.hid hw3
  have HG3 := Lib.hid (HG2.out.below hb3 HG2.out.lt)
  clear hb3 he3 hw3
  go_wp2_with fail
  refine (Code_w HP3.out HG3.out).mono ?_
  rintro e w4 ⟨rfl, hb4⟩
  have HB4 := Lib.hid (HB3.out.trans (hb4.mono HB3.out.size))
  have HE4 := Lib.hid (HE3.out.below hb4)
  have HG4 := Lib.hid (HG3.out.below hb4 HG3.out.lt)
  clear hb4
  go_wp2_with fail
  refine (Erase_nil a _).mono ?_
  rintro e w5 ⟨v5, b5, rfl, hb5, he5⟩
  obtain ⟨hw5, hv5⟩ := errw_at he5 (by decide)
  subst hv5
  have HB5 := Lib.hid (HB4.out.trans (hb5.mono HB4.out.size))
  have HE5 := Lib.hid (HE4.out.below hb5)
  have HP5 := Lib.hid hw5
  have HG5 := Lib.hid (HG4.out.below hb5 HG4.out.lt)
  clear hb5 he5 hw5
  go_wp2_with fail
  refine (Code_w HP5.out HG5.out).mono ?_
  rintro e w6 ⟨rfl, hb6⟩
  have HB6 := Lib.hid (HB5.out.trans (hb6.mono HB5.out.size))
  have HE6 := Lib.hid (HE5.out.below hb6)
  have HG6 := Lib.hid (HG5.out.below hb6 HG5.out.lt)
  clear hb6
  go_wp2_with fail
  refine (Code_w HE6.out HG6.out).mono ?_
  rintro e w7 ⟨rfl, hb7⟩
  have HB7 := Lib.hid (HB6.out.trans (hb7.mono HB6.out.size))
  clear hb7
  go_wp2_with fail
  refine (Next_nil a _).mono ?_
  rintro e w' ⟨rfl, rfl⟩
  go_wp2_with fail
  refine (Worn_nil a _).mono ?_
  rintro e w' ⟨rfl, rfl⟩
  go_wp2_with fail
  refine (Ops_nil _).mono ?_
  rintro e w' ⟨rfl, rfl⟩
  go_wp2_with fail
  refine (Bad_nil a _).mono ?_
  rintro e w' ⟨rfl, rfl⟩
  go_wp2_with fail
  refine (Down_nil _).mono ?_
  rintro e w' ⟨rfl, rfl⟩
  go_wp2_with fail
  refine (Geometry_nil _).mono ?_
  rintro e w8 ⟨rfl, hb8⟩
  have HB8 := Lib.hid (HB7.out.trans (hb8.mono HB7.out.size))
  clear hb8
  go_wp2_with fail
  go_ret
  exact ⟨rfl, HB8.out⟩
end Go.Proofs.YtfnoojhnhkodaaaDoor.nd
