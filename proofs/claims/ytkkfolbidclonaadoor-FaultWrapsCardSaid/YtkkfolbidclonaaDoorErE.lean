/- Contracts: errors.As at both targets; fault.Code; errors.is, errors.Is, fault.Has. -/
import Derived.Test.YtkkfolbidclonaaDoorErD
namespace Go.Proofs.YtkkfolbidclonaaDoor.er
open Go.RowKit Go.Extern.Stop Go.Stop Go.Extern
set_option linter.unusedVariables false

/-- The package-level variable errors.errorType as the condition has it. -/
def LaidT (w : World) : Prop := w.cell? ⟨0, 0, none⟩ = some (.iface 84 (.agg #[.pointer (some ⟨1, 26, none⟩)]))
theorem LaidT.below {B : Nat} {w w' : World} (h : LaidT w) (hb : Below B w w') (hB : 0 < B) : LaidT w' := (hb.cell (p := ⟨0, 0, none⟩) hB).trans h
theorem LaidT.lt {w : World} (h : LaidT w) : 0 < w.heap.size := World.block_lt_of_cell? _ _ h

set_option maxHeartbeats 2000000 in
set_option maxRecDepth 100000 in
theorem As_E (l : List Nd) (vs : List Value) (i : Nat) (v : Value) (w : World) (B ta : Nat) (old : Int) (hv : vs[i]? = some v) (hrep : Rep w B l vs) (hB : B ≤ ta) (hta : w.cell? ⟨ta, 0, none⟩ = some (.int .i64 old)) (hfz : w.frozen? ⟨ta, 0, none⟩ = false) (hg : LaidT w) :
    Calls Tryd.prog 21 #[v, .iface 55 (.pointer (some ⟨ta, 0, none⟩))] w (AsE w ta (codeO l i)) := by
  have HV := Lib.hid hv
  have REP := Lib.hid hrep
  have hlt : ta < w.heap.size := World.block_lt_of_cell? _ _ hta
  have h0 := hg.lt
  obtain ⟨tx, y, hxy⟩ := hrep.iface hv
  subst hxy
  clear hv hrep
  have x25 := @run_callFunc_extern Tryd.prog 25 _ (fun args => ReflectliteValue.unpack (args.getD 0 (.tuple #[]))) Tryd.func25 (by kernel_rfl) (by kernel_rfl) (by kernel_rfl) (by kernel_rfl)
  have x26 := @run_callFunc_extern Tryd.prog 26 _ (ReflectliteValue.methodAny (ReflectliteValue.valueError "reflectlite.Value.Type" 0) (fun t _ _ _ => ReflectliteType.toType t)) Tryd.func26 (by kernel_rfl) (by kernel_rfl) (by kernel_rfl) (by kernel_rfl)
  have x27 := @run_callFunc_extern Tryd.prog 27 _ (ReflectliteValue.method (ReflectliteValue.valueError "reflectlite.Value.IsNil" 0) ReflectliteValue.isNil) Tryd.func27 (by kernel_rfl) (by kernel_rfl) (by kernel_rfl) (by kernel_rfl)
  have x47 := @run_callFunc_extern Tryd.prog 47 _ (ReflectliteType.abiMethod fun t => do pure (.int .u8 (← Rtype.kind t))) Tryd.func47 (by kernel_rfl) (by kernel_rfl) (by kernel_rfl) (by kernel_rfl)
  have x62 := @run_callFunc_extern Tryd.prog 62 _ (ReflectliteType.method ReflectliteType.elem) Tryd.func62 (by kernel_rfl) (by kernel_rfl) (by kernel_rfl) (by kernel_rfl)
  have x63 := @run_callFunc_extern Tryd.prog 63 _ (ReflectliteType.relation "Implements" ReflectliteType.implements_) Tryd.func63 (by kernel_rfl) (by kernel_rfl) (by kernel_rfl) (by kernel_rfl)
  have f1 := valueOfPE ⟨ta, 0, none⟩
  have f2 := typePE
  have f3 := methodKind
  have f4 := methodElem
  have f5 := methodImplements
  have f6 := kindPE
  have f7 := kindE
  have f8 := elemPE
  have f9 := implementsE
  have n8 := isNilPE ⟨w.heap.size, 0, none⟩ ⟨ta, 0, none⟩ ((w.alloc (.cells #[.pointer (some ⟨ta, 0, none⟩)] 55)).alloc (.cells #[.pointer (some ⟨1, 55, none⟩), .pointer (some ⟨w.heap.size, 0, none⟩), .int .u64 150] 69)) (by simp)
  have hg2 : ((w.alloc (.cells #[.pointer (some ⟨ta, 0, none⟩)] 55)).alloc (.cells #[.pointer (some ⟨1, 55, none⟩), .pointer (some ⟨w.heap.size, 0, none⟩), .int .u64 150] 69)).cell? ⟨0, 0, none⟩ = some (.iface 84 (.agg #[.pointer (some ⟨1, 26, none⟩)])) := by
    rw [World.cell?_alloc_lt _ _ ⟨0, 0, none⟩ (by simp), World.cell?_alloc_lt _ _ ⟨0, 0, none⟩ h0]; exact hg
  have hbw : Below w.heap.size w ((w.alloc (.cells #[.pointer (some ⟨ta, 0, none⟩)] 55)).alloc (.cells #[.pointer (some ⟨1, 55, none⟩), .pointer (some ⟨w.heap.size, 0, none⟩), .int .u64 150] 69)) := ((Below.refl _ _).alloc (Nat.le_refl _) _).alloc (by simp) _
  have REP2 := Lib.hid (REP.out.below (hbw.mono (by omega)))
  have TG : Hid (TgtE _ B ta w.heap.size old) := ⟨below_c hbw hta, below_f hbw hta hfz, by simp, hB⟩
  have HBW := Lib.hid hbw
  clear hta hfz hg hbw
  cases hco : codeO l i with
  | none =>
    have HCO := Lib.hid hco
    clear hco
    go_enter Tryd.func21, Tryd.ntmps21
    go_wp2_with (go_at_call 28; refine (asE l vs i _ _ B ta w.heap.size old HV.out REP2.out (by simp; omega) TG.out).mono ?_; intro e w' hh; rw [HCO.out] at hh; obtain ⟨rfl, hb⟩ := hh)
    go_ret
    exact ⟨rfl, HBW.out.trans (hb.mono (by simp; omega))⟩
  | some c =>
    have HCO := Lib.hid hco
    clear hco
    go_enter Tryd.func21, Tryd.ntmps21
    go_wp2_with (go_at_call 28; refine (asE l vs i _ _ B ta w.heap.size old HV.out REP2.out (by simp; omega) TG.out).mono ?_; intro e w' hh; rw [HCO.out] at hh; obtain ⟨rfl, hq1, hq2⟩ := hh; have HQ1 := Lib.hid hq1; have HQ2 := Lib.hid hq2; clear hq1 hq2)
    go_ret
    exact ⟨rfl, HQ1.out, only_trans (only_of_below HBW.out _) HQ2.out⟩
set_option maxHeartbeats 2000000 in
set_option maxRecDepth 100000 in
theorem As_F (l : List Nd) (vs : List Value) (i : Nat) (v : Value) (w : World) (B ta : Nat) (old : Value) (hv : vs[i]? = some v) (hrep : Rep w B l vs) (hB : B ≤ ta) (hta : w.cell? ⟨ta, 0, none⟩ = some old) (hfz : w.frozen? ⟨ta, 0, none⟩ = false) (hg : LaidT w) :
    Calls Tryd.prog 21 #[v, .iface 57 (.pointer (some ⟨ta, 0, none⟩))] w (AsF w ta vs (firstO l i)) := by
  have HV := Lib.hid hv
  have REP := Lib.hid hrep
  have hlt : ta < w.heap.size := World.block_lt_of_cell? _ _ hta
  have h0 := hg.lt
  obtain ⟨tx, y, hxy⟩ := hrep.iface hv
  subst hxy
  clear hv hrep
  have x25 := @run_callFunc_extern Tryd.prog 25 _ (fun args => ReflectliteValue.unpack (args.getD 0 (.tuple #[]))) Tryd.func25 (by kernel_rfl) (by kernel_rfl) (by kernel_rfl) (by kernel_rfl)
  have x26 := @run_callFunc_extern Tryd.prog 26 _ (ReflectliteValue.methodAny (ReflectliteValue.valueError "reflectlite.Value.Type" 0) (fun t _ _ _ => ReflectliteType.toType t)) Tryd.func26 (by kernel_rfl) (by kernel_rfl) (by kernel_rfl) (by kernel_rfl)
  have x27 := @run_callFunc_extern Tryd.prog 27 _ (ReflectliteValue.method (ReflectliteValue.valueError "reflectlite.Value.IsNil" 0) ReflectliteValue.isNil) Tryd.func27 (by kernel_rfl) (by kernel_rfl) (by kernel_rfl) (by kernel_rfl)
  have x47 := @run_callFunc_extern Tryd.prog 47 _ (ReflectliteType.abiMethod fun t => do pure (.int .u8 (← Rtype.kind t))) Tryd.func47 (by kernel_rfl) (by kernel_rfl) (by kernel_rfl) (by kernel_rfl)
  have x62 := @run_callFunc_extern Tryd.prog 62 _ (ReflectliteType.method ReflectliteType.elem) Tryd.func62 (by kernel_rfl) (by kernel_rfl) (by kernel_rfl) (by kernel_rfl)
  have x63 := @run_callFunc_extern Tryd.prog 63 _ (ReflectliteType.relation "Implements" ReflectliteType.implements_) Tryd.func63 (by kernel_rfl) (by kernel_rfl) (by kernel_rfl) (by kernel_rfl)
  have f1 := valueOfPPF ⟨ta, 0, none⟩
  have f2 := typePPF
  have f3 := methodKind
  have f4 := methodElem
  have f5 := methodImplements
  have f6 := kindPPF
  have f7 := kindPF
  have f8 := elemPPF
  have f9 := implementsPF
  have n8 := isNilPPF ⟨w.heap.size, 0, none⟩ ⟨ta, 0, none⟩ ((w.alloc (.cells #[.pointer (some ⟨ta, 0, none⟩)] 57)).alloc (.cells #[.pointer (some ⟨1, 57, none⟩), .pointer (some ⟨w.heap.size, 0, none⟩), .int .u64 150] 69)) (by simp)
  have hg2 : ((w.alloc (.cells #[.pointer (some ⟨ta, 0, none⟩)] 57)).alloc (.cells #[.pointer (some ⟨1, 57, none⟩), .pointer (some ⟨w.heap.size, 0, none⟩), .int .u64 150] 69)).cell? ⟨0, 0, none⟩ = some (.iface 84 (.agg #[.pointer (some ⟨1, 26, none⟩)])) := by
    rw [World.cell?_alloc_lt _ _ ⟨0, 0, none⟩ (by simp), World.cell?_alloc_lt _ _ ⟨0, 0, none⟩ h0]; exact hg
  have hbw : Below w.heap.size w ((w.alloc (.cells #[.pointer (some ⟨ta, 0, none⟩)] 57)).alloc (.cells #[.pointer (some ⟨1, 57, none⟩), .pointer (some ⟨w.heap.size, 0, none⟩), .int .u64 150] 69)) := ((Below.refl _ _).alloc (Nat.le_refl _) _).alloc (by simp) _
  have REP2 := Lib.hid (REP.out.below (hbw.mono (by omega)))
  have TG : Hid (TgtF _ B ta w.heap.size old) := ⟨below_c hbw hta, below_f hbw hta hfz, by simp, hB⟩
  have HBW := Lib.hid hbw
  clear hta hfz hg hbw
  cases hco : firstO l i with
  | none =>
    have HCO := Lib.hid hco
    clear hco
    go_enter Tryd.func21, Tryd.ntmps21
    go_wp2_with (go_at_call 28; refine (asF l vs i _ _ B ta w.heap.size old HV.out REP2.out (by simp; omega) TG.out).mono ?_; intro e w' hh; rw [HCO.out] at hh; obtain ⟨rfl, hb⟩ := hh)
    go_ret
    exact ⟨rfl, HBW.out.trans (hb.mono (by simp; omega))⟩
  | some c =>
    have HCO := Lib.hid hco
    clear hco
    go_enter Tryd.func21, Tryd.ntmps21
    go_wp2_with (go_at_call 28; refine (asF l vs i _ _ B ta w.heap.size old HV.out REP2.out (by simp; omega) TG.out).mono ?_; intro e w' hh; rw [HCO.out] at hh; obtain ⟨rfl, hq1, hq2⟩ := hh; have HQ1 := Lib.hid hq1; have HQ2 := Lib.hid hq2; clear hq1 hq2)
    go_ret
    exact ⟨rfl, HQ1.out, only_trans (only_of_below HBW.out _) HQ2.out⟩

/-! ### fault.Code -/
set_option maxHeartbeats 1000000 in
theorem code_nil (w : World) : Calls Tryd.prog 12 #[.nilIface] w fun e w' => e = .returned (.int .i64 0) ∧ w = w' := by
  go_enter Tryd.func12, Tryd.ntmps12
  go_wp2
  go_ret
  exact ⟨rfl, rfl⟩
set_option maxHeartbeats 1000000 in
theorem code_err (l : List Nd) (vs : List Value) (i : Nat) (v : Value) (w : World) (B : Nat) (hv : vs[i]? = some v) (hrep : Rep w B l vs) (hB : B ≤ w.heap.size) (hg : LaidT w) :
    Calls Tryd.prog 12 #[v] w fun e w' => e = .returned (.int .i64 ((codeO l i).getD 8)) ∧ Below w.heap.size w w' := by
  obtain ⟨tx, y, hxy⟩ := hrep.iface hv
  subst hxy
  have hb0 : Below w.heap.size w (w.alloc (.cells #[.int .i64 0] 30)) := (Below.refl _ _).alloc (Nat.le_refl _) _
  have HV := Lib.hid hv
  have REP := Lib.hid (hrep.below (hb0.mono hB))
  have HG := Lib.hid (hg.below hb0 hg.lt)
  have HB0 := Lib.hid hb0
  clear hv hrep hg hb0
  cases hco : codeO l i with
  | none =>
    have HCO := Lib.hid hco
    clear hco
    go_enter Tryd.func12, Tryd.ntmps12
    go_wp2_with (go_at_call 21; refine (As_E l vs i _ _ B w.heap.size 0 HV.out REP.out hB (by simp) (by simp) HG.out).mono ?_; intro e w' hh; rw [HCO.out] at hh; obtain ⟨rfl, hb⟩ := hh)
    go_ret
    exact ⟨rfl, HB0.out.trans (hb.mono (by simp))⟩
  | some c =>
    have HCO := Lib.hid hco
    clear hco
    go_enter Tryd.func12, Tryd.ntmps12
    go_wp2_with (go_at_call 21; refine (As_E l vs i _ _ B w.heap.size 0 HV.out REP.out hB (by simp) (by simp) HG.out).mono ?_; intro e w' hh; rw [HCO.out] at hh; obtain ⟨rfl, hq1, hq2⟩ := hh; have HQ2 := Lib.hid hq2; clear hq2)
    go_ret
    exact ⟨rfl, HB0.out.trans (below_of_only HQ2.out (Nat.le_refl _) (by simp))⟩
end Go.Proofs.YtkkfolbidclonaaDoor.er
