/- A part of the proof. -/
import Derived.Test.YtneammhkgmkkfaaGreatDoorQFlB
namespace Go.Proofs.YtneammhkgmkkfaaGreatDoor.er
open Go.RowKit Go.Extern.Stop Go.Stop Go.Extern
set_option linter.unusedVariables false
theorem unwrap_fault (b : Nat) (op : ByteArray) (k : Int) (x : Value) (w : World) (h : w.heap[b]? = some (.cells #[.string op,.int .i64 k,x] 91 (0,0))) :
    Calls Tryz.prog 190 #[.pointer (some ⟨b,0,none⟩)] w fun e w' => e = .returned x ∧ w = w' := by
  have hc : w.cell? ⟨b,2,none⟩ = some x := by rw [cell_of_row w b 2 _ _ _ h]; rfl
  have hn : ∀ (w : World),(binOp .eql 88 (.pointer (some ⟨b,0,none⟩)) (.pointer none)).run Tryz.prog w = .ok (.bool false) w := fun w => by kernel_rfl
  clear h
  go_enter Tryz.func190,Tryz.ntmps190
  go_wp2
  go_ret
  exact ⟨rfl,rfl⟩
structure TgtE (w : World) (ta pa : Nat) (old : Int) : Prop where
  cell : w.cell? ⟨ta,0,none⟩ = some (.int .i64 old)
  fz : w.frozen? ⟨ta,0,none⟩ = false
  ptr : w.cell? ⟨pa,0,none⟩ = some (.pointer (some ⟨ta,0,none⟩))
def AsC (w : World) (ta : Nat) (c : Int) (e : Ending) (w' : World) : Prop :=
  e = .returned (.bool true) ∧ w'.cell? ⟨ta,0,none⟩ = some (.int .i64 c) ∧ w.grownBy w' (some ta)
theorem ErrAt.below {w w' : World} {bs : List Nat} {l : List (ByteArray × Int)} {c : Int} {v : Value} (h : ErrAt w bs l c v) (hb : Below w.heap.size w w') : ErrAt w' bs l c v :=
  ErrAt.keep (F := fun _ => False) (Keep.below hb) h (fun _ _ => id)
set_option maxHeartbeats 2000000 in
set_option maxRecDepth 100000 in
theorem asC (bs : List Nat) (l : List (ByteArray × Int)) (c : Int) (v : Value) (w : World) (ta pa : Nat) (old : Int) (herr : ErrAt w bs l c v) (ht : TgtE w ta pa old) :
    Calls Tryz.prog 53 #[v,.iface 74 (.pointer (some ⟨ta,0,none⟩)),.agg #[.pointer (some ⟨1,74,none⟩),.pointer (some ⟨pa,0,none⟩),.int .u64 150],.iface 167 (.agg #[.pointer (some ⟨1,35,none⟩)])] w (AsC w ta c) := by
  have ER := Lib.hid herr
  have TG := Lib.hid ht
  obtain ⟨tx,y,hv⟩ := herr.iface
  subst hv
  clear herr ht
  have x25 := @run_callFunc_extern Tryz.prog 50 _ (fun args => ReflectliteValue.unpack (args.getD 0 (.tuple #[]))) Tryz.func50 (by kernel_rfl) (by kernel_rfl) (by kernel_rfl) (by kernel_rfl)
  have x29 := @run_callFunc_extern Tryz.prog 82 _ ReflectliteType.typeOf Tryz.func82 (by kernel_rfl) (by kernel_rfl) (by kernel_rfl) (by kernel_rfl)
  have x60 := @run_callFunc_extern Tryz.prog 201 _ (ReflectliteType.relation "AssignableTo" ReflectliteType.assignableTo) Tryz.func201 (by kernel_rfl) (by kernel_rfl) (by kernel_rfl) (by kernel_rfl)
  have x31 := @run_callFunc_extern Tryz.prog 83 _ (ReflectliteValue.method (ReflectliteValue.valueError "reflectlite.Value.Elem" 0) ReflectliteValue.elem) Tryz.func83 (by kernel_rfl) (by kernel_rfl) (by kernel_rfl) (by kernel_rfl)
  have x32 := @run_callFunc_extern Tryz.prog 84 _ ReflectliteValue.set Tryz.func84 (by kernel_rfl) (by kernel_rfl) (by kernel_rfl) (by kernel_rfl)
  have mAss := methodAssignableTo
  go_enter Tryz.func53,Tryz.ntmps53
  go_wp2
  go_loopg [0] l.length (fun k s wr => (∃ bs' l',l'.length = k ∧ ErrAt w bs' l' c s) ∧ Below w.heap.size w wr ∧ wr.cell? ⟨w.heap.size,0,none⟩ = some (.pointer (some ⟨1,74,none⟩)) ∧ wr.cell? ⟨w.heap.size,1,none⟩ = some (.pointer (some ⟨pa,0,none⟩)) ∧ wr.cell? ⟨w.heap.size,2,none⟩ = some (.int .u64 150))
  case atStart => exact ⟨⟨bs,l,rfl,ER.out⟩,(Below.refl _ _).alloc (Nat.le_refl _) _,by simp,by simp,by simp⟩
  case round =>
    obtain ⟨⟨bs',l',hl,he⟩,hbel,c0,c1,c2⟩ := hrel
    cases l' with
    | nil =>
      cases bs' with
      | cons _ _ => exact he.elim
      | nil =>
        obtain rfl : _ = _ := he
        have tq := below_c hbel TG.out.cell
        have tf := below_f hbel TG.out.cell TG.out.fz
        have tp := below_c hbel TG.out.ptr
        have tlt := World.block_lt_of_cell? _ _ tq
        have t1 := typeOfE (.int .i64 c)
        have t2 := assignEE
        have t3 := elemVPE ⟨pa,0,none⟩ ⟨ta,0,none⟩ wr tp
        have t4 := valueOfE c
        have t5 := setE ⟨ta,0,none⟩ ⟨wr.heap.size,0,none⟩ c (.int .i64 old) (wr.alloc (.cells #[.int .i64 c] 35)) (by simp) (by rw [World.cell?_alloc_lt _ _ _ tlt]; exact tq) (by rw [World.frozen?_alloc_old _ _ _ (Nat.ne_of_lt tlt)]; exact tf)
        have HBEL := Lib.hid hbel
        clear hl hbel
        go_wp2
        go_ret
        refine ⟨rfl,?_,only_alloc (only_setCell (only_of_below HBEL.out _) (.inl rfl) _) _⟩
        rw [World.cell?_alloc_lt _ _ _ (by simpa using tlt)]
        exact World.cell?_setCell_same _ _ _ tq
    | cons s l' =>
      cases bs' with
      | nil => exact he.elim
      | cons b bs' =>
        obtain ⟨rfl,x,hwh,hx⟩ := he
        obtain ⟨tx,y,hxy⟩ := hx.iface
        subst hxy
        have HX := Lib.hid hx
        have HW := Lib.hid (hwh.below hbel hwh.lt)
        have t1 := typeOfPF (.pointer (some ⟨b,0,none⟩))
        have t2 := assignFE
        have t3 := noAsF (.pointer (some ⟨b,0,none⟩))
        have t4 := hasUnF (.pointer (some ⟨b,0,none⟩))
        have t5 := unwrapF (.pointer (some ⟨b,0,none⟩))
        have HL : Hid (l'.length < gk) := by show _ < _; simp at hl; omega
        clear hx hwh hl
        go_wp2_with (go_at_call 190; refine (unwrap_fault _ _ _ _ _ HW.out).mono ?_; rintro e w' ⟨rfl,rfl⟩)
        go_roundg l'.length
        case measure => exact HL.out
        case rel => exact ⟨⟨bs',l',rfl,HX.out⟩,hbel,c0,c1,c2⟩
def LaidT (w : World) : Prop := w.cell? ⟨0,0,none⟩ = some (.iface 167 (.agg #[.pointer (some ⟨1,31,none⟩)]))
theorem LaidT.below {B : Nat} {w w' : World} (h : LaidT w) (hb : Below B w w') (hB : 0 < B) : LaidT w' := (hb.cell (p := ⟨0,0,none⟩) hB).trans h
theorem LaidT.lt {w : World} (h : LaidT w) : 0 < w.heap.size := World.block_lt_of_cell? _ _ h
set_option maxHeartbeats 2000000 in
set_option maxRecDepth 100000 in
theorem As_C (bs : List Nat) (l : List (ByteArray × Int)) (c : Int) (v : Value) (w : World) (ta : Nat) (old : Int) (herr : ErrAt w bs l c v) (hta : w.cell? ⟨ta,0,none⟩ = some (.int .i64 old)) (hfz : w.frozen? ⟨ta,0,none⟩ = false) (hg : LaidT w) :
    Calls Tryz.prog 26 #[v,.iface 74 (.pointer (some ⟨ta,0,none⟩))] w (AsC w ta c) := by
  have hlt : ta < w.heap.size := World.block_lt_of_cell? _ _ hta
  have h0 := hg.lt
  obtain ⟨tx,y,hv⟩ := herr.iface
  subst hv
  have x25 := @run_callFunc_extern Tryz.prog 50 _ (fun args => ReflectliteValue.unpack (args.getD 0 (.tuple #[]))) Tryz.func50 (by kernel_rfl) (by kernel_rfl) (by kernel_rfl) (by kernel_rfl)
  have x26 := @run_callFunc_extern Tryz.prog 51 _ (ReflectliteValue.methodAny (ReflectliteValue.valueError "reflectlite.Value.Type" 0) (fun t _ _ _ => ReflectliteType.toType t)) Tryz.func51 (by kernel_rfl) (by kernel_rfl) (by kernel_rfl) (by kernel_rfl)
  have x27 := @run_callFunc_extern Tryz.prog 52 _ (ReflectliteValue.method (ReflectliteValue.valueError "reflectlite.Value.IsNil" 0) ReflectliteValue.isNil) Tryz.func52 (by kernel_rfl) (by kernel_rfl) (by kernel_rfl) (by kernel_rfl)
  have x47 := @run_callFunc_extern Tryz.prog 185 _ (ReflectliteType.abiMethod fun t => do pure (.int .u8 (← Rtype.kind t))) Tryz.func185 (by kernel_rfl) (by kernel_rfl) (by kernel_rfl) (by kernel_rfl)
  have x62 := @run_callFunc_extern Tryz.prog 203 _ (ReflectliteType.method ReflectliteType.elem) Tryz.func203 (by kernel_rfl) (by kernel_rfl) (by kernel_rfl) (by kernel_rfl)
  have x63 := @run_callFunc_extern Tryz.prog 204 _ (ReflectliteType.relation "Implements" ReflectliteType.implements_) Tryz.func204 (by kernel_rfl) (by kernel_rfl) (by kernel_rfl) (by kernel_rfl)
  have f1 := valueOfPE ⟨ta,0,none⟩
  have f2 := typePE
  have f3 := methodKind
  have f4 := methodElem
  have f5 := methodImplements
  have f6 := kindPE
  have f7 := kindE
  have f8 := elemPE
  have f9 := implementsE
  have n8 := isNilPE ⟨w.heap.size,0,none⟩ ⟨ta,0,none⟩ ((w.alloc (.cells #[.pointer (some ⟨ta,0,none⟩)] 74)).alloc (.cells #[.pointer (some ⟨1,74,none⟩),.pointer (some ⟨w.heap.size,0,none⟩),.int .u64 150] 130)) (by simp)
  have hg2 : ((w.alloc (.cells #[.pointer (some ⟨ta,0,none⟩)] 74)).alloc (.cells #[.pointer (some ⟨1,74,none⟩),.pointer (some ⟨w.heap.size,0,none⟩),.int .u64 150] 130)).cell? ⟨0,0,none⟩ = some (.iface 167 (.agg #[.pointer (some ⟨1,31,none⟩)])) := by
    rw [World.cell?_alloc_lt _ _ ⟨0,0,none⟩ (by simp),World.cell?_alloc_lt _ _ ⟨0,0,none⟩ h0]; exact hg
  have hbw : Below w.heap.size w ((w.alloc (.cells #[.pointer (some ⟨ta,0,none⟩)] 74)).alloc (.cells #[.pointer (some ⟨1,74,none⟩),.pointer (some ⟨w.heap.size,0,none⟩),.int .u64 150] 130)) := ((Below.refl _ _).alloc (Nat.le_refl _) _).alloc (by simp) _
  have ER2 := Lib.hid (herr.below hbw)
  have TG : Hid (TgtE _ ta w.heap.size old) := ⟨below_c hbw hta,below_f hbw hta hfz,by simp⟩
  have HBW := Lib.hid hbw
  clear hta hfz hg hbw herr
  go_enter Tryz.func26,Tryz.ntmps26
  go_wp2_with (go_at_call 53; refine (asC bs l c _ _ ta w.heap.size old ER2.out TG.out).mono ?_; intro e w' hh; obtain ⟨rfl,hq1,hq2⟩ := hh; have HQ1 := Lib.hid hq1; have HQ2 := Lib.hid hq2; clear hq1 hq2)
  go_ret
  exact ⟨rfl,HQ1.out,only_trans (only_of_below HBW.out _) HQ2.out⟩
set_option maxHeartbeats 1000000 in
theorem code_at (bs : List Nat) (l : List (ByteArray × Int)) (c : Int) (v : Value) (w : World) (herr : ErrAt w bs l c v) (hg : LaidT w) :
    Calls Tryz.prog 8 #[v] w fun e w' => e = .returned (.int .i64 c) ∧ Below w.heap.size w w' := by
  obtain ⟨tx,y,hv⟩ := herr.iface
  subst hv
  have hb0 : Below w.heap.size w (w.alloc (.cells #[.int .i64 0] 35)) := (Below.refl _ _).alloc (Nat.le_refl _) _
  have ER := Lib.hid (herr.below hb0)
  have HG := Lib.hid (hg.below hb0 hg.lt)
  have HB0 := Lib.hid hb0
  clear herr hg hb0
  go_enter Tryz.func8,Tryz.ntmps8
  go_wp2_with (go_at_call 26; refine (As_C bs l c _ _ w.heap.size 0 ER.out (by simp) (by simp) HG.out).mono ?_; intro e w' hh; obtain ⟨rfl,hq1,hq2⟩ := hh; have HQ2 := Lib.hid hq2; clear hq2)
  go_ret
  exact ⟨rfl,HB0.out.trans (below_of_only HQ2.out (Nat.le_refl _) (by simp))⟩
end Go.Proofs.YtneammhkgmkkfaaGreatDoor.er
