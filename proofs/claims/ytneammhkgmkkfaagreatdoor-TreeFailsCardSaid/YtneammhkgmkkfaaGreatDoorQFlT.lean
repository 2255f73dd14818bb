/- A part of the proof. -/
import Derived.Test.YtneammhkgmkkfaaGreatDoorQFlC
namespace Go.Proofs.YtneammhkgmkkfaaGreatDoor.er
open Go.RowKit Go.Extern.Stop Go.Stop Go.Extern
set_option linter.unusedVariables false
set_option linter.unusedSimpArgs false
theorem valueOfPPF (t : Addr) (w : World) : (ReflectliteValue.unpack (.iface 89 (.pointer (some t)))).run Tryz.prog w
    = .ok (.agg #[.pointer (some ⟨1,89,none⟩),.pointer (some ⟨w.heap.size,0,none⟩),.int .u64 150]) (w.alloc (.cells #[.pointer (some t)] 89)) := by kernel_rfl
theorem valueOfPF (e : Addr) (w : World) : (ReflectliteValue.unpack (.iface 88 (.pointer (some e)))).run Tryz.prog w
    = .ok (.agg #[.pointer (some ⟨1,88,none⟩),.pointer (some ⟨w.heap.size,0,none⟩),.int .u64 150]) (w.alloc (.cells #[.pointer (some e)] 88)) := by kernel_rfl
theorem typePPF (a : Addr) (w : World) : (ReflectliteValue.methodAny (ReflectliteValue.valueError "reflectlite.Value.Type" 0) (fun t _ _ _ => ReflectliteType.toType t) #[.agg #[.pointer (some ⟨1, 89, none⟩), .pointer (some a), .int .u64 150]]).run Tryz.prog w
    = .ok (.iface 167 (.agg #[.pointer (some ⟨1,89,none⟩)])) w := by kernel_rfl
theorem kindPPF (w : World) : ((ReflectliteType.abiMethod fun t => (fun a : Nat => Value.int IntKind.u8 (a : Int)) <$> Rtype.kind t) #[.pointer (some ⟨1,89,none⟩)]).run Tryz.prog w = .ok (.int .u8 22) w := by kernel_rfl
theorem kindPF (w : World) : ((ReflectliteType.abiMethod fun t => (fun a : Nat => Value.int IntKind.u8 (a : Int)) <$> Rtype.kind t) #[.pointer (some ⟨1,88,none⟩)]).run Tryz.prog w = .ok (.int .u8 22) w := by kernel_rfl
theorem partsPPF (a : Addr) (w : World) : (ReflectliteValue.parts (.agg #[.pointer (some ⟨1,89,none⟩),.pointer (some a),.int .u64 150])).run Tryz.prog w = .ok (some (89,a,150)) w := by kernel_rfl
theorem isNilPPF (a p : Addr) (W : World) (ha : W.cell? a = some (.pointer (some p))) :
    (ReflectliteValue.method (ReflectliteValue.valueError "reflectlite.Value.IsNil" 0) ReflectliteValue.isNil #[.agg #[.pointer (some ⟨1, 89, none⟩), .pointer (some a), .int .u64 150]]).run Tryz.prog W = .ok (.bool false) W := by
  rw [rlm]
  simp only [Sem.run_bind,partsPPF,Result.andThen]
  simp [ReflectliteValue.isNil,loadVar,isAgg,underlying,Tryz.underlying89,ha,Result.andThen]
theorem elemPPF (w : World) : (ReflectliteType.method ReflectliteType.elem #[.agg #[.pointer (some ⟨1,89,none⟩)]]).run Tryz.prog w = .ok (.iface 167 (.agg #[.pointer (some ⟨1,88,none⟩)])) w := by kernel_rfl
theorem implementsPF (w : World) : (ReflectliteType.relation "Implements" ReflectliteType.implements_ #[.agg #[.pointer (some ⟨1, 88, none⟩)], .iface 167 (.agg #[.pointer (some ⟨1, 31, none⟩)])]).run Tryz.prog w = .ok (.bool true) w := by kernel_rfl
theorem assignEF (w : World) : (ReflectliteType.relation "AssignableTo" ReflectliteType.assignableTo #[.agg #[.pointer (some ⟨1, 35, none⟩)], .iface 167 (.agg #[.pointer (some ⟨1, 88, none⟩)])]).run Tryz.prog w = .ok (.bool false) w := by kernel_rfl
theorem assignFF (w : World) : (ReflectliteType.relation "AssignableTo" ReflectliteType.assignableTo #[.agg #[.pointer (some ⟨1, 88, none⟩)], .iface 167 (.agg #[.pointer (some ⟨1, 88, none⟩)])]).run Tryz.prog w = .ok (.bool true) w := by kernel_rfl
theorem elemOfPPF (w : World) : (Rtype.elem? 89).run Tryz.prog w = .ok (some 88) w := by kernel_rfl
theorem mkPF (p : Addr) (w : World) : (ReflectliteValue.mk 88 p ReflectliteValue.flagAddr).run Tryz.prog w = .ok (.agg #[.pointer (some ⟨1,88,none⟩),.pointer (some p),.int .u64 406]) w := by kernel_rfl
theorem elemVPPF (a p : Addr) (W : World) (ha : W.cell? a = some (.pointer (some p))) :
    (ReflectliteValue.method (ReflectliteValue.valueError "reflectlite.Value.Elem" 0) ReflectliteValue.elem #[.agg #[.pointer (some ⟨1, 89, none⟩), .pointer (some a), .int .u64 150]]).run Tryz.prog W
      = .ok (.agg #[.pointer (some ⟨1,88,none⟩),.pointer (some p),.int .u64 406]) W := by
  rw [rlm]
  simp only [Sem.run_bind,partsPPF,Result.andThen]
  simp [ReflectliteValue.elem,loadVar,isAgg,underlying,Tryz.underlying89,ha,Result.andThen,elemOfPPF,mkPF]
theorem partsPFa (a : Addr) (w : World) : (ReflectliteValue.parts (.agg #[.pointer (some ⟨1,88,none⟩),.pointer (some a),.int .u64 406])).run Tryz.prog w = .ok (some (88,a,406)) w := by kernel_rfl
theorem partsPF (a : Addr) (w : World) : (ReflectliteValue.parts (.agg #[.pointer (some ⟨1,88,none⟩),.pointer (some a),.int .u64 150])).run Tryz.prog w = .ok (some (88,a,150)) w := by kernel_rfl
theorem directPF (w : World) : (Rtype.directlyAssignable 88 88).run Tryz.prog w = .ok true w := by kernel_rfl
theorem setPF (ta b e : Addr) (old : Value) (W : World) (hb : W.cell? b = some (.pointer (some e))) (ht : W.cell? ta = some old) (hf : W.frozen? ta = false) :
    (ReflectliteValue.set #[.agg #[.pointer (some ⟨1,88,none⟩),.pointer (some ta),.int .u64 406],.agg #[.pointer (some ⟨1,88,none⟩),.pointer (some b),.int .u64 150]]).run Tryz.prog W
      = .ok (.tuple #[]) (W.setCell ta (.pointer (some e))) := by
  rw [rls]
  simp only [Sem.run_bind,partsPFa,partsPF,Result.andThen]
  simp [ReflectliteValue.flagAddr,loadVar,isAgg,underlying,Tryz.underlying88,hb,Result.andThen,directPF,storeVar,Value.cells,storeCells,Addr.add]
  rw [run_store Tryz.prog W ta _ _ (by rfl)]
  simp [ht,hf]
structure TgtP (w : World) (ta pa : Nat) (old : Value) : Prop where
  cell : w.cell? ⟨ta,0,none⟩ = some old
  fz : w.frozen? ⟨ta,0,none⟩ = false
  ptr : w.cell? ⟨pa,0,none⟩ = some (.pointer (some ⟨ta,0,none⟩))
def AsP (w : World) (ta : Nat) : List Nat → Ending → World → Prop
  | [],e,w' => e = .returned (.bool false) ∧ Below w.heap.size w w'
  | b :: _,e,w' => e = .returned (.bool true) ∧ (w'.cell? ⟨ta,0,none⟩ = some (.pointer (some ⟨b,0,none⟩)) ∧ w'.frozen? ⟨ta,0,none⟩ = false) ∧ w.grownBy w' (some ta)
set_option maxHeartbeats 2000000 in
set_option maxRecDepth 100000 in
theorem asP (bs : List Nat) (l : List (ByteArray × Int)) (c : Int) (v : Value) (w : World) (ta pa : Nat) (old : Value) (herr : ErrAt w bs l c v) (ht : TgtP w ta pa old) :
    Calls Tryz.prog 53 #[v,.iface 89 (.pointer (some ⟨ta,0,none⟩)),.agg #[.pointer (some ⟨1,89,none⟩),.pointer (some ⟨pa,0,none⟩),.int .u64 150],.iface 167 (.agg #[.pointer (some ⟨1,88,none⟩)])] w (AsP w ta bs) := by
  have TG := Lib.hid ht
  clear ht
  have x25 := @run_callFunc_extern Tryz.prog 50 _ (fun args => ReflectliteValue.unpack (args.getD 0 (.tuple #[]))) Tryz.func50 (by kernel_rfl) (by kernel_rfl) (by kernel_rfl) (by kernel_rfl)
  have x29 := @run_callFunc_extern Tryz.prog 82 _ ReflectliteType.typeOf Tryz.func82 (by kernel_rfl) (by kernel_rfl) (by kernel_rfl) (by kernel_rfl)
  have x60 := @run_callFunc_extern Tryz.prog 201 _ (ReflectliteType.relation "AssignableTo" ReflectliteType.assignableTo) Tryz.func201 (by kernel_rfl) (by kernel_rfl) (by kernel_rfl) (by kernel_rfl)
  have x31 := @run_callFunc_extern Tryz.prog 83 _ (ReflectliteValue.method (ReflectliteValue.valueError "reflectlite.Value.Elem" 0) ReflectliteValue.elem) Tryz.func83 (by kernel_rfl) (by kernel_rfl) (by kernel_rfl) (by kernel_rfl)
  have x32 := @run_callFunc_extern Tryz.prog 84 _ ReflectliteValue.set Tryz.func84 (by kernel_rfl) (by kernel_rfl) (by kernel_rfl) (by kernel_rfl)
  have mAss := methodAssignableTo
  have hb0 : Below w.heap.size w (w.alloc (.cells #[.pointer (some ⟨1,89,none⟩),.pointer (some ⟨pa,0,none⟩),.int .u64 150] 130)) := (Below.refl _ _).alloc (Nat.le_refl _) _
  have tq0 := below_c hb0 TG.out.cell
  have tf0 := below_f hb0 TG.out.cell TG.out.fz
  have tp0 := below_c hb0 TG.out.ptr
  cases l with
  | nil =>
    cases bs with
    | cons _ _ => exact herr.elim
    | nil =>
      obtain rfl : _ = _ := herr
      have t1 := typeOfE (.int .i64 c)
      have t2 := assignEF
      have t3 := noAsE (.int .i64 c)
      have t4 := noUnE (.int .i64 c)
      have t5 := noUnsE (.int .i64 c)
      go_enter Tryz.func53,Tryz.ntmps53
      go_wp2
      go_loopg [0] 0 (fun k s wr => s = .iface 35 (.int .i64 c) ∧ Below w.heap.size w wr ∧ wr.cell? ⟨w.heap.size,0,none⟩ = some (.pointer (some ⟨1,89,none⟩)) ∧ wr.cell? ⟨w.heap.size,1,none⟩ = some (.pointer (some ⟨pa,0,none⟩)) ∧ wr.cell? ⟨w.heap.size,2,none⟩ = some (.int .u64 150))
      case atStart => exact ⟨rfl,hb0,by simp,by simp,by simp⟩
      case round =>
        obtain ⟨rfl,hbel,c0,c1,c2⟩ := hrel
        go_wp2
        go_ret
        exact ⟨rfl,hbel⟩
  | cons s l' =>
    cases bs with
    | nil => exact herr.elim
    | cons b bs' =>
      obtain ⟨rfl,x,hwh,hx⟩ := herr
      have t1 := typeOfPF (.pointer (some ⟨b,0,none⟩))
      have t2 := assignFF
      have t4 := valueOfPF ⟨b,0,none⟩
      clear hwh hx
      go_enter Tryz.func53,Tryz.ntmps53
      go_wp2
      go_loopg [0] 0 (fun k s wr => s = .iface 88 (.pointer (some ⟨b,0,none⟩)) ∧ Below w.heap.size w wr ∧ wr.cell? ⟨w.heap.size,0,none⟩ = some (.pointer (some ⟨1,89,none⟩)) ∧ wr.cell? ⟨w.heap.size,1,none⟩ = some (.pointer (some ⟨pa,0,none⟩)) ∧ wr.cell? ⟨w.heap.size,2,none⟩ = some (.int .u64 150))
      case atStart => exact ⟨rfl,hb0,by simp,by simp,by simp⟩
      case round =>
        obtain ⟨rfl,hbel,c0,c1,c2⟩ := hrel
        have tq := below_c hbel TG.out.cell
        have tf := below_f hbel TG.out.cell TG.out.fz
        have tp := below_c hbel TG.out.ptr
        have tlt := World.block_lt_of_cell? _ _ tq
        have t3 := elemVPPF ⟨pa,0,none⟩ ⟨ta,0,none⟩ wr tp
        have t5 := setPF ⟨ta,0,none⟩ ⟨wr.heap.size,0,none⟩ ⟨b,0,none⟩ old (wr.alloc (.cells #[.pointer (some ⟨b,0,none⟩)] 88)) (by simp) (by rw [World.cell?_alloc_lt _ _ _ tlt]; exact tq) (by rw [World.frozen?_alloc_old _ _ _ (Nat.ne_of_lt tlt)]; exact tf)
        go_wp2
        go_ret
        refine ⟨rfl,⟨?_,?_⟩,only_alloc (only_setCell (only_of_below hbel _) (.inl rfl) _) _⟩
        · rw [World.cell?_alloc_lt _ _ _ (by simpa using tlt)]
          exact World.cell?_setCell_same _ _ _ tq
        · rw [World.frozen?_alloc_old _ _ _ (Nat.ne_of_lt (by simpa using tlt)),World.frozen?_setCell]
          exact tf
set_option maxHeartbeats 2000000 in
set_option maxRecDepth 100000 in
theorem As_P (bs : List Nat) (l : List (ByteArray × Int)) (c : Int) (v : Value) (w : World) (ta : Nat) (old : Value) (herr : ErrAt w bs l c v) (hta : w.cell? ⟨ta,0,none⟩ = some old) (hfz : w.frozen? ⟨ta,0,none⟩ = false) (hg : LaidT w) :
    Calls Tryz.prog 26 #[v,.iface 89 (.pointer (some ⟨ta,0,none⟩))] w (AsP w ta bs) := by
  have hlt : ta < w.heap.size := World.block_lt_of_cell? _ _ hta
  have h0 := hg.lt
  obtain ⟨tx,y,hxy⟩ := herr.iface
  subst hxy
  have x25 := @run_callFunc_extern Tryz.prog 50 _ (fun args => ReflectliteValue.unpack (args.getD 0 (.tuple #[]))) Tryz.func50 (by kernel_rfl) (by kernel_rfl) (by kernel_rfl) (by kernel_rfl)
  have x26 := @run_callFunc_extern Tryz.prog 51 _ (ReflectliteValue.methodAny (ReflectliteValue.valueError "reflectlite.Value.Type" 0) (fun t _ _ _ => ReflectliteType.toType t)) Tryz.func51 (by kernel_rfl) (by kernel_rfl) (by kernel_rfl) (by kernel_rfl)
  have x27 := @run_callFunc_extern Tryz.prog 52 _ (ReflectliteValue.method (ReflectliteValue.valueError "reflectlite.Value.IsNil" 0) ReflectliteValue.isNil) Tryz.func52 (by kernel_rfl) (by kernel_rfl) (by kernel_rfl) (by kernel_rfl)
  have x47 := @run_callFunc_extern Tryz.prog 185 _ (ReflectliteType.abiMethod fun t => do pure (.int .u8 (← Rtype.kind t))) Tryz.func185 (by kernel_rfl) (by kernel_rfl) (by kernel_rfl) (by kernel_rfl)
  have x62 := @run_callFunc_extern Tryz.prog 203 _ (ReflectliteType.method ReflectliteType.elem) Tryz.func203 (by kernel_rfl) (by kernel_rfl) (by kernel_rfl) (by kernel_rfl)
  have x63 := @run_callFunc_extern Tryz.prog 204 _ (ReflectliteType.relation "Implements" ReflectliteType.implements_) Tryz.func204 (by kernel_rfl) (by kernel_rfl) (by kernel_rfl) (by kernel_rfl)
  have f1 := valueOfPPF ⟨ta,0,none⟩
  have f2 := typePPF
  have f3 := methodKind
  have f4 := methodElem
  have f5 := methodImplements
  have f6 := kindPPF
  have f7 := kindPF
  have f8 := elemPPF
  have f9 := implementsPF
  have n8 := isNilPPF ⟨w.heap.size,0,none⟩ ⟨ta,0,none⟩ ((w.alloc (.cells #[.pointer (some ⟨ta,0,none⟩)] 89)).alloc (.cells #[.pointer (some ⟨1,89,none⟩),.pointer (some ⟨w.heap.size,0,none⟩),.int .u64 150] 130)) (by simp)
  have hg2 : ((w.alloc (.cells #[.pointer (some ⟨ta,0,none⟩)] 89)).alloc (.cells #[.pointer (some ⟨1,89,none⟩),.pointer (some ⟨w.heap.size,0,none⟩),.int .u64 150] 130)).cell? ⟨0,0,none⟩ = some (.iface 167 (.agg #[.pointer (some ⟨1,31,none⟩)])) := by
    rw [World.cell?_alloc_lt _ _ ⟨0,0,none⟩ (by simp),World.cell?_alloc_lt _ _ ⟨0,0,none⟩ h0]; exact hg
  have hbw : Below w.heap.size w ((w.alloc (.cells #[.pointer (some ⟨ta,0,none⟩)] 89)).alloc (.cells #[.pointer (some ⟨1,89,none⟩),.pointer (some ⟨w.heap.size,0,none⟩),.int .u64 150] 130)) := ((Below.refl _ _).alloc (Nat.le_refl _) _).alloc (by simp) _
  have ER2 := Lib.hid (herr.below hbw)
  have TG : Hid (TgtP _ ta w.heap.size old) := ⟨below_c hbw hta,below_f hbw hta hfz,by simp⟩
  have HBW := Lib.hid hbw
  clear hta hfz hg hbw herr
  cases bs with
  | nil =>
    go_enter Tryz.func26,Tryz.ntmps26
    go_wp2_with (go_at_call 53; refine (asP [] l c _ _ ta w.heap.size old ER2.out TG.out).mono ?_; intro e w' hh; obtain ⟨rfl,hb⟩ := hh)
    go_ret
    exact ⟨rfl,HBW.out.trans (hb.mono (by simp; omega))⟩
  | cons b bs' =>
    go_enter Tryz.func26,Tryz.ntmps26
    go_wp2_with (go_at_call 53; refine (asP (b :: bs') l c _ _ ta w.heap.size old ER2.out TG.out).mono ?_; intro e w' hh; obtain ⟨rfl,hq1,hq2⟩ := hh; have HQ1 := Lib.hid hq1; have HQ2 := Lib.hid hq2; clear hq1 hq2)
    go_ret
    exact ⟨rfl,HQ1.out,only_trans (only_of_below HBW.out _) HQ2.out⟩
end Go.Proofs.YtneammhkgmkkfaaGreatDoor.er
