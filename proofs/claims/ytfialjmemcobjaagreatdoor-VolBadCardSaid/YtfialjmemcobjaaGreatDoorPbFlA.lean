/- A part of the proof. -/
import Derived.Deep.LoopGhost
import Derived.LaidEql
import Derived.Lib.Hide
import Derived.RowKitTokens
import Derived.Stop.Asserts
import Derived.Test.YtfialjmemcobjaaGreatDoorRows
import Derived.WalkKit
import Derived.WalkLawsBesides
import Derived.WalkSpells
set_option maxRecDepth 100000
set_option maxHeartbeats 16000000
set_option linter.unusedVariables false
set_option linter.unusedSimpArgs false
namespace Go.Proofs.YtfialjmemcobjaaGreatDoor
namespace er
open Go.RowKit Go.Extern.Stop Go.Stop Go.Extern
theorem Qom (t:Addr) (w:World):(ReflectliteValue.unpack (.iface 135 (.pointer (some t)))).run Tryz.prog w
  = .ok (.agg #[.pointer (some ⟨2,135,none⟩),.pointer (some ⟨w.heap.size,0,none⟩),.int .u64 150]) (w.alloc (.cells #[.pointer (some t)] 135)):=by kernel_rfl
theorem Qtp (c:Int) (w:World):(ReflectliteValue.unpack (.iface 28 (.int .i64 c))).run Tryz.prog w
  = .ok (.agg #[.pointer (some ⟨2,28,none⟩),.pointer (some ⟨w.heap.size,0,none⟩),.int .u64 130]) (w.alloc (.cells #[.int .i64 c] 28)):=by kernel_rfl
theorem Qts (a : Addr) (w : World) : (ReflectliteValue.methodAny (ReflectliteValue.valueError "reflectlite.Value.Type" 0) (fun t _ _ _ => ReflectliteType.toType t) #[.agg #[.pointer (some ⟨2, 135, none⟩), .pointer (some a), .int .u64 150]]).run Tryz.prog w
  = .ok (.iface 310 (.agg #[.pointer (some ⟨2,135,none⟩)])) w:=by kernel_rfl
theorem Mh (h : Value) (w : World) : (Go.method 567 310 (.agg #[h]) "Kind").run Tryz.prog w = .ok (363, h) w := by kernel_rfl
theorem Ml (h : Value) (w : World) : (Go.method 567 310 (.agg #[h]) "Elem").run Tryz.prog w = .ok (379, .agg #[h]) w := by kernel_rfl
theorem Gn (h : Value) (w : World) : (Go.method 567 310 (.agg #[h]) "Implements").run Tryz.prog w = .ok (380, .agg #[h]) w := by kernel_rfl
theorem Oh (h : Value) (w : World) : (Go.method 567 310 (.agg #[h]) "AssignableTo").run Tryz.prog w = .ok (377, .agg #[h]) w := by kernel_rfl
theorem Qkp (h : Value) (w : World) : (Go.method 567 310 (.agg #[h]) "Comparable").run Tryz.prog w = .ok (378, .agg #[h]) w := by kernel_rfl
theorem Qwn (w:World):((ReflectliteType.abiMethod fun t=>(fun a:Nat=>Value.int IntKind.u8 (a:Int)) <$> Rtype.kind t) #[.pointer (some ⟨2,135,none⟩)]).run Tryz.prog w= .ok (.int .u8 22) w:=by kernel_rfl
theorem Q3l (w:World):((ReflectliteType.abiMethod fun t=>(fun a:Nat=>Value.int IntKind.u8 (a:Int)) <$> Rtype.kind t) #[.pointer (some ⟨2,28,none⟩)]).run Tryz.prog w= .ok (.int .u8 2) w:=by kernel_rfl
theorem rlm (z:Sem Value) (f:TypeId→Addr→Nat→Nat→Sem Value) (v:Value):
  ReflectliteValue.method z f #[v]=(do match ←ReflectliteValue.parts v with|none=>z|some (t,a,fl)=>f t a fl (fl % 32)):=rfl
theorem Qmt (a:Addr) (w:World):(ReflectliteValue.parts (.agg #[.pointer (some ⟨2,135,none⟩),.pointer (some a),.int .u64 150])).run Tryz.prog w= .ok (some (135,a,150)) w:=by kernel_rfl
theorem Qne (a p:Addr) (W:World) (ha:W.cell? a=some (.pointer (some p))):
  (ReflectliteValue.method (ReflectliteValue.valueError "reflectlite.Value.IsNil" 0) ReflectliteValue.isNil #[.agg #[.pointer (some ⟨2, 135, none⟩), .pointer (some a), .int .u64 150]]).run Tryz.prog W = .ok (.bool false) W := by
 rw [rlm]
 simp only [Sem.run_bind,Qmt,Result.andThen]
 simp [ReflectliteValue.isNil,loadVar,isAgg,underlying,Tryz.underlying135,ha,Result.andThen]
theorem Q0x (w:World):(ReflectliteType.method ReflectliteType.elem #[.agg #[.pointer (some ⟨2,135,none⟩)]]).run Tryz.prog w= .ok (.iface 310 (.agg #[.pointer (some ⟨2,28,none⟩)])) w:=by kernel_rfl
theorem Qjr (w : World) : (ReflectliteType.relation "Implements" ReflectliteType.implements_ #[.agg #[.pointer (some ⟨2, 28, none⟩)], .iface 310 (.agg #[.pointer (some ⟨2, 34, none⟩)])]).run Tryz.prog w = .ok (.bool true) w := by kernel_rfl
theorem Qxb (v:Value) (w:World):(ReflectliteType.typeOf #[.iface 28 v]).run Tryz.prog w= .ok (.iface 310 (.agg #[.pointer (some ⟨2,28,none⟩)])) w:=by kernel_rfl
theorem Qyb (v:Value) (w:World):(ReflectliteType.typeOf #[.iface 183 v]).run Tryz.prog w= .ok (.iface 310 (.agg #[.pointer (some ⟨2,183,none⟩)])) w:=by kernel_rfl
theorem Q0w (w : World) : (ReflectliteType.relation "AssignableTo" ReflectliteType.assignableTo #[.agg #[.pointer (some ⟨2, 28, none⟩)], .iface 310 (.agg #[.pointer (some ⟨2, 28, none⟩)])]).run Tryz.prog w = .ok (.bool true) w := by kernel_rfl
theorem Q0v (w : World) : (ReflectliteType.relation "AssignableTo" ReflectliteType.assignableTo #[.agg #[.pointer (some ⟨2, 183, none⟩)], .iface 310 (.agg #[.pointer (some ⟨2, 28, none⟩)])]).run Tryz.prog w = .ok (.bool false) w := by kernel_rfl
theorem Q0y (w:World):(Rtype.elem? 135).run Tryz.prog w= .ok (some 28) w:=by kernel_rfl
theorem mkE (p:Addr) (w:World):(ReflectliteValue.mk 28 p ReflectliteValue.flagAddr).run Tryz.prog w= .ok (.agg #[.pointer (some ⟨2,28,none⟩),.pointer (some p),.int .u64 386]) w:=by kernel_rfl
theorem Q2r (a p:Addr) (W:World) (ha:W.cell? a=some (.pointer (some p))):
  (ReflectliteValue.method (ReflectliteValue.valueError "reflectlite.Value.Elem" 0) ReflectliteValue.elem #[.agg #[.pointer (some ⟨2, 135, none⟩), .pointer (some a), .int .u64 150]]).run Tryz.prog W
   = .ok (.agg #[.pointer (some ⟨2,28,none⟩),.pointer (some p),.int .u64 386]) W:=by
 rw [rlm]
 simp only [Sem.run_bind,Qmt,Result.andThen]
 simp [ReflectliteValue.elem,loadVar,isAgg,underlying,Tryz.underlying135,ha,Result.andThen,Q0y,mkE]
theorem rls (v x:Value):ReflectliteValue.set #[v,x]=(do
  let (some (dst,a,fl),some (src,b,_)):=(←ReflectliteValue.parts v,←ReflectliteValue.parts x)
   | unsupported (.noEntry "extern/(internal/reflectlite.Value).Set.zeroValue")
  if fl / ReflectliteValue.flagAddr % 2 == 0 then unsupported (.noEntry "extern/(internal/reflectlite.Value).Set.unaddressable")
  let val ←loadVar src b
  if ←Rtype.directlyAssignable dst src then storeVar dst a val
  else if ←Rtype.implements dst src then
   if (←Rtype.kind src) == 20 then
    match val with
    | .nilIface => unsupported (.noEntry "extern/reflectlite: a nil value of one interface type handed on as a value of another")
    |_=>storeVar dst a val
   else storeVar dst a (.iface src val)
  else panicString ("reflectlite.Set: value of type " ++ (← Rtype.spelt src) ++ " is not assignable to type " ++ (← Rtype.spelt dst))
  pure (.tuple #[])):=rfl
theorem Q10 (a:Addr) (w:World):(ReflectliteValue.parts (.agg #[.pointer (some ⟨2,28,none⟩),.pointer (some a),.int .u64 386])).run Tryz.prog w= .ok (some (28,a,386)) w:=by kernel_rfl
theorem Q4u (a:Addr) (w:World):(ReflectliteValue.parts (.agg #[.pointer (some ⟨2,28,none⟩),.pointer (some a),.int .u64 130])).run Tryz.prog w= .ok (some (28,a,130)) w:=by kernel_rfl
theorem Q2v (w:World):(Rtype.directlyAssignable 28 28).run Tryz.prog w= .ok true w:=by kernel_rfl
theorem Q7z (ta b:Addr) (c:Int) (old:Value) (W:World) (hb:W.cell? b=some (.int .i64 c)) (ht:W.cell? ta=some old) (hf:W.frozen? ta=false):
  (ReflectliteValue.set #[.agg #[.pointer (some ⟨2,28,none⟩),.pointer (some ta),.int .u64 386],.agg #[.pointer (some ⟨2,28,none⟩),.pointer (some b),.int .u64 130]]).run Tryz.prog W
   = .ok (.tuple #[]) (W.setCell ta (.int .i64 c)):=by
 rw [rls]
 simp only [Sem.run_bind,Q10,Q4u,Result.andThen]
 simp [ReflectliteValue.flagAddr,loadVar,isAgg,underlying,Tryz.underlying28,hb,Result.andThen,Q2v,storeVar,Value.cells,storeCells,Addr.add]
 rw [run_store Tryz.prog W ta _ _ (by rfl)]
 simp [ht,hf]
theorem Q3b (v:Value) (xT:TypeId) (w:World):(Instr.typeAssert (.iface 28 v) xT 315 true).run Tryz.prog w= .ok (.tuple #[.nilIface,.bool false]) w:=run_typeAssert_lacksB Tryz.underlying315 (by kernel_rfl) (by kernel_rfl) v xT w
theorem Q5r (v:Value) (xT:TypeId) (w:World):(Instr.typeAssert (.iface 183 v) xT 315 true).run Tryz.prog w= .ok (.tuple #[.nilIface,.bool false]) w:=run_typeAssert_lacksB Tryz.underlying315 (by kernel_rfl) (by kernel_rfl) v xT w
theorem Qv7 (v:Value) (xT:TypeId) (w:World):(Instr.typeAssert (.iface 28 v) xT 318 true).run Tryz.prog w= .ok (.tuple #[.nilIface,.bool false]) w:=run_typeAssert_lacksB Tryz.underlying318 (by kernel_rfl) (by kernel_rfl) v xT w
theorem Qw3 (v:Value) (xT:TypeId) (w:World):(Instr.typeAssert (.iface 183 v) xT 318 true).run Tryz.prog w= .ok (.tuple #[.iface 183 v,.bool true]) w:=run_typeAssert_hasB Tryz.underlying318 (by kernel_rfl) v xT w
theorem Qhv (v:Value) (xT:TypeId) (w:World):(Instr.typeAssert (.iface 28 v) xT 319 true).run Tryz.prog w= .ok (.tuple #[.nilIface,.bool false]) w:=run_typeAssert_lacksB Tryz.underlying319 (by kernel_rfl) (by kernel_rfl) v xT w
theorem Q5p (v:Value) (xT:TypeId) (w:World):(Instr.typeAssert (.iface 28 v) xT 383 true).run Tryz.prog w= .ok (.tuple #[.nilIface,.bool false]) w:=run_typeAssert_lacksB Tryz.underlying383 (by kernel_rfl) (by kernel_rfl) v xT w
theorem Q5n (v:Value) (xT:TypeId) (w:World):(Instr.typeAssert (.iface 183 v) xT 383 true).run Tryz.prog w= .ok (.tuple #[.nilIface,.bool false]) w:=run_typeAssert_lacksB Tryz.underlying383 (by kernel_rfl) (by kernel_rfl) v xT w
theorem Qlv (v : Value) (w : World) : (Go.method 567 183 v "Unwrap").run Tryz.prog w = .ok (369, v) w := by kernel_rfl
end er
end Go.Proofs.YtfialjmemcobjaaGreatDoor
