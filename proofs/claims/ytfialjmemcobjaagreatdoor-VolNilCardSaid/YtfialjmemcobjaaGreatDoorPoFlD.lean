/- A part of the proof. -/
import Derived.Test.YtfialjmemcobjaaGreatDoorPoFlB
import Derived.Lib.IfaceEq
set_option linter.unusedSimpArgs false
set_option linter.unusedVariables false
namespace Go.Proofs.YtfialjmemcobjaaGreatDoor.er
open Go.RowKit Go.Extern.Stop Go.Stop Go.Extern
set_option linter.unusedVariables false
theorem eqEE (a b:Int) (w:World):(binOp .eql 34 (.iface 28 (.int .i64 a)) (.iface 28 (.int .i64 b))).run Tryz.prog w= .ok (.bool (a == b)) w:=
 Lib.run_eql_iface_int w a b Tryz.underlying34 (by kernel_rfl) Tryz.underlying28
theorem eqFE (x y:Value) (w:World):(binOp .eql 34 (.iface 183 x) (.iface 28 y)).run Tryz.prog w= .ok (.bool false) w:=
 run_eql_iface_types (P:=Tryz.prog) 183 28 x y Tryz.underlying34 (by decide) w
set_option maxHeartbeats 2000000 in
set_option maxRecDepth 100000 in
theorem isC (bs:List Nat) (l:List (ByteArray×Int)) (c q:Int) (v:Value) (w:World) (herr:ErrAt w bs l c v):
  Calls Tryz.prog 240 #[v,.iface 28 (.int .i64 q),.bool true] w fun e w'=>e= .returned (.bool (c == q))∧w=w':=by
 have ER:=Lib.hid herr
 clear herr
 go_enter Tryz.func240,Tryz.ntmps240
 go_wp2
 go_loopg [0] l.length (fun k s wr=>w=wr∧Hid (∃bs' l',l'.length=k∧ErrAt w bs' l' c s))
 case atStart=>exact ⟨rfl,bs,l,rfl,ER.out⟩
 case round=>
  obtain ⟨rfl,hr⟩:=hrel
  obtain ⟨bs',l',hl,he⟩:=hr.out
  clear hr
  cases l' with
  |nil=>
   cases bs' with
   |cons _ _=>exact he.elim
   |nil=>
    obtain rfl:_=_:=he
    have t1:=eqEE c q
    have t3:=noIsE (.int .i64 c)
    have t4:=noUnE (.int .i64 c)
    have t5:=noUnsE (.int .i64 c)
    clear hl
    cases hb:(c == q)
    ·have HB:=Lib.hid hb
     go_wp2
     go_ret
     exact ⟨by simp [HB.out],rfl⟩
    ·have HB:=Lib.hid hb
     go_wp2
     go_ret
     exact ⟨by simp [HB.out],rfl⟩
  |cons s l'=>
   cases bs' with
   |nil=>exact he.elim
   |cons b bs'=>
    obtain ⟨rfl,x,hwh,hx⟩:=he
    obtain ⟨tx,y,hxy⟩:=hx.iface
    subst hxy
    have HX:=Lib.hid hx
    have HW:=Lib.hid hwh
    have t1:=eqFE (.pointer (some ⟨b,0,none⟩)) (.int .i64 q)
    have t3:=noIsF (.pointer (some ⟨b,0,none⟩))
    have t4:=hasUnF (.pointer (some ⟨b,0,none⟩))
    have t5:=unwrapF (.pointer (some ⟨b,0,none⟩))
    have HL:Hid (l'.length < gk):=by show _ < _;simp at hl;omega
    clear hx hwh hl
    go_wp2_with (go_at_call 369;refine (unwrap_fault _ _ _ _ _ HW.out).mono ?_;rintro e w' ⟨rfl,rfl⟩)
    go_roundg l'.length
    case measure=>exact HL.out
    case rel=>exact ⟨rfl,bs',l',rfl,HX.out⟩
set_option maxHeartbeats 1000000 in
set_option maxRecDepth 100000 in
theorem Is_C (bs:List Nat) (l:List (ByteArray×Int)) (c q:Int) (v:Value) (w:World) (herr:ErrAt w bs l c v):
  Calls Tryz.prog 181 #[v,.iface 28 (.int .i64 q)] w fun e w'=>e= .returned (.bool (c == q))∧w=w':=by
 have ER:=Lib.hid herr
 obtain ⟨tx,y,hxy⟩:=herr.iface
 subst hxy
 clear herr
 have x29:=@run_callFunc_extern Tryz.prog 216 _ ReflectliteType.typeOf Tryz.func216 (by kernel_rfl) (by kernel_rfl) (by kernel_rfl) (by kernel_rfl)
 have x61 := @run_callFunc_extern Tryz.prog 378 _ (Extern.ReflectliteType.method fun t => do Extern.Rtype.noPackHeld "Comparable" t; pure (.bool (← typeInfo t).comparable)) Tryz.func378 (by kernel_rfl) (by kernel_rfl) (by kernel_rfl) (by kernel_rfl)
 have f1:=typeOfE
 have f2:=methodComparable
 have f3 : ∀ w, (Extern.ReflectliteType.method (fun t => do Extern.Rtype.noPackHeld "Comparable" t; (fun a : TypeInfo => Value.bool a.comparable) <$> typeInfo t) #[.agg #[.pointer (some ⟨2, 28, none⟩)]]).run Tryz.prog w = .ok (.bool true) w := fun w => by kernel_rfl
 go_enter Tryz.func181,Tryz.ntmps181
 go_wp2_with (go_at_call 240;refine (isC bs l c q _ _ ER.out).mono ?_;rintro e w' ⟨rfl,rfl⟩)
 go_ret
 exact ⟨rfl,rfl⟩
theorem eqNE (x:Value) (w:World):(binOp .eql 34 .nilIface (.iface 28 x)).run Tryz.prog w= .ok (.bool false) w:=by kernel_rfl
set_option maxHeartbeats 1000000 in
set_option maxRecDepth 100000 in
theorem Is_nil (q:Int) (w:World):
  Calls Tryz.prog 181 #[.nilIface,.iface 28 (.int .i64 q)] w fun e w'=>e= .returned (.bool false)∧w=w':=by
 have h1:=eqNE (.int .i64 q)
 go_enter Tryz.func181,Tryz.ntmps181
 go_wp2
 go_ret
 exact ⟨rfl,rfl⟩
theorem Is_W (F:Nat→Prop) (l:List (ByteArray×Int)) (c q:Int) (v:Value) (w:World) (h:ErrW w F l c v) (hq:q≠0):
  Calls Tryz.prog 181 #[v,.iface 28 (.int .i64 q)] w fun e w'=>e= .returned (.bool (c == q))∧w=w':=by
 rcases h with ⟨rfl,rfl⟩|⟨hc,bs,he,_⟩
 ·refine (Is_nil q w).mono ?_
  rintro e w' ⟨rfl,rfl⟩
  exact ⟨by rw [show ((0:Int) == q)=false from by simpa using (Ne.symm hq)],rfl⟩
 ·exact Is_C bs l c q v w he
theorem code_W (F:Nat→Prop) (l:List (ByteArray×Int)) (c:Int) (v:Value) (w:World) (h:ErrW w F l c v) (hg:LaidT w):
  Calls Tryz.prog 25 #[v] w fun e w'=>e= .returned (.int .i64 c)∧Below w.heap.size w w':=by
 rcases h with ⟨rfl,rfl⟩|⟨hc,bs,he,_⟩
 ·refine (code_nil w).mono ?_
  rintro e w' ⟨rfl,rfl⟩
  exact ⟨rfl,Below.refl _ _⟩
 ·exact code_at bs l c v w he hg
end Go.Proofs.YtfialjmemcobjaaGreatDoor.er
