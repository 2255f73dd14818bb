/- A part of the proof. -/
import Derived.Test.YtfialjmemcobjaaGreatDoorPrFlB
import Derived.Lib.IfaceEq
set_option linter.unusedVariables false
set_option linter.unusedSimpArgs false
namespace Go.Proofs.YtfialjmemcobjaaGreatDoor
namespace er
open Go.RowKit Go.Extern.Stop Go.Stop Go.Extern
theorem Qlp (a b:Int) (w:World):(binOp .eql 34 (.iface 28 (.int .i64 a)) (.iface 28 (.int .i64 b))).run Tryz.prog w= .ok (.bool (a == b)) w:=
 Lib.run_eql_iface_int w a b Tryz.underlying34 (by kernel_rfl) Tryz.underlying28
theorem Qln (x y:Value) (w:World):(binOp .eql 34 (.iface 183 x) (.iface 28 y)).run Tryz.prog w= .ok (.bool false) w:=
 run_eql_iface_types (P:=Tryz.prog) 183 28 x y Tryz.underlying34 (by decide) w
set_option maxHeartbeats 2000000 in
set_option maxRecDepth 100000 in
theorem isC (bs:List Nat) (l:List (ByteArray×Int)) (c q:Int) (v:Value) (w:World) (herr:ErrAt w bs l c v):
  Calls Tryz.prog 240 #[v,.iface 28 (.int .i64 q),.bool true] w fun e w'=>e= .returned (.bool (c == q))∧w=w':=by
 have ER:=Ql4 herr
 clear herr
 go_enter Tryz.func240,Tryz.ntmps240
 go_wp2
 go_loopg [0] l.length (fun k s wr=>w=wr∧Hid (∃bs' l',l'.length=k∧ErrAt w bs' l' c s))
 case atStart=>exact ⟨rfl,bs,l,rfl,ER.out⟩
 case round=>
  obtain ⟨rfl,hr⟩:=hrel
  obtain ⟨bs',l',hl,he⟩:=hr.out
  clear hr
  cases l' with
  |nil=>
   cases bs' with
   |cons _ _=>exact he.elim
   |nil=>
    obtain rfl:_=_:=he
    have t1:=Qlp c q
    have t3:=Qft (.int .i64 c)
    have t4:=Qfr (.int .i64 c)
    have t5:=Qcx (.int .i64 c)
    clear hl
    cases hb:(c == q)
    ·have HB:=Ql4 hb
     go_wp2
     go_ret
     exact ⟨by simp [HB.out],rfl⟩
    ·have HB:=Ql4 hb
     go_wp2
     go_ret
     exact ⟨by simp [HB.out],rfl⟩
  |cons s l'=>
   cases bs' with
   |nil=>exact he.elim
   |cons b bs'=>
    obtain ⟨rfl,x,hwh,hx⟩:=he
    obtain ⟨tx,y,hxy⟩:=hx.iface
    subst hxy
    have HX:=Ql4 hx
    have HW:=Ql4 hwh
    have t1:=Qln (.pointer (some ⟨b,0,none⟩)) (.int .i64 q)
    have t3:=Qfs (.pointer (some ⟨b,0,none⟩))
    have t4:=Qih (.pointer (some ⟨b,0,none⟩))
    have t5:=Qk2 (.pointer (some ⟨b,0,none⟩))
    have HL:Hid (l'.length < gk):=by show _ < _;simp at hl;omega
    clear hx hwh hl
    go_wp2_with (go_at_call 369;refine (Ao _ _ _ _ _ HW.out).mono ?_;rintro e w' ⟨rfl,rfl⟩)
    go_roundg l'.length
    case measure=>exact HL.out
    case rel=>exact ⟨rfl,bs',l',rfl,HX.out⟩
set_option maxHeartbeats 1000000 in
set_option maxRecDepth 100000 in
theorem Ql0 (bs:List Nat) (l:List (ByteArray×Int)) (c q:Int) (v:Value) (w:World) (herr:ErrAt w bs l c v):
  Calls Tryz.prog 181 #[v,.iface 28 (.int .i64 q)] w fun e w'=>e= .returned (.bool (c == q))∧w=w':=by
 have ER:=Ql4 herr
 obtain ⟨tx,y,hxy⟩:=herr.iface
 subst hxy
 clear herr
 have x29:=@run_callFunc_extern Tryz.prog 216 _ ReflectliteType.typeOf Tryz.func216 (by kernel_rfl) (by kernel_rfl) (by kernel_rfl) (by kernel_rfl)
 have x61 := @run_callFunc_extern Tryz.prog 378 _ (Extern.ReflectliteType.method fun t => do Extern.Rtype.noPackHeld "Comparable" t; pure (.bool (← typeInfo t).comparable)) Tryz.func378 (by kernel_rfl) (by kernel_rfl) (by kernel_rfl) (by kernel_rfl)
 have f1:=Qk3
 have f2:=Eh
 have f3 : ∀ w, (Extern.ReflectliteType.method (fun t => do Extern.Rtype.noPackHeld "Comparable" t; (fun a : TypeInfo => Value.bool a.comparable) <$> typeInfo t) #[.agg #[.pointer (some ⟨2, 28, none⟩)]]).run Tryz.prog w = .ok (.bool true) w := fun w => by kernel_rfl
 go_enter Tryz.func181,Tryz.ntmps181
 go_wp2_with (go_at_call 240;refine (isC bs l c q _ _ ER.out).mono ?_;rintro e w' ⟨rfl,rfl⟩)
 go_ret
 exact ⟨rfl,rfl⟩
theorem Qlm (x:Value) (w:World):(binOp .eql 34 .nilIface (.iface 28 x)).run Tryz.prog w= .ok (.bool false) w:=by kernel_rfl
set_option maxHeartbeats 1000000 in
set_option maxRecDepth 100000 in
theorem Qfq (q:Int) (w:World):
  Calls Tryz.prog 181 #[.nilIface,.iface 28 (.int .i64 q)] w fun e w'=>e= .returned (.bool false)∧w=w':=by
 have h1:=Qlm (.int .i64 q)
 go_enter Tryz.func181,Tryz.ntmps181
 go_wp2
 go_ret
 exact ⟨rfl,rfl⟩
theorem Qhn (F:Nat→Prop) (l:List (ByteArray×Int)) (c q:Int) (v:Value) (w:World) (h:Yt w F l c v) (hq:q≠0):
  Calls Tryz.prog 181 #[v,.iface 28 (.int .i64 q)] w fun e w'=>e= .returned (.bool (c == q))∧w=w':=by
 rcases h with ⟨rfl,rfl⟩|⟨hc,bs,he,_⟩
 ·refine (Qfq q w).mono ?_
  rintro e w' ⟨rfl,rfl⟩
  exact ⟨by rw [show ((0:Int) == q)=false from by simpa using (Ne.symm hq)],rfl⟩
 ·exact Ql0 bs l c q v w he
theorem Qkf (F:Nat→Prop) (l:List (ByteArray×Int)) (c:Int) (v:Value) (w:World) (h:Yt w F l c v) (hg:LaidT w):
  Calls Tryz.prog 25 #[v] w fun e w'=>e= .returned (.int .i64 c)∧Below w.heap.size w w':=by
 rcases h with ⟨rfl,rfl⟩|⟨hc,bs,he,_⟩
 ·refine (Qi8 w).mono ?_
  rintro e w' ⟨rfl,rfl⟩
  exact ⟨rfl,Below.refl _ _⟩
 ·exact Qe3 bs l c v w he hg
end er
end Go.Proofs.YtfialjmemcobjaaGreatDoor
