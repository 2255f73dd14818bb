/- A part of the proof. -/
import Derived.Test.YtfialjmemcobjaaGreatDoorPbFlB
import Derived.Lib.IfaceEq
set_option maxRecDepth 100000
set_option maxHeartbeats 16000000
set_option linter.unusedVariables false
set_option linter.unusedSimpArgs false
namespace Go.Proofs.YtfialjmemcobjaaGreatDoor
namespace er
open Go.RowKit Go.Extern.Stop Go.Stop Go.Extern
theorem Q7i(a b:Int)(w:World):(binOp .eql 34 (.iface 28 (I a)) (.iface 28 (I b))).run Tryz.prog w= .ok (.bool (a==b)) w:=
 Lib.run_eql_iface_int w a b Tryz.underlying34 J Tryz.underlying28
theorem Q7o(x y:Value)(w:World):(binOp .eql 34 (.iface 183 x) (.iface 28 y)).run Tryz.prog w= .ok (.bool false) w:=
 run_eql_iface_types (P:=Tryz.prog) 183 28 x y Tryz.underlying34 D w
theorem isC(n:List Nat)(l:List (ByteArray×Int))(c q:Int)(v:Value)(w:World)(d:ErrAt w n l c v):
  C 240 #[v,.iface 28 (I q),.bool true] w λe w'=>e= .returned (.bool (c==q))/\w=w':=by
 have r:=Q7h d;clear d;go_in
 go_wp2
 go_loopg [0] l.length (λk s wr=>w=wr/\Hid (∃a l',l'.length=k/\ErrAt w a l' c s))
 case atStart=>exact⟨rfl,n,l,rfl,r.o⟩
 case round=>
  obtain⟨rfl,p⟩:=hrel;obtain⟨a,l',h,g⟩:=p.o;clear p;cases l' with
  |nil=>
   cases a with
   |cons _ _=>exact g.elim
   |nil=>
    obtain rfl:_=_:=g;have t1:=Q7i c q;have t:=Q5p (I c);have u:=Qv7 (I c);have t5:=Qhv (I c);clear h;cases hb:(c==q)
    ·have i:=Q7h hb;go_wp2
     go_ret
     exact⟨by simp[i.o],rfl⟩
    ·have i:=Q7h hb;go_wp2
     go_ret
     exact⟨by simp[i.o],rfl⟩
  |cons s l'=>
   cases a with
   |nil=>exact g.elim
   |cons b a=>
    obtain⟨rfl,x,f,j⟩:=g;obtain⟨K,y,m⟩:=j.iface;subst m;have⟨z,F⟩:=Q2 j f;have t1:=Q7o (b,0) (I q);have t:=Q5n (b,0);have u:=Qw3 (b,0);have t5:=Qlv (b,0);have H:Hid (l'.length<gk):=by show _<_;simp at h;omega
    clear j f h;go_wp2_with (go_at_call 369;refine(Wz _ _ _ _ _ F.o).mono ?_;rintro e w' ⟨rfl,rfl⟩)
    go_roundg l'.length
    case measure=>exact H.o
    case rel=>exact⟨rfl,a,l',rfl,z.o⟩
theorem Q7f(f:List Nat)(l:List (ByteArray×Int))(c q:Int)(v:Value)(w:World)(b:ErrAt w f l c v):
  C 181 #[v,.iface 28 (I q)] w λe w'=>e= .returned (.bool (c==q))/\w=w':=by
 have g:=Q7h b;obtain⟨j,y,d⟩:=b.iface;subst d;clear b;have h:=@QzV Tryz.prog 216 _ ReflectliteType.typeOf Tryz.func216 J J J J;have i := @QzV Tryz.prog 378 _ (Extern.ReflectliteType.method λt => do Extern.Rtype.noPackHeld "Comparable" t; pure (.bool (<- typeInfo t).comparable)) Tryz.func378 J J J J;have k:=Qxb;have m:=Qkp;have n : ∀ w, (Extern.ReflectliteType.method (λt => do Extern.Rtype.noPackHeld "Comparable" t; (λa : TypeInfo => Value.bool a.comparable) <$> typeInfo t) #[.agg #[.pointer (some ⟨2, 28, none⟩)]]).run Tryz.prog w = .ok (.bool true) w := λw => by kernel_rfl
 go_in
 go_wp2_with (go_at_call 240;refine(isC f l c q _ _ g.o).mono ?_;rintro e w' ⟨rfl,rfl⟩)
 go_ret
 exact⟨rfl,rfl⟩
theorem Q7g(x:Value)(w:World):(binOp .eql 34 .nilIface (.iface 28 x)).run Tryz.prog w= .ok (.bool false) w:=J
theorem Q5x(q:Int)(w:World):
  C 181 #[.nilIface,.iface 28 (I q)] w λe w'=>e= .returned (.bool false)/\w=w':=by
 have h1:=Q7g (I q);go_in
 go_wp2
 go_ret
 exact⟨rfl,rfl⟩
theorem Q6g(F:Nat->Prop)(l:List (ByteArray×Int))(c q:Int)(v:Value)(w:World)(h:Cu w F l c v)(hq:q≠0):
  C 181 #[v,.iface 28 (I q)] w λe w'=>e= .returned (.bool (c==q))/\w=w':=by
 rcases h with⟨rfl,rfl⟩|⟨d,a,b,_⟩
 ·refine(Q5x q w).mono ?_;rintro e w' ⟨rfl,rfl⟩;exact⟨by rw[show((0:Int)==q)=false from by simpa using(Ne.symm hq)],rfl⟩
 ·exact Q7f a l c q v w b
theorem Qk9(F:Nat->Prop)(l:List (ByteArray×Int))(c:Int)(v:Value)(w:World)(h:Cu w F l c v)(a:LaidT w):
  C 25 #[v] w λe w'=>e= .returned (I c)/\Below w w w':=by
 rcases h with⟨rfl,rfl⟩|⟨f,b,d,_⟩
 ·refine(Q0e w).mono ?_;rintro e w' ⟨rfl,rfl⟩;exact⟨rfl,QqA _ _⟩
 ·exact Qej b l c v w d a
end er
end Go.Proofs.YtfialjmemcobjaaGreatDoor
