/- A part of the proof. -/
import Derived.Test.YtfialjmemcobjaaGreatDoorPmVqF
import Derived.Test.YtfialjmemcobjaaGreatDoorPmDc
import Derived.Deep.Cut
set_option maxRecDepth 100000
set_option maxHeartbeats 16000000
set_option linter.unusedVariables false
set_option linter.unusedSimpArgs false
namespace Go.Proofs.YtfialjmemcobjaaGreatDoor
namespace pl
open Go.RowKit er st vo dc
def Re(w:World)(y:Value)(op:ByteArray)(id e:Int):Prop:=y= .nilIface/\e=0\/e≠0/\∃f,y= .iface 183 (f,0)/\Whole w f 187 #[.string op,I id,.iface 28 (I e)]
def Lm(w:World)(v:Nat)(c:Pt)(X:XL)(V:Vo)(op:ByteArray)(id e:Int)(G:XL->Vo->Prop)(x:Ending)(w':World):Prop:=
 ∃c' X' V' y,x= .returned y/\Re w' y op id e/\c'.p=c.p/\VoIn w' v c' X' V'/\Mv (vF v c X) w (vF v c' X') w'/\G X' V'
def DoRet(B:Nat)(w0:World)(b v:Nat)(r su:Dv)(G:XL->Vo->Prop)(x:Ending)(w':World):Prop:=
 x= .returned (.bool true)/\∃F c X V,PlIn B w0 w' b v c X V F r su/\G X V
theorem PlIn.noted{B:Nat}{w0 w w1 w2:World}{b v:Nat}{c:Pt}{X:XL}{V:Vo}{F:Nat->Prop}{r su r':Dv}{lv:Value}(h:PlIn B w0 w b v c X V F r su)(f:Below w w w1)(hb:Below w1 w1 w2)(z:SpcsAt w2 (gr F w1 w2) lv r'.l):
  PlIn B w0 ((w2.setCell (b,2) (I r'.cap)).setCell (b,3) lv) b v c X V (gr F w1 w2) r' su/\Keep (λk=>k=b) w ((w2.setCell (b,2) (I r'.cap)).setCell (b,3) lv):=by
 obtain⟨rl,sl,o,_,q⟩:=h.obj;have g:=f.trans (hb.mono f.size);have a:Keep (λk=>k=b) w2 ((w2.setCell (b,2) (I r'.cap)).setCell (b,3) lv):=((Keep.refl (λk=>k=b) w2).setCell (p:=(b,2)) (.inl rfl) _).setCell (p:=(b,3)) (.inl rfl) _;have i:=(Keep.below g).trans a (λk i=>.inl i);have s:=h.vo.below g;have x:=o.lt;have y:=f.size;have t:∀k,vF v c X k\/k=0->¬k=b:=by
  rintro k (i|rfl)
  ·exact(h.far k i).2
  ·exact λe=>h.b0 e.symm
 have j:∀k,gr F w1 w2 k->¬k=b:=by
  rintro k (m|⟨m,_⟩) rfl
  ·exact h.fb m
  ·omega
 have u:=((q.below g).mono Ak).keep a j;have H:Whole ((w2.setCell (b,2) (I r'.cap)).setCell (b,3) lv) b 66 #[(c.p,0),(v,0),I r'.cap,lv,I su.cap,sl]:=by
  have:=((o.below g o.lt).set 2 (I r'.cap)).set 3 lv;simpa using this
 have n:=hb.size;refine⟨⟨s.keep a t,⟨h.own.1.trans ((Keep.toBelow (B:=B) i (QqR h.bs h.own.1.size) ?_)),h.own.2⟩,⟨lv,sl,H,z.keep a j,u⟩,?_,?_,λK=>j b K rfl,h.bb,h.b0,h.bs⟩,i⟩
 ·rintro k rfl;exact h.bb
 ·intro k d;have:k<w2.heap.size:=Tn (λk i=>QzB (h.lt k i) f.size) n k d;exact QzB this a.size
 ·intro k d;have L:=h.vo.lt k d;refine⟨?_,(h.far k d).2⟩;rintro(m|⟨m,_⟩)
  ·exact(h.far k d).1 m
  ·omega
theorem U5(w:World)(y:Value)(op:ByteArray)(id e:Int)(h:Re w y op id e)(a:LaidT w)(b:-9223372036854775808<=e/\e<=9223372036854775807):C 91 #[y,I e,.string op,I id] w λx w'=>x= .returned (.bool true)/\Below w w w':=by
 rcases h with⟨rfl,rfl⟩|⟨c,f,rfl,d⟩
 ·refine(Q2h op id w).mono ?_;rintro x w' ⟨rfl,rfl⟩;exact⟨rfl,QqA _ _⟩
 ·exact Qn3 op id e f w c d a b
theorem Zi{F:Nat->Prop}{w w':World}(h:Keep F w.drew w'):Keep F w w':=((Keep.refl F w).drew).trans h (λ_ h=>.inl h)
theorem U8{F G:Nat->Prop}{w w':World}(h:Mv F w.drew G w'):Mv F w G w':=⟨Zi h.keep,h.sub⟩
theorem PlIn.below{B:Nat}{w0 w w':World}{b v:Nat}{c:Pt}{X:XL}{V:Vo}{F:Nat->Prop}{r su:Dv}(h:PlIn B w0 w b v c X V F r su)(hb:Below w w w'):PlIn B w0 w' b v c X V F r su:=by
 obtain⟨rl,sl,a,d,e⟩:=h.obj;exact⟨h.vo.below hb,Vd h.own h.bs (Mv.below hb),⟨rl,sl,a.below hb a.lt,d.below hb,e.below hb⟩,λk f=>QzB (h.lt k f) hb.size,h.far,h.fb,h.bb,h.b0,h.bs⟩
theorem PlIn.turned{B:Nat}{w0 w w':World}{b v:Nat}{c f:Pt}{X i:XL}{V l:Vo}{F:Nat->Prop}{r su:Dv}(h:PlIn B w0 w b v c X V F r su)(j:VoIn w' v f i l)(d:Mv (vF v c X) w (vF v f i) w')(n:f.p=c.p):PlIn B w0 w' b v f i l F r su:=by
 obtain⟨rl,sl,m,o,q⟩:=h.obj;have g:∀k,F k->¬vF v c X k:=λk a j=>(h.far k j).1 a;refine⟨j,Vd h.own h.bs d,⟨rl,sl,by rw[n];exact m.keep d.keep (λa=>(h.far b a).2 rfl),o.keep d.keep g,q.keep d.keep g⟩,λk a=>QzB (h.lt k a) d.keep.size,λk a=>?_,h.fb,h.bb,h.b0,h.bs⟩;rcases d.sub k a with a|a
 ·exact h.far k a
 ·exact⟨λg=>by have:=h.lt k g;omega,λe=>by have:=m.lt;omega⟩
def Mid(B:Nat)(w0:World)(b v:Nat)(c:Pt)(X:XL)(V:Vo)(r su:Dv)(a:Nat)(cs:Array Value)(w:World):Prop:=∃F,PlIn B w0 w b v c X V F r su/\Whole w a 60 cs/\∀k,vF v c X k->¬k=a
def Q7m(F:Nat->Prop)(r:Dv)(e:Int)(w:World)(x:Ending)(w':World):Prop:=∃A n c,x= .returned (.tuple #[.agg #[I r.cap,.slice A n c],I e])/\SpcsAt w' (gr F w w') (.slice A n c) r.l/\Below w w w'
theorem Qxd{F:Nat->Prop}{r:Dv}{e:Int}{w w':World}{x:Ending}(h:OpD w F (r,e) x w'):Q7m F r e w x w':=by
 obtain⟨lv,rfl,b,hb⟩:=h;obtain⟨A,c,rfl,a⟩:=b;exact⟨A,_,c,rfl,⟨A,c,rfl,a⟩,hb⟩
structure DoF(B:Nat)(w0 w w1:ν)(b v:Nat)(c:Pt)(X:XL)(V:Vo)(F:φ)(r su:Dv)(cs:Array Value)(A:Option Addr)(ln cc:Nat):Prop where
 al:w.alloc (.cells cs 60)=w1
 hb:Below w w w1
 act:Whole w1 w.heap.size 60 cs
 obj:w1 (b,1)=some (v,0)/\w1 (b,2)=I r.cap/\w1 (b,3)=some (.slice A ln cc)
 dv:∀W,Below w1 w1 W->DvAt W F (.agg #[I r.cap,.slice A ln cc]) r
 mid:∀(r':Dv) W A2 n2 c2,Below w1 w1 W->SpcsAt W (gr F w1 W) (.slice A2 n2 c2) r'.l->Mid B w0 b v c X V r' su w.heap.size cs ((W.setCell (b,2) (I r'.cap)).setCell (b,3) (.slice A2 n2 c2))
 fz:∀W,Below w1 w1 W->W (b,2)=I r.cap/\W (b,3)=some (.slice A ln cc)/\W.frozen? (b,2)=false/\W.frozen? (b,3)=false
theorem Uq{B:Nat}{w0 w:World}{b v:Nat}{c:Pt}{X:XL}{V:Vo}{F:Nat->Prop}{r su:Dv}(h:PlIn B w0 w b v c X V F r su)(cs:Array Value):∃w1 A ln cc,DoF B w0 w w1 b v c X V F r su cs A ln cc:=by
 obtain⟨rl,sl,j,m,s⟩:=h.obj;have a:Below w w (w.alloc (.cells cs 60)):=B0.alloc N0 _;have f:=Whole.new w 60 cs;obtain⟨w1,g⟩:=Zx (w.alloc (.cells cs 60));rw[g]at a f;obtain⟨A,cc,rfl,i⟩:=m;have d:=j.below a j.lt;refine⟨w1,A,r.l.length,cc,g,a,f,⟨d.cell 1,d.cell 2,d.cell 3⟩,λW hb=>(show DvAt w F (.agg #[I r.cap,.slice A r.l.length cc]) r from⟨⟨_,rfl,⟨A,cc,rfl,i⟩⟩,h.lt⟩).below (a.trans (hb.mono a.size)),λr' W A2 n2 c2 hb t=>?_,λW hb=>?_⟩
 ·obtain⟨p1,p2⟩:=h.noted a hb t;have n:¬w.heap.size=b:=by have:=j.lt;omega
  have o:Keep (λk=>k=b) w1 ((W.setCell (b,2) (I r'.cap)).setCell (b,3) (.slice A2 n2 c2)):=(Keep.below hb).trans (((Keep.refl (λk=>k=b) W).setCell (p:=(b,2)) (.inl rfl) _).setCell (p:=(b,3)) (.inl rfl) _) (λk q=>.inl q);exact⟨_,p1,f.keep o n,λk q e=>by have:=h.vo.lt k q;omega⟩
 ·have:=d.below hb d.lt;exact⟨this.cell 2,this.cell 3,this.fz 2,this.fz 3⟩
theorem Qfq{B:Nat}{w0 w w1:World}{b v:Nat}{c:Pt}{X:XL}{V:Vo}{F:Nat->Prop}{r su:Dv}{cs:Array Value}{A:Option Addr}{ln cc:Nat}(h:PlIn B w0 w b v c X V F r su)(e:DoF B w0 w w1 b v c X V F r su cs A ln cc){W:World}(a:Keep (vF v c X) w1 W):Whole W w.heap.size 60 cs/\W.cell? (b,0)=some (c.p,0)/\W.cell? (b,1)=some (v,0):=by
 obtain⟨rl,sl,f,_,_⟩:=h.obj;have d:=(f.below e.hb f.lt).keep a (λa=>(h.far b a).2 rfl);exact⟨e.act.keep a (λa=>by have:=h.vo.lt _ a;omega),d.cell 0,d.cell 1⟩
def Q1k(B:Nat)(w0:World)(b:Nat)(r su:Dv)(G:XL->Vo->Prop)(x:Ending)(w':World):Prop:=x= .returned (.bool true)/\∃v F c X V,PlIn B w0 w' b v c X V F r su/\G X V
theorem DoRet.any{B:Nat}{w0:World}{b v:Nat}{r su:Dv}{G:XL->Vo->Prop}{x:Ending}{w':World}(h:DoRet B w0 b v r su G x w'):Q1k B w0 b r su G x w':=by
 obtain⟨a,F,c,X,V,d⟩:=h;exact⟨a,v,F,c,X,V,d⟩
end pl
end Go.Proofs.YtfialjmemcobjaaGreatDoor
