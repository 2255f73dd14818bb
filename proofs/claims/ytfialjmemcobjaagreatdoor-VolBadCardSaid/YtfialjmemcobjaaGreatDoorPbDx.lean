/- A part of the proof. -/
import Derived.Test.YtfialjmemcobjaaGreatDoorPbDeB
import Derived.Test.YtfialjmemcobjaaGreatDoorPbVqF
set_option maxRecDepth 100000
set_option maxHeartbeats 16000000
set_option linter.unusedVariables false
set_option linter.unusedSimpArgs false
namespace Go.Proofs.YtfialjmemcobjaaGreatDoor
namespace pl
open Go.RowKit er st vo dc
theorem Qv5(w:World):C 89 #[I 16,I 16] w λe w'=>e= .returned (.agg #[I 256,I 2,I 10,I 7,I 8])/\Below w w w':=by
 go_in
 go_wp2_with fail
 go_loopw [7] (λa wr=>(a= I 0\/a= I 1\/a= I 2\/a= I 3)/\wr=(w.alloc (.cells #[I 0,I 0,I 0,I 0,I 0] 143)).alloc (.cells #[I 256,I 2,I 10,I 0,I 0] 143)) (λa _=>3-(intOf a).toNat)
 case atStart=>exact⟨.inl rfl,rfl⟩
 case round=>
  obtain⟨h,rfl⟩:=hrel;rcases h with rfl|rfl|rfl|rfl
  ·go_wp2_with fail
   exact⟨⟨.inr (.inl (by go_num)),trivial⟩,D⟩
  ·go_wp2_with fail
   exact⟨⟨.inr (.inr (.inl (by go_num))),trivial⟩,D⟩
  ·go_wp2_with fail
   exact⟨⟨.inr (.inr (.inr (by go_num))),trivial⟩,D⟩
  ·go_wp2_with fail
   go_returns;refine⟨rfl,?_⟩
   exact(by repeat(first|exact QqA _ _|refine QjK ?_ E _))
def Zzg(B:Nat->Prop)(w:World)(F:Nat->Prop)(w':World):Prop:=Keep (λk=>¬B k) w w'/\∀k,F k->k<w.heap.size->¬B k
theorem Zq5{B:Nat->Prop}{w a b:World}{F G:Nat->Prop}(h:Zzg B w F a)(e:Mv F a G b):Zzg B w G b:=by
 refine⟨h.1.trans e.keep λk d=>?_,λk d c=>?_⟩
 ·by_cases c:k<w.heap.size
  ·exact .inl (h.2 k d c)
  ·exact .inr O
 ·rcases e.sub k d with d|d
  ·exact h.2 k d c
  ·have:=h.1.size;omega
structure PlIn(B:Nat->Prop)(w0 w:World)(b v:Nat)(c:Pt)(X:XL)(V:Vo)(F:Nat->Prop)(r su:Dv):Prop where
 vo:VoIn w v c X V
 own:Zzg B w0 (vF v c X) w
 obj:∃rl sl,Whole w b 66 #[(c.p,0),(v,0),I r.cap,rl,I su.cap,sl]/\SpcsAt w F rl r.l/\SpcsAt w F sl su.l
 lt:∀k,F k->k<w.heap.size
 far:∀k,vF v c X k->¬F k/\k≠b
 fb:¬F b
 bb:b<w0.heap.size->¬B b
 b0:b≠0
theorem PlIn.bk{B:Nat->Prop}{w0 w:World}{b v:Nat}{c:Pt}{X:XL}{V:Vo}{F:Nat->Prop}{r su:Dv}(h:PlIn B w0 w b v c X V F r su):∀k,k=b->¬B k\/w0.heap.size<=k:=by
 rintro k rfl;by_cases a:k<w0.heap.size
 ·exact .inl (h.bb a)
 ·exact .inr O
theorem Qvn(W:World):(Instr.field 143 (.agg #[I 256,I 2,I 10,I 7,I 8]) 2).run Tryz.prog W= .ok (I 10) W:=J
theorem Qsb(w:World)(L:LaidT w):C 33 #[] w λe w'=>∃b v c,e= .returned (b,0)/\PlIn (λk=>k<w.heap.size) w w' b v c [] (Ll (sE z16)) (λ_=>False) ⟨10,[]⟩ ⟨10,[]⟩:=by
 have⟨l,m⟩:=Q2 (Qk0 w L) Qv5;have M:=Qvn;go_in
 go_wp2_with fail
 refine l.o.mono ?_;rintro e w1 ⟨v,c,rfl,y,hb,z⟩;have N:=Cg v;have⟨F,H,Q⟩:=Q3 y hb z;clear y hb z;go_wp2_with fail
 refine(m.o _).mono ?_;rintro e w2 ⟨rfl,i⟩;have d:=Q7h i;clear i;go_wp2_with fail
 go_ret
 obtain⟨g,f⟩:=Zx (w2.alloc (.cells #[I 10,.slice none 0 0] 64));rw[f];have n:Below w2 w2 g:=by rw[<-f];exact B0.alloc N0 _
 have q:g.heap.size=w2.heap.size+1:=by rw[<-f];simp
 obtain⟨R,j⟩:=Zx (g.alloc (.cells #[(c.p,0),(v,0),I 10,.slice none 0 0,I 10,.slice none 0 0] 66));have r:=Whole.new g 66 #[(c.p,0),(v,0),I 10,.slice none 0 0,I 10,.slice none 0 0];have s:Below g g R:=by rw[<-j];exact B0.alloc N0 _
 rw[j]at r ⊢;rw[q]at r;have a:=d.o.trans ((n.trans (s.mono O)).mono d.o.size);have S:=d.o.size;have t:=H.o.size;have K:∀w:World,SpcsAt w (λ_=>False) (.slice none 0 0) []:=λw=>⟨none,0,rfl,U,λh=>by simp at h⟩;exact⟨w2.heap.size+1,v,c,rfl,F.o.below a,⟨Keep.below (H.o.trans (a.mono t)),λk u x=>absurd x (by have:=Q.o k u;omega)⟩,⟨_,_,r,K _,K _⟩,λk h=>h.elim,λk u=>⟨id,by have:=F.o.lt k u;omega⟩,id,λh=>O,O⟩
theorem Qsv(d:Nat)(s:ByteArray)(a:Int)(w:World):(Op.equalIn (d+2) 185 (.agg #[.string s,I a]) (.agg #[.string s,I a])).run Tryz.prog w= .ok true w:=by
 rw[run_equalIn_agg w (d+1) 185 _ _ J J];simp only[Program.fieldsOf,Tryz.underlying185];go_simp
theorem Qn8(s:ByteArray)(a:Int)(w:World):(binOp .eql 185 (.agg #[.string s,I a]) (.agg #[.string s,I a])).run Tryz.prog w= .ok (.bool true) w:=by
 have h:=Qsv 9998 s a w;simp[binOp,Op.equal,Op.maxDepth,h]
theorem Qnt:Tryz.prog.eqGuardType Tryz.prog.depth 185=false:=J
theorem Q2h(op:ByteArray)(a:Int)(w:World):C 91 #[.nilIface,I 0,.string op,I a] w λe w'=>e= .returned (.bool true)/\w=w':=by
 go_in
 go_wp2_with fail
 go_ret
 exact⟨rfl,rfl⟩
theorem Qn3(op:ByteArray)(a e:Int)(b:Nat)(w:World)(n:e≠0)(m:Whole w b 187 #[.string op,I a,.iface 28 (I e)])(h:LaidT w)(v:-9223372036854775808<=e/\e<=9223372036854775807):
  C 91 #[.iface 183 (b,0),I e,.string op,I a] w λx w'=>x= .returned (.bool true)/\Below w w w':=by
 have f:ErrAt w [b] [(op,a)] e (.iface 183 (b,0)):=⟨rfl,_,m,rfl⟩;have p:=Q7h (Qe3 _ _ _ _ w f h U);have q:Hid (∀W,Below w w W->C 25 #[.iface 183 (b,0)] W λx w'=>x= .returned (I e)/\Below W W w'):=λW hb=>Qej _ _ _ _ W (f.below hb) (h.below hb h.lt);have r:(e==0)=false:=by simpa using n
 have t:=Qnt;have u:=Qn8 op a;clear f m h;go_in
 go_wp2_with fail
 refine p.o.mono ?_;rintro x w1 ⟨s,rfl,i,hb⟩;obtain⟨A,c,rfl⟩:=Qk i;obtain⟨g,rfl,_,_,_,j,_⟩:=Qx i U;have c0:w1.cell? (g,0)=some (.string op):=by simpa using j 0 (.string op) rfl
 have c1:w1.cell? (g,1)=some (I a):=by simpa using j 1 (I a) rfl
 have k:=Q7h hb;clear i j hb;go_wp2_with fail
 refine(q.o _ k.o).mono ?_;rintro x w2 ⟨rfl,d⟩;have y:=Qq d c0;have z:=Qq d c1;have l:=Q7h (k.o.trans (d.mono k.o.size));clear d c0 c1;go_wp2_with fail
 go_ret
 exact⟨rfl,l.o⟩
theorem Qct(w:World)(q p:Nat)(sv vv:Value)(N:Nat->Prop)(s:Sto)(h:StoIn w q p sv vv N s):
  C 44 #[(q,0)] w λe w'=>e= .returned (I (we.G6 (Zqm s) 0))/\Below w w w':=by
 have H:=Q7h h;clear h;go_in
 go_wp2_with (first|(go_at_call 49;refine(Ym _ _ _ _ _ _ _ H.o).mono ?_;rintro e w1 ⟨v,rfl,d,a⟩;have⟨g,f⟩:=Q2 d a;clear a d)|(go_at_call 102;refine(we.Ae _ _ _ _ g.o).mono ?_;rintro e w2 ⟨rfl,b⟩;have c:=Q7h (f.o.trans (b.mono f.o.size));clear b))
 go_ret
 exact⟨rfl,c.o⟩
structure Ac where
 k:Int
 id:Int
 fr:Int
 n:Int
 d:ByteArray
def Ac.val(x:Ac):Value:= .agg #[I x.k,I x.id,I x.fr,I x.n,.string x.d]
theorem Qi4{B:Nat->Prop}{w0:World}(w:World)(b v:Nat)(c:Pt)(X:XL)(V:Vo)(F:Nat->Prop)(r su:Dv)(x:Ac)(h:PlIn B w0 w b v c X V F r su):
  C 34 #[(b,0),x.val] w λe w'=>e= .returned (.bool (decide (x.d.size<=1000)&&decide (4<=we.G6 (Zqm V.s) 0)))/\Below w w w':=by
 obtain⟨k,id,fr,n,d⟩:=x;show C 34 #[.pointer (some ⟨b,0,none⟩),.agg #[I k,I id,I fr,I n,.string d]] w _;obtain⟨rl,sl,j,_,_⟩:=h.obj;have a:Below w w (w.alloc (.cells #[I k,I id,I fr,I n,.string d] 60)):=B0.alloc N0 _;have c1:(w.alloc (.cells #[I k,I id,I fr,I n,.string d] 60)).cell? (b,1)=some (v,0):=(j.below a j.lt).cell 1;have⟨f,H⟩:=Q2 a (h.vo.below a);obtain⟨m,l⟩:=Zx (we.G6 (Zqm V.s) 0);obtain⟨L,K⟩:=Zx d.size;rw[l];have p:=Q7h (λW (t:VoIn W v c X V)=>Qya W v c X V t);have u:Hid (∀W,VoIn W v c X V->C 44 #[(c.q,0)] W λe w'=>e= .returned (I m)/\Below W W w'):=λW t=>by
  have:=Qct W _ _ _ _ _ _ t.sto;rwa[l]at this
 clear h j a l;by_cases hz:d.size<=1000
 ·have y:(d.size:Int)<=1000:=O;have g:decide (d.size<=1000)=true:=QxA hz;rw[g];go_in
  go_wp2_with fail
  refine(p.o _ H.o).mono ?_;rintro e w2 ⟨rfl,rfl⟩;go_wp2_with fail
  refine(u.o _ H.o).mono ?_;rintro e M ⟨rfl,i⟩;have z:=Q7h i;clear i;go_wp2_with fail
  go_ret
  exact⟨U,f.o.trans (z.o.mono f.o.size)⟩
 ·have y:¬(d.size:Int)<=1000:=O;have g:decide (d.size<=1000)=false:=QyF hz;rw[g];go_in
  go_wp2_with fail
  go_ret
  exact⟨U,f.o⟩
def Re(w:World)(y:Value)(op:ByteArray)(id e:Int):Prop:=y= .nilIface/\e=0\/e≠0/\∃f,y= .iface 183 (f,0)/\Whole w f 187 #[.string op,I id,.iface 28 (I e)]
def Lm(w:World)(v:Nat)(c:Pt)(X:XL)(V:Vo)(op:ByteArray)(id e:Int)(G:XL->Vo->Prop)(x:Ending)(w':World):Prop:=
 ∃c' X' V' y,x= .returned y/\Re w' y op id e/\c'.p=c.p/\VoIn w' v c' X' V'/\Mv (vF v c X) w (vF v c' X') w'/\G X' V'
def DoRet(B:Nat->Prop)(w0:World)(b v:Nat)(r su:Dv)(G:XL->Vo->Prop)(x:Ending)(w':World):Prop:=
 x= .returned (.bool true)/\∃F c X V,PlIn B w0 w' b v c X V F r su/\G X V
theorem PlIn.noted{B:Nat->Prop}{w0 w w1 w2:World}{b v:Nat}{c:Pt}{X:XL}{V:Vo}{F:Nat->Prop}{r su r':Dv}{lv:Value}(h:PlIn B w0 w b v c X V F r su)(f:Below w w w1)(hb:Below w1 w1 w2)(z:SpcsAt w2 (gr F w1 w2) lv r'.l):
  PlIn B w0 ((w2.setCell (b,2) (I r'.cap)).setCell (b,3) lv) b v c X V (gr F w1 w2) r' su/\Keep (λk=>k=b) w ((w2.setCell (b,2) (I r'.cap)).setCell (b,3) lv):=by
 obtain⟨rl,sl,o,_,q⟩:=h.obj;have g:=f.trans (hb.mono f.size);have a:Keep (λk=>k=b) w2 ((w2.setCell (b,2) (I r'.cap)).setCell (b,3) lv):=((Keep.refl (λk=>k=b) w2).setCell (p:=(b,2)) (.inl rfl) _).setCell (p:=(b,3)) (.inl rfl) _;have i:=(Keep.below g).trans a (λk i=>.inl i);have s:=h.vo.below g;have x:=o.lt;have y:=f.size;have t:∀k,vF v c X k\/k=0->¬k=b:=by
  rintro k (i|rfl)
  ·exact(h.far k i).2
  ·exact λe=>h.b0 e.symm
 have j:∀k,gr F w1 w2 k->¬k=b:=by
  rintro k (m|⟨m,_⟩) rfl
  ·exact h.fb m
  ·omega
 have u:=((q.below g).mono Ak).keep a j;have H:Whole ((w2.setCell (b,2) (I r'.cap)).setCell (b,3) lv) b 66 #[(c.p,0),(v,0),I r'.cap,lv,I su.cap,sl]:=by
  have:=((o.below g o.lt).set 2 (I r'.cap)).set 3 lv;simpa using this
 have n:=hb.size;refine⟨⟨s.keep a t,⟨h.own.1.trans i h.bk,h.own.2⟩,⟨lv,sl,H,z.keep a j,u⟩,?_,?_,λK=>j b K rfl,h.bb,h.b0⟩,i⟩
 ·intro k d;have:k<w2.heap.size:=Tn (λk i=>QzB (h.lt k i) f.size) n k d;exact QzB this a.size
 ·intro k d;have L:=h.vo.lt k d;refine⟨?_,(h.far k d).2⟩;rintro(m|⟨m,_⟩)
  ·exact(h.far k d).1 m
  ·omega
theorem U5(w:World)(y:Value)(op:ByteArray)(id e:Int)(h:Re w y op id e)(a:LaidT w)(b:-9223372036854775808<=e/\e<=9223372036854775807):C 91 #[y,I e,.string op,I id] w λx w'=>x= .returned (.bool true)/\Below w w w':=by
 rcases h with⟨rfl,rfl⟩|⟨c,f,rfl,d⟩
 ·refine(Q2h op id w).mono ?_;rintro x w' ⟨rfl,rfl⟩;exact⟨rfl,QqA _ _⟩
 ·exact Qn3 op id e f w c d a b
theorem Zi{F:Nat->Prop}{w w':World}(h:Keep F w.drew w'):Keep F w w':=((Keep.refl F w).drew).trans h (λ_ h=>.inl h)
theorem U8{F G:Nat->Prop}{w w':World}(h:Mv F w.drew G w'):Mv F w G w':=⟨Zi h.keep,h.sub⟩
theorem PlIn.below{B:Nat->Prop}{w0 w w':World}{b v:Nat}{c:Pt}{X:XL}{V:Vo}{F:Nat->Prop}{r su:Dv}(h:PlIn B w0 w b v c X V F r su)(hb:Below w w w'):PlIn B w0 w' b v c X V F r su:=by
 obtain⟨rl,sl,h1,h2,h3⟩:=h.obj;exact⟨h.vo.below hb,Zq5 h.own (Mv.below hb),⟨rl,sl,h1.below hb h1.lt,h2.below hb,h3.below hb⟩,λk a=>QzB (h.lt k a) hb.size,h.far,h.fb,h.bb,h.b0⟩
theorem PlIn.turned{B:Nat->Prop}{w0 w w':World}{b v:Nat}{c f:Pt}{X i:XL}{V l:Vo}{F:Nat->Prop}{r su:Dv}(h:PlIn B w0 w b v c X V F r su)(j:VoIn w' v f i l)(d:Mv (vF v c X) w (vF v f i) w')(m:f.p=c.p):PlIn B w0 w' b v f i l F r su:=by
 obtain⟨rl,sl,h1,h2,h3⟩:=h.obj;have g:∀k,F k->¬vF v c X k:=λk a j=>(h.far k j).1 a;refine⟨j,Zq5 h.own d,⟨rl,sl,by rw[m];exact h1.keep d.keep (λa=>(h.far b a).2 rfl),h2.keep d.keep g,h3.keep d.keep g⟩,λk a=>QzB (h.lt k a) d.keep.size,λk a=>?_,h.fb,h.bb,h.b0⟩;rcases d.sub k a with a|a
 ·exact h.far k a
 ·exact⟨λg=>by have:=h.lt k g;omega,λe=>by have:=h1.lt;omega⟩
def Mid(B:Nat->Prop)(w0:World)(b v:Nat)(c:Pt)(X:XL)(V:Vo)(r su:Dv)(a:Nat)(cs:Array Value)(w:World):Prop:=∃F,PlIn B w0 w b v c X V F r su/\Whole w a 60 cs/\∀k,vF v c X k->¬k=a
def Q7m(F:Nat->Prop)(r:Dv)(e:Int)(w:World)(x:Ending)(w':World):Prop:=∃A n c,x= .returned (.tuple #[.agg #[I r.cap,.slice A n c],I e])/\SpcsAt w' (gr F w w') (.slice A n c) r.l/\Below w w w'
theorem Qxd{F:Nat->Prop}{r:Dv}{e:Int}{w w':World}{x:Ending}(h:OpD w F (r,e) x w'):Q7m F r e w x w':=by
 obtain⟨lv,rfl,b,hb⟩:=h;obtain⟨A,c,rfl,a⟩:=b;exact⟨A,_,c,rfl,⟨A,c,rfl,a⟩,hb⟩
structure DoF(B:Nat->Prop)(w0 w w1:World)(b v:Nat)(c:Pt)(X:XL)(V:Vo)(F:Nat->Prop)(r su:Dv)(cs:Array Value)(A:Option Addr)(ln cc:Nat):Prop where
 al:w.alloc (.cells cs 60)=w1
 hb:Below w w w1
 act:Whole w1 w.heap.size 60 cs
 obj:w1.cell? (b,1)=some (v,0)/\w1.cell? (b,2)=some (I r.cap)/\w1.cell? (b,3)=some (.slice A ln cc)
 dv:∀W,Below w1 w1 W->DvAt W F (.agg #[I r.cap,.slice A ln cc]) r
 mid:∀(r':Dv) W A2 n2 c2,Below w1 w1 W->SpcsAt W (gr F w1 W) (.slice A2 n2 c2) r'.l->Mid B w0 b v c X V r' su w.heap.size cs ((W.setCell (b,2) (I r'.cap)).setCell (b,3) (.slice A2 n2 c2))
 fz:∀W,Below w1 w1 W->W.cell? (b,2)=some (I r.cap)/\W.cell? (b,3)=some (.slice A ln cc)/\W.frozen? (b,2)=false/\W.frozen? (b,3)=false
theorem Uq{B:Nat->Prop}{w0 w:World}{b v:Nat}{c:Pt}{X:XL}{V:Vo}{F:Nat->Prop}{r su:Dv}(h:PlIn B w0 w b v c X V F r su)(cs:Array Value):∃w1 A ln cc,DoF B w0 w w1 b v c X V F r su cs A ln cc:=by
 obtain⟨rl,sl,j,m,s⟩:=h.obj;have a:Below w w (w.alloc (.cells cs 60)):=B0.alloc N0 _;have f:=Whole.new w 60 cs;obtain⟨w1,g⟩:=Zx (w.alloc (.cells cs 60));rw[g]at a f;obtain⟨A,cc,rfl,i⟩:=m;have d:=j.below a j.lt;refine⟨w1,A,r.l.length,cc,g,a,f,⟨d.cell 1,d.cell 2,d.cell 3⟩,λW hb=>(show DvAt w F (.agg #[I r.cap,.slice A r.l.length cc]) r from⟨⟨_,rfl,⟨A,cc,rfl,i⟩⟩,h.lt⟩).below (a.trans (hb.mono a.size)),λr' W A2 n2 c2 hb t=>?_,λW hb=>?_⟩
 ·obtain⟨p1,p2⟩:=h.noted a hb t;have n:¬w.heap.size=b:=by have:=j.lt;omega
  have o:Keep (λk=>k=b) w1 ((W.setCell (b,2) (I r'.cap)).setCell (b,3) (.slice A2 n2 c2)):=(Keep.below hb).trans (((Keep.refl (λk=>k=b) W).setCell (p:=(b,2)) (.inl rfl) _).setCell (p:=(b,3)) (.inl rfl) _) (λk q=>.inl q);exact⟨_,p1,f.keep o n,λk q e=>by have:=h.vo.lt k q;omega⟩
 ·have:=d.below hb d.lt;exact⟨this.cell 2,this.cell 3,this.fz 2,this.fz 3⟩
theorem Qfq{B:Nat->Prop}{w0 w w1:World}{b v:Nat}{c:Pt}{X:XL}{V:Vo}{F:Nat->Prop}{r su:Dv}{cs:Array Value}{A:Option Addr}{ln cc:Nat}(h:PlIn B w0 w b v c X V F r su)(e:DoF B w0 w w1 b v c X V F r su cs A ln cc){W:World}(a:Keep (vF v c X) w1 W):Whole W w.heap.size 60 cs/\W.cell? (b,0)=some (c.p,0)/\W.cell? (b,1)=some (v,0):=by
 obtain⟨rl,sl,f,_,_⟩:=h.obj;have d:=(f.below e.hb f.lt).keep a (λa=>(h.far b a).2 rfl);exact⟨e.act.keep a (λa=>by have:=h.vo.lt _ a;omega),d.cell 0,d.cell 1⟩
end pl
end Go.Proofs.YtfialjmemcobjaaGreatDoor
