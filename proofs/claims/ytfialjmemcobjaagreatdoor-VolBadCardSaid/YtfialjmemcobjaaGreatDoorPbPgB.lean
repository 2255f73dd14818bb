/- A part of the proof. -/
import Derived.Test.YtfialjmemcobjaaGreatDoorPbCkA
import Derived.Test.YtfialjmemcobjaaGreatDoorPbFwB
set_option maxRecDepth 100000
set_option maxHeartbeats 16000000
set_option linter.unusedVariables false
set_option linter.unusedSimpArgs false
namespace Go.Proofs.YtfialjmemcobjaaGreatDoor
namespace pg
open Go.RowKit er fd ck
theorem Ir(w:World):
  C 55 #[] w λe w'=>∃g,e= .returned (.slice (some (g,0)) 5 5)/\WidthsAt w' g/\w.heap.size<=g/\Below w w w':=by
 go_in
 go_wp2_with fail
 go_ret
 exact⟨w.heap.size,rfl,Whole.new _ _ _,QqB _,B0.alloc N0 _⟩
def numsOf(p:Page):Nat->Int
 |0=>p.kind
 |1=>p.space
 |2=>p.key
 |3=>p.seq
 |_=>p.body.size
theorem Xy{p:Page}(h:Jd p=true):1<=p.kind/\p.kind<=4/\0<=p.space/\p.space<=65535/\0<=p.key/\p.key<=4294967295/\0<=p.seq/\p.seq<=281474976710655/\p.body.size<=100:=by
 simp only[Jd,inB,QzC,QzD]at h;omega
theorem Qkc{p:Page}(h:Jd p=true):∀j,j<5->0<=numsOf p j:=by
 obtain⟨h1,h2,h3,h4,h5,c,a,d,e⟩:=Xy h;intro j b;match j,b with
 |0,_=>show 0<=p.kind;omega
 |1,_=>exact h3
 |2,_=>exact h5
 |3,_=>exact a
 |4,_=>show 0<=(p.body.size:Int);omega
theorem Qkf{p:Page}(h:Jd p=true):∀j,j<5->numsOf p j<256^Tu j:=by
 obtain⟨h1,h2,h3,h4,h5,b,c,d,e⟩:=Xy h;intro j a;match j,a with
 |0,_=>show p.kind<256^1;omega
 |1,_=>show p.space<256^2;omega
 |2,_=>show p.key<256^4;omega
 |3,_=>show p.seq<256^6;omega
 |4,_=>show(p.body.size:Int)<256^1;omega
theorem Qur{w:World}{g:Nat}{p:Page}(h:Whole w g 98 #[.int .u64 p.kind,.int .u64 p.space,.int .u64 p.key,.int .u64 p.seq,.int .u64 p.body.size]):∀j,j<5->w.cell? (g,j)=some (.int .u64 (numsOf p j)):=by
 intro j a;rw[h.cell j];match j,a with
 |0,_=>rfl
 |1,_=>rfl
 |2,_=>rfl
 |3,_=>rfl
 |4,_=>rfl
def Oy(p:Page):ByteArray:=(⟨#[83,99]⟩:ByteArray)++⟨(Mj (numsOf p) 5).toArray⟩
def Kr(p:Page):ByteArray:=Bi (Oy p++p.body)
theorem Qrh(n:Nat->Int):(Mj n 5).length=14:=by simp[Mj,bytesOf_length,Tu]
theorem Ha(n:Nat->Int):(⟨(Mj n 5).toArray⟩:ByteArray).size=14:=by show(Mj n 5).toArray.size=14;simp[Qrh]
theorem Ew(p:Page)(w:World)(h:Jd p=false):
  C 12 #[p.val] w λe w'=>e= .returned (.tuple #[.string ⟨#[]⟩,I 1])/\Below w w w':=by
 obtain⟨k,s,y,q,b⟩:=p;have H:=Q7h h;clear h;show C 12 #[.agg #[I k,I s,I y,I q,.string b]] w _;have a:Below w w (w.alloc (.cells #[I k,I s,I y,I q,.string b] 32)):=B0.alloc N0 _;have c:=Q7h a;clear a;have d:=Q7h (Ap ⟨k,s,y,q,b⟩ (w.alloc (.cells #[I k,I s,I y,I q,.string b] 32)));go_in
 go_wp2_with fail
 refine d.o.mono ?_;rw[H.o];rintro e w' ⟨rfl,hb⟩;have f:=Q7h (c.o.trans (hb.mono c.o.size));clear hb;go_wp2_with fail
 go_returns;exact⟨rfl,f.o⟩
theorem F3(p:Page)(w:World)(h:Jd p=true):
  C 12 #[p.val] w λe w'=>e= .returned (.tuple #[.string (Kr p),I 0])/\Below w w w':=by
 have M:=Xy h;have⟨W,X⟩:=Q2 (Qkc h) (Qkf h);obtain⟨k,s,y,q,b⟩:=p;have H:=Q7h h;clear h;obtain⟨h1,h2,h3,h4,h5,Y,Z,A,M⟩:=M;simp only at h1 h2 h3 h4 h5 Y Z A M;show C 12 #[.agg #[I k,I s,I y,I q,.string b]] w _;have⟨m,B,n⟩:=Q3 ((QqA w.heap.size w).alloc N0 (.cells #[I k,I s,I y,I q,.string b] 32)) (Ap ⟨k,s,y,q,b⟩ (w.alloc (.cells #[I k,I s,I y,I q,.string b] 32))) (Whole.new w 32 #[I k,I s,I y,I q,.string b]);go_in
 go_wp2_with fail
 refine B.o.mono ?_;rw[H.o];rintro e w' ⟨rfl,hb⟩;have V:=Q7h (m.o.trans (hb.mono m.o.size));have d0:=Qq hb (n.o.cell 0);have d1:=Qq hb (n.o.cell 1);have d2:=Qq hb (n.o.cell 2);have d3:=Qq hb (n.o.cell 3);have d4:=Qq hb (n.o.cell 4);have r:Hid (∀f,Below w' w' f->(f.cell? (w,0)=some (I k)/\f.cell? (w,1)=some (I s)/\f.cell? (w,2)=some (I y)/\f.cell? (w,3)=some (I q)/\f.cell? (w,4)=some (.string b))):=λf hb=>⟨Qq hb d0,Qq hb d1,Qq hb d2,Qq hb d3,Qq hb d4⟩;clear hb;have aa:IntKind.u64.wrap k=k:=wrap_u64 O O;have ab:IntKind.u64.wrap s=s:=wrap_u64 O O;have ac:IntKind.u64.wrap y=y:=wrap_u64 O O;have ad:IntKind.u64.wrap q=q:=wrap_u64 O O;have a:IntKind.u64.wrap (b.size:Int)=(b.size:Int):=wrap_u64 O O;have N:Hid (Whole (w'.alloc (.cells #[.int .u64 k,.int .u64 s,.int .u64 y,.int .u64 q,.int .u64 b.size] 98)).drew w'.heap.size 98 #[.int .u64 k,.int .u64 s,.int .u64 y,.int .u64 q,.int .u64 b.size]):=Whole.new w' 98 #[.int .u64 k,.int .u64 s,.int .u64 y,.int .u64 q,.int .u64 b.size];have t:Hid (w'.heap.size<(w'.alloc (.cells #[.int .u64 k,.int .u64 s,.int .u64 y,.int .u64 q,.int .u64 b.size] 98)).drew.heap.size):=by show _<_;simp
 have Q:=Q7h ((QqA w'.heap.size w').alloc N0 (.cells #[.int .u64 k,.int .u64 s,.int .u64 y,.int .u64 q,.int .u64 b.size] 98)).drew;go_wp2_with fail
 go_region_held3 (λw'=>w'.cell? (w,0)=some (I k)/\w'.cell? (w,1)=some (I s)/\w'.cell? (w,2)=some (I y)/\w'.cell? (w,3)=some (I q)/\w'.cell? (w,4)=some (.string b)) (first|exact r.o _ i.o|exact r.o _ j.o|exact r.o _ d.o|exact r.o _ G)
  (first|(go_at_call 55;refine(Ir _).mono ?_;rintro e R ⟨g,rfl,a,l,c⟩;have⟨u,x,d⟩:=Q3 a (Whole.below N.o c t.o) (Q.o.trans (c.mono (Nat.le_of_lt t.o)));clear a l c)|(go_at_call 55;refine(Ir _).mono ?_;rintro e R ⟨g,rfl,a,l,c⟩;have u:Hid (WidthsAt (R.alloc (.cells #[.int .u64 k,.int .u64 s,.int .u64 y,.int .u64 q,.int .u64 b.size] 98)) g):=Whole.alloc a _;have⟨x,j⟩:=Q2 (Whole.new R 98 #[.int .u64 k,.int .u64 s,.int .u64 y,.int .u64 q,.int .u64 b.size]) ((QqA w'.heap.size w').drew.trans c);have d:=Q7h (j.o.alloc j.o.size (.cells #[.int .u64 k,.int .u64 s,.int .u64 y,.int .u64 q,.int .u64 b.size] 98));clear a l c)|(go_at_call 54;refine(Qmg _ g (numsOf ⟨k,s,y,q,b⟩) _ u.o (Qur x.o) W.o X.o).mono ?_;rintro e w5 ⟨rfl,z⟩;have i:=Q7h (d.o.trans (z.mono d.o.size));clear z))
 all_goals
  have d5:=(r.o _ i.o).2.2.2.2;have hz:=Ha (numsOf ⟨k,s,y,q,b⟩);have F:(Oy ⟨k,s,y,q,b⟩++b).size<=70368744177664:=by
   rw[QjT,Oy,QjT,hz];have:(⟨#[83,99]⟩:ByteArray).size=2:=rfl;omega
  have⟨S,K⟩:=Q2 F (V.o.trans (i.o.mono V.o.size));clear F;go_wp2_with fail
  refine(Bo (Oy ⟨k,s,y,q,b⟩++b) _ S.o).mono ?_;rintro e w6 ⟨rfl,L⟩;have T:=Q7h (K.o.trans (L.mono K.o.size));clear L;go_wp2_with fail
  refine QqG (v:= .tuple #[.string (Kr ⟨k,s,y,q,b⟩),I 0]) (by simp[results,Tryz.results12,go_sem,Kr]) rfl ⟨rfl,T.o⟩
theorem Vm(p:Page):(Oy p).size=16:=by
 rw[Oy,QjT,Ha];rfl
theorem Qhg(s:ByteArray):(Bi s).size=s.size+4:=by
 rw[Bi,QjT,Go.strOfNums_size];rfl
theorem Ce(p:Page):(Kr p).size=p.body.size+20:=by
 rw[Kr,Qhg,QjT,Vm];omega
def Zqn:Page:=⟨0,0,0,0,⟨#[]⟩⟩
def Uw(s:ByteArray)(j:Nat):Int:=Qq7 s (Qkb j) (Tu j) (Tu j)
def Fx(s:ByteArray):Page:=⟨IntKind.i64.wrap (Uw s 0),IntKind.i64.wrap (Uw s 1),IntKind.i64.wrap (Uw s 2),IntKind.i64.wrap (Uw s 3),s.extract 14 s.size⟩
def Qqw(s:ByteArray):Bool:=(((s.extract 14 s.size).size:Int)==Uw s 4)
def Xf(t:ByteArray):Page×Int:=
 if t.size<16 then(Zqn,3)else
 if((t.extract 0 2).toList==[83,99])=false then(Zqn,3)else
 if Qqw (t.extract 2 t.size)=false then(Zqn,3)else
 if Jd (Fx (t.extract 2 t.size))=false then(Zqn,3)else(Fx (t.extract 2 t.size),0)
def Xh(t:ByteArray):Page×Int:=if(Xl t).2=0 then Xf (Xl t).1 else(Zqn,(Xl t).2)
theorem Qun(t:ByteArray):(Xl t).1.size<=t.size:=by
 unfold Xl;split
 ·show 0<=_;omega
 ·split
  ·simp
  ·show 0<=_;omega
theorem Qt4(u r:ByteArray)(x0 x1 d x3 x4:Int)(g:Nat)(w:World)(f:WidthsAt w g)(h:16<=u.size)(k:u.size<=70368744177664)(i:(u.extract 2 u.size).extract 14 (u.extract 2 u.size).size=r)
  (j:Uw (u.extract 2 u.size) 0=x0) (h1:Uw (u.extract 2 u.size) 1=x1) (h2:Uw (u.extract 2 u.size) 2=d) (h3:Uw (u.extract 2 u.size) 3=x3) (h4:Uw (u.extract 2 u.size) 4=x4):
  C 104 #[.string (u.extract 2 u.size),.slice (some ⟨g,0,none⟩) 5 5] w λe w'=>∃a cap,e= .returned (.tuple #[.slice (some ⟨a,0,none⟩) 5 cap,.string r,I 0])/\
   (w'.cell? ⟨a,0,none⟩=some (.int .u64 x0)/\w'.cell? ⟨a,1,none⟩=some (.int .u64 x1)/\w'.cell? ⟨a,2,none⟩=some (.int .u64 d)/\w'.cell? ⟨a,3,none⟩=some (.int .u64 x3)/\w'.cell? ⟨a,4,none⟩=some (.int .u64 x4))/\Below w.heap.size w w':=by
 subst i j h1 h2 h3 h4;refine(Wh (u.extract 2 u.size) g w f (by simp;omega) (by simp;omega)).mono ?_;rintro e w' ⟨A,cap,rfl,b,hb⟩;obtain⟨a,rfl,_,_,_,c,_⟩:=Qx b O;exact⟨a,cap,rfl,⟨c 0 _ rfl,c 1 _ rfl,c 2 _ rfl,c 3 _ rfl,c 4 _ rfl⟩,hb⟩
theorem Zv{B g:Nat}{w w':World}(h:Below B w w')(f:B<=g)(a b c d e:Value):Below B w (((((w'.setCell ⟨g,0,none⟩ a).setCell ⟨g,1,none⟩ b).setCell ⟨g,2,none⟩ c).setCell ⟨g,3,none⟩ d).setCell ⟨g,4,none⟩ e):=
 ((((h.setCell (p:=⟨g,0,none⟩) f a).setCell (p:=⟨g,1,none⟩) f b).setCell (p:=⟨g,2,none⟩) f c).setCell (p:=⟨g,3,none⟩) f d).setCell (p:=⟨g,4,none⟩) f e
theorem Jr{w w':World}{t:TypeId}(hb:Below (w.alloc (.cells #[I 0,I 0,I 0,I 0,.string ⟨#[]⟩] t)).heap.size (w.alloc (.cells #[I 0,I 0,I 0,I 0,.string ⟨#[]⟩] t)) w'):Whole w' w.heap.size t #[I 0,I 0,I 0,I 0,.string ⟨#[]⟩]:=
 Whole.below (Whole.new w t #[I 0,I 0,I 0,I 0,.string ⟨#[]⟩]) hb U
theorem Q9{w:World}{g:Nat}{t:TypeId}{a b c d e:Value}(h:Whole w g t #[a,b,c,d,e]):
  (w.cell? (g,0)=some a/\w.cell? (g,1)=some b/\w.cell? (g,2)=some c/\w.cell? (g,3)=some d/\w.cell? (g,4)=some e)/\
  w.frozen? (g,0)=false/\w.frozen? (g,1)=false/\w.frozen? (g,2)=false/\w.frozen? (g,3)=false/\w.frozen? (g,4)=false:=
 ⟨⟨h.cell 0,h.cell 1,h.cell 2,h.cell 3,h.cell 4⟩,h.fz 0,h.fz 1,h.fz 2,h.fz 3,h.fz 4⟩
theorem Zr{w:World}{g:Nat}{t:TypeId}{a b c d e:Value}(h:Whole w g t #[a,b,c,d,e])(f b' i j l:Value):
  let w2:=(((((w.setCell (g,0) f).setCell (g,1) b').setCell (g,2) i).setCell (g,3) j).setCell (g,4) l);(w2.cell? (g,0)=some f/\w2.cell? (g,1)=some b'/\w2.cell? (g,2)=some i/\w2.cell? (g,3)=some j/\w2.cell? (g,4)=some l):=by
 have k:Whole (((((w.setCell (g,0) f).setCell (g,1) b').setCell (g,2) i).setCell (g,3) j).setCell (g,4) l) g t #[f,b',i,j,l]:=by
  simpa using((((h.set 0 f).set 1 b').set 2 i).set 3 j).set 4 l
 exact⟨k.cell 0,k.cell 1,k.cell 2,k.cell 3,k.cell 4⟩
theorem Xj(t:ByteArray)(w:World)(hs:t.size<=70368744177664):
  C 43 #[.string t] w λe w'=>e= .returned (.tuple #[(Xh t).1.val,I (Xh t).2])/\Below w w w':=by
 have W:=Qun t;by_cases z:(Xl t).2=0
 ·obtain⟨u,c,hu⟩:∃u c,Xl t=(u,c):=⟨_,_,rfl⟩;have F:Xh t=Xf u:=by unfold Xh;rw[QqH z,hu]
  have x:=Q7h (Pm t (w.alloc (.cells #[I 0,I 0,I 0,I 0,.string ⟨#[]⟩] 32)) hs);rw[hu]at x W z;obtain rfl:c=0:=z;simp only at x W;have HR:=Q7h F;clear F hu;by_cases X:u.size<16
  ·have Y:Hid (Xf u=(Zqn,3)):=by show _=_;unfold Xf;rw[QqH X]
   have ah:(u.size:Int)<16:=O;go_in
   go_wp2_with fail
   refine x.o.mono ?_;rintro e w' ⟨rfl,hb⟩;have a:=Q7h (Jr hb);obtain⟨⟨q0,q1,H,K,L⟩,M,N,Q,R,S⟩:=Q9 a.o;have T:=Q7h (((QqA w.heap.size w).alloc N0 (.cells #[I 0,I 0,I 0,I 0,.string ⟨#[]⟩] 32)).trans (hb.mono U));clear hb;go_wp2_with fail
   obtain⟨m,n,p,q,s⟩:=Zr a.o (I 0) (I 0) (I 0) (I 0) (.string ⟨#[]⟩);refine QqG (v:= .tuple #[Zqn.val,I 3]) (by simp[results,Tryz.results43,go_sem,Zqn,Page.val,m,n,p,q,s]) rfl ⟨by rw[HR.o,Y.o],Zv T.o N0 _ _ _ _ _⟩
  ·have ah:(16:Int)<=(u.size:Int):=O;cases hm:((u.extract 0 2).toList==[83,99])
   ·have Y:Hid (Xf u=(Zqn,3)):=by show _=_;unfold Xf;rw[QqE X,QqH hm]
    go_in
    go_wp2_with fail
    refine x.o.mono ?_;rintro e w' ⟨rfl,hb⟩;have a:=Q7h (Jr hb);obtain⟨⟨q0,q1,H,K,L⟩,M,N,Q,R,S⟩:=Q9 a.o;have T:=Q7h (((QqA w.heap.size w).alloc N0 (.cells #[I 0,I 0,I 0,I 0,.string ⟨#[]⟩] 32)).trans (hb.mono U));clear hb;go_wp2_with fail
    obtain⟨m,n,p,q,s⟩:=Zr a.o (I 0) (I 0) (I 0) (I 0) (.string ⟨#[]⟩);refine QqG (v:= .tuple #[Zqn.val,I 3]) (by simp[results,Tryz.results43,go_sem,Zqn,Page.val,m,n,p,q,s]) rfl ⟨by rw[HR.o,Y.o],Zv T.o N0 _ _ _ _ _⟩
   ·have HM:=Q7h hm;go_in
    go_wp2_with fail
    refine x.o.mono ?_;rintro e w' ⟨rfl,hb⟩;have a:=Q7h (Jr hb);obtain⟨⟨q0,q1,H,K,L⟩,M,N,Q,R,S⟩:=Q9 a.o;have T:=Q7h (((QqA w.heap.size w).alloc N0 (.cells #[I 0,I 0,I 0,I 0,.string ⟨#[]⟩] 32)).trans (hb.mono U));clear hb;obtain⟨r,F⟩:=Zx ((u.extract 2 u.size).extract 14 (u.extract 2 u.size).size);obtain⟨x0,Z⟩:=Zx (Uw (u.extract 2 u.size) 0);obtain⟨x1,A⟩:=Zx (Uw (u.extract 2 u.size) 1);obtain⟨x2,B⟩:=Zx (Uw (u.extract 2 u.size) 2);obtain⟨x3,aa⟩:=Zx (Uw (u.extract 2 u.size) 3);obtain⟨x4,ab⟩:=Zx (Uw (u.extract 2 u.size) 4);obtain⟨i,am⟩:=Zx (IntKind.i64.wrap x0);obtain⟨j,an⟩:=Zx (IntKind.i64.wrap x1);obtain⟨k,ao⟩:=Zx (IntKind.i64.wrap x2);obtain⟨l,ap⟩:=Zx (IntKind.i64.wrap x3);have ai:Fx (u.extract 2 u.size)=⟨i,j,k,l,r⟩:=by unfold Fx;rw[Z,A,B,aa,am,an,ao,ap,F]
    have aj:Qqw (u.extract 2 u.size)=((r.size:Int)==x4):=by unfold Qqw;rw[F,ab]
    have aq:r.size<=u.size:=by rw[<-F];simp;omega
    have ax:IntKind.u64.wrap (r.size:Int)=(r.size:Int):=wrap_u64 O O;have HT:Hid (∀g wq,WidthsAt wq g->_):=λg wq hq=>Qt4 u r x0 x1 x2 x3 x4 g wq hq O O F Z A B aa ab;have ac:Hid (Xf u=if((r.size:Int)==x4)=false then(Zqn,3)else if Jd ⟨i,j,k,l,r⟩=false then(Zqn,3)else(⟨i,j,k,l,r⟩,0)):=by
     show _=_;unfold Xf;rw[QqE X,QqE (by rw[hm];simp),aj,ai]
    clear F Z A B aa ab ai aj;have aw:(r.size:Int)<=70368744177664:=O;clear aq hs W;have ay:(2:Int)<=(u.size:Int):=O;go_wp2_with fail
    go_region_held3 (λ_=>True) (trivial)
     (first|(go_at_call 55;refine(Ir _).mono ?_;rintro e w4 ⟨g,rfl,ak,ar,ad⟩;have au:=Q7h ak;have al:=Q7h (T.o.drew.trans (ad.mono (by have:=T.o.size;exact this)));have V:=Q7h (Whole.below (w:=w'.drew) a.o ad (by have:=a.o.lt;exact this));clear ak ar ad)|(go_at_call 104;refine(HT.o g _ au.o).mono ?_;rintro e w5 ⟨ga,cap,rfl,⟨l0,l1,l2,l3,l4⟩,ae⟩;have⟨h,b⟩:=Q2 (al.o.trans (ae.mono al.o.size)) (Whole.below V.o ae V.o.lt);clear ae))
    obtain⟨⟨q0,q1,H,K,L⟩,M,N,Q,R,S⟩:=Q9 b.o;cases hl:((r.size:Int)==x4)
    ·have y:=Q7h hl;go_wp2_with fail
     obtain⟨m,n,p,q,s⟩:=Zr b.o (I 0) (I 0) (I 0) (I 0) (.string ⟨#[]⟩);refine QqG (v:= .tuple #[Zqn.val,I 3]) (by simp[results,Tryz.results43,go_sem,Zqn,Page.val,m,n,p,q,s]) rfl ⟨by rw[HR.o,ac.o,y.o,QqH rfl],Zv h.o N0 _ _ _ _ _⟩
    ·have y:=Q7h hl;go_wp2_with fail
     go_region_held3 (λw'=>w'.cell? (ga,0)=some (.int .u64 x0)/\w'.cell? (ga,1)=some (.int .u64 x1)/\w'.cell? (ga,2)=some (.int .u64 x2)/\w'.cell? (ga,3)=some (.int .u64 x3)/\w'.cell? (ga,4)=some (.int .u64 x4)) (first|exact⟨l0,l1,l2,l3,l4⟩|go_keep) (fail)
     go_wp2_with fail
     refine(Ap ⟨i,j,k,l,r⟩ _).mono ?_;cases hmay:Jd ⟨i,j,k,l,r⟩
     ·have af:=Q7h hmay;clear hmay q0 q1 H K L M N Q R S;rintro e w6 ⟨rfl,d⟩;have f:=Q7h (Whole.below (w:=(w5.alloc (.cells #[I i,I j,I k,I l,.string r] 32)).drew) (b.o.alloc (.cells #[I i,I j,I k,I l,.string r] 32)) d (by have:=b.o.lt;simp;omega));have ag:=Q7h ((h.o.alloc h.o.size (.cells #[I i,I j,I k,I l,.string r] 32)).drew.trans (d.mono (by have:=h.o.size;simp;omega)));obtain⟨⟨q0,q1,H,K,L⟩,M,N,Q,R,S⟩:=Q9 f.o;clear d;go_wp2_with fail
      obtain⟨m,n,p,q,s⟩:=Zr f.o (I 0) (I 0) (I 0) (I 0) (.string ⟨#[]⟩);refine QqG (v:= .tuple #[Zqn.val,I 3]) (by simp[results,Tryz.results43,go_sem,Zqn,Page.val,m,n,p,q,s]) rfl ⟨by rw[HR.o,ac.o,y.o,QqE U,af.o,QqH rfl],Zv ag.o N0 _ _ _ _ _⟩
     ·have af:=Q7h hmay;clear hmay q0 q1 H K L M N Q R S;rintro e w6 ⟨rfl,d⟩;have f:=Q7h (Whole.below (w:=(w5.alloc (.cells #[I i,I j,I k,I l,.string r] 32)).drew) (b.o.alloc (.cells #[I i,I j,I k,I l,.string r] 32)) d (by have:=b.o.lt;simp;omega));have ag:=Q7h ((h.o.alloc h.o.size (.cells #[I i,I j,I k,I l,.string r] 32)).drew.trans (d.mono (by have:=h.o.size;simp;omega)));have av:=Q7h (Whole.below (w:=(w5.alloc (.cells #[I i,I j,I k,I l,.string r] 32)).drew) (Whole.new w5 _ _) d U);obtain⟨⟨q0,q1,H,K,L⟩,M,N,Q,R,S⟩:=Q9 f.o;obtain⟨⟨p0,p1,p2,p3,p4⟩,_⟩:=Q9 av.o;clear d;go_wp2_with fail
      obtain⟨m,n,p,q,s⟩:=Zr f.o (I i) (I j) (I k) (I l) (.string r);refine QqG (v:= .tuple #[Page.val ⟨i,j,k,l,r⟩,I 0]) (by simp[results,Tryz.results43,go_sem,Page.val,m,n,p,q,s]) rfl ⟨by rw[HR.o,ac.o,y.o,QqE U,af.o,QqE U],Zv ag.o N0 _ _ _ _ _⟩
 ·have Y:Hid (Xh t=(Zqn,(Xl t).2)):=by show _=_;unfold Xh;rw[QqE z]
  obtain⟨u,c,hu⟩:∃u c,Xl t=(u,c):=⟨_,_,rfl⟩;have x:=Q7h (Pm t (w.alloc (.cells #[I 0,I 0,I 0,I 0,.string ⟨#[]⟩] 32)) hs);rw[hu]at x Y z;simp only at x Y z;have hc:(c==0)=false:=by simpa using z
  clear z hu;go_in
  go_wp2_with fail
  refine x.o.mono ?_;rintro e w' ⟨rfl,hb⟩;have a:=Q7h (Jr hb);obtain⟨⟨q0,q1,H,K,L⟩,M,N,Q,R,S⟩:=Q9 a.o;have T:=Q7h (((QqA w.heap.size w).alloc N0 (.cells #[I 0,I 0,I 0,I 0,.string ⟨#[]⟩] 32)).trans (hb.mono U));clear hb;go_wp2_with fail
  obtain⟨m,n,p,q,s⟩:=Zr a.o (I 0) (I 0) (I 0) (I 0) (.string ⟨#[]⟩);refine QqG (v:= .tuple #[Zqn.val,I c]) (by simp[results,Tryz.results43,go_sem,Zqn,Page.val,m,n,p,q,s]) rfl ⟨by rw[Y.o],Zv T.o N0 _ _ _ _ _⟩
theorem Qmo(n:Nat->Int):∀(m j i:Nat),j<m->i<Tu j->(Mj n m)[Qkb j+i]? =some (UInt8.ofNat ((n j)/256^i%256).toNat)
 |m+1,j,i,hj,hi=>by
  have c:∀m,(Mj n m).length=Qkb m:=by
   intro m;induction m with
   |zero=>rfl
   |succ m ih=>simp[Mj,Qkb,ih,bytesOf_length]
  have d:∀a b,a<=b->Qkb a<=Qkb b:=by
   intro a b e;induction b with
   |zero=>
    have:a=0:=O;subst this;exact QqB _
   |succ b ih=>
    rcases QyH b a with h|h
    ·have:a=b+1:=O;subst this;exact QqB _
    ·exact QqR (ih h) (by simp[Qkb])
  rcases QyH j m with h|h
  ·have h1:Qkb j+i<(Mj n m).length:=by
    rw[c];have:=d (j+1) m h;simp only[Qkb]at this;omega
   show(Mj n m++_)[_]? =_;rw[QzM h1];exact Qmo n m j i h hi
  ·obtain rfl:j=m:=O;show(Mj n j++_)[_]? =_;rw[QzH (by rw[c];omega),c,QiB];rw[QzF];simp[bytesOf,hi]
theorem Qip(p:Page)(h:Jd p=true)(j:Nat)(a:j<5):Uw ((⟨(Mj (numsOf p) 5).toArray⟩:ByteArray)++p.body) j=numsOf p j:=by
 have c:=Qkc h j a;have h1:=Qkf h j a;have d:Tu j<=7:=by unfold Tu;split<;>omega
 have:=Mw ((⟨(Mj (numsOf p) 5).toArray⟩:ByteArray)++p.body) (Qkb j) (Tu j) (numsOf p j) c h1 d (λi hi=>by
  have e:=Qmo (numsOf p) 5 j i a hi;obtain⟨b,f⟩:=QqD.1 e;rw[Qxq _ _ _ b,f];exact Qzb _ (Int.emod_nonneg _ D) (Int.emod_lt_of_pos _ D)) (Tu j) N0
 rw[Uw,this,QyU];simp
theorem wrap_i64{n:Int}(a:0<=n)(h1:n<9223372036854775808):IntKind.i64.wrap n=n:=by rw[QqN];omega
theorem Ed(a b:ByteArray):(a++b).extract a.size (a++b).size=b:=by
 rw[QjT,QiK];have h:a.extract a.size (a.size+b.size)=ByteArray.empty:=by
  apply QyW;simp
 simp[h]
theorem Tp(a b:ByteArray):(a++b).extract 0 a.size=a:=by
 rw[QiK];simp
theorem Qum(s:ByteArray):Xl (Bi s)=(s,0):=by
 have hz:(Bi s).size=s.size+4:=by unfold Bi;rw[QjT,strOfNums_size];rfl
 have a:(Bi s).extract 0 ((Bi s).size-4)=s:=by
  rw[hz];exact QiG rfl
 unfold Xl;rw[QqE O,a,QqH (show((Bi s).toList==(Bi s).toList)=true from beq_self_eq_true _)]
theorem Be(p:Page)(h:Jd p=true):Xh (Kr p)=(p,0):=by
 have f:=Xy h;unfold Xh Kr;rw[Qum,QqH rfl];obtain⟨r,c⟩:∃r:ByteArray,r=⟨(Mj (numsOf p) 5).toArray⟩:=⟨_,rfl⟩;have d:r.size=14:=by rw[c];exact Ha _
 have e:Oy p++p.body=(⟨#[83,99]⟩:ByteArray)++(r++p.body):=by rw[Oy,<-c,QiL]
 have g:(Oy p++p.body).extract 2 (Oy p++p.body).size=r++p.body:=by
  rw[e];exact Ed ⟨#[83,99]⟩ (r++p.body)
 have hb:(r++p.body).extract 14 (r++p.body).size=p.body:=by
  have:=Ed r p.body;rw[d]at this;exact this
 have a:∀j,j<5->Uw (r++p.body) j=numsOf p j:=λj i=>by rw[c];exact Qip p h j i
 show Xf (Oy p++p.body)=(p,0);unfold Xf;rw[g,QqE (by rw[QjT,Vm];omega)];have l:(Oy p++p.body).extract 0 2=⟨#[83,99]⟩:=by
  rw[e];exact Tp ⟨#[83,99]⟩ (r++p.body)
 rw[l,QqE (by simp[go_sem])];have m:Qqw (r++p.body)=true:=by
  unfold Qqw;rw[hb,a 4 O];simp[numsOf]
 have n:Fx (r++p.body)=p:=by
  unfold Fx;rw[hb,a 0 O,a 1 O,a 2 O,a 3 O];obtain⟨k,s,y,q,b⟩:=p;simp only at f;show(⟨IntKind.i64.wrap k,IntKind.i64.wrap s,IntKind.i64.wrap y,IntKind.i64.wrap q,b⟩:Page)=_;rw[wrap_i64 O O,wrap_i64 O O,wrap_i64 O O,wrap_i64 O O]
 rw[m,QqE U,n,h,QqE U]
end pg
end Go.Proofs.YtfialjmemcobjaaGreatDoor
