/- A part of the proof. -/
import Derived.Test.YtfialjmemcobjaaGreatDoorPbFlL
import Derived.Test.YtfialjmemcobjaaGreatDoorPbYrL
import Derived.BigQuiet
import Derived.Deep.AppendLies
import Derived.Deep.DeepCutAuto
import Derived.Deep.QuietTactic
import Derived.Deep.RegionHeld3
import Derived.Deep.RegionLaw
import Derived.Laws.IdiomCopy
import Derived.Laws.StructEq
set_option maxRecDepth 100000
set_option maxHeartbeats 16000000
set_option linter.unusedVariables false
set_option linter.unusedSimpArgs false
namespace Go.Proofs.YtfialjmemcobjaaGreatDoor
namespace tr
open Go.RowKit er
def Ext.cells(e:Ext):List Value:=[I e.fr,I e.n,I e.kind,I e.at_]
def Ext.val(e:Ext):Value:= .agg #[I e.fr,I e.n,I e.kind,I e.at_]
def Qz(l:List Ext):List Value:=l.flatMap Ext.cells
theorem Zy(l:List Ext):(Qz l).length=l.length*4:=by
 induction l with
 |nil=>rfl
 |cons m r ih=>simp[Qz,QqV,Ext.cells]at ih ⊢;omega
theorem Uh(l:List Ext)(e:Ext):Qz (l++[e])=Qz l++[I e.fr,I e.n,I e.kind,I e.at_]:=by simp[Qz,Ext.cells]
theorem Zn(l r:List Ext):Qz (l++r)=Qz l++Qz r:=by simp[Qz]
theorem Jo:∀(l:List Ext) (j:Nat) (m:Ext),l[j]? =some m->
  (Qz l)[j*4]? =some (I m.fr)/\(Qz l)[j*4+1]? =some (I m.n)/\(Qz l)[j*4+2]? =some (I m.kind)/\(Qz l)[j*4+3]? =some (I m.at_)
 |[],_,_,h=>by simp at h
 |x::r,0,m,h=>by
  simp at h;subst h;simp[Qz,Ext.cells]
 |x::r,j+1,m,h=>by
  have a:=Jo r j m (by simpa using h);have e:Qz (x::r)= I x.fr::I x.n::I x.kind::I x.at_::Qz r:=by simp[Qz,Ext.cells]
  rw[e,show(j+1)*4=j*4+4 from by omega];simpa using a
def ExtAt(w:World)(g o:Nat)(e:Ext):Prop:=w.cell? (g,o)=some (I e.fr)/\w.cell? (g,o+1)=some (I e.n)/\w.cell? (g,o+2)=some (I e.kind)/\w.cell? (g,o+3)=some (I e.at_)
def ExtsAt(w:World)(v:Value)(l:List Ext):Prop:=∃A c,v= .slice A l.length c/\(0<l.length->∃g o,A=some (g,o)/\∀(j:Nat) (e:Ext),l[j]? =some e->ExtAt w g (o+j*4) e)
theorem ExtAt.below{w w':World}{g o:Nat}{e:Ext}(h:ExtAt w g o e)(hb:Below w w w'):ExtAt w' g o e:=⟨Qq hb h.1,Qq hb h.2.1,Qq hb h.2.2.1,Qq hb h.2.2.2⟩
theorem ExtsAt.below{w w':World}{v:Value}{l:List Ext}(h:ExtsAt w v l)(hb:Below w w w'):ExtsAt w' v l:=by
 obtain⟨A,c,rfl,h2⟩:=h;refine⟨A,c,rfl,λa=>?_⟩;obtain⟨g,o,rfl,b⟩:=h2 a;exact⟨g,o,rfl,λj e d=>(b j e d).below hb⟩
theorem ExtsAt.own{w:World}{B n:Nat}{v:Value}{l:List Ext}(h:w.ownsRow B 255 4 v n (Qz l)):ExtsAt w v l/\l.length=n:=by
 have b:l.length=n:=by
  have:=h.1;rw[Zy]at this;omega
 subst b;refine⟨?_,rfl⟩;obtain⟨A,c,rfl⟩:=Qk h;refine⟨A,c,rfl,λd=>?_⟩;obtain⟨g,rfl,_,_,_,a,_⟩:=Qx h d;refine⟨g,0,rfl,λj e f=>?_⟩;obtain⟨i,k,m,o⟩:=Jo l j e f;simp only[QkG];exact⟨a _ _ i,a _ _ k,a _ _ m,a _ _ o⟩
theorem G9(fr n:Int)(w:World):C 266 #[I fr,I n] w λe w'=>e= .returned (.bool (Yp fr n))/\w=w':=by
 have key:∀b,Yp fr n=b->C 266 #[I fr,I n] w λe w'=>e= .returned (.bool b)/\w=w':=by
  intro b hb;unfold Yp at hb;by_cases h1:0<=fr
  ·by_cases h2:0<=n
   ·by_cases h3:fr<=16777216
    ·have a:wrap64 (16777216-fr)=16777216-fr:=by unfold wrap64;omega
     by_cases h4:n<=16777216-fr
     ·obtain rfl:true=b:=by rw[<-hb];simp[h1,h2,h3,h4]
      clear hb;go_in
      go_wp2_with fail
      go_ret
      exact⟨rfl,rfl⟩
     ·obtain rfl:false=b:=by rw[<-hb];simp[h1,h2,h3,h4]
      clear hb;go_in
      go_wp2_with fail
      go_ret
      exact⟨rfl,rfl⟩
    ·obtain rfl:false=b:=by rw[<-hb];simp[h1,h2,h3]
     clear hb;go_in
     go_wp2_with fail
     go_ret
     exact⟨rfl,rfl⟩
   ·obtain rfl:false=b:=by rw[<-hb];simp[h1,h2]
    clear hb;go_in
    go_wp2_with fail
    go_ret
    exact⟨rfl,rfl⟩
  ·obtain rfl:false=b:=by rw[<-hb];simp[h1]
   clear hb;go_in
   go_wp2_with fail
   go_ret
   exact⟨rfl,rfl⟩
 exact key _ rfl
theorem Qzo(e:Ext)(w:World)(h:Qb e=true):C 248 #[e.val] w λx w'=>x= .returned (I e.end_)/\Below w w w':=by
 obtain⟨a,b,c,g⟩:=Qg h;obtain⟨f,n,k,t⟩:=e;simp only at a b c;have i:wrap64 (f+n)=f+n:=by unfold wrap64;omega
 show C 248 #[.agg #[I f,I n,I k,I t]] w _;have d:=Q7h ((QqA w.heap.size w).alloc N0 (.cells #[I f,I n,I k,I t] 255));go_in
 go_wp2_with fail
 go_ret
 exact⟨rfl,d.o⟩
theorem Sj(e:Ext)(w:World):C 223 #[e.val] w λx w'=>x= .returned (.bool (Qb e))/\Below w w w':=by
 obtain⟨f,n,k,t⟩:=e;show C 223 #[.agg #[I f,I n,I k,I t]] w _;have c:=Q7h ((QqA w.heap.size w).alloc N0 (.cells #[I f,I n,I k,I t] 255));cases hs:Yp f n
 ·have b:=Q7h hs;have a:Hid (Qb ⟨f,n,k,t⟩=false):=by show _=_;unfold Qb;rw[hs];rfl
  clear hs;go_in
  go_wp2_with fail
  refine(G9 _ _ _).mono ?_;rintro e w1 ⟨rfl,rfl⟩;rw[b.o];go_wp2_with fail
  go_ret
  exact⟨by rw[a.o];(first|rfl|simp[*]),c.o⟩
 ·have b:=Q7h hs;by_cases h1:n<1
  ·have a:Hid (Qb ⟨f,n,k,t⟩=false):=by show _=_;unfold Qb;rw[hs];simp;intro h;omega
   clear hs;go_in
   go_wp2_with fail
   refine(G9 _ _ _).mono ?_;rintro e w1 ⟨rfl,rfl⟩;rw[b.o];go_wp2_with fail
   go_ret
   exact⟨by rw[a.o];(first|rfl|simp[*]),c.o⟩
  ·have d:(1:Int)<=n:=O;by_cases h2:k=1
   ·subst h2;have a:Hid (Qb ⟨f,n,1,t⟩=(t==0)):=by show _=_;unfold Qb;rw[hs,QqH rfl];simp[d];rfl
    clear hs;go_in
    go_wp2_with fail
    refine(G9 _ _ _).mono ?_;rintro e w1 ⟨rfl,rfl⟩;rw[b.o];go_wp2_with fail
    go_ret
    exact⟨by rw[a.o];(first|rfl|simp[*]),c.o⟩
   ·by_cases h3:k=2
    ·subst h3;by_cases h4:0<=t
     ·by_cases h5:t<=2048
      ·have g:wrap64 (2048-t)=2048-t:=by unfold wrap64;omega
       by_cases i:n<=2048-t
       ·have a:Hid (Qb ⟨f,n,2,t⟩=true):=by show _=_;unfold Qb;rw[hs];simp;omega
        clear hs;go_in
        go_wp2_with fail
        refine(G9 _ _ _).mono ?_;rintro e w1 ⟨rfl,rfl⟩;rw[b.o];go_wp2_with fail
        go_ret
        exact⟨by rw[a.o];(first|rfl|simp[*]),c.o⟩
       ·have a:Hid (Qb ⟨f,n,2,t⟩=false):=by show _=_;unfold Qb;rw[hs];simp;omega
        clear hs;go_in
        go_wp2_with fail
        refine(G9 _ _ _).mono ?_;rintro e w1 ⟨rfl,rfl⟩;rw[b.o];go_wp2_with fail
        go_ret
        exact⟨by rw[a.o];(first|rfl|simp[*]),c.o⟩
      ·have a:Hid (Qb ⟨f,n,2,t⟩=false):=by show _=_;unfold Qb;rw[hs];simp;omega
       clear hs;go_in
       go_wp2_with fail
       refine(G9 _ _ _).mono ?_;rintro e w1 ⟨rfl,rfl⟩;rw[b.o];go_wp2_with fail
       go_ret
       exact⟨by rw[a.o];(first|rfl|simp[*]),c.o⟩
     ·have a:Hid (Qb ⟨f,n,2,t⟩=false):=by show _=_;unfold Qb;rw[hs];simp;omega
      clear hs;go_in
      go_wp2_with fail
      refine(G9 _ _ _).mono ?_;rintro e w1 ⟨rfl,rfl⟩;rw[b.o];go_wp2_with fail
      go_ret
      exact⟨by rw[a.o];(first|rfl|simp[*]),c.o⟩
    ·have a:Hid (Qb ⟨f,n,k,t⟩=false):=by show _=_;unfold Qb;rw[hs];simp[h2,h3]
     clear hs;go_in
     go_wp2_with fail
     refine(G9 _ _ _).mono ?_;rintro e w1 ⟨rfl,rfl⟩;rw[b.o];go_wp2_with fail
     go_ret
     exact⟨by rw[a.o];(first|rfl|simp[*]),c.o⟩
structure Row(w:World)(g c k:Nat)(t:TypeId)(xs:List Value):Prop where
 blk:∃cs,Whole w g t cs/\c*k<=cs.size/\cs.toList.take xs.length=xs
 cap:c<=maxLen
 fit:xs.length<=c*k
theorem Row.lt{w:World}{g c k:Nat}{t:TypeId}{xs:List Value}(h:Row w g c k t xs):g<w.heap.size:=by
 obtain⟨cs,a,_⟩:=h.blk;exact a.lt
theorem Row.keep{F:Nat->Prop}{w w':World}{g c k:Nat}{t:TypeId}{xs:List Value}(h:Row w g c k t xs)(a:Keep F w w')(b:¬F g):Row w' g c k t xs:=by
 obtain⟨cs,d,h1,h2⟩:=h.blk;exact⟨⟨cs,d.keep a b,h1,h2⟩,h.cap,h.fit⟩
theorem Row.cell{w:World}{g c k:Nat}{t:TypeId}{xs:List Value}(h:Row w g c k t xs){j:Nat}{v:Value}(a:xs[j]? =some v):w.cell? (g,j)=some v:=by
 obtain⟨cs,b,h1,h2⟩:=h.blk;rw[b.cell];have d:j<xs.length:=(QqD.1 a).1;rw[<-h2]at a;rw[QxG d]at a;simpa using a
theorem Row.room{w:World}{g c k:Nat}{t:TypeId}{xs:List Value}(h:Row w g c k t xs){j:Nat}(b:j<c*k):(w.cell? (g,j)).isSome=true:=by
 obtain⟨cs,a,h1,h2⟩:=h.blk;rw[a.cell];have:j<cs.size:=O;simp[this]
theorem Row.fz{w:World}{g c k:Nat}{t:TypeId}{xs:List Value}(h:Row w g c k t xs)(j:Nat):w.frozen? (g,j)=false:=by
 obtain⟨cs,a,h1,h2⟩:=h.blk;exact a.fz j
theorem Row.own{w:World}{B k n:Nat}{t:TypeId}{v:Value}{xs:List Value}(h:w.ownsRow B t k v n xs)(e:0<n):∃g c,v= .slice (some (g,0)) n c/\Row w g c k t xs/\B<=g:=by
 obtain⟨b,h|⟨g,cap,a,h1,h2,h3,h4,h5,f,d⟩⟩:=h
 ·omega
 ·refine⟨g,cap,h1,⟨⟨a,h3,O,by rw[b];exact d⟩,h5,?_⟩,h2⟩;rw[b];exact QkV k h4
end tr
namespace tr
open Go.RowKit er
theorem Q0j(d:Nat)(f n k t a b c t':Int)(w:World):(Op.equalIn (d+2) 255 (.agg #[I f,I n,I k,I t]) (.agg #[I a,I b,I c,I t'])).run Tryz.prog w= .ok (f==a&&(n==b&&(k==c&&t==t'))) w:=by
 rw[run_equalIn_agg w (d+1) 255 _ _ J J];simp only[Program.fieldsOf,Tryz.underlying255];go_simp
 by_cases h1:f=a<;>by_cases h2:n=b<;>by_cases h3:k=c<;>by_cases h4:t=t'<;>simp[h1,h2,h3,h4]
theorem Q29(f n k t a b c t':Int):(f==a&&(n==b&&(k==c&&t==t')))=decide ((⟨f,n,k,t⟩:Ext)=⟨a,b,c,t'⟩):=by
 by_cases h1:f=a<;>by_cases h2:n=b<;>by_cases h3:k=c<;>by_cases h4:t=t'<;>simp[h1,h2,h3,h4]
theorem Qlu(f n k t a b c t':Int)(w:World):(binOp .eql 255 (.agg #[I f,I n,I k,I t]) (.agg #[I a,I b,I c,I t'])).run Tryz.prog w= .ok (.bool (decide ((⟨f,n,k,t⟩:Ext)=⟨a,b,c,t'⟩))) w:=by
 have h:=Q0j 9998 f n k t a b c t' w;rw[Q29]at h;simp[binOp,Op.equal,Op.maxDepth,h]
theorem K7{w:World}{g:Nat}{t:TypeId}{a b c d:Value}(h:Whole w g t #[a,b,c,d]):
  (w.cell? (g,0)=some a/\w.cell? (g,1)=some b/\w.cell? (g,2)=some c/\w.cell? (g,3)=some d)/\
  w.frozen? (g,0)=false/\w.frozen? (g,1)=false/\w.frozen? (g,2)=false/\w.frozen? (g,3)=false:=
 ⟨⟨h.cell 0,h.cell 1,h.cell 2,h.cell 3⟩,h.fz 0,h.fz 1,h.fz 2,h.fz 3⟩
theorem Un{w:World}{g:Nat}{t:TypeId}{cs:Array Value}(h:Whole w g t cs):Whole w.drew g t cs:=h
theorem Qxc(a b:Ext):tog a b=(decide (a.end_=b.fr)&&(decide (a.kind=b.kind)&&decide ((if a.kind=2 then a.at_+a.n else 0)=b.at_))):=by
 have h:tog a b=true↔(decide (a.end_=b.fr)&&(decide (a.kind=b.kind)&&decide ((if a.kind=2 then a.at_+a.n else 0)=b.at_)))=true:=by
  rw[Cc];simp only[QzC,QzD];constructor
  ·rintro⟨h1,h2,h3⟩;exact⟨h1.symm,h2.symm,h3.symm⟩
  ·rintro⟨h1,h2,h3⟩;exact⟨h1.symm,h2.symm,h3.symm⟩
 exact Bool.eq_iff_iff.mpr h
theorem Qw4:Tryz.prog.eqGuardType Tryz.prog.depth 255=false:=J
theorem Qa8(a b:Ext)(w:World)(h:Qb a=true):C 249 #[a.val,b.val] w λx w'=>x= .returned (.bool (tog a b))/\Below w w w':=by
 obtain⟨X,Y,Z,A⟩:=Qg h;obtain⟨f,n,k,t⟩:=a;obtain⟨g,c,i,t'⟩:=b;simp only at X Y Z A;have HE:=Q7h (λwq=>Qzo ⟨f,n,k,t⟩ wq h);have S:k=2->wrap64 (t+n)=t+n:=by intro y;unfold wrap64;omega
 show C 249 #[.agg #[I f,I n,I k,I t],.agg #[I g,I c,I i,I t']] w _;have aa:=Qw4;have ab:=Qlu;have q:=Q7h (((QqA w.heap.size w).alloc N0 (.cells #[I f,I n,I k,I t] 255)).alloc U (.cells #[I g,I c,I i,I t'] 255));have m:=Whole.alloc (Whole.new w 255 #[I f,I n,I k,I t]) (.cells #[I g,I c,I i,I t'] 255);have j:=Whole.new (w.alloc (.cells #[I f,I n,I k,I t] 255)) 255 #[I g,I c,I i,I t'];obtain⟨w2,N⟩:=Zx ((w.alloc (.cells #[I f,I n,I k,I t] 255)).alloc (.cells #[I g,I c,I i,I t'] 255));have Q:w2.heap.size=w.heap.size+2:=by rw[<-N];simp
 rw[N]at q m j;rw[QqW]at j;have T:Hid (∀w',Below w2 w2 w'->(w'.cell? (w,0)=some (I f)/\w'.cell? (w,1)=some (I n)/\w'.cell? (w,2)=some (I k)/\w'.cell? (w,3)=some (I t))/\(w'.cell? (w.heap.size+1,0)=some (I g)/\w'.cell? (w.heap.size+1,1)=some (I c)/\w'.cell? (w.heap.size+1,2)=some (I i)/\w'.cell? (w.heap.size+1,3)=some (I t'))):=λw' hb=>⟨⟨Qq hb (m.cell 0),Qq hb (m.cell 1),Qq hb (m.cell 2),Qq hb (m.cell 3)⟩,⟨Qq hb (j.cell 0),Qq hb (j.cell 1),Qq hb (j.cell 2),Qq hb (j.cell 3)⟩⟩;have⟨SA,B⟩:=Q2 (T.o _ B0) S;clear h X Y Z A S m j;go_in
 go_wp2_with fail
 go_region_held3 (λw'=>(w'.cell? (w,0)=some (I f)/\w'.cell? (w,1)=some (I n)/\w'.cell? (w,2)=some (I k)/\w'.cell? (w,3)=some (I t))/\(w'.cell? (w.heap.size+1,0)=some (I g)/\w'.cell? (w.heap.size+1,1)=some (I c)/\w'.cell? (w.heap.size+1,2)=some (I i)/\w'.cell? (w.heap.size+1,3)=some (I t'))) (first|with_reducible exact SA.o|exact T.o _ (by repeat(first|with_reducible exact u.o|with_reducible exact QqA _ _|refine QqZ ?_|refine QxY ?_ E _|refine QjK ?_ E _))) ((go_at_call 248;refine(HE.o _).mono ?_;rintro e z ⟨rfl,v⟩;have u:Hid (Below w2 w2 z):=QxB G (v.mono (by first|exact QqB _|(simp<;>omega)));have H:=u.o.size;have R:=Q7h v;(try(obtain⟨⟨z0,z1,z2,z3⟩,z4,z5,z6,z7⟩:=K7 (Whole.below (Un (Whole.new' w2 255 #[I 0,I 0,I 0,I 0] (w.heap.size+2) Q)) v (by simp<;>omega))));clear v))
 ·have M:=Whole.new z 255 #[I (Ext.end_ ⟨f,n,k,t⟩),I c,I k,I 0];have l:Hid (Below w2.heap.size w2 (z.alloc (.cells #[I (Ext.end_ ⟨f,n,k,t⟩),I c,I k,I 0] 255))):=u.out.alloc H _;have K:w.heap.size+2<=z.heap.size:=O;obtain⟨F,d⟩:∃F,z.heap.size=F:=⟨_,rfl⟩;obtain⟨V,r⟩:∃V,z.alloc (.cells #[I (Ext.end_ ⟨f,n,k,t⟩),I c,I k,I 0] 255)=V:=⟨_,rfl⟩;simp only[r,d]at M l K ⊢;clear r d H;obtain⟨⟨p0,p1,p2,p3⟩,⟨q0,q1,q2,q3⟩⟩:=T.o _ l.o;obtain⟨⟨x0,x1,x2,x3⟩,y0,y1,y2,y3⟩:=K7 M;have s:=Q7h (q.o.trans (l.o.mono q.o.size));by_cases y:k=2
  ·subst y;have S:=B.o rfl;have L:Hid (tog ⟨f,n,2,t⟩ ⟨g,c,i,t'⟩=(decide (Ext.end_ ⟨f,n,2,t⟩=g)&&(decide (2=i)&&decide (t+n=t')))):=by show _=_;rw[Qxc,QqH rfl]
   go_wp2_with fail
   go_ret
   exact⟨by rw[L.o];rfl,s.o.setCell (p:=(F,3)) (by show w.heap.size<=F;omega) _⟩
  ·have W:(k==2)=false:=by simpa using y
   have L:Hid (tog ⟨f,n,k,t⟩ ⟨g,c,i,t'⟩=(decide (Ext.end_ ⟨f,n,k,t⟩=g)&&(decide (k=i)&&decide (0=t')))):=by show _=_;rw[Qxc,QqE y]
   go_wp2_with fail
   go_ret
   exact⟨by rw[L.o];rfl,s.o⟩
 ·have M:=Whole.set4 (Whole.below (Un (Whole.new' w2 255 #[I 0,I 0,I 0,I 0] (w.heap.size+2) Q)) R.o (by simp<;>omega)) (I (Ext.end_ ⟨f,n,k,t⟩)) (I c) (I k) (I 0);have l:Hid (Below w2.heap.size w2 ((((z.setCell ⟨w.heap.size+2,0,none⟩ (I (Ext.end_ ⟨f,n,k,t⟩))).setCell ⟨w.heap.size+2,1,none⟩ (I c)).setCell ⟨w.heap.size+2,2,none⟩ (I k)).setCell ⟨w.heap.size+2,3,none⟩ (I 0))):=(((u.out.setCell (p:=⟨w.heap.size+2,0,none⟩) (by show w2.heap.size<=w.heap.size+2;omega) _).setCell (p:=⟨w.heap.size+2,1,none⟩) (by show w2.heap.size<=w.heap.size+2;omega) _).setCell (p:=⟨w.heap.size+2,2,none⟩) (by show w2.heap.size<=w.heap.size+2;omega) _).setCell (p:=⟨w.heap.size+2,3,none⟩) (by show w2.heap.size<=w.heap.size+2;omega) _;have K:w.heap.size+2<=w.heap.size+2:=QqB _;obtain⟨F,d⟩:=Zx (w.heap.size+2);obtain⟨V,r⟩:=Zx ((((z.setCell (w.heap.size+2,0) (I (Ext.end_ ⟨f,n,k,t⟩))).setCell (w.heap.size+2,1) (I c)).setCell (w.heap.size+2,2) (I k)).setCell (w.heap.size+2,3) (I 0));simp only[r]at M l ⊢;simp only[d]at M ⊢;have K:w.heap.size+2<=F:=O;clear r d H z0 z1 z2 z3 z4 z5 z6 z7;obtain⟨⟨p0,p1,p2,p3⟩,⟨q0,q1,q2,q3⟩⟩:=T.o _ l.o;obtain⟨⟨x0,x1,x2,x3⟩,y0,y1,y2,y3⟩:=K7 M;have s:=Q7h (q.o.trans (l.o.mono q.o.size));by_cases y:k=2
  ·subst y;have S:=B.o rfl;have L:Hid (tog ⟨f,n,2,t⟩ ⟨g,c,i,t'⟩=(decide (Ext.end_ ⟨f,n,2,t⟩=g)&&(decide (2=i)&&decide (t+n=t')))):=by show _=_;rw[Qxc,QqH rfl]
   go_wp2_with fail
   go_ret
   exact⟨by rw[L.o];rfl,s.o.setCell (p:=(F,3)) (by show w.heap.size<=F;omega) _⟩
  ·have W:(k==2)=false:=by simpa using y
   have L:Hid (tog ⟨f,n,k,t⟩ ⟨g,c,i,t'⟩=(decide (Ext.end_ ⟨f,n,k,t⟩=g)&&(decide (k=i)&&decide (0=t')))):=by show _=_;rw[Qxc,QqE y]
   go_wp2_with fail
   go_ret
   exact⟨by rw[L.o];rfl,s.o⟩
theorem Q7r(a b:Int)(w:World):(Builtin.max_ #[3,3] 3 #[I a,I b]).run Tryz.prog w= .ok (I (max a b)) w:=by
 simp[go_sem];split<;>omega
theorem Q7p(a b:Int)(w:World):(Builtin.min_ #[3,3] 3 #[I a,I b]).run Tryz.prog w= .ok (I (min a b)) w:=by
 simp[go_sem];split<;>omega
attribute [local go_sem ↓] Q7r Q7p
theorem Qbs(e:Ext)(a b:Int)(w:World)(h:Qb e=true)(ha:0<=a)(ab:a<=16777216)(hb:0<=b)(ac:b<=16777216):C 302 #[e.val,I a,I b] w λx w'=>x= .returned (match partOf e a b with|some y=>.tuple #[y.val,.bool true]|none=>.tuple #[.agg #[I 0,I 0,I 0,I 0],.bool false])/\Below w w w':=by
 obtain⟨k1,k2,k3,Q⟩:=Qg h;obtain⟨f,n,k,t⟩:=e;simp only at k1 k2 k3 Q;have X:=Q7h (λwq=>Qzo ⟨f,n,k,t⟩ wq h);show C 302 #[.agg #[I f,I n,I k,I t],I a,I b] w _;have q:=Q7h (((QqA w.heap.size w).alloc N0 (.cells #[I f,I n,I k,I t] 255)).alloc U (.cells #[I 0,I 0,I 0,I 0] 255));have g:=Whole.alloc (Whole.new w 255 #[I f,I n,I k,I t]) (.cells #[I 0,I 0,I 0,I 0] 255);have j:=Whole.new (w.alloc (.cells #[I f,I n,I k,I t] 255)) 255 #[I 0,I 0,I 0,I 0];obtain⟨w2,S⟩:=Zx ((w.alloc (.cells #[I f,I n,I k,I t] 255)).alloc (.cells #[I 0,I 0,I 0,I 0] 255));rw[S]at q g j;rw[QqW]at j;have u:Hid (∀w',Below w2 w2 w'->(w'.cell? (w,0)=some (I f)/\w'.cell? (w,1)=some (I n)/\w'.cell? (w,2)=some (I k)/\w'.cell? (w,3)=some (I t))):=λw' hb=>⟨Qq hb (g.cell 0),Qq hb (g.cell 1),Qq hb (g.cell 2),Qq hb (g.cell 3)⟩;have⟨SA,Y⟩:=Q2 (u.o _ B0) j;obtain⟨Z,l⟩:=Zx (Ext.end_ ⟨f,n,k,t⟩);have aa:=l;simp only[l]at X;have K4:=Q7h Q;obtain⟨A,hA⟩:=Zx (max f a);obtain⟨B,hB⟩:=Zx (min Z b);have HP:Hid (partOf ⟨f,n,k,t⟩ a b=if B<=A then none else some ⟨A,B-A,k,if k=2 then t+A-f else 0⟩):=by show _=_;unfold partOf;rw[l,hA,hB]
 have hq:(B<=A)\/(0<=A/\f<=A/\A<B/\B<=Z/\B<=16777216):=O;have HQ:=Q7h hq;obtain⟨R,m⟩:=Zx (match partOf ⟨f,n,k,t⟩ a b with|some y=>Value.tuple #[y.val,.bool true]|none=>.tuple #[.agg #[I 0,I 0,I 0,I 0],.bool false]);rw[m];rw[HP.o]at m;have HR:=Q7h m;clear h Q g j l hq m;go_in
 go_wp2_with fail
 go_region_held3 (λw'=>w'.cell? (w,0)=some (I f)/\w'.cell? (w,1)=some (I n)/\w'.cell? (w,2)=some (I k)/\w'.cell? (w,3)=some (I t)) (first|with_reducible exact SA.o|exact u.o _ (by repeat(first|with_reducible exact d.o|with_reducible exact QqA _ _|refine QqZ ?_|refine QxY ?_ E _|refine QjK ?_ E _))) ((go_at_call 248;refine(X.o _).mono ?_;rintro e M ⟨rfl,z⟩;have d:Hid (Below w2 w2 M):=QxB G (z.mono (by first|exact QqB _|(simp<;>omega)));have r:=d.o.size;clear z))
 all_goals
  have s:=Y.o.below d.o Y.o.lt;obtain⟨⟨z0,z1,z2,z3⟩,z4,z5,z6,z7⟩:=K7 s;have p:=q.o.trans (d.o.mono q.o.size);have ad:=p.size;have m:=HR.o;by_cases h3:B<=A
  ·rw[QqH h3]at m;subst m;go_wp2_with fail
   obtain⟨⟨F,H,K,L⟩,_⟩:=K7 (Whole.set4 s (I 0) (I 0) (I 0) (I 0));refine QqG (v:= .tuple #[.agg #[I 0,I 0,I 0,I 0],.bool false]) (by simp[results,Tryz.results302,go_sem,F,H,K,L]) rfl ⟨rfl,?_⟩;repeat(first|with_reducible exact p|refine QqZ ?_|refine QxY ?_ E _|refine QjK ?_ E _)
  ·have hq:=HQ.o;have T:=K4.o;have ae:wrap64 (B-A)=B-A:=by unfold wrap64;omega
   have u0:=λo=>(u.o (M.alloc o) (d.o.alloc r o)).1;have u2:=λo=>(u.o (M.alloc o) (d.o.alloc r o)).2.2.1;have u3:=λo=>(u.o (M.alloc o) (d.o.alloc r o)).2.2.2;obtain⟨t',i⟩:=Zx (if k=2 then t+A-f else 0);rw[QqE h3,i]at m;subst m;have c:=λo=>s.alloc o;have y0:=λo=>(c o).cell 0;have y1:=λo=>(c o).cell 1;have y2:=λo=>(c o).cell 2;have y3:=λo=>(c o).cell 3;have x0:=λo=>(c o).fz 0;have x1:=λo=>(c o).fz 1;have x2:=λo=>(c o).fz 2;have x3:=λo=>(c o).fz 3;have V:(k==2)=true/\wrap64 (t+A)=t+A/\wrap64 (t+A-f)=t'\/(k==2)=false/\t'=0:=by
    unfold wrap64;by_cases N:k=2
    ·rw[QqH N]at i;exact .inl ⟨by simpa using N,O,O⟩
    ·rw[QqE N]at i;exact .inr ⟨by simpa using N,i.symm⟩
   clear hq T i;rcases V with⟨W,af,ag⟩|⟨W,rfl⟩
   ·go_wp2_with fail
    obtain⟨⟨F,H,K,L⟩,_⟩:=K7 (Whole.set4 (c (.cells #[I A,I (B-A),I k,I t'] 255)) (I A) (I (B-A)) (I k) (I t'));refine QqG (v:= .tuple #[.agg #[I A,I (B-A),I k,I t'],.bool true]) (by simp[results,Tryz.results302,go_sem,F,H,K,L]) rfl ⟨rfl,?_⟩;repeat(first|with_reducible exact p|refine QqZ ?_|refine QxY ?_ E _|refine QjK ?_ E _)
   ·go_wp2_with fail
    obtain⟨⟨F,H,K,L⟩,_⟩:=K7 (Whole.set4 (c (.cells #[I A,I (B-A),I k,I 0] 255)) (I A) (I (B-A)) (I k) (I 0));refine QqG (v:= .tuple #[.agg #[I A,I (B-A),I k,I 0],.bool true]) (by simp[results,Tryz.results302,go_sem,F,H,K,L]) rfl ⟨rfl,?_⟩;repeat(first|with_reducible exact p|refine QqZ ?_|refine QxY ?_ E _|refine QjK ?_ E _)
end tr
end Go.Proofs.YtfialjmemcobjaaGreatDoor
