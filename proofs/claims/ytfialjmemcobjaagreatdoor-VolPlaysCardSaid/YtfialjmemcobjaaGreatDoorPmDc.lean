/- A part of the proof. -/
import Derived.Test.YtfialjmemcobjaaGreatDoorPmLgC
import Derived.Test.YtfialjmemcobjaaGreatDoorPmStR
import Derived.Test.YtfialjmemcobjaaGreatDoorPmVqB
set_option maxRecDepth 100000
set_option maxHeartbeats 16000000
set_option linter.unusedVariables false
set_option linter.unusedSimpArgs false
namespace Go.Proofs.YtfialjmemcobjaaGreatDoor
namespace dc
open Go.RowKit er st
theorem Qxh:(Tryz.prog.info? 155).map (λi=>(i.zero,i.size,i.bytes))=some (some (.agg #[I 0,I 0,.slice none 0 0]),3,40):=J
theorem Qxm:(Tryz.prog.info? 157).map (λi=>(i.zero,i.size,i.bytes))=some (some (.agg #[I 0,.string ⟨#[]⟩]),2,24):=J
def Bj(L:List (Spc×Value)):List Value:=L.flatMap λy=>[I y.1.id,I y.1.size,y.2]
def Xb(l:List Sec):List Value:=l.flatMap λx=>[I x.at_,.string x.data]
theorem Qre(L:List (Spc×Value))(y:Spc×Value):Bj (L++[y])=Bj L++[I y.1.id,I y.1.size,y.2]:=by simp[Bj]
theorem Ub(l:List Sec)(x:Sec):Xb (l++[x])=Xb l++[I x.at_,.string x.data]:=by simp[Xb]
theorem Qmx:∀(L:List (Spc×Value)) (j:Nat) (y:Spc×Value),L[j]? =some y->(Bj L)[j*3]? =some (I y.1.id)/\(Bj L)[j*3+1]? =some (I y.1.size)/\(Bj L)[j*3+2]? =some y.2
 |[],j,y,h=>by simp at h
 |z::L,0,y,h=>by
  simp at h;subst h;exact⟨rfl,rfl,rfl⟩
 |z::L,j+1,y,h=>by
  have a:=Qmx L j y (by simpa using h);have e:Bj (z::L)= I z.1.id::I z.1.size::z.2::Bj L:=by simp[Bj]
  rw[e,show(j+1)*3=j*3+1+1+1 by omega];simpa using a
theorem Qmu:∀(l:List Sec) (j:Nat) (x:Sec),l[j]? =some x->(Xb l)[j*2]? =some (I x.at_)/\(Xb l)[j*2+1]? =some (.string x.data)
 |[],j,x,h=>by simp at h
 |z::l,0,x,h=>by
  simp at h;subst h;exact⟨rfl,rfl⟩
 |z::l,j+1,x,h=>by
  have a:=Qmu l j x (by simpa using h);have e:Xb (z::l)= I z.at_::.string z.data::Xb l:=by simp[Xb]
  rw[e,show(j+1)*2=j*2+1+1 by omega];simpa using a
theorem Hu{w:World}{F:Nat->Prop}{B n:Nat}{v:Value}{l:List Sec}(h:w.ownsRow B 157 2 v n (Xb l))(d:l.length=n)(i:n<=100000)(e:∀k,B<=k->k<w.heap.size->F k):SecsAt w F v l:=by
 obtain⟨A,c,rfl⟩:=Qk h;refine⟨A,c,by rw[d],O,λm=>?_⟩;obtain⟨g,rfl,_,_,_,a,_⟩:=Qx h O;have b:=h.lt g rfl;refine⟨g,0,rfl,e g b.1 b.2,λj x f=>?_⟩;obtain⟨a1,a2⟩:=Qmu l j x f;exact⟨by have:=a _ _ a1;simpa using this,by have:=a _ _ a2;simpa using this⟩
structure SpRow(w0 w:World)(F:Nat->Prop)(B:Nat)(v:Value)(n:Nat)(l:List Spc):Prop where
 ex:∃L:List (Spc×Value),L.map (·.1)=l/\w.ownsRow B 155 3 v n (Bj L)/\(∀y∈L,SecsAt w0 F y.2 y.1.s)/\l.length=n
theorem SpRow.emp{w0 w:World}{F:Nat->Prop}{B:Nat}:SpRow w0 w F B (.slice none 0 0) 0 []:=⟨[],rfl,⟨rfl,.inl ⟨rfl,rfl⟩⟩,λy a=>(by cases a),rfl⟩
theorem SpRow.done{w0 w:World}{F G:Nat->Prop}{B n:Nat}{v:Value}{l:List Spc}(h:SpRow w0 w F B v n l)(q:n<=100000)(hb:Below w0 w0 w)(f:∀k,B<=k->k<w.heap.size->G k)(i:∀k,F k->G k):SpcsAt w G v l:=by
 obtain⟨L,m,b,o,p⟩:=h.ex;obtain⟨A,c,rfl⟩:=Qk b;refine⟨A,c,by rw[p],O,λr=>?_⟩;obtain⟨g,rfl,_,_,_,d,_⟩:=Qx b O;have e:=b.lt g rfl;refine⟨g,0,rfl,f g e.1 e.2,λj x a=>?_⟩;subst m;rw[QzF]at a;cases hy:L[j]? with
 |none=>rw[hy]at a;cases a
 |some y=>
  rw[hy]at a;injection a with a;subst a;obtain⟨a1,a2,a3⟩:=Qmx L j y hy;exact⟨y.2,by have:=d _ _ a1;simpa using this,by have:=d _ _ a2;simpa using this,by have:=d _ _ a3;simpa using this,((o y (QqL hy)).below hb).mono i⟩
theorem SpRow.snoc{w0 d:World}{F:Nat->Prop}{B m e c2:Nat}{sv:Value}{l:List Spc}{L:List (Spc×Value)}{x:Spc}{a b:Int}(f:L.map (·.1)=l)(g:∀y∈L,SecsAt w0 F y.2 y.1.s)(i:l.length=m)(j:SecsAt w0 F sv x.s)(ha:x.id=a)(hb:x.size=b)(h:d.ownsRow B 155 3 (.slice (some (e,0)) (m+1) c2) (m+1) (Bj L++[I a,I b,sv])):SpRow w0 d F B (.slice (some (e,0)) (m+1) c2) (m+1) (l++[x]):=by
 refine⟨L++[(x,sv)],by rw[QqY,f];rfl,by rw[Qre,ha,hb];exact h,λy c=>?_,by rw[QqK,i];rfl⟩;rcases QqJ.1 c with c|c
 ·exact g y c
 ·simp only[QzG]at c;subst c;exact j
def bx(w:World):Nat->Prop:=λk=>k=w.heap.size\/k=w.heap.size+1
theorem Q58{w wr:ν}{t:TypeId}{x y:Value}(hb:Below w w wr)(d:Whole wr (w.heap.size+1) t #[x,y])(j:Nat)(a b c:Value):
  ((((wr.setCell (w,j) c).setCell (w,1,0) a).setCell (w,1,1) b) (w,1,0)=some a/\(((wr.setCell (w,j) c).setCell (w,1,0) a).setCell (w,1,1) b) (w,1,1)=some b)/\
  Below w w (((wr.setCell (w,j) c).setCell (w,1,0) a).setCell (w,1,1) b)/\Keep (bx w) wr (((wr.setCell (w,j) c).setCell (w,1,0) a).setCell (w,1,1) b):=by
 have q:=((d.keep (Keep.set1 wr w.heap.size j c) O).set 0 a).set 1 b;refine⟨⟨by simpa using q.cell 0,by simpa using q.cell 1⟩,?_,?_⟩
 ·exact((hb.setCell (p:=(w,j)) N0 _).setCell (p:=(w,1,0)) (QuW _) _).setCell (p:=(w,1,1)) (QuW _) _
 ·exact(((Keep.refl (bx w) wr).setCell (p:=(w,j)) (.inl (.inl rfl)) _).setCell (p:=(w,1,0)) (.inl (.inr rfl)) _).setCell (p:=(w,1,1)) (.inl (.inr rfl)) _
theorem Qsn{w wr:ν}{t:TypeId}{x y z:Value}(hb:Below w w wr)(e:Whole wr (w.heap.size+1) t #[x,y,z])(j:Nat)(a b d c:Value):
  (((((wr.setCell (w,j) c).setCell (w,1,0) a).setCell (w,1,1) b).setCell (w,1,2) d) (w,1,0)=some a/\((((wr.setCell (w,j) c).setCell (w,1,0) a).setCell (w,1,1) b).setCell (w,1,2) d) (w,1,1)=some b/\((((wr.setCell (w,j) c).setCell (w,1,0) a).setCell (w,1,1) b).setCell (w,1,2) d) (w,1,2)=some d)/\
  Below w w ((((wr.setCell (w,j) c).setCell (w,1,0) a).setCell (w,1,1) b).setCell (w,1,2) d)/\Keep (bx w) wr ((((wr.setCell (w,j) c).setCell (w,1,0) a).setCell (w,1,1) b).setCell (w,1,2) d):=by
 have q:=(((e.keep (Keep.set1 wr w.heap.size j c) O).set 0 a).set 1 b).set 2 d;refine⟨⟨by simpa using q.cell 0,by simpa using q.cell 1,by simpa using q.cell 2⟩,?_,?_⟩
 ·exact(((hb.setCell (p:=(w,j)) N0 _).setCell (p:=(w,1,0)) (QuW _) _).setCell (p:=(w,1,1)) (QuW _) _).setCell (p:=(w,1,2)) (QuW _) _
 ·exact((((Keep.refl (bx w) wr).setCell (p:=(w,j)) (.inl (.inl rfl)) _).setCell (p:=(w,1,0)) (.inl (.inr rfl)) _).setCell (p:=(w,1,1)) (.inl (.inr rfl)) _).setCell (p:=(w,1,2)) (.inl (.inr rfl)) _
def gx(F:Nat->Prop)(w wr:World):Nat->Prop:=λk=>F k\/(w.heap.size+2<=k/\k<wr.heap.size)
theorem P6{F:Nat->Prop}{w wr:World}(a:∀k,F k->k<w.heap.size):∀k,gx F w wr k->¬bx w k:=by
 rintro k (h|⟨h,_⟩) (e|e)
 ·have:=a k h;omega
 ·have:=a k h;omega
 ·omega
 ·omega
theorem Qjs{F:Nat->Prop}{w wr w':World}(a:wr.heap.size<=w'.heap.size):∀k,gx F w wr k->gr F w w' k:=by
 rintro k (h|⟨h,b⟩)
 ·exact .inl h
 ·exact .inr ⟨O,O⟩
def Ky(l:List Spc)(id:Int):Int:=match Iq l id with|some i=>(i:Int)|none=> -1
theorem Qsh{l:List Spc}{id:Int}{i:Nat}{x:Spc}(a:l[i]? =some x)(h:∀y∈l.take i,y.id≠id)(b:x.id=id):Ky l id=i:=by
 have hi:=(QqD.1 a).1;have:Iq l id=some i:=by
  unfold Iq;rw[QkP];refine⟨hi,by rw[(QqD.1 a).2];simpa using b,λj c=>?_⟩;have:=h (l[j]'O) (by rw[List.mem_take_iff_getElem];exact⟨j,O,rfl⟩);simpa using this
 unfold Ky;rw[this]
theorem Qsl{l:List Spc}{id:Int}(h:∀y∈l,y.id≠id):Ky l id= -1:=by
 have:Iq l id=none:=by
  unfold Iq;rw[QjV];intro y a;simpa using h y a
 unfold Ky;rw[this]
theorem Xg(w:World)(F:Nat->Prop)(v:Value)(r:Dv)(id:Int)(h:DvAt w F v r):
  C 168 #[v,I id] w λe w'=>e= .returned (I (Ky r.l id))/\Below w w w':=by
 obtain⟨lv,rfl,A,c,rfl,N,m⟩:=h.row;obtain⟨cap,l⟩:=r;simp only at N m ⊢;have S:=Q7h m;obtain⟨n,p⟩:=Zx l.length;rw[p]at N ⊢;have q:=Q7h p;have T:(n:Int)<=100000:=O;have b:Hid (Below w w (w.alloc (.cells #[I cap,.slice A n c] 64))):=B0.alloc N0 _;have f:=Q7h (Whole.new w 64 #[I cap,.slice A n c]);obtain⟨w1,s⟩:=Zx (w.alloc (.cells #[I cap,.slice A n c] 64));rw[s]at b f;have Y:w1.cell? (w,1)=some (.slice A n c):=f.o.cell 1;clear h m p;go_in
 go_wp2_with fail
 go_loopw [5] (λiv wr=>∃i:Nat,i<=n/\iv= I i/\Hid (∀y∈l.take i,y.id≠id)/\wr=w1) (λiv _=>n-(intOf iv).toNat)
 case atStart=>exact⟨0,QqM _,rfl,λy t=>by simp at t,by first|rfl|assumption⟩
 case round=>
  obtain⟨i,hi,rfl,u,rfl⟩:=hrel;by_cases V:i<n
  ·have W:(i:Int)<(n:Int):=O;obtain⟨x,H⟩:∃x,l[i]? =some x:=⟨_,QqC (by have:=q.o;omega)⟩;obtain⟨g,o,rfl,_,j⟩:=S.o (by have:=q.o;omega);obtain⟨sv,a1,_⟩:=j i x H;have X:=Qq b.o a1;have Q:=Q7h H;obtain⟨K,d⟩:=Zx x.id;rw[d]at X;have R:=Q7h d;clear H j a1 d;by_cases a:K=id
   ·have k:(K==id)=true:=by simpa using a
    have L:Hid (Ky l id=i):=Qsh Q.o u.o (by rw[R.o];exact a);clear a;go_wp2_with fail
    go_ret
    exact⟨by rw[L.o];rfl,b.o⟩
   ·have k:(K==id)=false:=by simpa using a
    have M:Hid (∀y∈l.take (i+1),y.id≠id):=by
     intro z hz;rw[QzW,Q.o]at hz;rcases QqJ.1 hz with hz|hz
     ·exact u.o z hz
     ·simp at hz;rw[hz,R.o];exact a
    clear a;go_wp2_with fail
    go_roundw
    case rel=>exact⟨i+1,O,by go_num,M.o,trivial⟩
    case measure=>simp[intOf];omega
  ·obtain rfl:i=n:=O;have L:Hid (Ky l id= -1):=Qsl (λy t=>u.o y (by rw[QkT (by have:=q.o;omega)];exact t));go_wp2_with fail
   go_ret
   exact⟨by rw[L.o];rfl,b.o⟩
def Vk(l:List Spc):Int:=(l.map λx=>(x.s.length:Int)).sum
theorem Qov{l:List Spc}{i:Nat}{x:Spc}(a:l[i]? =some x):Vk (l.take (i+1))=Vk (l.take i)+x.s.length:=by
 unfold Vk;rw[QzW,a,QqY,QuS];simp
theorem Qyr:∀(l:List Spc),(∀x∈l,x.s.length<=100000)->0<=Vk l/\Vk l<=100000*l.length
 |[],_=>by simp[Vk]
 |x::r,h=>by
  have b:=Qyr r (λy a=>h y (by simp[a]));have:=h x U;have e:Vk (x::r)=x.s.length+Vk r:=by simp[Vk]
  rw[e,QzN];omega
theorem Bp(w:World)(F:Nat->Prop)(v:Value)(r:Dv)(h:DvAt w F v r)(z:0<=r.cap/\r.cap<=1000000000):
  C 98 #[v] w λe w'=>e= .returned (I (Ug r))/\Below w w w':=by
 obtain⟨lv,rfl,A,c,rfl,Q,t⟩:=h.row;obtain⟨cap,l⟩:=r;simp only at Q t z ⊢;have S:=Q7h t;obtain⟨n,H⟩:=Zx l.length;rw[H]at Q ⊢;have u:=Q7h H;have T:(n:Int)<=100000:=O;have d:Hid (Below w w (w.alloc (.cells #[I cap,.slice A n c] 64))):=B0.alloc N0 _;have f:=Q7h (Whole.new w 64 #[I cap,.slice A n c]);obtain⟨w1,K⟩:=Zx (w.alloc (.cells #[I cap,.slice A n c] 64));rw[K]at d f;have x0:w1.cell? (w,0)=some (I cap):=f.o.cell 0;have x1:w1.cell? (w,1)=some (.slice A n c):=f.o.cell 1;have L:Hid (∀x∈l,x.s.length<=100000):=λx k=>by
  obtain⟨j,V,rfl⟩:=QkL.1 k;obtain⟨g,o,_,_,a⟩:=t O;obtain⟨sv,_,_,_,W,X,_,Y,_⟩:=a j _ (QqC V);exact Y
 clear h t H;go_in
 go_wp2_with fail
 go_loopw [3,4] (λZ iv wr=>∃(i:Nat) (q:Int),i<=n/\Z= I q/\iv= I i/\Hid (q=cap-Vk (l.take i))/\wr=w1) (λ_ iv _=>n-(intOf iv).toNat)
 case atStart=>exact⟨0,cap,QqM _,rfl,rfl,by show _=_;simp[Vk],by first|rfl|assumption⟩
 case round=>
  obtain⟨i,q,hi,rfl,rfl,M,rfl⟩:=hrel;by_cases B:i<n
  ·have aa:(i:Int)<(n:Int):=O;obtain⟨x,k⟩:∃x,l[i]? =some x:=⟨_,QqC (by have:=u.o;omega)⟩;obtain⟨g,o,rfl,_,a⟩:=S.o (by have:=u.o;omega);obtain⟨sv,_,_,a3,W,X,rfl,N,_⟩:=a i x k;have y1:=Qq d.o a3;have b:=Qyr (l.take i) (λy hy=>L.o y (QjF hy));rw[QzJ]at b;have hq:-10000000000<=q/\q<=1000000000:=by
    have:=M.o;have h2:((min i l.length:Nat):Int)<=100000:=by have:=u.o;omega
    omega
   have p:Hid (q-x.s.length=cap-Vk (l.take (i+1))):=by show _=_;rw[Qov k,M.o];omega
   obtain⟨m,R⟩:∃m:Nat,x.s.length=m:=⟨_,rfl⟩;rw[R]at p y1 N;clear k a a3 R b;go_wp2_with fail
   go_roundw
   case rel=>exact⟨i+1,q-m,O,by go_num,by go_num,p.o,trivial⟩
   case measure=>simp[intOf];omega
  ·obtain rfl:i=n:=O;have HR:Hid (q=Ug ⟨cap,l⟩):=by
    show _=_;rw[M.o,QkT (by have:=u.o;omega)];rfl
   go_wp2_with fail
   go_ret
   exact⟨by rw[HR.o];rfl,d.o⟩
theorem Sv{α:Type}(p:α->Bool){l:List α}{i:Nat}{x:α}(a:l[i]? =some x):(l.take (i+1)).filter p=(l.take i).filter p++if p x=true then[x]else[]:=by
 rw[QzW,a,QjZ];simp[QkX]
theorem Dy(w:World)(F:Nat->Prop)(v:Value)(r:Dv)(id:Int)(h:DvAt w F v r):
  C 172 #[v,I id] w λe w'=>∃lv,e= .returned (.agg #[I r.cap,lv])/\SpcsAt w' (gr F w w') lv (Zj r.l id)/\Below w w w':=by
 obtain⟨lv,rfl,A,c,rfl,hl,hc⟩:=h.row;obtain⟨cap,l⟩:=r;simp only at hl hc ⊢;have HC:=Q7h hc;have HF:=Q7h h.lt;obtain⟨n,hn⟩:=Zx l.length;rw[hn]at hl ⊢;have HN:=Q7h hn;have aX:(n:Int)<=100000:=O;obtain⟨i0,Y,Z,aa,ab⟩:=QzX Qxh;have au:=Q7h Y;have av:=Q7h Z;have aw:=Q7h aa;have ax:=Q7h ab;obtain⟨b2,M⟩:=Zx (w.heap.size+2);have hB:Below w.heap.size w ((w.alloc (.cells #[I cap,.slice A n c] 64)).alloc (.cells #[I 0,.slice none 0 0] 64)):=((QqA _ _).alloc (QqB _) _).alloc U _;have b:=Whole.alloc (Whole.new w 64 #[I cap,.slice A n c]) (.cells #[I 0,.slice none 0 0] 64);have a:=Whole.new (w.alloc (.cells #[I cap,.slice A n c] 64)) 64 #[I 0,.slice none 0 0];have N:((w.alloc (.cells #[I cap,.slice A n c] 64)).alloc (.cells #[I 0,.slice none 0 0] 64)).heap.size=b2:=by rw[<-M];simp
 rw[QqW]at a;obtain⟨w1,ac⟩:=Zx ((w.alloc (.cells #[I cap,.slice A n c] 64)).alloc (.cells #[I 0,.slice none 0 0] 64));rw[ac]at hB b a N;have ay:=Q7h hB;have ad:=Q7h b;have az:=Q7h a;have aF:=Q7h N;have q:=Q7h M;clear h hc hn hB b a N Y Z aa ab M;go_in
 go_wp2_with fail
 go_loopw [5,6] (λov iv wr=>∃(i m:Nat) (B:Option Addr) (d:Nat),i<=n/\m<=i/\iv= I i/\ov= .slice B m d/\Hid (SpRow w wr F b2 (.slice B m d) m (Zj (l.take i) id))/\Hid (Below b2 w1 wr)) (λ_ iv _=>n-(intOf iv).toNat)
 case atStart=>exact⟨0,0,none,0,QqM _,QqB _,rfl,rfl,SpRow.emp,by first|exact QqA _ _|(rw[ac];exact QqA _ _)⟩
 case round=>
  obtain⟨i,m,B,d,hi,aY,rfl,rfl,HR,Q⟩:=hrel;have t:=Q7h (ay.o.trans (Q.o.mono (by have:=q.o;omega)));have b:=ad.o.below Q.o (by have:=q.o;omega);have z0:=b.cell 0;have z1:=b.cell 1;clear b;by_cases aZ:i<n
  ·have aA:(i:Int)<(n:Int):=O;obtain⟨x,hx⟩:∃x,l[i]? =some x:=⟨_,QqC (by have:=HN.o;omega)⟩;obtain⟨g,o,rfl,_,ae⟩:=HC.o (by have:=HN.o;omega);obtain⟨sv,a1,a2,a3,af⟩:=ae i x hx;have y1:=Qq t.o a1;have y2:=Qq t.o a2;have y3:=Qq t.o a3;have HS:=Q7h af;have HX:=Q7h hx;have ag:Hid (Zj (l.take (i+1)) id=Zj (l.take i) id++if decide (x.id≠id)=true then[x]else[]):=Sv _ hx;obtain⟨W,X,rfl,aH,_⟩:=af;obtain⟨sl,ah⟩:=Zx x.s.length;rw[ah]at y3 HS;obtain⟨f,y⟩:=Zx x.id;obtain⟨j,z⟩:=Zx x.size;rw[y]at y1;rw[z]at y2;have HI:=Q7h y;have HJ:=Q7h z;clear hx ae a1 a2 a3 ah aH y z;by_cases p:f=id
   ·have ai:(f==id)=true:=by simpa using p
    have R:Hid (SpRow w wr F b2 (.slice B m d) m (Zj (l.take (i+1)) id)):=by
     show SpRow _ _ _ _ _ _ _;rw[ag.o,QqE (by rw[HI.o];simpa using p),QzT];exact HR.o
    clear p;go_wp2_with fail
    go_roundw
    case rel=>exact⟨i+1,m,B,d,O,O,by go_num,rfl,R.o,Q.o⟩
    case measure=>simp[intOf];omega
   ·have ai:(f==id)=false:=by simpa using p
    have HP:Hid (Zj (l.take (i+1)) id=Zj (l.take i) id++[x]):=by
     show _=_;rw[ag.o,QqH (by rw[HI.o];simpa using p)]
    obtain⟨L,aj,S,ak,al⟩:=HR.o.ex;have aK:=Q7h aj;have aL:=Q7h ak;have aM:=Q7h al;have aN:b2<=wr.heap.size:=by rw[<-aF.o];exact Q.o.size
    have aQ:=Q7h S;have aR:=Q7h (S.alloc (.cells #[I f,I j,.slice W sl X] 155));have aS:Hid (∀(j':Nat) (u:Value),([I f,I j,.slice W sl X]:List Value)[j']? =some u->(wr.alloc (.cells #[I f,I j,.slice W sl X] 155)).cell? ((⟨wr.heap.size,0,none⟩:Addr).add j')=some u):=World.news_of_block (QzY wr _);have K:∀u∈([I f,I j,.slice W sl X]:List Value),u.oneCell'=true:=by simp[Value.oneCell']
    have am:=Q7h K;have an:Hid (b2<=(wr.alloc (.cells #[I f,I j,.slice W sl X] 155)).heap.size):=by show _<=_;simp only[QqW];omega
    clear p aj S ak al K;go_wp2_with (at_builtin;go_must (refine wpList_append_lies _ rfl (.tmp 22) (.tmp 28) 62 rfl b2 155 i0 _ 3 40 Tryz.underlying62 au.o av.o aw.o ax.o rfl O (.slice B m d) m (Bj L) rfl aR.o (wr,0) 1 1 [I f,I j,.slice W sl X] rfl rfl aS.o am.o O (by simp only[maxLen];omega) O an.o _ rfl ?_;intro g2 c2 w8 H ao ap _;have T:=Q7h H;have aT:=Q7h ao;clear H ao ap))
    have aV:=Q7h (Q.o.trans (Qy aQ.o aT.o aN));have R:Hid (SpRow w w8 F b2 (.slice (some (g2,0)) (m+1) c2) (m+1) (Zj (l.take (i+1)) id)):=by
     show SpRow _ _ _ _ _ _ _;rw[HP.o];exact SpRow.snoc aK.o aL.o aM.o HS.o HI.o HJ.o T.o
    have V:n-(intOf (I ((i:Int)+1))).toNat<n-(intOf (I (i:Int))).toNat:=by simp[intOf];omega
    refine⟨⟨i+1,m+1,some (g2,0),c2,O,O,by go_num,rfl,?_,?_⟩,V⟩
    ·with_reducible exact R
    ·with_reducible exact aV
  ·obtain rfl:i=n:=O;have b:=ad.o.below Q.o (by have:=q.o;omega);have a:=az.o.below Q.o (by have:=q.o;omega);have aq:=Q7h a;have f1:=b.fz 1;have o0:=a.cell 0;have o1:=a.cell 1;have e0:=a.fz 0;have e1:=a.fz 1;clear b a;go_wp2_with fail
   obtain⟨⟨r0,r1⟩,aW,ar⟩:=Q58 t.o aq.o 1 (I cap) (.slice B m d) (.slice B m d);refine QqG (v:= .agg #[I cap,.slice B m d]) (by simp[results,Tryz.results172,go_sem,r0,r1]) rfl ⟨_,rfl,?_,aW⟩;have hD:Zj (l.take i) id=Zj l id:=by rw[QkT (by have:=HN.o;omega)]
   have hG:=HR.o.done (G:=gx F w wr) O t.o (λk h1 h2=>.inr ⟨by have:=q.o;omega,h2⟩) (λk h=>.inl h);rw[hD]at hG;exact(hG.keep ar (P6 HF.o)).mono (Qjs ar.size)
theorem Ee(w:World)(F:Nat->Prop)(sv:Value)(x:Spc)(fr p:Int)(h:SecsAt w F sv x.s)(hF:∀k,F k->k<w.heap.size):
  C 171 #[.agg #[I x.id,I x.size,sv],I fr,I p] w λe w'=>∃Z,e= .returned (.agg #[I x.id,I x.size,Z])/\SecsAt w' (gr F w w') Z (Ou x fr p).s/\Below w w w':=by
 obtain⟨A,c,rfl,hl,hc⟩:=h;obtain⟨z,H,l⟩:=x;simp only at hl hc ⊢;have HC:=Q7h hc;have HF:=Q7h hF;obtain⟨n,hn⟩:=Zx l.length;rw[hn]at hl ⊢;have HN:=Q7h hn;have aK:(n:Int)<=100000:=O;obtain⟨i0,aa,ab,ac,ad⟩:=QzX Qxm;have an:=Q7h aa;have ao:=Q7h ab;have ap:=Q7h ac;have aq:=Q7h ad;obtain⟨b2,M⟩:=Zx (w.heap.size+2);have hB:Below w.heap.size w ((w.alloc (.cells #[I z,I H,.slice A n c] 155)).alloc (.cells #[I 0,I 0,.slice none 0 0] 155)):=((QqA _ _).alloc (QqB _) _).alloc U _;have b:=Whole.alloc (Whole.new w 155 #[I z,I H,.slice A n c]) (.cells #[I 0,I 0,.slice none 0 0] 155);have a:=Whole.new (w.alloc (.cells #[I z,I H,.slice A n c] 155)) 155 #[I 0,I 0,.slice none 0 0];have N:((w.alloc (.cells #[I z,I H,.slice A n c] 155)).alloc (.cells #[I 0,I 0,.slice none 0 0] 155)).heap.size=b2:=by rw[<-M];simp
 rw[QqW]at a;obtain⟨w1,ae⟩:=Zx ((w.alloc (.cells #[I z,I H,.slice A n c] 155)).alloc (.cells #[I 0,I 0,.slice none 0 0] 155));rw[ae]at hB b a N;have ar:=Q7h hB;have af:=Q7h b;have au:=Q7h a;have av:=Q7h N;have q:=Q7h M;obtain⟨j,Q⟩:∃j:Sec->Bool,(λx=>decide (x.at_<fr) || decide (p<=x.at_))=j:=⟨_,rfl⟩;have HP:Hid (∀x:Sec,j x=(decide (x.at_<fr) || decide (p<=x.at_))):=λx=>by rw[<-Q]
 have HD:Hid ((Ou ⟨z,H,l⟩ fr p).s=l.filter j):=by show _=_;rw[<-Q];rfl
 rw[HD.o];clear hc hn hF hB b a N aa ab ac ad M Q;go_in
 go_wp2_with fail
 go_loopw [7,8] (λov iv wr=>∃(i m:Nat) (B:Option Addr) (d:Nat),i<=n/\m<=i/\iv= I i/\ov= .slice B m d/\Hid (((l.take i).filter j).length=m)/\Hid (wr.ownsRow b2 157 2 (.slice B m d) m (Xb ((l.take i).filter j)))/\Hid (Below b2 w1 wr)) (λ_ iv _=>n-(intOf iv).toNat)
 case atStart=>exact⟨0,0,none,0,QqM _,QqB _,rfl,rfl,rfl,⟨rfl,.inl ⟨rfl,rfl⟩⟩,by first|exact QqA _ _|(rw[ae];exact QqA _ _)⟩
 case round=>
  obtain⟨i,m,B,d,hi,aL,rfl,rfl,HM,HO,R⟩:=hrel;have S:=Q7h (ar.o.trans (R.o.mono (by have:=q.o;omega)));have b:=af.o.below R.o (by have:=q.o;omega);have z0:=b.cell 0;have z1:=b.cell 1;have z2:=b.cell 2;clear b;by_cases aM:i<n
  ·have aN:(i:Int)<(n:Int):=O;obtain⟨x,hx⟩:∃x,l[i]? =some x:=⟨_,QqC (by have:=HN.o;omega)⟩;obtain⟨g,o,rfl,_,ag⟩:=HC.o (by have:=HN.o;omega);obtain⟨a1,a2⟩:=ag i x hx;have y1:=Qq S.o a1;have y2:=Qq S.o a2;have T:=Q7h (Sv j hx);have V:=Q7h (HP.o x);obtain⟨r,K⟩:=x;simp only at y1 y2 V;clear hx ag a1 a2;have t:n-(intOf (I ((i:Int)+1))).toNat<n-(intOf (I (i:Int))).toNat:=by simp[intOf];omega
   cases hpx:j ⟨r,K⟩
   ·have f:=V.o;rw[hpx]at f;simp only[Bool.false_eq,Bool.or_eq_false_iff,decide_eq_false_iff_not]at f;obtain⟨q1,q2⟩:=f;have W:Hid (((l.take (i+1)).filter j).length=m):=by show _=_;rw[T.o,hpx];simpa using HM.o
    have X:Hid (wr.ownsRow b2 157 2 (.slice B m d) m (Xb ((l.take (i+1)).filter j))):=by
     have e:(l.take (i+1)).filter j=(l.take i).filter j:=by rw[T.o,hpx];simp
     show World.ownsRow _ _ _ _ _ _ _;rw[e];exact HO.o
    clear hpx;go_wp2_with fail
    exact⟨⟨i+1,m,B,d,O,O,by go_num,rfl,W,X,R⟩,t⟩
   ·have f:=V.o;rw[hpx]at f;have hq:r<fr\/(¬r<fr/\p<=r):=by
     simp only[Bool.true_eq,QuT,QzD]at f;omega
    have HE:Hid ((l.take (i+1)).filter j=(l.take i).filter j++[⟨r,K⟩]):=by show _=_;rw[T.o,hpx];rfl
    have aw:b2<=wr.heap.size:=by rw[<-av.o];exact R.o.size
    have ax:=Q7h (HO.out.alloc (.cells #[I r,.string K] 157));have ay:Hid (∀(j':Nat) (u:Value),([I r,.string K]:List Value)[j']? =some u->(wr.alloc (.cells #[I r,.string K] 157)).cell? ((⟨wr.heap.size,0,none⟩:Addr).add j')=some u):=World.news_of_block (QzY wr _);have L:∀u∈([I r,.string K]:List Value),u.oneCell'=true:=by simp[Value.oneCell']
    have ah:=Q7h L;have ai:Hid (b2<=(wr.alloc (.cells #[I r,.string K] 157)).heap.size):=by show _<=_;simp only[QqW];omega
    clear L hpx f;rcases hq with hq|⟨hq,aQ⟩;all_goals
     go_wp2_with (at_builtin;go_must (refine wpList_append_lies _ rfl (.tmp 34) (.tmp 40) 153 rfl b2 157 i0 _ 2 24 Tryz.underlying153 an.o ao.o ap.o aq.o rfl O (.slice B m d) m (Xb ((l.take i).filter j)) rfl ax.o (wr,0) 1 1 [I r,.string K] rfl rfl ay.o ah.o O (by simp only[maxLen];omega) O ai.o _ rfl ?_;intro g2 c2 w8 y aj ak _;have Y:=Q7h y;have az:=Q7h aj;clear y aj ak))
     have aF:=Q7h (R.o.trans (Qy HO.o az.o aw));have W:Hid (((l.take (i+1)).filter j).length=m+1):=by show _=_;rw[HE.o,QqK,HM.o];rfl
     have X:Hid (w8.ownsRow b2 157 2 (.slice (some (g2,0)) (m+1) c2) (m+1) (Xb ((l.take (i+1)).filter j))):=by
      show World.ownsRow _ _ _ _ _ _ _;rw[HE.o,Ub];exact Y.o
     refine⟨⟨i+1,m+1,some (g2,0),c2,O,O,by go_num,rfl,?_,?_,?_⟩,t⟩
     ·with_reducible exact W
     ·with_reducible exact X
     ·with_reducible exact aF
  ·obtain rfl:i=n:=O;have b:=af.o.below R.o (by have:=q.o;omega);have a:=au.o.below R.o (by have:=q.o;omega);have al:=Q7h a;have f2:=b.fz 2;have o0:=a.cell 0;have o1:=a.cell 1;have o2:=a.cell 2;have e0:=a.fz 0;have e1:=a.fz 1;have e2:=a.fz 2;clear b a;go_wp2_with fail
   obtain⟨⟨r0,r1,r2⟩,aH,am⟩:=Qsn S.o al.o 2 (I z) (I H) (.slice B m d) (.slice B m d);refine QqG (v:= .agg #[I z,I H,.slice B m d]) (by simp[results,Tryz.results171,go_sem,r0,r1,r2]) rfl ⟨_,rfl,?_,aH⟩;have hD:(l.take i).filter j=l.filter j:=by rw[QkT (by have:=HN.o;omega)]
   have hG:=Hu (F:=gx F w wr) HO.o HM.o O (λk h1 h2=>.inr ⟨by have:=q.o;omega,h2⟩);rw[hD]at hG;exact(hG.keep am (P6 HF.o)).mono (Qjs am.size)
theorem Qn4{wr:World}{p q:Nat}{t:TypeId}{x y:Value}(e:Whole wr q t #[x,y])(d:q≠p)(j:Nat)(a b c:Value):
  ((((wr.setCell (p,j) c).setCell (q,0) a).setCell (q,1) b).cell? (q,0)=some a/\(((wr.setCell (p,j) c).setCell (q,0) a).setCell (q,1) b).cell? (q,1)=some b)/\
  Keep (λk=>k=p\/k=q) wr (((wr.setCell (p,j) c).setCell (q,0) a).setCell (q,1) b):=by
 have z:=((e.keep (Keep.set1 wr p j c) d).set 0 a).set 1 b;exact⟨⟨by simpa using z.cell 0,by simpa using z.cell 1⟩,(((Keep.refl (λk=>k=p\/k=q) wr).setCell (p:=(p,j)) (.inl (.inl rfl)) _).setCell (p:=(q,0)) (.inl (.inr rfl)) _).setCell (p:=(q,1)) (.inl (.inr rfl)) _⟩
def Qjb(X:Spc):Bool->List Spc->List Spc
 |true,l=>l
 |false,l=>Yc X l
theorem Ao{wr w2:World}{o:Obj}{a k:Nat}{e:TypeId}{size:Nat}{v:Value}{n:Nat}{xs:List Value}(b:wr.ownsRow a e size v n xs)(c:((wr.drewN k).alloc o).grownBy w2 v.ownBlock)(hb:a<=wr.heap.size):Below a wr w2:=
 (below_drewN (QqA a wr) k).trans (Qy (own_below b (below_drewN B0 k)) c hb)
theorem Gq(w:ν)(F:φ)(v:Value)(r:Dv)(x:Spc)(sv:Value)(h:DvAt w F v r)(hx:SecsAt w F sv x.s)(h9:r.l.length<=1000):
  C 169 #[v,.agg #[I x.id,I x.size,sv]] w λe w'=>∃lv,e=ρ (.agg #[I r.cap,lv])/\SpcsAt w' (gr F w w') lv (Z9 r.l x)/\Below w w w':=by
 have a7:=Q7h h;have a8:=Q7h hx;have HF:=Q7h h.lt;obtain⟨cm,rfl,A,c,rfl,hl,hc⟩:=h.row;obtain⟨A0,c0,rfl,b0,_⟩:=hx;obtain⟨cap,l⟩:=r;obtain⟨S,Z,xs⟩:=x;simp only at hl hc h9 ⊢;obtain⟨n,hn⟩:=Zx l.length;obtain⟨n0,bm⟩:=Zx xs.length;simp only[hn,bm]at hl h9 a7 a8 ⊢;have HN:=Q7h hn;obtain⟨i0,bn,bo,bp,bq⟩:=QzX Qxh;have am:=Q7h bn;have an:=Q7h bo;have ao:=Q7h bp;have ap:=Q7h bq;have hB:Below w w (((w.alloc (.cells #[I cap,.slice A n c] 64)).alloc (.cells #[I S,I Z,.slice A0 n0 c0] 155)).alloc (.cells #[I 0,.slice none 0 0] 64)):=(((QqA _ _).alloc (QqB _) _).alloc U _).alloc (by simp;omega) _;have aK:=(Whole.alloc (Whole.new w 64 #[I cap,.slice A n c]) (.cells #[I S,I Z,.slice A0 n0 c0] 155)).alloc (.cells #[I 0,.slice none 0 0] 64);have z:=Whole.alloc (Whole.new (w.alloc (.cells #[I cap,.slice A n c] 64)) 155 #[I S,I Z,.slice A0 n0 c0]) (.cells #[I 0,.slice none 0 0] 64);have aL:=Whole.new ((w.alloc (.cells #[I cap,.slice A n c] 64)).alloc (.cells #[I S,I Z,.slice A0 n0 c0] 155)) 64 #[I 0,.slice none 0 0];simp only[QqW]at z aL;obtain⟨w1,br⟩:=Zx (((w.alloc (.cells #[I cap,.slice A n c] 64)).alloc (.cells #[I S,I Z,.slice A0 n0 c0] 155)).alloc (.cells #[I 0,.slice none 0 0] 64));have aM:w1.heap.size=w.heap.size+3:=by rw[<-br];simp
 rw[br]at hB aK z aL;have bs:=Q7h hB;have aN:=Q7h z;have aQ:=Q7h aL;have aR:=Q7h aM;have z0:=aK.cell 0;have z1:=aK.cell 1;have z2:=z.cell 0;have bt:=Q7h (Dy w1 F _ ⟨cap,l⟩ S (a7.o.below hB));clear h hc hn bm b0 hB aK z aL aM bn bo bp bq;go_in
 go_wp2_with fail
 refine bt.o.mono ?_;rintro e w2 ⟨cn,rfl,a0,aq⟩;have aS:=Q7h a0;obtain⟨A2,c2,rfl,bu,_⟩:=a0;obtain⟨N,aT⟩:=Zx (Zj l S);have HW:Hid (Z9 l ⟨S,Z,xs⟩=Yc ⟨S,Z,xs⟩ N):=by show _=_;rw[<-aT];rfl
 have b1:N.length<=n:=by rw[<-aT,<-HN.o];exact QkE _ _
 rw[aT]at aS bu ⊢;obtain⟨m2,a9⟩:=Zx N.length;rw[a9]at aS bu b1 ⊢;have aV:=Q7h a9;have a4:=bs.o.trans (aq.mono (by have:=aR.o;omega));have b2:=aq.size;have aa:=Whole.new w2 64 #[I cap,.slice A2 m2 c2];have al:Below w2 w2 (w2.alloc (.cells #[I cap,.slice A2 m2 c2] 64)):=(QqA _ _).alloc (QqB _) _;have ba:(w2.alloc (.cells #[I cap,.slice A2 m2 c2] 64)).heap.size=w2.heap.size+1:=U;obtain⟨w3,bv⟩:=Zx (w2.alloc (.cells #[I cap,.slice A2 m2 c2] 64));rw[bv]at al aa ba;have ar:=Q7h aa;have ad:=Q7h ba;have H:=Q7h (show w.heap.size+3<=w2.heap.size from by have:=aR.o;omega);have bb:=Q7h (a4.trans (al.mono (by have:=H.o;omega)));have b3:=Q7h (aS.o.below al);have bw:Hid (SecsAt w3 (gr F w1 w2) (.slice A0 n0 c0) xs):=(a8.out.below bb.out).mono Ak;have a5:=Q7h ((aN.out.below (aq.mono (QqB _)) aN.out.lt).below al (by have:=aN.out.lt;omega));have a6:=Q7h ((aQ.out.below (aq.mono (QqB _)) aQ.out.lt).below al (by have:=aQ.out.lt;omega));clear aT a9 aq a4 b2 al aa ba z0 z1 z2 a7 a8 bt aS aN aQ bs;obtain⟨X,hX⟩:∃X:Spc,(⟨S,Z,xs⟩:Spc)=X:=⟨_,rfl⟩

 have ab:=Q7h hX;clear hX;go_wp2_with fail
 go_loopw [6,7,8] (λov pv iv wr=>∃(i m:Nat) (B:Option Addr) (d:Nat) (put:Bool) (out:List Spc),i<=m2/\m<=i+1/\iv= I i/\pv= .bool put/\ov= .slice B m d/\Hid (out++Qjb X put (N.drop i)=Yc X N)/\Hid (put=false->m<=i)/\Hid (SpRow w3 wr (gr F w1 w2) (w2.heap.size+1) (.slice B m d) m out)/\Hid (Below (w2.heap.size+1) w3 wr)) (λ_ _ iv _=>m2-(intOf iv).toNat)
 case atStart=>exact⟨0,0,none,0,false,[],QqM _,QqM _,rfl,rfl,rfl,rfl,λ_=>QqB _,SpRow.emp,by first|exact QqA _ _|(rw[bv];exact QqA _ _)⟩
 case round=>
  obtain⟨i,m,B,d,put,out,hi,co,rfl,rfl,rfl,HQ,bz,HR,HB⟩:=hrel;have bF:=Q7h (bb.o.trans (HB.o.mono (by have:=H.o;omega)));have aa:=ar.o.below HB.o O;have z:=a5.o.below HB.o (by have:=H.o;omega);have v0:wr ⟨w2.heap.size,0,none⟩=I cap:=aa.cell 0;have v1:wr ⟨w2.heap.size,1,none⟩=some (.slice A2 m2 c2):=aa.cell 1;have s0:wr ⟨w.heap.size+1,0,none⟩=I S:=z.cell 0;have s1:wr ⟨w.heap.size+1,1,none⟩=I Z:=z.cell 1;have s2:wr ⟨w.heap.size+1,2,none⟩=some (.slice A0 n0 c0):=z.cell 2;have aW:w2.heap.size+1<=wr.heap.size:=by rw[<-ad.out];exact HB.out.size
  obtain⟨L,au,av,aw,ax⟩:=HR.out.ex;have aX:=Q7h au;have ae:=Q7h av;have aY:=Q7h aw;have aZ:=Q7h ax;clear aa z au av aw ax;by_cases cp:i<m2
  ·have cq:(i:Int)<(m2:Int):=O;obtain⟨y,hy⟩:∃y,N[i]? =some y:=⟨_,QqC (by have:=aV.out;omega)⟩;obtain⟨Ae,ce,bc,_,bH⟩:=b3.out;injection bc with bc b4 b5;clear b4;subst bc b5;obtain⟨g,o,rfl,_,bK⟩:=bH (by have:=aV.out;omega);obtain⟨cr,a1,a2,a3,bL⟩:=bK i y hy;have ak:Below w3 w3 wr:=by rw[ad.out];exact HB.out
   have bM:=Qq ak a1;have bN:=Qq ak a2;have bQ:=Qq ak a3;have aA:=Q7h bL;have be:Hid (N.drop i=y::N.drop (i+1)):=by
    show _=_;rw[QkM (by have:=aV.out;omega)];congr 1;exact(QqD.1 hy).2
   obtain⟨A',c',rfl,b6,_⟩:=bL;obtain⟨sl,bR⟩:∃sl,y.s.length=sl:=⟨_,rfl⟩;rw[bR]at bQ aA a3;obtain⟨y0,bf⟩:∃q,y.id=q:=⟨_,rfl⟩;obtain⟨y1,bg⟩:∃q,y.size=q:=⟨_,rfl⟩;rw[bf]at bM a1;rw[bg]at bN a2;have HI:=Q7h bf;have HJ:=Q7h bg;have af:m2-(intOf (I ((i:Int)+1))).toNat<m2-(intOf (I (i:Int))).toNat:=by simp[intOf];omega
   have b7:=Q7h a1;have b8:=Q7h a2;have b9:=Q7h a3;clear hy bH bK a1 a2 a3 bR b6 bf bg ak;cases put
   ·by_cases aB:S<y0
    ·have ca:decide (S<y0)=true:=QxA aB;have T:Hid (((out++[X])++[y])++Qjb X true (N.drop (i+1))=Yc X N):=by
      have h:=HQ.out;rw[be.out]at h;have h2:out++Yc X (y::N.drop (i+1))=Yc X N:=h;rw[Yc,QqH (by rw[<-ab.out,HI.out];exact aB)]at h2;show((out++[X])++[y])++N.drop (i+1)=Yc X N;rw[<-h2];simp
     have bS:=bz.out rfl;have bT:Hid (true=false->m+1+1<=i+1):=λh=>by cases h
     have ag:=Q7h (ae.out.alloc (.cells #[I S,I Z,.slice A0 n0 c0] 155));have W:Hid (∀(j':Nat) (u:Value),([I S,I Z,.slice A0 n0 c0]:List Value)[j']? =some u->(wr.alloc (.cells #[I S,I Z,.slice A0 n0 c0] 155)) ((⟨wr.heap.size,0,none⟩:Addr).add j')=some u):=World.news_of_block (QzY wr _);have K:Hid (∀u∈([I S,I Z,.slice A0 n0 c0]:List Value),u.oneCell'=true):=by show ∀u∈_,_;simp[Value.oneCell']
     have Y:Hid (w2.heap.size+1<=(wr.alloc (.cells #[I S,I Z,.slice A0 n0 c0] 155)).heap.size):=by show _<=_;simp only[QqW];omega
     go_wp2_with fail
     go_quiet (fail)
     go_wp2_with (at_builtin;first|(refine wpList_append_lies _ rfl (.tmp 33) (.tmp 35) 62 rfl (w2.heap.size+1) 155 i0 _ 3 40 Tryz.underlying62 am.out an.out ao.out ap.out rfl O (.slice B m d) m (Bj L) rfl ag.out ⟨wr.heap.size,0,none⟩ 1 1 [I S,I Z,.slice A0 n0 c0] rfl rfl W.out K.out O (by simp only[maxLen];omega) O Y.out _ rfl ?_;intro g1 V b a Q R _;have M:=Q7h a;have ah:=Q7h Q;clear a Q R;have t:Hid (Below (w2.heap.size+1) w3 b):=HB.out.trans (Ao ae.out ah.out aW);have f:=ar.out.below t.out O;have u0:=f.cell 0;simp at u0;have u1:=f.cell 1;simp at u1;have ac:Below w3 w3 b:=(by rw[ad.out];exact t.out);have q1:=Qq ac b7.out;have q2:=Qq ac b8.out;have q3:=Qq ac b9.out;clear f ac v0 v1 bM bN bQ;have ay:Hid (SpRow w3 b (gr F w1 w2) (w2.heap.size+1) (.slice (some ⟨g1,0,none⟩) (m+1) V) (m+1) (out++[X])):=SpRow.snoc aX.out aY.out aZ.out (by rw[<-ab.out];exact bw.out) (by rw[<-ab.out]) (by rw[<-ab.out]) M.out;obtain⟨L2,au,av,aw,ax⟩:=ay.out.ex;have cb:=Q7h au;have bV:=Q7h av;have cc:=Q7h aw;have cd:=Q7h ax;have bW:w2.heap.size+1<=b.heap.size:=(by rw[<-ad.out];exact t.out.size);clear au av aw ax;have cf:=Q7h (bV.out.alloc (.cells #[I y0,I y1,.slice A' sl c'] 155));have bX:Hid (∀(j':Nat) (u:Value),([I y0,I y1,.slice A' sl c']:List Value)[j']? =some u->(b.alloc (.cells #[I y0,I y1,.slice A' sl c'] 155)) ((⟨b.heap.size,0,none⟩:Addr).add j')=some u):=World.news_of_block (QzY b _);have bh:Hid (∀u∈([I y0,I y1,.slice A' sl c']:List Value),u.oneCell'=true):=(by show ∀u∈_,_;simp[Value.oneCell']);have bY:Hid (w2.heap.size+1<=(b.alloc (.cells #[I y0,I y1,.slice A' sl c'] 155)).heap.size):=(by show _<=_;simp only[QqW];omega))|(refine wpList_append_lies _ rfl (.tmp 37) (.tmp 43) 62 rfl (w2.heap.size+1) 155 i0 _ 3 40 Tryz.underlying62 am.out an.out ao.out ap.out rfl O (.slice (some ⟨g1,0,none⟩) (m+1) V) (m+1) (Bj L2) rfl cf.out ⟨b.heap.size,0,none⟩ 1 1 [I y0,I y1,.slice A' sl c'] rfl rfl bX.out bh.out O (by simp only[maxLen];omega) O bY.out _ rfl ?_;intro g2 bZ bA a Q R _;have bi:=Q7h a;have cg:=Q7h Q;clear a Q R))
     have az:Hid (Below (w2.heap.size+1) w3 bA):=t.out.trans (Qy bV.out cg.out bW);have aF:Hid (SpRow w3 bA (gr F w1 w2) (w2.heap.size+1) (.slice (some ⟨g2,0,none⟩) (m+1+1) bZ) (m+1+1) ((out++[X])++[y])):=SpRow.snoc cb.out cc.out cd.out aA.out HI.out HJ.out bi.out;go_roundw
     case rel=>exact⟨i+1,m+1+1,some ⟨g2,0,none⟩,bZ,true,(out++[X])++[y],O,O,by go_num,rfl,rfl,T.out,bT.out,aF.out,az.out⟩
     case measure=>exact af
    ·have ca:decide (S<y0)=false:=QyF aB;have T:Hid ((out++[y])++Qjb X false (N.drop (i+1))=Yc X N):=by
      have h:=HQ.out;rw[be.out]at h;have h2:out++Yc X (y::N.drop (i+1))=Yc X N:=h;rw[Yc,QqE (by rw[<-ab.out,HI.out];exact aB)]at h2;show(out++[y])++Yc X (N.drop (i+1))=Yc X N;rw[<-h2];simp
     have bS:=bz.out rfl;have bT:Hid (false=false->m+1<=i+1):=λ_=>O;have ag:=Q7h (ae.out.alloc (.cells #[I y0,I y1,.slice A' sl c'] 155));have W:Hid (∀(j':Nat) (u:Value),([I y0,I y1,.slice A' sl c']:List Value)[j']? =some u->(wr.alloc (.cells #[I y0,I y1,.slice A' sl c'] 155)) ((⟨wr.heap.size,0,none⟩:Addr).add j')=some u):=World.news_of_block (QzY wr _);have K:Hid (∀u∈([I y0,I y1,.slice A' sl c']:List Value),u.oneCell'=true):=by show ∀u∈_,_;simp[Value.oneCell']
     have Y:Hid (w2.heap.size+1<=(wr.alloc (.cells #[I y0,I y1,.slice A' sl c'] 155)).heap.size):=by show _<=_;simp only[QqW];omega
     go_wp2_with fail
     go_quiet (fail)
     go_wp2_with (at_builtin;go_must (refine wpList_append_lies _ rfl (.tmp 37) (.tmp 43) 62 rfl (w2.heap.size+1) 155 i0 _ 3 40 Tryz.underlying62 am.out an.out ao.out ap.out rfl O (.slice B m d) m (Bj L) rfl ag.out ⟨wr.heap.size,0,none⟩ 1 1 [I y0,I y1,.slice A' sl c'] rfl rfl W.out K.out O (by simp only[maxLen];omega) O Y.out _ rfl ?_;intro g1 V b a Q R _;have M:=Q7h a;have ah:=Q7h Q;clear a Q R))
     have az:Hid (Below (w2.heap.size+1) w3 b):=HB.out.trans (Ao ae.out ah.out aW);have aF:Hid (SpRow w3 b (gr F w1 w2) (w2.heap.size+1) (.slice (some ⟨g1,0,none⟩) (m+1) V) (m+1) (out++[y])):=SpRow.snoc aX.out aY.out aZ.out aA.out HI.out HJ.out M.out;go_roundw
     case rel=>exact⟨i+1,m+1,some ⟨g1,0,none⟩,V,false,out++[y],O,O,by go_num,rfl,rfl,T.out,λ_=>O,aF.out,az.out⟩
     case measure=>exact af
   ·have T:Hid ((out++[y])++Qjb X true (N.drop (i+1))=Yc X N):=by
     have h:=HQ.out;rw[be.out]at h;show(out++[y])++N.drop (i+1)=Yc X N;rw[<-show out++(y::N.drop (i+1))=Yc X N from h];simp
    have ag:=Q7h (ae.out.alloc (.cells #[I y0,I y1,.slice A' sl c'] 155));have W:Hid (∀(j':Nat) (u:Value),([I y0,I y1,.slice A' sl c']:List Value)[j']? =some u->(wr.alloc (.cells #[I y0,I y1,.slice A' sl c'] 155)) ((⟨wr.heap.size,0,none⟩:Addr).add j')=some u):=World.news_of_block (QzY wr _);have K:Hid (∀u∈([I y0,I y1,.slice A' sl c']:List Value),u.oneCell'=true):=by show ∀u∈_,_;simp[Value.oneCell']
    have Y:Hid (w2.heap.size+1<=(wr.alloc (.cells #[I y0,I y1,.slice A' sl c'] 155)).heap.size):=by show _<=_;simp only[QqW];omega
    go_wp2_with fail
    go_quiet (fail)
    go_wp2_with (at_builtin;go_must (refine wpList_append_lies _ rfl (.tmp 37) (.tmp 43) 62 rfl (w2.heap.size+1) 155 i0 _ 3 40 Tryz.underlying62 am.out an.out ao.out ap.out rfl O (.slice B m d) m (Bj L) rfl ag.out ⟨wr.heap.size,0,none⟩ 1 1 [I y0,I y1,.slice A' sl c'] rfl rfl W.out K.out O (by simp only[maxLen];omega) O Y.out _ rfl ?_;intro g1 V b a Q R _;have M:=Q7h a;have ah:=Q7h Q;clear a Q R))
    have az:Hid (Below (w2.heap.size+1) w3 b):=HB.out.trans (Ao ae.out ah.out aW);have aF:Hid (SpRow w3 b (gr F w1 w2) (w2.heap.size+1) (.slice (some ⟨g1,0,none⟩) (m+1) V) (m+1) (out++[y])):=SpRow.snoc aX.out aY.out aZ.out aA.out HI.out HJ.out M.out;refine⟨⟨i+1,m+1,some ⟨g1,0,none⟩,V,true,out++[y],O,O,by go_num,rfl,rfl,?_,(show true=false->m+1<=i+1 from λh=>by cases h),?_,?_⟩,af⟩
    ·with_reducible exact T
    ·with_reducible exact aF
    ·with_reducible exact az
  ·obtain rfl:i=m2:=O;have bB:N.drop i=[]:=List.drop_eq_nil_of_le (by have:=aV.out;omega);have cj:m<=2000:=O;clear v0 v1 s0 s1 s2;have ck:¬w.heap.size+1+1=w2.heap.size:=by have:=H.out;omega
   have cl:¬w2.heap.size=w.heap.size+1+1:=by have:=H.out;omega
   cases put
   ·have T:=HQ.out;rw[bB]at T;have bj:out++[X]=Yc X N:=T;have z:=a5.out.below HB.out (by have:=H.out;omega);have s0:wr ⟨w.heap.size+1,0,none⟩=I S:=z.cell 0;have s1:wr ⟨w.heap.size+1,1,none⟩=I Z:=z.cell 1;have s2:wr ⟨w.heap.size+1,2,none⟩=some (.slice A0 n0 c0):=z.cell 2;have aa:=ar.out.below HB.out O;have cs:wr ⟨w2.heap.size,1,none⟩=some (.slice A2 i c2):=aa.cell 1;clear z aa T;have ag:=Q7h (ae.out.alloc (.cells #[I S,I Z,.slice A0 n0 c0] 155));have W:Hid (∀(j':Nat) (u:Value),([I S,I Z,.slice A0 n0 c0]:List Value)[j']? =some u->(wr.alloc (.cells #[I S,I Z,.slice A0 n0 c0] 155)) ((⟨wr.heap.size,0,none⟩:Addr).add j')=some u):=World.news_of_block (QzY wr _);have K:Hid (∀u∈([I S,I Z,.slice A0 n0 c0]:List Value),u.oneCell'=true):=by show ∀u∈_,_;simp[Value.oneCell']
    have Y:Hid (w2.heap.size+1<=(wr.alloc (.cells #[I S,I Z,.slice A0 n0 c0] 155)).heap.size):=by show _<=_;simp only[QqW];omega
    go_wp2_with (at_builtin;go_must (refine wpList_append_lies _ rfl (.tmp 47) (.tmp 49) 62 rfl (w2.heap.size+1) 155 i0 _ 3 40 Tryz.underlying62 am.out an.out ao.out ap.out rfl O (.slice B m d) m (Bj L) rfl ag.out ⟨wr.heap.size,0,none⟩ 1 1 [I S,I Z,.slice A0 n0 c0] rfl rfl W.out K.out O (by simp only[maxLen];omega) O Y.out _ rfl ?_;intro g1 V b a Q R _;have M:=Q7h a;have ah:=Q7h Q;clear a Q R;have t:Hid (Below (w2.heap.size+1) w3 b):=HB.out.trans (Qy ae.out ah.out aW);have f:=ar.out.below t.out O;have j:=a6.out.below t.out (by have:=H.out;omega);have ai:=Q7h j;have k0:b ⟨w2.heap.size,0,none⟩=I cap:=f.cell 0;have k1:b ⟨w2.heap.size,1,none⟩=some (.slice A2 i c2):=f.cell 1;have f0:=f.fz 0;have f1:=f.fz 1;have o0:b ⟨w.heap.size+1+1,0,none⟩=I 0:=j.cell 0;have o1:b ⟨w.heap.size+1+1,1,none⟩=some (.slice none 0 0):=j.cell 1;have e0:=j.fz 0;have e1:=j.fz 1;clear f j))
    have aH:Hid (Below w w b):=bb.out.trans (t.out.mono (by have:=H.out;omega));have ay:Hid (SpRow w3 b (gr F w1 w2) (w2.heap.size+1) (.slice (some ⟨g1,0,none⟩) (m+1) V) (m+1) (out++[X])):=SpRow.snoc aX.out aY.out aZ.out (by rw[<-ab.out];exact bw.out) (by rw[<-ab.out]) (by rw[<-ab.out]) M.out;obtain⟨⟨r0,r1⟩,aj⟩:=Qn4 (p:=w2.heap.size) ai.out (by have:=H.out;omega) 1 (I cap) (.slice (some ⟨g1,0,none⟩) (m+1) V) (.slice (some ⟨g1,0,none⟩) (m+1) V);have bl:=aj.toBelow aH.out.size (λk hk=>by rcases hk with rfl|rfl<;>have:=H.out<;>omega);refine QqG (v:= .agg #[I cap,.slice (some ⟨g1,0,none⟩) (m+1) V]) (by simp[results,Tryz.results169,go_sem,r0,r1]) rfl ⟨_,rfl,?_,aH.out.trans bl⟩;have hG:=ay.out.done (G:=λk=>gr F w1 w2 k\/(w2.heap.size+1<=k/\k<b.heap.size)) O (by rw[ad.out];exact t.out) (λk h1 h2=>.inr ⟨h1,h2⟩) (λk h=>.inl h);rw[HW.out,ab.out,<-bj];have aM:=aR.out;have ch:=aj.size;have ci:=H.out;refine(hG.keep aj ?_).mono ?_
    ·rintro k ((hk|⟨h1,h2⟩)|⟨h1,h2⟩) (rfl|rfl)
     ·have:=HF.out _ hk;omega
     ·have:=HF.out _ hk;omega
     ·omega
     ·omega
     ·omega
     ·omega
    ·rintro k ((hk|⟨h1,h2⟩)|⟨h1,h2⟩)
     ·exact .inl hk
     ·exact .inr ⟨O,by have:=t.out.size;have:=ad.out;omega⟩
     ·exact .inr ⟨O,O⟩
   ·have T:=HQ.out;rw[bB]at T;have bj:out=Yc X N:=by rw[<-T];exact(QzT _).symm
    clear T;have f:=ar.out.below HB.out O;have j:=a6.out.below HB.out (by have:=H.out;omega);have ai:=Q7h j;have k0:wr ⟨w2.heap.size,0,none⟩=I cap:=f.cell 0;have k1:wr ⟨w2.heap.size,1,none⟩=some (.slice A2 i c2):=f.cell 1;have f0:=f.fz 0;have f1:=f.fz 1;have o0:wr ⟨w.heap.size+1+1,0,none⟩=I 0:=j.cell 0;have o1:wr ⟨w.heap.size+1+1,1,none⟩=some (.slice none 0 0):=j.cell 1;have e0:=j.fz 0;have e1:=j.fz 1;clear f j;go_wp2_with fail
    obtain⟨⟨r0,r1⟩,aj⟩:=Qn4 (p:=w2.heap.size) ai.out (by have:=H.out;omega) 1 (I cap) (.slice B m d) (.slice B m d);have bl:=aj.toBelow bF.out.size (λk hk=>by rcases hk with rfl|rfl<;>have:=H.out<;>omega);refine QqG (v:= .agg #[I cap,.slice B m d]) (by simp[results,Tryz.results169,go_sem,r0,r1]) rfl ⟨_,rfl,?_,bF.out.trans bl⟩;have hG:=HR.out.done (G:=λk=>gr F w1 w2 k\/(w2.heap.size+1<=k/\k<wr.heap.size)) O (by rw[ad.out];exact HB.out) (λk h1 h2=>.inr ⟨h1,h2⟩) (λk h=>.inl h);rw[HW.out,ab.out,<-bj];have aM:=aR.out;have ch:=aj.size;have ci:=H.out;refine(hG.keep aj ?_).mono ?_
    ·rintro k ((hk|⟨h1,h2⟩)|⟨h1,h2⟩) (rfl|rfl)
     ·have:=HF.out _ hk;omega
     ·have:=HF.out _ hk;omega
     ·omega
     ·omega
     ·omega
     ·omega
    ·rintro k ((hk|⟨h1,h2⟩)|⟨h1,h2⟩)
     ·exact .inl hk
     ·exact .inr ⟨O,by have:=HB.out.size;have:=ad.out;omega⟩
     ·exact .inr ⟨O,O⟩
end dc
namespace dc
open Go.RowKit er st vo
def Zm:ByteArray:=strOfNums (List.replicate 32 0)
theorem Ri:(⟨(List.replicate 32 (0:UInt8)).toArray⟩:ByteArray)=Zm:=J
theorem Qjk(w:World):C 176 #[] w λe w'=>e= .returned (.string Zm)/\Below w w w':=by
 unfold Zm;obtain⟨T,h,k,l,m⟩:=QzX Qlw;have v:=Q7h h;have x:=Q7h k;have y:=Q7h l;have z:=Q7h m;clear h k l m;go_in
 go_wp2_with fail
 go_loopw [1,2] (λV iv wr=>∃(j:Nat) (A:Option Addr) (c:Nat),j<=32/\iv= I j/\V= .slice A j c/\Hid (wr.ownsRow w.heap.size 5 1 (.slice A j c) j ((List.replicate j (0:Int)).map (Value.int .u8)))/\Hid (Below w w wr)) (λ_ iv _=>32-(intOf iv).toNat)
 case atStart=>exact⟨0,none,0,O,rfl,rfl,⟨rfl,.inl ⟨rfl,rfl⟩⟩,QqA _ _⟩
 case round=>
  obtain⟨j,A,c,B,rfl,rfl,s,t⟩:=hrel;by_cases W:j<32
  ·have X:(j:Int)<32:=O;have F:=Q7h (s.o.alloc (.cells #[.int .u8 0] 5));have H:Hid (∀(R:Nat) (u:Value),([.int .u8 0]:List Value)[R]? =some u->(wr.alloc (.cells #[.int .u8 0] 5)).cell? (((wr,0):Addr).add R)=some u):=World.news_of_block (by simpa using QzY wr (.cells #[.int .u8 0] 5));have b:∀u∈([.int .u8 0]:List Value),u.oneCell'=true:=by simp[Value.oneCell']
   have n:=Q7h b;have p:Hid (w.heap.size<=(wr.alloc (.cells #[.int .u8 0] 5)).heap.size):=by
    show _<=_;have:=t.o.size;simp only[QqW];omega
   have q:=Q7h t.o.size;clear b;go_wp2_with (at_builtin;go_must (refine QkW _ rfl (.tmp 7) (.tmp 8) 127 rfl w.heap.size 5 T _ 1 1 Tryz.underlying127 v.o x.o y.o z.o rfl O (.slice A j c) j ((List.replicate j (0:Int)).map (Value.int .u8)) rfl F.o (wr,0) 1 1 [.int .u8 0] rfl rfl H.o n.o (by simp only[maxLen];omega) O p.o ?_;intro v2 w6 a r _;have K:=Q7h a;have L:=Q7h (Qy s.o r q.o);obtain⟨A2,M,Y⟩:=Qk a;subst Y;clear a r))
   have d:32-(intOf (I ((j:Int)+1))).toNat<32-(intOf (I (j:Int))).toNat:=by simp[intOf];omega
   refine⟨⟨j+1,A2,M,?_,?_,rfl,?_,?_⟩,d⟩
   ·omega
   ·go_num
   ·rw[List.replicate_succ',QqY,QzE,QjE];with_reducible exact K
   ·exact t.o.trans L.o
  ·obtain rfl:j=32:=O;obtain⟨g,rfl,_,N,Q,S,_⟩:=Qx s.o O;have Z:=QyY (P:=Tryz.prog) wr 127 5 Tryz.underlying127 Tryz.underlying5 g 0 32 c (List.replicate 32 0) U (λi hi=>by
    have f:i<(List.replicate 32 (0:Int)).length:=by simpa using hi
    have:=S i (.int .u8 ((List.replicate 32 (0:Int))[i]'f)) (by rw[QzF,QqC f];rfl);rw[QkG,this,QkH,QqC f];rfl) 9 Tryz.underlying9
   clear S N Q s;go_wp2_with fail
   go_ret
   exact⟨rfl,t.o⟩
theorem Q17{s:Spc}{a:Int}{i:Nat}{x:Sec}(b:s.s[i]? =some x)(h:∀y∈s.s.take i,y.at_≠a)(c:x.at_=a):dOf s a=x.data:=by
 have:s.s.find? (λx=>decide (x.at_=a))=some x:=by
  rw[List.find?_eq_some_iff_getElem];refine⟨by simpa using c,i,(QqD.1 b).1,(QqD.1 b).2,λj d=>?_⟩;have:=h (s.s[j]'(by have:=(QqD.1 b).1;omega)) (by rw[List.mem_take_iff_getElem];exact⟨j,by have:=(QqD.1 b).1;omega,rfl⟩);simpa using this
 unfold dOf;rw[this]
theorem Q18{s:Spc}{a:Int}(h:∀y∈s.s,y.at_≠a):dOf s a=Zm:=by
 have:s.s.find? (λx=>decide (x.at_=a))=none:=by
  rw[QuN];intro y b;simpa using h y b
 unfold dOf;rw[this,Ri]
theorem Qde(w:World)(F:Nat->Prop)(sv:Value)(x:Spc)(a:Int)(h:SecsAt w F sv x.s):
  C 99 #[.agg #[I x.id,I x.size,sv],I a] w λe w'=>e= .returned (.string (dOf x a))/\Below w w w':=by
 obtain⟨A,c,rfl,S,t⟩:=h;obtain⟨f,j,l⟩:=x;simp only at S t ⊢;have V:=Q7h t;obtain⟨n,u⟩:=Zx l.length;rw[u]at S ⊢;have v:=Q7h u;have W:(n:Int)<=100000:=O;have b:Hid (Below w w (w.alloc (.cells #[I f,I j,.slice A n c] 155))):=B0.alloc N0 _;have m:=Q7h (Whole.new w 155 #[I f,I j,.slice A n c]);obtain⟨w1,H⟩:=Zx (w.alloc (.cells #[I f,I j,.slice A n c] 155));rw[H]at b m;have x2:w1.cell? (w,2)=some (.slice A n c):=m.o.cell 2;have K:=Q7h (Qjk w1);clear t u;go_in
 go_wp2_with fail
 go_loopw [5] (λiv wr=>∃i:Nat,i<=n/\iv= I i/\Hid (∀y∈l.take i,y.at_≠a)/\wr=w1) (λiv _=>n-(intOf iv).toNat)
 case atStart=>exact⟨0,QqM _,rfl,λy k=>by simp at k,by first|rfl|assumption⟩
 case round=>
  obtain⟨i,hi,rfl,L,rfl⟩:=hrel;by_cases X:i<n
  ·have Y:(i:Int)<(n:Int):=O;obtain⟨y,k⟩:∃y,l[i]? =some y:=⟨_,QqC (by have:=v.o;omega)⟩;obtain⟨g,o,rfl,_,p⟩:=V.o (by have:=v.o;omega);obtain⟨a1,a2⟩:=p i y k;have Z:=Qq b.o a1;have B:=Qq b.o a2;have T:=Q7h k;obtain⟨M,yd⟩:=y;simp only at Z B;clear k p a1 a2;by_cases d:M=a
   ·have q:(M==a)=true:=by simpa using d
    have N:Hid (dOf ⟨f,j,l⟩ a=yd):=Q17 (s:=⟨f,j,l⟩) T.o L.o d;clear d;go_wp2_with fail
    go_ret
    exact⟨by rw[N.o];rfl,b.o⟩
   ·have q:(M==a)=false:=by simpa using d
    have Q:Hid (∀y∈l.take (i+1),y.at_≠a):=by
     intro z hz;rw[QzW,T.o]at hz;rcases QqJ.1 hz with hz|hz
     ·exact L.o z hz
     ·simp at hz;rw[hz];exact d
    clear d;go_wp2_with fail
    go_roundw
    case rel=>exact⟨i+1,O,by go_num,Q.o,trivial⟩
    case measure=>simp[intOf];omega
  ·obtain rfl:i=n:=O;have N:Hid (dOf ⟨f,j,l⟩ a=Zm):=Q18 (s:=⟨f,j,l⟩) (λy k=>L.o y (by rw[QkT (by have:=v.o;omega)];exact k));go_wp2_with fail
   refine K.o.mono ?_;rintro e w2 ⟨rfl,r⟩;have R:=Q7h (b.o.trans (r.mono b.o.size));clear r;go_wp2_with fail
   go_ret
   exact⟨by rw[N.o];rfl,R.o⟩
theorem Q0z(a b c:Value)(w:World):(Instr.field 155 (.agg #[a,b,c]) 2).run Tryz.prog w= .ok c w:=J
theorem Yv(w:ν)(F:φ)(sv:Value)(x:Spc)(fr a:Int)(h:SecsAt w F sv x.s)(Q:∀k,F k->k<w.heap.size):
  C 174 #[.agg #[I x.id,I x.size,sv],I fr,I a] w λe w'=>e=ρ (I (dIn x fr a))/\Below w w w':=by
 have L:=Q7h h;have R:=Q7h Q;obtain⟨A,c,rfl,M,_⟩:=h;obtain⟨n,v⟩:=Zx x.s.length;rw[v]at M L ⊢;have N:=Q7h v;obtain⟨d,j⟩:=Zx x.id;obtain⟨f,l⟩:=Zx x.size;have b:Hid (Below w w (w.alloc (.cells #[I d,I f,.slice A n c] 155))):=B0.alloc N0 _;have p:=Whole.new w 155 #[I d,I f,.slice A n c];obtain⟨w1,y⟩:=Zx (w.alloc (.cells #[I d,I f,.slice A n c] 155));rw[y]at b p;have z:Hid (∀W,Below w1 w1 W->(W (w,0)=I d/\W (w,1)=I f/\W (w,2)=some (.slice A n c))):=λW hb=>⟨Qq hb (p.cell 0),Qq hb (p.cell 1),Qq hb (p.cell 2)⟩;obtain⟨k,m⟩:=Zx ((Ou x fr a).s.length);have S:k<=n:=by rw[<-m,<-N.o];exact QkE _ _
 have T:Hid (dIn x fr a=(n:Int)-k):=by show _=_;unfold dIn;rw[m,N.o]
 have H:Hid (∀W,Below w1 w1 W->C 171 #[.agg #[I d,I f,.slice A n c],I fr,I a] W λe w'=>∃g i,e=ρ (.agg #[I d,I f,.slice g k i])/\Below w1 w1 w'):=by
  intro W hb;have r:Below w w W:=b.o.trans (hb.mono b.o.size);have q:=Ee W F (.slice A n c) x fr a (L.o.below r) (λk m=>QzB (R.o k m) r.size);rw[j,l]at q;refine q.mono ?_;rintro e w' ⟨V,rfl,⟨g,i,rfl,_,_⟩,K⟩;exact⟨g,i,by rw[m],hb.trans (K.mono hb.size)⟩
 rw[j,l,T.o];have X:=Q7h (z.o _ B0.drew);have Y:=Q7h (z.o _ B0);have Z:IntKind.i64.wrap ((n:Int)-k)=(n:Int)-k:=by rw[QqN];omega
 have B:∀(g:Option Addr) (i:Nat) (W:ν),(Instr.field 155 (.agg #[I d,I f,.slice g k i]) 2).run Tryz.prog W= .ok (.slice g k i) W:=λg i W=>Q0z _ _ _ W;clear v j l p m M;go_in
 go_wp2_with fail
 go_region_held3 (λw'=>w' (w,0)=I d/\w' (w,1)=I f/\w' (w,2)=some (.slice A n c)) (first|with_reducible exact X.o|with_reducible exact Y.o|with_reducible exact z.o _ t.o) ((go_at_call 171;refine(H.o _ B0.drew).mono ?_;rintro e w5 ⟨g,i,rfl,u⟩;have t:=Q7h u;clear u))
 go_wp2_with fail
 go_ret
 exact⟨rfl,b.o.trans (t.o.mono b.o.size)⟩
def Qm(l:List Spc)(id fr n:Int)(may:Bool):Int:=
 match Iq l id with
 |none=>4
 |some i=>if may=false\/n<1 then 1 else if fr<0\/(l.getD i ⟨0,0,[]⟩).size<fr\/(l.getD i ⟨0,0,[]⟩).size-fr<n then 82 else 0
theorem Yw{l:List Spc}{id:Int}{i:Nat}(h:Iq l id=some i):i<l.length:=by
 unfold Iq at h;exact(QkP.1 h).1
theorem Q77(w:ν)(F:φ)(v:Value)(r:Dv)(id fr n:Int)(may:Bool)(h:DvAt w F v r)(hz:∀x∈r.l,0<=x.size/\x.size<=16777216):
  C 173 #[v,I id,I fr,I n,.bool may] w λe w'=>e=ρ (I (Qm r.l id fr n may))/\Below w w w':=by
 have X:=Q7h h;obtain⟨lv,rfl,A,c,rfl,Y,H⟩:=h.row;obtain⟨cap,l⟩:=r;simp only at Y H hz ⊢;have HC:=Q7h H;obtain⟨m,K⟩:=Zx l.length;simp only[K]at Y X ⊢;have Z:=Q7h K;have b:Hid (Below w w (w.alloc (.cells #[I cap,.slice A m c] 64))):=B0.alloc N0 _;have u:=Whole.new w 64 #[I cap,.slice A m c];obtain⟨w1,L⟩:=Zx (w.alloc (.cells #[I cap,.slice A m c] 64));rw[L]at b u;have B:=Q7h u;have q:w1 (w,0)=I cap:=u.cell 0;have s:w1 (w,1)=some (.slice A m c):=u.cell 1;have f:=Q7h (Xg w1 F _ ⟨cap,l⟩ id (X.o.below b.o));clear h H K u;cases hd:Iq l id with
 |none=>
  have M:Hid (Qm l id fr n may=4):=by show _=_;unfold Qm;rw[hd]
  have p:Hid (Ky l id= -1):=by show _=_;unfold Ky;rw[hd]
  rw[M.o];clear hd;go_in
  go_wp2_with fail
  refine f.o.mono ?_;rw[p.o];rintro e w2 ⟨rfl,a⟩;have d:=Q7h (b.o.trans (a.mono b.o.size));clear a q s;go_wp2_with fail
  go_ret
  exact⟨rfl,d.o⟩
 |some i=>
  have hi:=Yw hd;have aa:i<m:=by rw[<-Z.o];exact hi
  have ab:(i:Int)<(m:Int):=O;have ac:(0:Int)<=(i:Int):=QkD _;have p:Hid (Ky l id=(i:Int)):=by show _=_;unfold Ky;rw[hd]
  obtain⟨x,j⟩:∃x,l[i]? =some x:=⟨_,QqC hi⟩;have N:=hz x (QqL j);obtain⟨z,t⟩:=Zx x.size;have M:Hid (Qm l id fr n may=if may=false\/n<1 then 1 else if fr<0\/z<fr\/z-fr<n then 82 else 0):=by
   show _=_;unfold Qm;rw[hd];simp only[QkH,j,QoN,t]
  obtain⟨g,o,rfl,_,y⟩:=HC.o (by have:=Z.o;omega);obtain⟨sv,_,a2,_⟩:=y i x j;rw[t]at a2 N;have Q:=Q7h a2;rw[M.o];clear hd hi j t y a2 hz;have k:Hid (∀W,Below w1 w1 W->W (w,0)=I cap/\W (w,1)=some (.slice (some (g,o)) m c)/\W (g,o+i*3+1)=I z):=λW hb=>⟨Qq hb (B.o.cell 0),Qq hb (B.o.cell 1),Qq hb (Qq b.o Q.o)⟩;by_cases q1:may=false
  ·subst q1;rw[QqH (.inl rfl)];go_in
   go_wp2_with fail
   refine f.o.mono ?_;rw[p.o];rintro e w2 ⟨rfl,a⟩;have d:=Q7h (b.o.trans (a.mono b.o.size));clear a q s;go_wp2_with fail
   go_ret
   exact⟨rfl,d.o⟩
  ·have R:may=true:=by simpa using q1
   subst R;by_cases q2:n<1
   ·rw[QqH (.inr q2)];go_in
    go_wp2_with fail
    refine f.o.mono ?_;rw[p.o];rintro e w2 ⟨rfl,a⟩;have d:=Q7h (b.o.trans (a.mono b.o.size));clear a q s;go_wp2_with fail
    go_ret
    exact⟨rfl,d.o⟩
   ·rw[QqE (by simp;omega)];by_cases q3:fr<0
    ·rw[QqH (.inl q3)];go_in
     go_wp2_with fail
     refine f.o.mono ?_;rw[p.o];rintro e w2 ⟨rfl,a⟩;obtain⟨S,T,V⟩:=k.o w2 a;have d:=Q7h (b.o.trans (a.mono b.o.size));clear a q s;go_wp2_with fail
     all_goals first|(go_ret;exact⟨rfl,d.o⟩)|(exfalso;omega)
    ·by_cases q4:z<fr
     ·rw[QqH (.inr (.inl q4))];go_in
      go_wp2_with fail
      refine f.o.mono ?_;rw[p.o];rintro e w2 ⟨rfl,a⟩;obtain⟨S,T,V⟩:=k.o w2 a;have d:=Q7h (b.o.trans (a.mono b.o.size));clear a q s;go_wp2_with fail
      all_goals first|(go_ret;exact⟨rfl,d.o⟩)|(exfalso;omega)
     ·by_cases q5:z-fr<n
      ·rw[QqH (.inr (.inr q5))];go_in
       go_wp2_with fail
       refine f.o.mono ?_;rw[p.o];rintro e w2 ⟨rfl,a⟩;obtain⟨S,T,V⟩:=k.o w2 a;have d:=Q7h (b.o.trans (a.mono b.o.size));clear a q s;go_wp2_with fail
       all_goals first|(go_ret;exact⟨rfl,d.o⟩)|(exfalso;omega)
      ·rw[QqE O];go_in
       go_wp2_with fail
       refine f.o.mono ?_;rw[p.o];rintro e w2 ⟨rfl,a⟩;obtain⟨S,T,V⟩:=k.o w2 a;have d:=Q7h (b.o.trans (a.mono b.o.size));clear a q s;go_wp2_with fail
       all_goals first|(go_ret;exact⟨rfl,d.o⟩)|(exfalso;omega)
end dc
namespace dc
open Go.RowKit er st
def StrsAt(w:World)(v:Value)(d:List ByteArray):Prop:=∃A c,v= .slice A d.length c/\d.length<=1000/\(0<d.length->∃g o,A=some ⟨g,o,none⟩/\∀(j:Nat) (t:ByteArray),d[j]? =some t->w.cell? ⟨g,o+j,none⟩=some (.string t))
theorem StrsAt.below{w w':World}{v:Value}{d:List ByteArray}(h:StrsAt w v d)(hb:Below w w w'):StrsAt w' v d:=by
 obtain⟨A,c,a,b,e⟩:=h;refine⟨A,c,a,b,λf=>?_⟩;obtain⟨g,o,i,k⟩:=e f;exact⟨g,o,i,λj t l=>Qq hb (k j t l)⟩
theorem Wj{α:Type}(p:α->Bool):∀{l:List α} {k:Nat},(∀x∈l.take k,p x=true)->(∀x,l[k]? =some x->p x=false)->l.takeWhile p=l.take k/\l.dropWhile p=l.drop k
 |[],k,_,_=>U
 |a::l,0,_,h=>by
  have:=h a rfl;simp[List.takeWhile,List.dropWhile,this]
 |a::l,k+1,h1,h2=>by
  have ha:=h1 a U;obtain⟨c,d⟩:=Wj p (l:=l) (k:=k) (λx b=>h1 x (by simp[b])) (λx b=>h2 x (by simpa using b));simp[List.takeWhile,List.dropWhile,ha,c,d]
theorem Qir(fr:Int)(d:List ByteArray)(i:Nat)(t:ByteArray)(h:d[i]? =some t):(Ti fr d).take (i+1)=(Ti fr d).take i++[⟨fr+i,t⟩]:=by
 have hi:=(QqD.1 h).1;rw[QzW];congr 1;unfold Ti;rw[QzF,QxV hi];simp[QkH,h]
theorem Qb2(fr:Int)(d:List ByteArray):(Ti fr d).length=d.length:=by simp[Ti]
theorem Qq0(w:ν)(F:φ)(sv dv:Value)(x:Spc)(fr:Int)(D:List ByteArray)(h:SecsAt w F sv x.s)(hF:∀k,F k->k<w.heap.size)(hd:StrsAt w dv D)(b3:0<=fr/\fr<=16777216)(bM:x.s.length<=1000):
  C 175 #[.agg #[I x.id,I x.size,sv],I fr,dv] w λe w'=>∃bj,e=ρ (.agg #[I x.id,I x.size,bj])/\SecsAt w' (gr F w w') bj (Ic x fr D).s/\Below w w w':=by
 have HS:=Q7h h;have HF:=Q7h hF;obtain⟨A,c,rfl,hl,_⟩:=h;obtain⟨AD,cD,rfl,bN,aa⟩:=hd;have bl:=Q7h aa;obtain⟨n,hn⟩:=Zx x.s.length;obtain⟨Y,aQ⟩:=Zx D.length;rw[hn]at hl HS bM;rw[aQ]at bN;simp only[hn,aQ];have HN:=Q7h hn;have ak:=Q7h aQ;obtain⟨x0,j⟩:=Zx x.id;obtain⟨x1,f⟩:=Zx x.size;have b4:IntKind.i64.wrap (fr+Y)=fr+Y:=by rw[QqN];omega
 have b1:(Y:Int)<=1000:=O;obtain⟨i0,bm,bn,bo,bp⟩:=QzX Qxm;have aR:=Q7h bm;have aS:=Q7h bn;have aT:=Q7h bo;have aV:=Q7h bp;have hB:Below w w ((w.alloc (.cells #[I x0,I x1,.slice A n c] 155)).alloc (.cells #[I 0,I 0,.slice none 0 0] 155)):=((QqA _ _).alloc (QqB _) _).alloc U _;have al:=Whole.alloc (Whole.new w 155 #[I x0,I x1,.slice A n c]) (.cells #[I 0,I 0,.slice none 0 0] 155);have aW:=Whole.new (w.alloc (.cells #[I x0,I x1,.slice A n c] 155)) 155 #[I 0,I 0,.slice none 0 0];have a9:((w.alloc (.cells #[I x0,I x1,.slice A n c] 155)).alloc (.cells #[I 0,I 0,.slice none 0 0] 155)).heap.size=w.heap.size+2:=U;rw[QqW]at aW;obtain⟨w1,bQ⟩:=Zx ((w.alloc (.cells #[I x0,I x1,.slice A n c] 155)).alloc (.cells #[I 0,I 0,.slice none 0 0] 155));rw[bQ]at hB al aW a9;have bq:=Q7h hB;have aX:=Q7h al;have aY:=Q7h aW;have br:=Q7h a9;have z0:=al.cell 0;have z1:=al.cell 1;have z2:=al.cell 2;have an:=Ee w1 F (.slice A n c) x fr (fr+Y) (HS.o.below hB) (λk hk=>QzB (HF.o k hk) hB.size);rw[j,f]at an;have bs:=Q7h an;obtain⟨cs,aZ⟩:=Zx ((Ou x fr (fr+Y)).s);have bR:cs.length<=n:=by rw[<-aZ,<-HN.o];exact QkE _ _
 have bt:Hid ((Ic x fr D).s=cs.takeWhile (λy=>decide (y.at_<fr))++Ti fr D++cs.dropWhile (λy=>decide (y.at_<fr))):=by show _=_;rw[<-aZ,<-ak.o];rfl
 have bS:=Q7h aZ;rw[j,f,bt.o];obtain⟨X,aA⟩:=Zx (Ti fr D);have bu:Hid (∀(i:Nat) (t:β),D[i]? =some t->X.take (i+1)=X.take i++[⟨fr+i,t⟩]):=λi t ht=>by rw[<-aA];exact Qir fr D i t ht
 have aB:Hid (X.length=Y):=by show _=_;rw[<-aA,Qb2,ak.o]
 rw[aA];clear hn aQ j f hB al aW a9 bm bn bo bp aa aZ an aA;go_in
 go_wp2_with fail
 refine bs.o.mono ?_;rw[bS.o];rintro e w2 ⟨b5,rfl,bv,ao⟩;have ba:=Q7h bv;obtain⟨A2,c2,rfl,bT,_⟩:=bv;obtain⟨M,bb⟩:=Zx cs.length;rw[bb]at ba bT bR ⊢;have Z:=Q7h bb;have a4:=bq.o.trans (ao.mono (by have:=br.o;omega));have bV:=ao.size;have l:=Whole.new w2 155 #[I x0,I x1,.slice A2 M c2];have am:Below w2 w2 (w2.alloc (.cells #[I x0,I x1,.slice A2 M c2] 155)):=(QqA _ _).alloc (QqB _) _;have bc:(w2.alloc (.cells #[I x0,I x1,.slice A2 M c2] 155)).heap.size=w2.heap.size+1:=U;obtain⟨w3,bw⟩:=Zx (w2.alloc (.cells #[I x0,I x1,.slice A2 M c2] 155));rw[bw]at am l bc;have ap:=Q7h l;have ad:=Q7h bc;have N:=Q7h (show w.heap.size+2<=w2.heap.size from by have:=br.o;omega);have a0:=Q7h (a4.trans (am.mono (by have:=N.o;omega)));have bz:=Q7h (ba.o.below am);have a5:=Q7h ((aX.o.below (ao.mono N0) aX.o.lt).below am (by have:=aX.o.lt;omega));have a6:=Q7h ((aY.o.below (ao.mono N0) aY.o.lt).below am (by have:=aY.o.lt;omega));clear bb ao a4 bV am l bc z0 z1 z2 HS bs ba aX aY bq;go_wp2_with fail
 go_loopw [8,9] (λov kv wr=>∃(k:Nat) (B:Option Addr) (d:Nat),k<=M/\kv= I k/\ov= .slice B k d/\Hid (∀y∈cs.take k,decide (y.at_<fr)=true)/\Hid (wr.ownsRow (w2.heap.size+1) 157 2 (.slice B k d) k (Xb (cs.take k)))/\Hid (Below (w2.heap.size+1) w3 wr)) (λ_ kv _=>M-(intOf kv).toNat)
 case atStart=>exact⟨0,none,0,QqM _,rfl,rfl,λy hy=>by simp at hy,⟨rfl,.inl ⟨rfl,rfl⟩⟩,by first|exact QqA _ _|(rw[bw];exact QqA _ _)⟩
 case round=>
  obtain⟨k,B,d,hk,rfl,rfl,HT,HO,HB⟩:=hrel;have l:=ap.o.below HB.o O;have v2:=l.cell 2;have bW:w2.heap.size+1<=wr.heap.size:=by rw[<-ad.o];exact HB.o.size
  clear l;by_cases bX:k<M
  ·have be:(k:Int)<(M:Int):=O;obtain⟨y,hy⟩:∃y,cs[k]? =some y:=⟨_,QqC (by have:=Z.o;omega)⟩;obtain⟨Ae,ce,ab,_,aq⟩:=bz.o;injection ab with ab bf bg;clear bf;subst ab bg;obtain⟨g,o,rfl,_,ar⟩:=aq (by have:=Z.o;omega);obtain⟨a1,a2⟩:=ar k y hy;have Q:Below w3 w3 wr:=by rw[ad.o];exact HB.o
   have y1:=Qq Q a1;have y2:=Qq Q a2;have HY:=Q7h hy;obtain⟨ya,yd⟩:=y;simp only at y1 y2;clear hy aq ar a1 a2 Q;by_cases bh:ya<fr
   ·have ac:Hid (cs.take (k+1)=cs.take k++[⟨ya,yd⟩]):=by show _=_;rw[QzW,HY.o];rfl
    have bY:Hid (∀y∈cs.take (k+1),decide (y.at_<fr)=true):=by
     intro z hz;rw[ac.o]at hz;rcases QqJ.1 hz with hz|hz
     ·exact HT.o z hz
     ·simp only[QzG]at hz;rw[hz];exact QxA bh
    have ae:=Q7h (HO.out.alloc (.cells #[I ya,.string yd] 157));have af:Hid (∀(j':Nat) (u:Value),([I ya,.string yd]:List Value)[j']? =some u->(wr.alloc (.cells #[I ya,.string yd] 157)) ((⟨wr.heap.size,0,none⟩:Addr).add j')=some u):=World.news_of_block (QzY wr _);have R:Hid (∀u∈([I ya,.string yd]:List Value),u.oneCell'=true):=by show ∀u∈_,_;simp[Value.oneCell']
    have S:Hid (w2.heap.size+1<=(wr.alloc (.cells #[I ya,.string yd] 157)).heap.size):=by show _<=_;simp only[QqW];omega
    have q:M-(intOf (I ((k:Int)+1))).toNat<M-(intOf (I (k:Int))).toNat:=by simp[intOf];omega
    go_wp2_with (at_builtin;go_must (refine wpList_append_lies _ rfl (.tmp 33) (.tmp 39) 153 rfl (w2.heap.size+1) 157 i0 _ 2 24 Tryz.underlying153 aR.out aS.out aT.out aV.out rfl O (.slice B k d) k (Xb (cs.take k)) rfl ae.out ⟨wr.heap.size,0,none⟩ 1 1 [I ya,.string yd] rfl rfl af.out R.out O (by simp only[maxLen];omega) O S.out _ rfl ?_;intro g2 T w8 b V W _;have r:=Q7h b;have ag:=Q7h V;clear b V W))
    have ah:Hid (Below (w2.heap.size+1) w3 w8):=HB.out.trans (Qy HO.out ag.out bW);have ai:Hid (w8.ownsRow (w2.heap.size+1) 157 2 (.slice (some ⟨g2,0,none⟩) (k+1) T) (k+1) (Xb (cs.take (k+1)))):=by
     show World.ownsRow _ _ _ _ _ _ _;rw[ac.out,Ub];exact r.out
    refine⟨⟨k+1,some ⟨g2,0,none⟩,T,O,by go_num,rfl,?_,?_,?_⟩,q⟩
    ·with_reducible exact bY
    ·with_reducible exact ai
    ·with_reducible exact ah
   ·have au:Hid (cs.takeWhile (λy=>decide (y.at_<fr))=cs.take k/\cs.dropWhile (λy=>decide (y.at_<fr))=cs.drop k):=Wj _ HT.out (λz hz=>by rw[HY.out]at hz;injection hz with hz;rw[<-hz];exact QyF bh);go_wp2_with fail
    clear v2 bh;go_loopw [8,10] (λov iv wr=>∃(i m:Nat) (B:Option Addr) (d:Nat),i<=Y/\m<=2000/\iv= I i/\ov= .slice B m d/\Hid (m=k+i)/\Hid (wr.ownsRow (w2.heap.size+1) 157 2 (.slice B m d) m (Xb (cs.take k++X.take i)))/\Hid (Below (w2.heap.size+1) w3 wr)) (λ_ iv _=>Y-(intOf iv).toNat)
    case atStart=>exact⟨0,k,B,d,QqM _,O,rfl,rfl,rfl,by show World.ownsRow _ _ _ _ _ _ _;rw[QgT,QzT];exact HO.out,HB.out⟩
    case round=>
     obtain⟨i,m,B2,d2,bZ,bF,rfl,rfl,H,K,a⟩:=hrel;have av:w2.heap.size+1<=wr.heap.size:=by rw[<-ad.out];exact a.out.size
     have aw:Hid (Below w w wr):=a0.out.trans (a.out.mono (by have:=N.out;omega));by_cases ax:i<Y
     ·have be:(i:Int)<(Y:Int):=O;obtain⟨t,ht⟩:∃t,D[i]? =some t:=⟨_,QqC (by have:=ak.out;omega)⟩;obtain⟨gD,oD,rfl,aa⟩:=bl.out (by have:=ak.out;omega);have u1:=Qq aw.out (aa i t ht);have ac:=Q7h (bu.out i t ht);have q:Y-(intOf (I ((i:Int)+1))).toNat<Y-(intOf (I (i:Int))).toNat:=by simp[intOf];omega
      have a7:m+1<=2000:=by have:=H.out;omega
      clear ht aa;have ae:=Q7h (K.out.alloc (.cells #[I (fr+i),.string t] 157));have af:Hid (∀(j':Nat) (u:Value),([I (fr+i),.string t]:List Value)[j']? =some u->(wr.alloc (.cells #[I (fr+i),.string t] 157)) ((⟨wr.heap.size,0,none⟩:Addr).add j')=some u):=World.news_of_block (QzY wr _);have R:Hid (∀u∈([I (fr+i),.string t]:List Value),u.oneCell'=true):=by show ∀u∈_,_;simp[Value.oneCell']
      have S:Hid (w2.heap.size+1<=(wr.alloc (.cells #[I (fr+i),.string t] 157)).heap.size):=by show _<=_;simp only[QqW];omega
      go_wp2_with (at_builtin;go_must (refine wpList_append_lies _ rfl (.tmp 49) (.tmp 58) 153 rfl (w2.heap.size+1) 157 i0 _ 2 24 Tryz.underlying153 aR.out aS.out aT.out aV.out rfl O (.slice B2 m d2) m (Xb (cs.take k++X.take i)) rfl ae.out ⟨wr.heap.size,0,none⟩ 1 1 [I (fr+i),.string t] rfl rfl af.out R.out O (by simp only[maxLen];omega) O S.out _ rfl ?_;intro g2 T w8 b V W _;have r:=Q7h b;have ag:=Q7h V;clear b V W))
      have ah:Hid (Below (w2.heap.size+1) w3 w8):=a.out.trans (Qy K.out ag.out av);have ay:Hid (m+1=k+(i+1)):=by show _=_;have:=H.out;omega
      have ai:Hid (w8.ownsRow (w2.heap.size+1) 157 2 (.slice (some ⟨g2,0,none⟩) (m+1) T) (m+1) (Xb (cs.take k++X.take (i+1)))):=by
       show World.ownsRow _ _ _ _ _ _ _;rw[ac.out,<-QqU,Ub];exact r.out
      refine⟨⟨i+1,m+1,some ⟨g2,0,none⟩,T,O,O,by go_num,rfl,?_,?_,?_⟩,q⟩
      ·with_reducible exact ay
      ·with_reducible exact ai
      ·with_reducible exact ah
     ·obtain rfl:i=Y:=O;have az:X.take i=X:=QkT (by have:=aB.out;omega);have aF:Hid (wr.ownsRow (w2.heap.size+1) 157 2 (.slice B2 m d2) m (Xb (cs.take k++X))):=by
       show World.ownsRow _ _ _ _ _ _ _;have:=K.out;rw[az]at this;exact this
      have l:=ap.out.below a.out O;have v2:wr ⟨w2.heap.size,2,none⟩=some (.slice (some ⟨g,o,none⟩) M c2):=l.cell 2;clear l az K ax;go_wp2_with fail
      go_loopw [8,9] (λov kv wr=>∃(p L:Nat) (B:Option Addr) (d:Nat),k<=p/\p<=M/\L<=3000/\kv= I p/\ov= .slice B L d/\Hid (L=k+i+(p-k))/\Hid (wr.ownsRow (w2.heap.size+1) 157 2 (.slice B L d) L (Xb (cs.take k++X++(cs.drop k).take (p-k))))/\Hid (Below (w2.heap.size+1) w3 wr)) (λ_ kv _=>M-(intOf kv).toNat)
      case atStart=>exact⟨k,m,B2,d2,QqB _,O,O,rfl,rfl,by show _=_;have:=H.out;omega,by show World.ownsRow _ _ _ _ _ _ _;rw[QyU,QgT,QzT];exact aF.out,a.out⟩
      case round=>
       clear v2 aF H a;obtain⟨p,L,B3,d3,bA,bH,bK,rfl,rfl,H,K,a⟩:=hrel;have a8:w2.heap.size+1<=wr.heap.size:=by rw[<-ad.out];exact a.out.size
       have aH:Hid (Below w w wr):=a0.out.trans (a.out.mono (by have:=N.out;omega));have l:=ap.out.below a.out O;have v2:wr ⟨w2.heap.size,2,none⟩=some (.slice (some ⟨g,o,none⟩) M c2):=l.cell 2;clear l;by_cases bL:p<M
       ·have be:(p:Int)<(M:Int):=O;obtain⟨y,hy⟩:∃y,cs[p]? =some y:=⟨_,QqC (by have:=Z.out;omega)⟩;obtain⟨Ae,ce,ab,_,aq⟩:=bz.out;injection ab with ab bf bg;clear bf;obtain⟨g3,o3,aK,_,ar⟩:=aq (by have:=Z.out;omega);rw[<-ab]at aK;clear ab bg;first|subst aK|(injection aK with aK;injection aK with q1 q2 q3;subst q1 q2)
        obtain⟨a1,a2⟩:=ar p y hy;have Q:Below w3 w3 wr:=by rw[ad.out];exact a.out
        have y1:=Qq Q a1;have y2:=Qq Q a2;have ac:Hid ((cs.drop k).take (p+1-k)=(cs.drop k).take (p-k)++[y]):=by
         show _=_;rw[show p+1-k=(p-k)+1 by omega,QzW,QjY,show k+(p-k)=p by omega,hy];rfl
        obtain⟨ya,yd⟩:=y;simp only at y1 y2;have q:M-(intOf (I ((p:Int)+1))).toNat<M-(intOf (I (p:Int))).toNat:=by simp[intOf];omega
        have a7:L+1<=3000:=by have:=H.out;omega
        clear hy aq ar a1 a2 Q;have ae:=Q7h (K.out.alloc (.cells #[I ya,.string yd] 157));have af:Hid (∀(j':Nat) (u:Value),([I ya,.string yd]:List Value)[j']? =some u->(wr.alloc (.cells #[I ya,.string yd] 157)) ((⟨wr.heap.size,0,none⟩:Addr).add j')=some u):=World.news_of_block (QzY wr _);have R:Hid (∀u∈([I ya,.string yd]:List Value),u.oneCell'=true):=by show ∀u∈_,_;simp[Value.oneCell']
        have S:Hid (w2.heap.size+1<=(wr.alloc (.cells #[I ya,.string yd] 157)).heap.size):=by show _<=_;simp only[QqW];omega
        go_wp2_with (at_builtin;go_must (refine wpList_append_lies _ rfl (.tmp 65) (.tmp 71) 153 rfl (w2.heap.size+1) 157 i0 _ 2 24 Tryz.underlying153 aR.out aS.out aT.out aV.out rfl O (.slice B3 L d3) L (Xb (cs.take k++X++(cs.drop k).take (p-k))) rfl ae.out ⟨wr.heap.size,0,none⟩ 1 1 [I ya,.string yd] rfl rfl af.out R.out O (by simp only[maxLen];omega) O S.out _ rfl ?_;intro g2 T w8 b V W _;have r:=Q7h b;have ag:=Q7h V;clear b V W))
        have ah:Hid (Below (w2.heap.size+1) w3 w8):=a.out.trans (Qy K.out ag.out a8);have ay:Hid (L+1=k+i+(p+1-k)):=by show _=_;have:=H.out;omega
        have ai:Hid (w8.ownsRow (w2.heap.size+1) 157 2 (.slice (some ⟨g2,0,none⟩) (L+1) T) (L+1) (Xb (cs.take k++X++(cs.drop k).take (p+1-k)))):=by
         show World.ownsRow _ _ _ _ _ _ _;rw[ac.out,<-QqU,Ub];exact r.out
        refine⟨⟨p+1,L+1,some ⟨g2,0,none⟩,T,O,O,O,by go_num,rfl,?_,?_,?_⟩,q⟩
        ·with_reducible exact ay
        ·with_reducible exact ai
        ·with_reducible exact ah
       ·obtain rfl:p=M:=O;have aL:(cs.drop k).take (p-k)=cs.drop k:=QkT (by rw[QkJ];have:=Z.out;omega);have j:=a5.out.below a.out (by have:=N.out;omega);have f:=a6.out.below a.out (by have:=N.out;omega);have aj:=Q7h f;have k0:wr ⟨w.heap.size,0,none⟩=I x0:=j.cell 0;have k1:wr ⟨w.heap.size,1,none⟩=I x1:=j.cell 1;have bB:wr ⟨w.heap.size,2,none⟩=some (.slice A n c):=j.cell 2;have f0:=j.fz 0;have f1:=j.fz 1;have f2:=j.fz 2;have o0:wr ⟨w.heap.size+1,0,none⟩=I 0:=f.cell 0;have o1:wr ⟨w.heap.size+1,1,none⟩=I 0:=f.cell 1;have o2:wr ⟨w.heap.size+1,2,none⟩=some (.slice none 0 0):=f.cell 2;have e0:=f.fz 0;have e1:=f.fz 1;have e2:=f.fz 2;clear j f;go_wp2_with fail
        obtain⟨⟨r0,r1,r2⟩,bi,aM⟩:=Qsn aH.out aj.out 2 (I x0) (I x1) (.slice B3 L d3) (.slice B3 L d3);refine QqG (v:= .agg #[I x0,I x1,.slice B3 L d3]) (by simp[results,Tryz.results175,go_sem,r0,r1,r2]) rfl ⟨_,rfl,?_,bi⟩;have aN:(cs.take k++X++(cs.drop k).take (p-k)).length=L:=by
         have:=H.out;have:=Z.out;have:=aB.out;rw[aL,QqK,QqK,QzJ,QkJ];omega
        have hG:=Hu (F:=gx F w wr) K.out aN O (λk h1 h2=>.inr ⟨by have:=N.out;omega,h2⟩);rw[au.out.1,au.out.2,<-aL];exact(hG.keep aM (P6 HF.out)).mono (Qjs aM.size)
  ·have b0:k=M:=O;have au:Hid (cs.takeWhile (λy=>decide (y.at_<fr))=cs.take k/\cs.dropWhile (λy=>decide (y.at_<fr))=cs.drop k):=Wj _ HT.out (λz hz=>by rw[QkY (by have:=Z.out;omega)]at hz;cases hz);have b2:¬(k:Int)<(M:Int):=O;clear b0;go_wp2_with fail
   clear v2 bX;go_loopw [8,10] (λov iv wr=>∃(i m:Nat) (B:Option Addr) (d:Nat),i<=Y/\m<=2000/\iv= I i/\ov= .slice B m d/\Hid (m=k+i)/\Hid (wr.ownsRow (w2.heap.size+1) 157 2 (.slice B m d) m (Xb (cs.take k++X.take i)))/\Hid (Below (w2.heap.size+1) w3 wr)) (λ_ iv _=>Y-(intOf iv).toNat)
   case atStart=>exact⟨0,k,B,d,QqM _,O,rfl,rfl,rfl,by show World.ownsRow _ _ _ _ _ _ _;rw[QgT,QzT];exact HO.out,HB.out⟩
   case round=>
    obtain⟨i,m,B2,d2,bZ,bF,rfl,rfl,H,K,a⟩:=hrel;have av:w2.heap.size+1<=wr.heap.size:=by rw[<-ad.out];exact a.out.size
    have aw:Hid (Below w w wr):=a0.out.trans (a.out.mono (by have:=N.out;omega));by_cases ax:i<Y
    ·have be:(i:Int)<(Y:Int):=O;obtain⟨t,ht⟩:∃t,D[i]? =some t:=⟨_,QqC (by have:=ak.out;omega)⟩;obtain⟨gD,oD,rfl,aa⟩:=bl.out (by have:=ak.out;omega);have u1:=Qq aw.out (aa i t ht);have ac:=Q7h (bu.out i t ht);have q:Y-(intOf (I ((i:Int)+1))).toNat<Y-(intOf (I (i:Int))).toNat:=by simp[intOf];omega
     have a7:m+1<=2000:=by have:=H.out;omega
     clear ht aa;have ae:=Q7h (K.out.alloc (.cells #[I (fr+i),.string t] 157));have af:Hid (∀(j':Nat) (u:Value),([I (fr+i),.string t]:List Value)[j']? =some u->(wr.alloc (.cells #[I (fr+i),.string t] 157)) ((⟨wr.heap.size,0,none⟩:Addr).add j')=some u):=World.news_of_block (QzY wr _);have R:Hid (∀u∈([I (fr+i),.string t]:List Value),u.oneCell'=true):=by show ∀u∈_,_;simp[Value.oneCell']
     have S:Hid (w2.heap.size+1<=(wr.alloc (.cells #[I (fr+i),.string t] 157)).heap.size):=by show _<=_;simp only[QqW];omega
     go_wp2_with (at_builtin;go_must (refine wpList_append_lies _ rfl (.tmp 49) (.tmp 58) 153 rfl (w2.heap.size+1) 157 i0 _ 2 24 Tryz.underlying153 aR.out aS.out aT.out aV.out rfl O (.slice B2 m d2) m (Xb (cs.take k++X.take i)) rfl ae.out ⟨wr.heap.size,0,none⟩ 1 1 [I (fr+i),.string t] rfl rfl af.out R.out O (by simp only[maxLen];omega) O S.out _ rfl ?_;intro g2 T w8 b V W _;have r:=Q7h b;have ag:=Q7h V;clear b V W))
     have ah:Hid (Below (w2.heap.size+1) w3 w8):=a.out.trans (Qy K.out ag.out av);have ay:Hid (m+1=k+(i+1)):=by show _=_;have:=H.out;omega
     have ai:Hid (w8.ownsRow (w2.heap.size+1) 157 2 (.slice (some ⟨g2,0,none⟩) (m+1) T) (m+1) (Xb (cs.take k++X.take (i+1)))):=by
      show World.ownsRow _ _ _ _ _ _ _;rw[ac.out,<-QqU,Ub];exact r.out
     refine⟨⟨i+1,m+1,some ⟨g2,0,none⟩,T,O,O,by go_num,rfl,?_,?_,?_⟩,q⟩
     ·with_reducible exact ay
     ·with_reducible exact ai
     ·with_reducible exact ah
    ·obtain rfl:i=Y:=O;have az:X.take i=X:=QkT (by have:=aB.out;omega);have aF:Hid (wr.ownsRow (w2.heap.size+1) 157 2 (.slice B2 m d2) m (Xb (cs.take k++X))):=by
      show World.ownsRow _ _ _ _ _ _ _;have:=K.out;rw[az]at this;exact this
     have l:=ap.out.below a.out O;have v2:wr ⟨w2.heap.size,2,none⟩=some (.slice A2 M c2):=l.cell 2;clear l az K ax;go_wp2_with fail
     go_loopw [8,9] (λov kv wr=>∃(p L:Nat) (B:Option Addr) (d:Nat),k<=p/\p<=M/\L<=3000/\kv= I p/\ov= .slice B L d/\Hid (L=k+i+(p-k))/\Hid (wr.ownsRow (w2.heap.size+1) 157 2 (.slice B L d) L (Xb (cs.take k++X++(cs.drop k).take (p-k))))/\Hid (Below (w2.heap.size+1) w3 wr)) (λ_ kv _=>M-(intOf kv).toNat)
     case atStart=>exact⟨k,m,B2,d2,QqB _,O,O,rfl,rfl,by show _=_;have:=H.out;omega,by show World.ownsRow _ _ _ _ _ _ _;rw[QyU,QgT,QzT];exact aF.out,a.out⟩
     case round=>
      clear v2 aF H a;obtain⟨p,L,B3,d3,bA,bH,bK,rfl,rfl,H,K,a⟩:=hrel;have a8:w2.heap.size+1<=wr.heap.size:=by rw[<-ad.out];exact a.out.size
      have aH:Hid (Below w w wr):=a0.out.trans (a.out.mono (by have:=N.out;omega));have l:=ap.out.below a.out O;have v2:wr ⟨w2.heap.size,2,none⟩=some (.slice A2 M c2):=l.cell 2;clear l;by_cases bL:p<M
      ·exfalso;omega
      ·obtain rfl:p=M:=O;have aL:(cs.drop k).take (p-k)=cs.drop k:=QkT (by rw[QkJ];have:=Z.out;omega);have j:=a5.out.below a.out (by have:=N.out;omega);have f:=a6.out.below a.out (by have:=N.out;omega);have aj:=Q7h f;have k0:wr ⟨w.heap.size,0,none⟩=I x0:=j.cell 0;have k1:wr ⟨w.heap.size,1,none⟩=I x1:=j.cell 1;have bB:wr ⟨w.heap.size,2,none⟩=some (.slice A n c):=j.cell 2;have f0:=j.fz 0;have f1:=j.fz 1;have f2:=j.fz 2;have o0:wr ⟨w.heap.size+1,0,none⟩=I 0:=f.cell 0;have o1:wr ⟨w.heap.size+1,1,none⟩=I 0:=f.cell 1;have o2:wr ⟨w.heap.size+1,2,none⟩=some (.slice none 0 0):=f.cell 2;have e0:=f.fz 0;have e1:=f.fz 1;have e2:=f.fz 2;clear j f;go_wp2_with fail
       obtain⟨⟨r0,r1,r2⟩,bi,aM⟩:=Qsn aH.out aj.out 2 (I x0) (I x1) (.slice B3 L d3) (.slice B3 L d3);refine QqG (v:= .agg #[I x0,I x1,.slice B3 L d3]) (by simp[results,Tryz.results175,go_sem,r0,r1,r2]) rfl ⟨_,rfl,?_,bi⟩;have aN:(cs.take k++X++(cs.drop k).take (p-k)).length=L:=by
        have:=H.out;have:=Z.out;have:=aB.out;rw[aL,QqK,QqK,QzJ,QkJ];omega
       have hG:=Hu (F:=gx F w wr) K.out aN O (λk h1 h2=>.inr ⟨by have:=N.out;omega,h2⟩);rw[au.out.1,au.out.2,<-aL];exact(hG.keep aM (P6 HF.out)).mono (Qjs aM.size)
def OpD(w:World)(F:Nat->Prop)(r:Dv×Int)(e:Ending)(w':World):Prop:=∃lv,e= .returned (.tuple #[.agg #[I r.1.cap,lv],I r.2])/\SpcsAt w' (gr F w w') lv r.1.l/\Below w w w'
theorem stage(w:World)(cap:Int)(A:Option Addr)(n c:Nat):∃w1,(w.alloc (.cells #[I cap,.slice A n c] 64)).alloc (.cells #[I 0,.slice none 0 0] 64)=w1/\Below w w w1/\Whole w1 w.heap.size 64 #[I cap,.slice A n c]/\Whole w1 (w.heap.size+1) 64 #[I 0,.slice none 0 0]/\w1.heap.size=w.heap.size+2:=by
 have a:=Whole.new (w.alloc (.cells #[I cap,.slice A n c] 64)) 64 #[I 0,.slice none 0 0];rw[QqW]at a;exact⟨_,rfl,(B0.alloc N0 _).alloc U _,Whole.alloc (Whole.new w _ _) _,a,U⟩
theorem fine{w wr:ν}{t:TypeId}{x y:Value}(hb:Below w w wr)(c:Whole wr (w.heap.size+1) t #[x,y])(a b:Value):
  (((wr.setCell (w,1,0) a).setCell (w,1,1) b) (w,1,0)=some a/\((wr.setCell (w,1,0) a).setCell (w,1,1) b) (w,1,1)=some b)/\
  Below w w ((wr.setCell (w,1,0) a).setCell (w,1,1) b)/\Keep (bx w) wr ((wr.setCell (w,1,0) a).setCell (w,1,1) b):=by
 have q:=(c.set 0 a).set 1 b;exact⟨⟨by simpa using q.cell 0,by simpa using q.cell 1⟩,(hb.setCell (p:=(w,1,0)) (QuW _) _).setCell (p:=(w,1,1)) (QuW _) _,((Keep.refl (bx w) wr).setCell (p:=(w,1,0)) (.inl (.inr rfl)) _).setCell (p:=(w,1,1)) (.inl (.inr rfl)) _⟩
theorem Kb{w wr W:World}{F:Nat->Prop}{lv:Value}{l:List Spc}(h:SpcsAt w F lv l)(a:∀k,F k->k<w.heap.size)(hb:Below w w wr)(b:Keep (bx w) wr W):SpcsAt W (gr F w W) lv l:=
 ((h.below hb).keep b (λk c d=>by have:=a k c;rcases d with e|e<;>omega)).mono Ak
theorem Ux{w w1 wr W:World}{F:Nat->Prop}{lv:Value}{l:List Spc}(h:SpcsAt wr (gr F w1 wr) lv l)(d:∀k,F k->k<w.heap.size)(g:w1.heap.size=w.heap.size+2)(b:Keep (bx w) wr W):SpcsAt W (gr F w W) lv l:=
 (h.keep b (λk a c=>by
  rcases a with a|⟨f,_⟩
  ·have:=d k a;rcases c with e|e<;>omega
  ·rcases c with e|e<;>omega)).mono (λk a=>by
  have:=b.size;rcases a with a|⟨f,i⟩
  ·exact .inl a
  ·exact .inr ⟨O,O⟩)
theorem Qbo(w:World)(F:Nat->Prop):SecsAt w F (.slice none 0 0) []:=⟨none,0,rfl,QqM _,λh=>by simp at h⟩
def Ji(r:Dv)(id size:Int):Dv×Int:=
 if id<1\/65535<id\/size<0\/16777216<size then(r,1)else if 0<=Ky r.l id then(r,7)else if 8<=r.l.length then(r,70)else({r with l:=Z9 r.l ⟨id,size,[]⟩},0)
theorem Qj6(w:ν)(F:φ)(v:Value)(r:Dv)(id size:Int)(h:DvAt w F v r)(V:r.l.length<=1000):
  C 90 #[v,I id,I size] w (OpD w F (Ji r id size)):=by
 have X:=Q7h h;have HF:=Q7h h.lt;obtain⟨ah,rfl,N⟩:=h.row;have y:=Q7h N;obtain⟨A,c,rfl,hl,_⟩:=N;obtain⟨cap,l⟩:=r;simp only at hl V y ⊢;obtain⟨n,Y⟩:=Zx l.length;simp only[Y]at hl V X y ⊢;have Z:=Q7h Y;obtain⟨w1,ai,B,b,a,Q⟩:=stage w cap A n c;have j:=Q7h B;have m:=Q7h a;have aa:=Q7h Q;have q:=Q7h b;have z0:=b.cell 0;have z1:=b.cell 1;have o0:=a.cell 0;have o1:=a.cell 1;have e0:=a.fz 0;have e1:=a.fz 1;have u:=Q7h (Xg w1 F _ ⟨cap,l⟩ id (X.o.below B));have ab:Hid (∀W,Below w1 w1 W->C 169 #[.agg #[I cap,.slice A n c],.agg #[I id,I size,.slice none 0 0]] W λe w'=>∃lv,e=ρ (.agg #[I cap,lv])/\SpcsAt w' (gr F w1 w') lv (Z9 l ⟨id,size,[]⟩)/\Below w1 w1 w'):=by
  intro W hb;refine(Gq W F _ ⟨cap,l⟩ ⟨id,size,[]⟩ (.slice none 0 0) ((X.o.below j.o).below hb) (Qbo _ _) (by rw[Z.o];exact V)).mono ?_;rintro e w' ⟨lv,rfl,h1,h2⟩;refine⟨lv,rfl,h1.mono ?_,hb.trans (h2.mono hb.size)⟩;rintro k (hk|⟨hk,ac⟩)
  ·exact .inl hk
  ·exact .inr ⟨QqR hb.size hk,ac⟩
 have x:∀(wr:ν) (E:Int),Below w w wr->Whole wr (w.heap.size+1) 64 #[I 0,.slice none 0 0]->OpD w F (⟨cap,l⟩,E) (ρ (τ #[.agg #[I cap,.slice A n c],I E])) ((wr.setCell (w,1,0) (I cap)).setCell (w,1,1) (.slice A n c)):=λwr E hb h1=>by
  obtain⟨_,z,H⟩:=fine hb h1 (I cap) (.slice A n c);exact⟨_,rfl,Kb y.o HF.o hb H,z⟩
 have HE:=Q7h x;clear h Y B b a Q x;by_cases f:id<1\/65535<id\/size<0\/16777216<size
 ·have g:Ji ⟨cap,l⟩ id size=(⟨cap,l⟩,1):=by unfold Ji;rw[QqH f]
  rw[g];obtain⟨⟨K,L⟩,_,_⟩:=fine j.o m.o (I cap) (.slice A n c);have ad:id<1\/(¬id<1/\65535<id)\/(¬id<1/\¬65535<id/\size<0)\/(¬id<1/\¬65535<id/\¬size<0/\16777216<size):=O;clear f g;rcases ad with q1|⟨q1,q2⟩|⟨q1,q2,q3⟩|⟨q1,q2,q3,q4⟩;all_goals
   go_in
   go_wp2_with fail
   refine QqG (v:=τ #[.agg #[I cap,.slice A n c],I 1]) (by simp[results,Tryz.results90,go_sem,K,L]) rfl (HE.o _ _ j.o m.o)
 ·have q1:¬id<1:=O;have q2:¬65535<id:=O;have q3:¬size<0:=O;have q4:¬16777216<size:=O;obtain⟨fi,p⟩:=Zx (Ky l id);have s:Hid (C 168 #[.agg #[I cap,.slice A n c],I id] w1 λe w'=>e=ρ (I fi)/\Below w1 w1 w'):=by rw[<-p];exact u.o
  by_cases h7:0<=fi
  ·have g:Ji ⟨cap,l⟩ id size=(⟨cap,l⟩,7):=by unfold Ji;rw[QqE f,QqH (by rw[p];exact h7)]
   rw[g];clear f g p u;go_in
   go_wp2_with fail
   refine s.o.mono ?_;rintro e w2 ⟨rfl,d⟩;have b:=q.o.below d q.o.lt;have a:=m.o.below d m.o.lt;have t:=Q7h (j.o.trans (d.mono j.o.size));have i:=Q7h a;have z0:=b.cell 0;have z1:=b.cell 1;have o0:=a.cell 0;have o1:=a.cell 1;have e0:=a.fz 0;have e1:=a.fz 1;clear b a d;go_wp2_with fail
   obtain⟨⟨K,L⟩,_,_⟩:=fine t.o i.o (I cap) (.slice A n c);refine QqG (v:=τ #[.agg #[I cap,.slice A n c],I 7]) (by simp[results,Tryz.results90,go_sem,K,L]) rfl (HE.o _ _ t.o i.o)
  ·by_cases h8:8<=n
   ·have g:Ji ⟨cap,l⟩ id size=(⟨cap,l⟩,70):=by unfold Ji;rw[QqE f,QqE (by rw[p];exact h7),QqH (by show 8<=l.length;rw[Z.o];exact h8)]
    rw[g];have ae:(8:Int)<=(n:Int):=O;clear f g p u;go_in
    go_wp2_with fail
    refine s.o.mono ?_;rintro e w2 ⟨rfl,d⟩;have b:=q.o.below d q.o.lt;have a:=m.o.below d m.o.lt;have t:=Q7h (j.o.trans (d.mono j.o.size));have i:=Q7h a;have z0:=b.cell 0;have z1:=b.cell 1;have o0:=a.cell 0;have o1:=a.cell 1;have e0:=a.fz 0;have e1:=a.fz 1;clear b a d;go_wp2_with fail
    obtain⟨⟨K,L⟩,_,_⟩:=fine t.o i.o (I cap) (.slice A n c);refine QqG (v:=τ #[.agg #[I cap,.slice A n c],I 70]) (by simp[results,Tryz.results90,go_sem,K,L]) rfl (HE.o _ _ t.o i.o)
   ·have g:Ji ⟨cap,l⟩ id size=(⟨cap,Z9 l ⟨id,size,[]⟩⟩,0):=by unfold Ji;rw[QqE f,QqE (by rw[p];exact h7),QqE (by show ¬8<=l.length;rw[Z.o];exact h8)]
    rw[g];have ae:¬(8:Int)<=(n:Int):=O;clear f g p u;go_in
    go_wp2_with fail
    refine s.o.mono ?_;rintro e w2 ⟨rfl,d⟩;have af:=Q7h (ab.o w2 d);have b:=q.o.below d q.o.lt;have z0:=b.cell 0;have z1:=b.cell 1;clear b d;go_wp2_with fail
    refine af.o.mono ?_;rintro e w3 ⟨lv,rfl,R,M⟩;have S:=Q7h R;obtain⟨A3,c3,rfl,_,_⟩:=R;obtain⟨n3,T⟩:=Zx ((Z9 l ⟨id,size,[]⟩).length);rw[T]at S ⊢;have a:=m.o.below M m.o.lt;have ag:=Q7h (j.o.trans (M.mono j.o.size));have i:=Q7h a;have o0:=a.cell 0;have o1:=a.cell 1;have e0:=a.fz 0;have e1:=a.fz 1;clear a M T;go_wp2_with fail
    obtain⟨⟨K,L⟩,z,H⟩:=fine ag.o i.o (I cap) (.slice A3 n3 c3);refine QqG (v:=τ #[.agg #[I cap,.slice A3 n3 c3],I 0]) (by simp[results,Tryz.results90,go_sem,K,L]) rfl ⟨_,rfl,Ux S.o HF.o aa.o H,z⟩
def Yh(r:Dv)(id:Int):Dv×Int:=if Ky r.l id<0 then(r,4)else({r with l:=Zj r.l id},0)
theorem Qj5(w:World)(F:Nat->Prop)(v:Value)(r:Dv)(id:Int)(h:DvAt w F v r):
  C 93 #[v,I id] w (OpD w F (Yh r id)):=by
 have Q:=Q7h h;have HF:=Q7h h.lt;obtain⟨ab,rfl,z⟩:=h.row;have s:=Q7h z;obtain⟨A,c,rfl,hl,_⟩:=z;obtain⟨cap,l⟩:=r;simp only at hl s ⊢;obtain⟨n,hn⟩:=Zx l.length;simp only[hn]at hl Q s ⊢;obtain⟨w1,ac,R,b,a,H⟩:=stage w cap A n c;have f:=Q7h R;have m:=Q7h a;have S:=Q7h H;have p:=Q7h b;have z0:=b.cell 0;have z1:=b.cell 1;have t:=Q7h (Xg w1 F _ ⟨cap,l⟩ id (Q.o.below R));have T:Hid (∀W,Below w1 w1 W->C 172 #[.agg #[I cap,.slice A n c],I id] W λe w'=>∃lv,e= .returned (.agg #[I cap,lv])/\SpcsAt w' (gr F w1 w') lv (Zj l id)/\Below w1 w1 w'):=by
  intro W hb;refine(Dy W F _ ⟨cap,l⟩ id ((Q.o.below f.o).below hb)).mono ?_;rintro e w' ⟨lv,rfl,h1,h2⟩;refine⟨lv,rfl,h1.mono ?_,hb.trans (h2.mono hb.size)⟩;rintro k (V|⟨V,X⟩)
  ·exact .inl V
  ·exact .inr ⟨QqR hb.size V,X⟩
 clear h hn R b a H;obtain⟨fi,g⟩:=Zx (Ky l id);have q:Hid (C 168 #[.agg #[I cap,.slice A n c],I id] w1 λe w'=>e= .returned (I fi)/\Below w1 w1 w'):=by rw[<-g];exact t.o
 by_cases h7:fi<0
 ·have i:Yh ⟨cap,l⟩ id=(⟨cap,l⟩,4):=by unfold Yh;rw[QqH (by rw[g];exact h7)]
  rw[i];clear i g t;go_in
  go_wp2_with fail
  refine q.o.mono ?_;rintro e w2 ⟨rfl,d⟩;have b:=p.o.below d p.o.lt;have a:=m.o.below d m.o.lt;have K:=Q7h (f.o.trans (d.mono f.o.size));have j:=Q7h a;have z0:=b.cell 0;have z1:=b.cell 1;have o0:=a.cell 0;have o1:=a.cell 1;have e0:=a.fz 0;have e1:=a.fz 1;clear b a d;go_wp2_with fail
  obtain⟨⟨Y,Z⟩,u,x⟩:=fine K.o j.o (I cap) (.slice A n c);refine QqG (v:= .tuple #[.agg #[I cap,.slice A n c],I 4]) (by simp[results,Tryz.results93,go_sem,Y,Z]) rfl ⟨_,rfl,Kb s.o HF.o K.o x,u⟩
 ·have i:Yh ⟨cap,l⟩ id=(⟨cap,Zj l id⟩,0):=by unfold Yh;rw[QqE (by rw[g];exact h7)]
  rw[i];clear i g t;go_in
  go_wp2_with fail
  refine q.o.mono ?_;rintro e w2 ⟨rfl,d⟩;have B:=Q7h (T.o w2 d);have b:=p.o.below d p.o.lt;have z0:=b.cell 0;have z1:=b.cell 1;clear b d;go_wp2_with fail
  refine B.o.mono ?_;rintro e w3 ⟨lv,rfl,L,y⟩;have M:=Q7h L;obtain⟨A3,c3,rfl,_,_⟩:=L;obtain⟨n3,N⟩:=Zx ((Zj l id).length);rw[N]at M ⊢;have a:=m.o.below y m.o.lt;have aa:=Q7h (f.o.trans (y.mono f.o.size));have j:=Q7h a;have o0:=a.cell 0;have o1:=a.cell 1;have e0:=a.fz 0;have e1:=a.fz 1;clear a y N;go_wp2_with fail
  obtain⟨⟨Y,Z⟩,u,x⟩:=fine aa.o j.o (I cap) (.slice A3 n3 c3);refine QqG (v:= .tuple #[.agg #[I cap,.slice A3 n3 c3],I 0]) (by simp[results,Tryz.results93,go_sem,Y,Z]) rfl ⟨_,rfl,Ux M.o HF.o S.o x,u⟩
def J9(r:Dv)(id size:Int):Dv×Int:=
 if size<0\/16777216<size then(r,1)else match Iq r.l id with
  |none=>(r,4)
  |some i=>({r with l:=Z9 r.l ⟨(r.l.getD i ⟨0,0,[]⟩).id,size,(Ou (r.l.getD i ⟨0,0,[]⟩) size 16777216).s⟩},0)
theorem Qjt{F:Nat->Prop}{w0 w w':World}(d:w0.heap.size<=w.heap.size)(e:w.heap.size<=w'.heap.size):∀k,gr (gr F w0 w) w w' k->gr F w0 w' k:=by
 rintro k ((c|⟨a,b⟩)|⟨a,b⟩)
 ·exact .inl c
 ·exact .inr ⟨a,O⟩
 ·exact .inr ⟨O,b⟩
theorem Qj4(w:ν)(F:φ)(v:Value)(r:Dv)(id size:Int)(h:DvAt w F v r)(h9:r.l.length<=1000):
  C 92 #[v,I id,I size] w (OpD w F (J9 r id size)):=by
 have HD:=Q7h h;have HF:=Q7h h.lt;obtain⟨aK,rfl,ac⟩:=h.row;have K:=Q7h ac;obtain⟨A,c,rfl,hl,t⟩:=ac;obtain⟨cap,l⟩:=r;simp only at hl h9 t K ⊢;obtain⟨n,hn⟩:=Zx l.length;simp only[hn]at hl h9 HD K ⊢;have HN:=Q7h hn;have an:=Q7h t;obtain⟨w1,aL,hB,b,a,ad⟩:=stage w cap A n c;have d:=Q7h hB;have L:=Q7h a;have ao:=Q7h ad;have u:=Q7h b;have z0:w1 (w,0)=I cap:=b.cell 0;have z1:w1 (w,1)=some (.slice A n c):=b.cell 1;have o0:w1 (w,1,0)=I 0:=a.cell 0;have o1:w1 (w,1,1)=some (.slice none 0 0):=a.cell 1;have e0:=a.fz 0;have e1:=a.fz 1;have ae:=Q7h (Xg w1 F _ ⟨cap,l⟩ id (HD.o.below hB));clear h hn t hB b a ad;by_cases f:size<0\/16777216<size
 ·have m:J9 ⟨cap,l⟩ id size=(⟨cap,l⟩,1):=by unfold J9;rw[QqH f]
  rw[m];obtain⟨⟨r0,r1⟩,y,z⟩:=fine d.o L.o (I cap) (.slice A n c);have ap:size<0\/(¬size<0/\16777216<size):=O;have HQ:=Q7h (And.intro y z);clear f m y z;rcases ap with q1|⟨q1,q2⟩;all_goals
   go_in
   go_wp2_with fail
   refine QqG (v:=τ #[.agg #[I cap,.slice A n c],I 1]) (by simp[results,Tryz.results92,go_sem,r0,r1]) rfl ⟨_,rfl,Kb K.o HF.o d.o HQ.o.2,HQ.o.1⟩
 ·have q1:¬size<0:=O;have q2:¬16777216<size:=O;cases hd:Iq l id with
  |none=>
   have m:J9 ⟨cap,l⟩ id size=(⟨cap,l⟩,4):=by unfold J9;rw[QqE f];simp only[hd]
   have HI:Hid (Ky l id= -1):=by show _=_;unfold Ky;rw[hd]
   rw[m];clear f m hd;go_in
   go_wp2_with fail
   refine ae.o.mono ?_;rw[HI.o];rintro e w2 ⟨rfl,j⟩;have b:=u.o.below j u.o.lt;have a:=L.o.below j L.o.lt;have af:=Q7h (d.o.trans (j.mono d.o.size));have M:=Q7h a;have z0:w2 (w,0)=I cap:=b.cell 0;have z1:w2 (w,1)=some (.slice A n c):=b.cell 1;have o0:w2 (w,1,0)=I 0:=a.cell 0;have o1:w2 (w,1,1)=some (.slice none 0 0):=a.cell 1;have e0:=a.fz 0;have e1:=a.fz 1;clear b a j;go_wp2_with fail
   obtain⟨⟨r0,r1⟩,y,z⟩:=fine af.o M.o (I cap) (.slice A n c);refine QqG (v:=τ #[.agg #[I cap,.slice A n c],I 4]) (by simp[results,Tryz.results92,go_sem,r0,r1]) rfl ⟨_,rfl,Kb K.o HF.o af.o z,y⟩
  |some i=>
   have hi:=Yw hd;have aM:i<n:=by rw[<-HN.o];exact hi
   have aN:(i:Int)<(n:Int):=O;have aQ:(0:Int)<=(i:Int):=QkD _;have HI:Hid (Ky l id=(i:Int)):=by show _=_;unfold Ky;rw[hd]
   obtain⟨x,Y⟩:∃x,l[i]? =some x:=⟨_,QqC hi⟩;have ag:l.getD i ⟨0,0,[]⟩=x:=by simp only[QkH,Y,QoN]
   have m:J9 ⟨cap,l⟩ id size=(⟨cap,Z9 l ⟨x.id,size,(Ou x size 16777216).s⟩⟩,0):=by unfold J9;rw[QqE f];simp only[hd,ag]
   rw[m];obtain⟨g,o,rfl,_,t⟩:=an.o (by have:=HN.o;omega);obtain⟨sv,a1,a2,a3,ah⟩:=t i x Y;have ai:=Q7h ah;obtain⟨A',c',rfl,aq,_⟩:=ah;obtain⟨sl,X⟩:=Zx x.s.length;obtain⟨Q,R⟩:=Zx x.id;obtain⟨y1,Z⟩:=Zx x.size;rw[X]at a3 ai;rw[R]at a1;rw[Z]at a2;have HA:Hid (∀W,Below w1 w1 W->W (g,o+i*3)=I Q/\W (g,o+i*3+1)=I y1/\W (g,o+i*3+2)=some (.slice A' sl c')):=λW hb=>⟨Qq hb (Qq d.o a1),Qq hb (Qq d.o a2),Qq hb (Qq d.o a3)⟩;obtain⟨S,hS⟩:=Zx ((Ou x size 16777216).s);have ar:Hid (∀W,Below w1 w1 W->C 171 #[.agg #[I Q,I y1,.slice A' sl c'],I size,I 16777216] W λe w'=>∃p H c3,e=ρ (.agg #[I Q,I y1,.slice p H c3])/\SecsAt w' (gr F w1 w') (.slice p H c3) S/\Below w1 w1 w'):=by
    intro W hb;have T:Below w w W:=d.o.trans (hb.mono d.o.size);have q:=Ee W F (.slice A' sl c') x size 16777216 (ai.o.below T) (λk B=>QzB (HF.o k B) T.size);rw[R,Z,hS]at q;refine q.mono ?_;rintro e w' ⟨aR,rfl,au,av⟩;obtain⟨p,c3,rfl,k1,k2⟩:=au;refine⟨p,_,c3,rfl,SecsAt.mono ⟨p,c3,rfl,k1,k2⟩ ?_,hb.trans (av.mono hb.size)⟩;rintro k (B|⟨B,aw⟩)
    ·exact .inl B
    ·exact .inr ⟨QqR hb.size B,aw⟩
   have ax:Hid (∀W p H c3,Below w1 w1 W->SecsAt W (gr F w1 W) (.slice p H c3) S->C 169 #[.agg #[I cap,.slice (some (g,o)) n c],.agg #[I Q,I size,.slice p H c3]] W λe w'=>∃lv,e=ρ (.agg #[I cap,lv])/\SpcsAt w' (gr F w1 w') lv (Z9 l ⟨Q,size,S⟩)/\Below w1 w1 w'):=by
    intro W p H c3 hb hs;have T:Below w w W:=d.o.trans (hb.mono d.o.size);have ay:DvAt W (gr F w1 W) (.agg #[I cap,.slice (some (g,o)) n c]) ⟨cap,l⟩:=⟨⟨_,rfl,(K.o.below T).mono Ak⟩,Tn (λk B=>QzB (HF.o k B) d.o.size) hb.size⟩;refine(Gq W (gr F w1 W) _ ⟨cap,l⟩ ⟨Q,size,S⟩ (.slice p H c3) ay hs (by rw[HN.o];exact h9)).mono ?_;rintro e w' ⟨lv,rfl,h1,h2⟩;exact⟨lv,rfl,h1.mono (Qjt hb.size h2.size),hb.trans (h2.mono hb.size)⟩
   rw[R,hS];clear f m hd hi Y ag t a1 a2 a3 aq X R Z hS;go_in
   go_wp2_with fail
   refine ae.o.mono ?_;rw[HI.o];rintro e w2 ⟨rfl,j⟩;have az:=Q7h (ar.o w2 j);have b:=u.o.below j u.o.lt;have z0:w2 (w,0)=I cap:=b.cell 0;have z1:w2 (w,1)=some (.slice (some (g,o)) n c):=b.cell 1;obtain⟨u0,u1,u2⟩:=HA.o w2 j;clear b j;go_wp2_with fail
   refine az.o.mono ?_;rintro e w3 ⟨p,H,c3,rfl,aj,aa⟩;have V:Below w3 w3 (w3.alloc (.cells #[I Q,I size,.slice p H c3] 155)):=B0.alloc N0 _;have N:=aa.trans (V.mono aa.size);have aF:=Q7h (ax.o _ p H c3 N ((aj.below V).mono (Qnv V.size)));have b:=u.o.below N u.o.lt;have z0:(w3.alloc (.cells #[I Q,I size,.slice p H c3] 155)) (w,0)=I cap:=b.cell 0;have z1:(w3.alloc (.cells #[I Q,I size,.slice p H c3] 155)) (w,1)=some (.slice (some (g,o)) n c):=b.cell 1;clear aj aa V N b u0 u1 u2;go_wp2_with fail
   refine aF.o.mono ?_;rintro e w6 ⟨lv,rfl,ak,ab⟩;have al:=Q7h ak;obtain⟨A6,c6,rfl,_,_⟩:=ak;obtain⟨n6,am⟩:=Zx ((Z9 l ⟨Q,size,S⟩).length);rw[am]at al ⊢;have a:=L.o.below ab L.o.lt;have aH:=Q7h (d.o.trans (ab.mono d.o.size));have M:=Q7h a;have o0:w6 (w,1,0)=I 0:=a.cell 0;have o1:w6 (w,1,1)=some (.slice none 0 0):=a.cell 1;have e0:=a.fz 0;have e1:=a.fz 1;clear a ab am;go_wp2_with fail
   obtain⟨⟨r0,r1⟩,y,z⟩:=fine aH.o M.o (I cap) (.slice A6 n6 c6);refine QqG (v:=τ #[.agg #[I cap,.slice A6 n6 c6],I 0]) (by simp[results,Tryz.results92,go_sem,r0,r1]) rfl ⟨_,rfl,Ux al.o HF.o ao.o z,y⟩
def Vx(l:List Spc)(id:Int):Spc:=match Iq l id with|some i=>l.getD i ⟨0,0,[]⟩|none=>⟨0,0,[]⟩
def Eu(r:Dv)(id fr n:Int):Dv×Int:=
 if Qm r.l id fr n true≠0 then(r,Qm r.l id fr n true)else({r with l:=Z9 r.l (Ou (Vx r.l id) fr (fr+n))},0)
theorem Kj{l:List Spc}{id fr n:Int}{may:Bool}(h:Qm l id fr n may=0):∃(i:Nat) (x:Spc),Iq l id=some i/\l[i]? =some x/\Vx l id=x/\may=true/\1<=n/\0<=fr/\fr<=x.size/\n<=x.size-fr:=by
 unfold Qm at h;cases hd:Iq l id with
 |none=>rw[hd]at h;simp at h
 |some i=>
  rw[hd]at h;simp only at h;obtain⟨x,a⟩:∃x,l[i]? =some x:=⟨_,QqC (Yw hd)⟩;have b:l.getD i ⟨0,0,[]⟩=x:=by simp only[QkH,a,QoN]
  rw[b]at h;split at h
  ·simp at h
  ·rename_i c;split at h
   ·simp at h
   ·rename_i e;have d:may=true:=by cases may<;>simp at c ⊢
    exact⟨i,x,rfl,a,by unfold Vx;rw[hd];exact b,d,O,O,O,O⟩
theorem Qab(w:ν)(F:φ)(v:Value)(r:Dv)(id fr m:Int)(h:DvAt w F v r)(h9:r.l.length<=1000)(hz:∀x∈r.l,0<=x.size/\x.size<=16777216):
  C 96 #[v,I id,I fr,I m] w (OpD w F (Eu r id fr m)):=by
 have HD:=Q7h h;have HF:=Q7h h.lt;obtain⟨aY,rfl,ag⟩:=h.row;have K:=Q7h ag;obtain⟨A,c,rfl,hl,t⟩:=ag;obtain⟨cap,l⟩:=r;simp only at hl h9 t hz K ⊢;obtain⟨n,hn⟩:=Zx l.length;simp only[hn]at hl h9 HD K ⊢;have HN:=Q7h hn;have av:=Q7h t;obtain⟨w1,aZ,hB,f,a,ah⟩:=stage w cap A n c;have b:=Q7h hB;have L:=Q7h a;have aw:=Q7h ah;have ai:=Q7h f;have z0:=f.cell 0;have z1:=f.cell 1;have aj:=Q7h (Q77 w1 F _ ⟨cap,l⟩ id fr m true (HD.o.below hB) hz);obtain⟨wi,j⟩:=Zx (Qm l id fr m true);have y:Hid (C 173 #[.agg #[I cap,.slice A n c],I id,I fr,I m,.bool true] w1 λe w'=>e=ρ (I wi)/\Below w1 w1 w'):=by rw[<-j];exact aj.o
 clear h hn t hB f a ah aj;by_cases M:wi=0
 ·rw[M]at j y;obtain⟨i,x,aa,ab,ak,_,aA,aB,a0,a4⟩:=Kj j;have ax:=hz x (QqL ab);have z:Eu ⟨cap,l⟩ id fr m=(⟨cap,Z9 l (Ou x fr (fr+m))⟩,0):=by unfold Eu;rw[QqE (by show ¬Qm l id fr m true≠0;rw[j];simp)];simp only[ak]
  rw[z];have hi:=Yw aa;have a5:i<n:=by rw[<-HN.o];exact hi
  have a6:(i:Int)<(n:Int):=O;have a7:(0:Int)<=(i:Int):=QkD _;have a8:IntKind.i64.wrap (i:Int)=(i:Int):=by rw[QqN];omega
  have a9:IntKind.i64.wrap (fr+m)=fr+m:=by rw[QqN];omega
  have HI:Hid (Ky l id=(i:Int)):=by show _=_;unfold Ky;rw[aa]
  obtain⟨g,o,rfl,al,t⟩:=av.o (by have:=HN.o;omega);obtain⟨sv,a1,a2,a3,am⟩:=t i x ab;have an:=Q7h am;have ba:=HF.o g al;obtain⟨A',c',rfl,ay,_⟩:=am;obtain⟨sl,Z⟩:=Zx x.s.length;obtain⟨N,Q⟩:=Zx x.id;obtain⟨R,T⟩:=Zx x.size;rw[Z]at a3 an;rw[Q]at a1;rw[T]at a2;obtain⟨S,hS⟩:=Zx ((Ou x fr (fr+m)).s);have ao:Ou x fr (fr+m)=⟨N,R,S⟩:=by rw[<-hS,<-Q,<-T];rfl
  have HK:Hid (∀W,Below w1 w1 W->(W (w,0)=I cap/\W (w,1)=some (.slice (some (g,o)) n c))/\(W (g,o+i*3)=I N/\W (g,o+i*3+1)=I R/\W (g,o+i*3+2)=some (.slice A' sl c'))):=λW hb=>⟨⟨Qq hb z0,Qq hb z1⟩,Qq hb (Qq b.o a1),Qq hb (Qq b.o a2),Qq hb (Qq b.o a3)⟩;have az:Hid (∀W (p q:Value),Below w1 w1 W->(((W.setCell (w,1,0) p).setCell (w,1,1) q) (w,0)=I cap/\((W.setCell (w,1,0) p).setCell (w,1,1) q) (w,1)=some (.slice (some (g,o)) n c))/\(((W.setCell (w,1,0) p).setCell (w,1,1) q) (g,o+i*3)=I N/\((W.setCell (w,1,0) p).setCell (w,1,1) q) (g,o+i*3+1)=I R/\((W.setCell (w,1,0) p).setCell (w,1,1) q) (g,o+i*3+2)=some (.slice A' sl c'))):=by
   intro W p q hb;obtain⟨⟨k0,k1⟩,k2,k3,k4⟩:=HK.o W hb;have u:Keep (λk=>k=w.heap.size+1) W ((W.setCell (w,1,0) p).setCell (w,1,1) q):=((Keep.refl (λk=>k=w.heap.size+1) W).setCell (p:=(w,1,0)) (.inl rfl) _).setCell (p:=(w,1,1)) (.inl rfl) _;have n0:¬w.heap.size=w.heap.size+1:=O;have n1:¬g=w.heap.size+1:=O;exact⟨⟨u.cell k0 n0,u.cell k1 n0⟩,u.cell k2 n1,u.cell k3 n1,u.cell k4 n1⟩
  have aF:Hid (∀W,Below w1 w1 W->C 168 #[.agg #[I cap,.slice (some (g,o)) n c],I id] W λe w'=>e=ρ (I (i:Int))/\Below w1 w1 w'):=by
   intro W hb;refine(Xg W F _ ⟨cap,l⟩ id ((HD.o.below b.o).below hb)).mono ?_;rintro e w' ⟨rfl,h2⟩;exact⟨by rw[HI.o],hb.trans (h2.mono hb.size)⟩
  have aH:Hid (∀W,Below w1 w1 W->C 171 #[.agg #[I N,I R,.slice A' sl c'],I fr,I (fr+m)] W λe w'=>∃H B c3,e=ρ (.agg #[I N,I R,.slice H B c3])/\SecsAt w' (gr F w1 w') (.slice H B c3) S/\Below w1 w1 w'):=by
   intro W hb;have V:=b.o.trans (hb.mono b.o.size);have q:=Ee W F (.slice A' sl c') x fr (fr+m) (an.o.below V) (λk u=>QzB (HF.o k u) V.size);rw[Q,T,hS]at q;refine q.mono ?_;rintro e w' ⟨bb,rfl,aK,aL⟩;obtain⟨H,c3,rfl,k1,k2⟩:=aK;refine⟨H,_,c3,rfl,SecsAt.mono ⟨H,c3,rfl,k1,k2⟩ ?_,hb.trans (aL.mono hb.size)⟩;rintro k (u|⟨u,aM⟩)
   ·exact .inl u
   ·exact .inr ⟨QqR hb.size u,aM⟩
  have aN:Hid (∀W H B c3,Below w1 w1 W->SecsAt W (gr F w1 W) (.slice H B c3) S->C 169 #[.agg #[I cap,.slice (some (g,o)) n c],.agg #[I N,I R,.slice H B c3]] W λe w'=>∃A6 n6 c6,e=ρ (.agg #[I cap,.slice A6 n6 c6])/\SpcsAt w' (gr F w1 w') (.slice A6 n6 c6) (Z9 l ⟨N,R,S⟩)/\Below w1 w1 w'):=by
   intro W H B c3 hb hs;have V:=b.o.trans (hb.mono b.o.size);have aQ:DvAt W (gr F w1 W) (.agg #[I cap,.slice (some (g,o)) n c]) ⟨cap,l⟩:=⟨⟨_,rfl,(K.o.below V).mono Ak⟩,Tn (λk u=>QzB (HF.o k u) b.o.size) hb.size⟩;refine(Gq W (gr F w1 W) _ ⟨cap,l⟩ ⟨N,R,S⟩ (.slice H B c3) aQ hs (by rw[HN.o];exact h9)).mono ?_;rintro e w' ⟨lv,rfl,h1,h2⟩;obtain⟨A6,c6,rfl,k1,k2⟩:=h1;exact⟨A6,_,c6,rfl,SpcsAt.mono ⟨A6,c6,rfl,k1,k2⟩ (Qjt hb.size h2.size),hb.trans (h2.mono hb.size)⟩
  rw[ao];clear j M aa ab ak ax z hi t a1 a2 a3 ay Z Q T hS ao al hz;go_in
  go_wp2_with fail
  refine y.o.mono ?_;rintro e w2 ⟨rfl,d⟩;have X:=Q7h d;have S2:=Q7h (HK.o _ d);have aR:=Q7h (HK.o _ d.drew);clear d z0 z1;go_wp2_with fail
  go_region_held3 (λw'=>(w' (w,0)=I cap/\w' (w,1)=some (.slice (some (g,o)) n c))/\(w' (g,o+i*3)=I N/\w' (g,o+i*3+1)=I R/\w' (g,o+i*3+2)=some (.slice A' sl c'))) (first|with_reducible exact S2.o|with_reducible exact aR.o|with_reducible exact S5.o|with_reducible exact S6.o|with_reducible exact S7.o|with_reducible exact az.o _ _ _ ap.o) (first|(go_at_call 168;refine(aF.o _ X.o.drew).mono ?_;rintro e w5 ⟨rfl,ac⟩;have aS:=Q7h ac;have S5:=Q7h (HK.o _ ac);clear ac)|(go_at_call 171;refine(aH.o _ aS.o).mono ?_;rintro e w6 ⟨H,B,c3,rfl,aq,ad⟩;have aT:=Q7h ad;have S6:=Q7h (HK.o _ ad);have aV:=Q7h aq;clear ad aq)|(go_at_call 169;refine(aN.o _ _ _ _ aT.o aV.o).mono ?_;rintro e w7 ⟨A6,n6,c6,rfl,ar,Y⟩;have ap:=Q7h Y;have S7:=Q7h (HK.o _ Y);have aW:=Q7h ar;have a:=L.o.below Y L.o.lt;have aX:=Q7h a;have o0:=a.cell 0;have o1:=a.cell 1;have e0:=a.fz 0;have e1:=a.fz 1;clear Y ar a))
  go_wp2_with fail
  obtain⟨⟨r0,r1⟩,ae,af⟩:=fine (b.o.trans (ap.o.mono b.o.size)) aX.o (I cap) (.slice A6 n6 c6);refine QqG (v:=τ #[.agg #[I cap,.slice A6 n6 c6],I 0]) (by simp[results,Tryz.results96,go_sem,r0,r1]) rfl ⟨_,rfl,Ux aW.o HF.o aw.o af,ae⟩
 ·have z:Eu ⟨cap,l⟩ id fr m=(⟨cap,l⟩,wi):=by unfold Eu;rw[QqH (by show Qm l id fr m true≠0;rw[j];exact M)];simp only[j]
  rw[z];have bc:(wi==0)=false:=by simpa using M
  clear z j hz;go_in
  go_wp2_with fail
  refine y.o.mono ?_;rintro e w2 ⟨rfl,d⟩;have f:=ai.o.below d ai.o.lt;have a:=L.o.below d L.o.lt;have X:=Q7h (b.o.trans (d.mono b.o.size));have au:=Q7h a;have z0:=f.cell 0;have z1:=f.cell 1;have o0:=a.cell 0;have o1:=a.cell 1;have e0:=a.fz 0;have e1:=a.fz 1;clear f a d;go_wp2_with fail
  obtain⟨⟨r0,r1⟩,ae,af⟩:=fine X.o au.o (I cap) (.slice A n c);refine QqG (v:=τ #[.agg #[I cap,.slice A n c],I wi]) (by simp[results,Tryz.results96,go_sem,r0,r1]) rfl ⟨_,rfl,Kb K.o HF.o X.o af,ae⟩
def Gv(x:Spc)(fr:Int):Nat->ByteArray
 |0=>⟨#[]⟩
 |k+1=>Gv x fr k++dOf x (fr+(k:Int))
def Im(r:Dv)(id fr n:Int):ByteArray×Int:=
 if Qm r.l id fr n (decide (n<=8))≠0 then(⟨#[]⟩,Qm r.l id fr n (decide (n<=8)))else(Gv (Vx r.l id) fr n.toNat,0)
theorem Qxx:Zm.size=32:=J
theorem Qg0{x:Spc}(h:∀y∈x.s,y.data.size<=100)(a:Int):(dOf x a).size<=100:=by
 unfold dOf;split
 ·rename_i y b;exact h y (QjU b)
 ·rw[Ri,Qxx];omega
theorem Vi{x:Spc}(h:∀y∈x.s,y.data.size<=100)(fr:Int):∀k,(Gv x fr k).size<=100*k
 |0=>QqB _
 |k+1=>by
  have a:=Vi h fr k;have b:=Qg0 h (fr+(k:Int));show(Gv x fr k++dOf x (fr+(k:Int))).size<=_;rw[QjT];omega
theorem Qac(w:ν)(F:φ)(v:Value)(r:Dv)(id fr p:Int)(h:DvAt w F v r)(hz:∀x∈r.l,0<=x.size/\x.size<=16777216)(H:∀x∈r.l,∀y∈x.s,y.data.size<=100):
  C 97 #[v,I id,I fr,I p] w λe w'=>e=ρ (τ #[.string (Im r id fr p).1,I (Im r id fr p).2])/\Below w w w':=by
 have HD:=Q7h h;obtain⟨aM,rfl,ac⟩:=h.row;have ad:=Q7h ac;obtain⟨A,c,rfl,hl,z⟩:=ac;obtain⟨cap,l⟩:=r;simp only at hl z hz H ad ⊢;obtain⟨n,hn⟩:=Zx l.length;simp only[hn]at hl HD ad ⊢;have HN:=Q7h hn;have ak:=Q7h z;have aN:(n:Int)<=100000:=O;have f:Hid (Below w w (w.alloc (.cells #[I cap,.slice A n c] 64))):=(QqA _ _).alloc (QqB _) _;have K:=Whole.new w 64 #[I cap,.slice A n c];obtain⟨w1,al⟩:=Zx (w.alloc (.cells #[I cap,.slice A n c] 64));rw[al]at f K;have aQ:=Q7h K;have z0:=K.cell 0;have z1:=K.cell 1;obtain⟨may,b⟩:=Zx (decide (p<=8));have ae:=Q7h (Q77 w1 F _ ⟨cap,l⟩ id fr p may (HD.o.below f.o) hz);obtain⟨wi,j⟩:=Zx (Qm l id fr p may);have u:Hid (C 173 #[.agg #[I cap,.slice A n c],I id,I fr,I p,.bool may] w1 λe w'=>e=ρ (I wi)/\Below w1 w1 w'):=by rw[<-j];exact ae.o
 clear h hn z K ae;by_cases N:wi=0
 ·rw[N]at j u;obtain⟨i,x,V,X,af,Q,aR,aS,aT,aV⟩:=Kj j;have R:=QqL X;have aW:=hz x R;have aX:p<=8:=by rw[Q]at b;exact QxM b
  obtain⟨m,rfl⟩:∃m:Nat,p=(m:Int):=⟨p.toNat,O⟩;have L:Im ⟨cap,l⟩ id fr m=(Gv x fr m,0):=by unfold Im;rw[b,QqE (by show ¬Qm l id fr m may≠0;rw[j];simp)];simp only[af,QyD]
  rw[L];have aY:m<=8:=O;have hi:=Yw V;have aZ:i<n:=by rw[<-HN.o];exact hi
  have aA:(i:Int)<(n:Int):=O;have aB:(0:Int)<=(i:Int):=QkD _;have a0:IntKind.i64.wrap (i:Int)=(i:Int):=by rw[QqN];omega
  have HI:Hid (Ky l id=(i:Int)):=by show _=_;unfold Ky;rw[V]
  obtain⟨g,o,rfl,am,z⟩:=ak.o (by have:=HN.o;omega);obtain⟨sv,a1,a2,a3,ag⟩:=z i x X;have ah:=Q7h ag;obtain⟨A',c',rfl,an,_⟩:=ag;obtain⟨sl,T⟩:=Zx x.s.length;obtain⟨y0,Y⟩:=Zx x.id;obtain⟨y1,Z⟩:=Zx x.size;rw[T]at a3 ah;rw[Y]at a1;rw[Z]at a2;have ao:=Q7h (Vi (H x R) fr);have ap:=Q7h (Qg0 (H x R));have aq:Hid (∀k:Nat,Gv x fr (k+1)=Gv x fr k++dOf x (fr+(k:Int))):=λk=>rfl;have ar:Hid (Gv x fr 0=⟨#[]⟩):=rfl;have HK:Hid (∀W,Below w1 w1 W->(W (w,0)=I cap/\W (w,1)=some (.slice (some (g,o)) n c))/\(W (g,o+i*3)=I y0/\W (g,o+i*3+1)=I y1/\W (g,o+i*3+2)=some (.slice A' sl c'))):=λW hb=>⟨⟨Qq hb z0,Qq hb z1⟩,Qq hb (Qq f.o a1),Qq hb (Qq f.o a2),Qq hb (Qq f.o a3)⟩;have au:Hid (∀W,Below w1 w1 W->C 168 #[.agg #[I cap,.slice (some (g,o)) n c],I id] W λe w'=>e=ρ (I (i:Int))/\Below w1 w1 w'):=by
   intro W hb;refine(Xg W F _ ⟨cap,l⟩ id ((HD.o.below f.o).below hb)).mono ?_;rintro e w' ⟨rfl,h2⟩;exact⟨by rw[HI.o],hb.trans (h2.mono hb.size)⟩
  have av:Hid (∀W a,Below w1 w1 W->C 99 #[.agg #[I y0,I y1,.slice A' sl c'],I a] W λe w'=>e=ρ (.string (dOf x a))/\Below w1 w1 w'):=by
   intro W a hb;have aw:=f.o.trans (hb.mono f.o.size);have q:=Qde W F (.slice A' sl c') x a (ah.o.below aw);rw[Y,Z]at q;refine q.mono ?_;rintro e w' ⟨rfl,ax⟩;exact⟨rfl,hb.trans (ax.mono hb.size)⟩
  have ay:decide ((m:Int)<=8)=true:=by rw[b];exact Q
  rw[Q]at u;clear j N V X af L hi z a1 a2 a3 an T Y Z am hz H b Q R;go_in
  go_wp2_with fail
  refine u.o.mono ?_;rintro e w2 ⟨rfl,M⟩;have S:=Q7h M;clear M z0 z1;go_wp2_with fail
  go_loopw [11,12] (λtv kv wr=>∃(k:Nat) (t:β),k<=m/\kv= I k/\tv= .string t/\Hid (t=Gv x fr k)/\Hid (Below w1 w1 wr)) (λ_ kv _=>m-(intOf kv).toNat)
  case atStart=>exact⟨0,_,QqM _,rfl,rfl,by show _=_;rw[ar.out],S.out⟩
  case round=>
   clear S;obtain⟨k,t,hk,rfl,rfl,HT,HB⟩:=hrel;by_cases a4:k<m
   ·have a5:(k:Int)<(m:Int):=O;have a6:(0:Int)<=(k:Int):=QkD _;have a7:IntKind.i64.wrap (fr+(k:Int))=fr+(k:Int):=by rw[QqN];omega
    have S2:=Q7h (HK.out _ HB.out);have az:=Q7h (HK.out _ HB.out.drew);obtain⟨d,hd⟩:∃d,dOf x (fr+(k:Int))=d:=⟨_,rfl⟩;have a8:t.size<=800:=by have:=ao.out k;rw[HT.out];omega
    have a9:d.size<=100:=by rw[<-hd];exact ap.out _
    have aL:¬9223372036854775807<t.size+d.size:=O;have ai:Hid (∀W,Below w1 w1 W->C 99 #[.agg #[I y0,I y1,.slice A' sl c'],I (fr+(k:Int))] W λe w'=>e=ρ (.string d)/\Below w1 w1 w'):=λW hb=>by rw[<-hd];exact av.out W _ hb
    have aF:Hid (t++d=Gv x fr (k+1)):=by show _=_;rw[aq.out,<-HT.out,hd]
    have B:m-(intOf (I ((k:Int)+1))).toNat<m-(intOf (I (k:Int))).toNat:=by simp[intOf];omega
    clear hd;go_wp2_with fail
    go_region_held3 (λw'=>(w' ⟨w.heap.size,0,none⟩=I cap/\w' ⟨w.heap.size,1,none⟩=some (.slice (some ⟨g,o,none⟩) n c))/\(w' ⟨g,o+i*3,none⟩=I y0/\w' ⟨g,o+i*3+1,none⟩=I y1/\w' ⟨g,o+i*3+2,none⟩=some (.slice A' sl c'))) (first|with_reducible exact S2.out|with_reducible exact az.out|with_reducible exact S5.out|with_reducible exact S6.out) (first|(go_at_call 168;refine(au.out _ HB.out.drew).mono ?_;rintro e w5 ⟨rfl,aa⟩;have aH:=Q7h aa;have S5:=Q7h (HK.out _ aa);clear aa)|(go_at_call 99;refine(ai.out _ aH.out).mono ?_;rintro e w6 ⟨rfl,ab⟩;have aK:=Q7h ab;have S6:=Q7h (HK.out _ ab);clear ab))
    go_wp2_with fail
    go_roundw
    case rel=>exact⟨k+1,t++d,O,by go_num,rfl,aF.out,aK.out⟩
    case measure=>exact B
   ·obtain rfl:k=m:=O;go_wp2_with fail
    refine QqG (v:=τ #[.string t,I 0]) (by simp[results,Tryz.results97,go_sem]) rfl ⟨by rw[HT.out],f.out.trans (HB.out.mono f.out.size)⟩
 ·have L:Im ⟨cap,l⟩ id fr p=(⟨#[]⟩,wi):=by unfold Im;rw[b,QqH (by show Qm l id fr p may≠0;rw[j];exact N)];simp only[j]
  rw[L];have ba:(wi==0)=false:=by simpa using N
  have aj:Hid (C 173 #[.agg #[I cap,.slice A n c],I id,I fr,I p,.bool (decide (p<=8))] w1 λe w'=>e=ρ (I wi)/\Below w1 w1 w'):=by rw[b];exact u.out
  clear L j hz H b;go_enter Tryz.func97,Tryz.ntmps97
  go_wp2_with fail
  refine aj.out.mono ?_;rintro e w2 ⟨rfl,M⟩;have S:=Q7h (f.out.trans (M.mono f.out.size));clear M;go_wp2_with fail
  refine QqG (v:=τ #[.string ⟨#[]⟩,I wi]) (by simp[results,Tryz.results97,go_sem]) rfl ⟨rfl,S.out⟩
theorem L6:(Tryz.prog.info? 9).map (λi=>(i.zero,i.size,i.bytes))=some (some (.string ⟨#[]⟩),1,16):=J
theorem Qx5(x:Spc)(a b:Int):0<=dIn x a b/\dIn x a b<=x.s.length:=by
 have:(Ou x a b).s.length<=x.s.length:=QkE _ _;unfold dIn;omega
theorem Wl{w:World}{B n:Nat}{v:Value}{d:List ByteArray}(h:w.ownsRow B 9 1 v n (d.map Value.string))(a:d.length=n)(f:n<=1000):StrsAt w v d:=by
 obtain⟨A,c,rfl⟩:=Qk h;refine⟨A,c,by rw[a],O,λi=>?_⟩;obtain⟨g,rfl,_,_,_,b,_⟩:=Qx h O;refine⟨g,0,rfl,λj t e=>?_⟩;have:=b j (.string t) (by rw[QzF,e];rfl);simpa using this
def Ey(r:Dv)(id fr n:Int):Dv×Int:=
 if Qm r.l id fr n true≠0 then(r,Qm r.l id fr n true)else
 if Ug r<n-dIn (Vx r.l id) fr (fr+n)then(r,71)else({r with l:=Z9 r.l (Ic (Vx r.l id) fr (List.replicate n.toNat Zm))},0)
theorem Qs{w w':World}(h:Below w.drew.heap.size w.drew w'):Below w w w':=((QqA w.heap.size w).drew).trans h
theorem Qae(w:ν)(F:φ)(v:Value)(r:Dv)(id fr nn:Int)(h:DvAt w F v r)(h9:r.l.length<=1000)(hz:∀x∈r.l,0<=x.size/\x.size<=16777216)(aF:∀x∈r.l,x.s.length<=500)(aS:0<=r.cap/\r.cap<=1000000000)(b0:Ug r<=500):
  C 95 #[v,I id,I fr,I nn] w (OpD w F (Ey r id fr nn)):=by
 have HD:=Q7h h;have HF:=Q7h h.lt;obtain⟨cw,rfl,bh⟩:=h.row;have ai:=Q7h bh;obtain⟨A,c,rfl,hl,ad⟩:=bh;obtain⟨cap,l⟩:=r;simp only at hl h9 ad hz aF aS ai ⊢;obtain⟨n,hn⟩:=Zx l.length;simp only[hn]at hl h9 HD ai ⊢;have HN:=Q7h hn;have b1:=Q7h ad;obtain⟨w1,cx,hB,V,a,bi⟩:=stage w cap A n c;have b:=Q7h hB;have ae:=Q7h a;have bj:=Q7h bi;have bl:=Q7h V;have z0:w1 (w,0)=I cap:=V.cell 0;have z1:w1 (w,1)=some (.slice A n c):=V.cell 1;have bm:=Q7h (Q77 w1 F _ ⟨cap,l⟩ id fr nn true (HD.o.below hB) hz);obtain⟨wi,X⟩:=Zx (Qm l id fr nn true);have aj:Hid (C 173 #[.agg #[I cap,.slice A n c],I id,I fr,I nn,.bool true] w1 λe w'=>e=ρ (I wi)/\Below w1 w1 w'):=by rw[<-X];exact bm.o
 clear h hn ad hB V a bi bm;by_cases aH:wi=0
 ·rw[aH]at X aj;obtain⟨i,x,a4,aK,ak,_,cy,b2,cz,cF⟩:=Kj X;have b3:=hz x (QqL aK);have bn:=QqL aK;have aL:x.s.length<=1000:=QqR (aF x bn) D;have b4:=aF x bn;obtain⟨m,rfl⟩:∃m:Nat,nn=(m:Int):=⟨nn.toNat,O⟩;have al:Ey ⟨cap,l⟩ id fr m=if Ug ⟨cap,l⟩<m-dIn x fr (fr+m)then(⟨cap,l⟩,71)else(⟨cap,Z9 l (Ic x fr (List.replicate m Zm))⟩,0):=by unfold Ey;rw[QqE (by show ¬Qm l id fr m true≠0;rw[X];simp)];simp only[ak,QyD]
  rw[al];have hi:=Yw a4;have cH:i<n:=by rw[<-HN.o];exact hi
  have cK:(i:Int)<(n:Int):=O;have a5:(0:Int)<=(i:Int):=QkD _;have cL:IntKind.i64.wrap (i:Int)=(i:Int):=by rw[QqN];omega
  have cM:IntKind.i64.wrap (fr+m)=fr+m:=by rw[QqN];omega
  have HI:Hid (Ky l id=(i:Int)):=by show _=_;unfold Ky;rw[a4]
  obtain⟨g,o,rfl,b5,ad⟩:=b1.o (by have:=HN.o;omega);obtain⟨sv,a1,a2,a3,bo⟩:=ad i x aK;have a6:=Q7h bo;obtain⟨Z,c',rfl,bp,_⟩:=bo;obtain⟨sl,aT⟩:=Zx x.s.length;obtain⟨H,am⟩:=Zx x.id;obtain⟨K,an⟩:=Zx x.size;rw[aT]at a3 a6;rw[am]at a1;rw[an]at a2;have HK:Hid (∀W,Below w1 w1 W->(W (w,0)=I cap/\W (w,1)=some (.slice (some (g,o)) n c))/\(W (g,o+i*3)=I H/\W (g,o+i*3+1)=I K/\W (g,o+i*3+2)=some (.slice Z sl c'))):=λW hb=>⟨⟨Qq hb z0,Qq hb z1⟩,Qq hb (Qq b.o a1),Qq hb (Qq b.o a2),Qq hb (Qq b.o a3)⟩;have a7:Hid (∀W,Below w1 w1 W->C 168 #[.agg #[I cap,.slice (some (g,o)) n c],I id] W λe w'=>e=ρ (I (i:Int))/\Below W W w'):=by
   intro W hb;refine(Xg W F _ ⟨cap,l⟩ id ((HD.o.below b.o).below hb)).mono ?_;rintro e w' ⟨rfl,h2⟩;exact⟨by rw[HI.o],h2⟩
  obtain⟨qi,aM⟩:=Zx (dIn x fr (fr+m));obtain⟨ql,aN⟩:=Zx (Ug ⟨cap,l⟩);have b6:=Qx5 x fr (fr+m);rw[aM]at b6;have bq:Hid (∀W,Below w1 w1 W->C 174 #[.agg #[I H,I K,.slice Z sl c'],I fr,I (fr+m)] W λe w'=>e=ρ (I qi)/\Below W W w'):=by
   intro W hb;have N:Below w w W:=b.o.trans (hb.mono b.o.size);have q:=Yv W F (.slice Z sl c') x fr (fr+m) (a6.o.below N) (λk hk=>QzB (HF.o k hk) N.size);rw[am,an,aM]at q;refine q.mono ?_;rintro e w' ⟨rfl,a8⟩;exact⟨rfl,a8⟩
  obtain⟨S,hS⟩:=Zx ((Ic x fr (List.replicate m Zm)).s);have br:Ic x fr (List.replicate m Zm)=⟨H,K,S⟩:=by rw[<-hS,<-am,<-an];rfl
  have b7:Hid (∀W j c3,Below w w W->StrsAt W (.slice j m c3) (List.replicate m Zm)->C 175 #[.agg #[I H,I K,.slice Z sl c'],I fr,.slice j m c3] W λe w'=>∃a9,e=ρ (.agg #[I H,I K,a9])/\SecsAt w' (gr F W w') a9 S/\Below W W w'):=by
   intro W j c3 N ba;have q:=Qq0 W F (.slice Z sl c') _ x fr _ (a6.o.below N) (λk hk=>QzB (HF.o k hk) N.size) ba ⟨b2,O⟩ aL;rw[am,an,hS]at q;exact q
  have b8:Hid (∀W j n3 c3,Below w1 w1 W->SecsAt W (gr F w1 W) (.slice j n3 c3) S->C 169 #[.agg #[I cap,.slice (some (g,o)) n c],.agg #[I H,I K,.slice j n3 c3]] W λe w'=>∃Q n6 T,e=ρ (.agg #[I cap,.slice Q n6 T])/\SpcsAt w' (gr F w1 w') (.slice Q n6 T) (Z9 l ⟨H,K,S⟩)/\Below W W w'):=by
   intro W j n3 c3 hb hs;have N:Below w w W:=b.o.trans (hb.mono b.o.size);have b9:DvAt W (gr F w1 W) (.agg #[I cap,.slice (some (g,o)) n c]) ⟨cap,l⟩:=⟨⟨_,rfl,(ai.o.below N).mono Ak⟩,Tn (λk hk=>QzB (HF.o k hk) b.o.size) hb.size⟩;refine(Gq W (gr F w1 W) _ ⟨cap,l⟩ ⟨H,K,S⟩ (.slice j n3 c3) b9 hs (by rw[HN.o];exact h9)).mono ?_;rintro e w' ⟨lv,rfl,h1,h2⟩;obtain⟨Q,T,rfl,k1,k2⟩:=h1;exact⟨Q,_,T,rfl,SpcsAt.mono ⟨Q,T,rfl,k1,k2⟩ (Qjt hb.size h2.size),h2⟩
  have bs:Hid (∀W,Below w1 w1 W->C 98 #[.agg #[I cap,.slice (some (g,o)) n c]] W λe w'=>e=ρ (I ql)/\Below W W w'):=by
   intro W hb;refine(Bp W F _ ⟨cap,l⟩ ((HD.o.below b.o).below hb) aS).mono ?_;rintro e w' ⟨rfl,h2⟩;exact⟨by rw[aN],h2⟩
  rw[aM,aN,br];obtain⟨R,hR⟩:=Zx (if ql<(m:Int)-qi then((⟨cap,l⟩:Dv),(71:Int))else(⟨cap,Z9 l ⟨H,K,S⟩⟩,0));rw[hR];have HR:=Q7h hR;clear hR;have ca:(m:Int)<=16777216:=O;have cb:ql+qi<=1000:=by have h1:Ug ⟨cap,l⟩<=500:=b0;rw[aN]at h1;omega
  have cv:IntKind.i64.wrap ((m:Int)-qi)=(m:Int)-qi:=by rw[QqN];omega
  clear X aH a4 aK ak b3 al hi ad a1 a2 a3 aF bp aT am an b5 hz aM aN hS br;go_in
  go_wp2_with fail
  refine aj.o.mono ?_;rintro e w2 ⟨rfl,t⟩;have y:Below w1 w1 (w2.alloc (.cells #[I 0,I 0,.slice none 0 0] 155)):=t.alloc t.size _;have bc:=Whole.new w2 155 #[I 0,I 0,.slice none 0 0];have aV:=t.size;have ac:=Q7h aV;have af:=Q7h t;obtain⟨wa,bt⟩:=Zx (w2.alloc (.cells #[I 0,I 0,.slice none 0 0] 155));rw[bt]at y bc;have ag:=Q7h y;have ao:=Q7h bc;have S2:=Q7h (HK.o _ t);have bu:=Q7h (HK.o _ t.drew);have SA:=Q7h (HK.o _ y);have bv:=Q7h (HK.o _ y.drew);clear t z0 z1 y bc aV;have bw:Hid (∀w5,Below wa.drew.heap.size wa.drew w5->Below w1 w1 w5/\Whole w5 w2.heap.size 155 #[I 0,I 0,.slice none 0 0]/\Below w1 w1 (((w5.setCell (w2,0) (I H)).setCell (w2,1) (I K)).setCell (w2,2) (.slice Z sl c'))):=by
   intro w5 z;have aW:=Qs z;have aX:=ag.o.trans (aW.mono ag.o.size);exact⟨aX,ao.o.below aW ao.o.lt,((aX.setCell (p:=(w2,0)) ac.o _).setCell (p:=(w2,1)) ac.o _).setCell (p:=(w2,2)) ac.o _⟩
  have bz:Hid (∀Y,Below w2.drew.heap.size w2.drew Y->Below w1 w1 Y/\∀o',Below w1 w1 (Y.alloc o')):=by
   intro Y L;have ap:=af.o.trans ((Qs L).mono af.o.size);exact⟨ap,λo'=>ap.alloc ap.size o'⟩
  go_upto_region 4 with fail
  go_cut [11]from 23 to 29 (λxv wx=>∃M,xv= (M,0)/\Hid (Whole wx M 155 #[I H,I K,.slice Z sl c']/\Below w1 w1 wx/\w1.heap.size<=M))
  case first=>
   go_region_held3 (λw'=>(w' (w,0)=I cap/\w' (w,1)=some (.slice (some (g,o)) n c))/\(w' (g,o+i*3)=I H/\w' (g,o+i*3+1)=I K/\w' (g,o+i*3+2)=some (.slice Z sl c'))) (first|with_reducible exact S2.o|with_reducible exact bu.o|with_reducible exact SA.o|with_reducible exact bv.o|with_reducible exact S5.o|with_reducible exact cc.o|with_reducible exact S7.o|with_reducible exact cd.o _|with_reducible exact S7b.o) (first|(go_at_call 168;refine(a7.o _ ag.o.drew).mono ?_;rintro e w5 ⟨rfl,z⟩;have hq:=bw.o w5 z;have aQ:=Q7h hq.1;have S5:=Q7h (HK.o w5 hq.1);have ce:=Q7h hq.2.1;have p0:=hq.2.1.cell 0;have p1:=hq.2.1.cell 1;have p2:=hq.2.1.cell 2;simp at p0 p1 p2;have q0:=hq.2.1.fz 0;have q1:=hq.2.1.fz 1;have q2:=hq.2.1.fz 2;have cc:=Q7h (HK.o _ hq.2.2);have ah:=Q7h hq.2.2;clear z hq)|(go_at_call 168;refine(a7.o _ af.o.drew).mono ?_;rintro e Y ⟨rfl,L⟩;have hq:=bz.o Y L;have aq:=Q7h hq.1;have S7:=Q7h (HK.o Y hq.1);have cd:=Q7h (λo'=>HK.o (Y.alloc o') (hq.2 o'));clear L hq))
   all_goals go_wp2_with fail
   all_goals go_meet
   all_goals first
    |exact⟨w2.heap.size,rfl,by simpa using((ce.o.set 0 (I H)).set 1 (I K)).set 2 (.slice Z sl c'),ah.o,ac.o⟩
    |exact⟨Y.heap.size,rfl,Whole.new _ _ _,aq.o.alloc aq.o.size _,aq.o.size⟩
  case rest=>
  obtain⟨M,rfl,ar⟩:=hcut;have f:Hid (∀W,Below wc wc W->((W (w,0)=I cap/\W (w,1)=some (.slice (some (g,o)) n c))/\(W (M,0)=I H/\W (M,1)=I K/\W (M,2)=some (.slice Z sl c')))/\Below w1 w1 W):=by
   intro W hb;have au:=ar.o.2.1.trans (hb.mono ar.o.2.1.size);have hx:=ar.o.1.below hb ar.o.1.lt;exact⟨⟨(HK.o W au).1,hx.cell 0,hx.cell 1,hx.cell 2⟩,au⟩
  have T0:=Q7h (f.o _ B0).1;have av:=Q7h (f.o _ B0.drew).1;have aY:Hid (∀W,Below wc wc W->C 174 #[.agg #[I H,I K,.slice Z sl c'],I fr,I (fr+m)] W λe w'=>e=ρ (I qi)/\Below wc wc w'):=λW hb=>(bq.o W (f.o W hb).2).mono (by rintro e w' ⟨rfl,h⟩;exact⟨rfl,hb.trans (h.mono hb.size)⟩);have aZ:Hid (∀W,Below wc wc W->C 98 #[.agg #[I cap,.slice (some (g,o)) n c]] W λe w'=>e=ρ (I ql)/\Below wc wc w'):=λW hb=>(bs.o W (f.o W hb).2).mono (by rintro e w' ⟨rfl,h⟩;exact⟨rfl,hb.trans (h.mono hb.size)⟩);clear bq bs a7 S2 bu SA bv ag ao bw bz bt;by_cases be:ql<(m:Int)-qi
  ·go_wp2_with fail
   go_region_held3 (λw'=>(w' (w,0)=I cap/\w' (w,1)=some (.slice (some (g,o)) n c))/\(w' (M,0)=I H/\w' (M,1)=I K/\w' (M,2)=some (.slice Z sl c'))) (first|with_reducible exact T0.o|with_reducible exact av.o|with_reducible exact T5.o|with_reducible exact T6.o) (first|(go_at_call 174;refine(aY.o _ B0.drew).mono ?_;rintro e w5 ⟨rfl,z⟩;have aQ:=Q7h z;have T5:=Q7h (f.o _ z).1;clear z)|(go_at_call 98;refine(aZ.o _ aQ.o).mono ?_;rintro e w6 ⟨rfl,aa⟩;have ah:=Q7h aa;have T6:=Q7h (f.o _ aa).1;clear aa))
   obtain⟨⟨z0,z1⟩,_⟩:=T6.o;have aw:=(f.o _ ah.o).2;have a:=ae.o.below aw ae.o.lt;have cf:=Q7h a;have aA:=Q7h (b.o.trans (aw.mono b.o.size));have o0:w6 (w,1,0)=I 0:=a.cell 0;have o1:w6 (w,1,1)=some (.slice none 0 0):=a.cell 1;have e0:=a.fz 0;have e1:=a.fz 1;clear aw a;go_wp2_with fail
   obtain⟨⟨r0,r1⟩,ax,ay⟩:=fine aA.o cf.o (I cap) (.slice (some (g,o)) n c);refine QqG (v:=τ #[.agg #[I cap,.slice (some (g,o)) n c],I 71]) (by simp[results,Tryz.results95,go_sem,r0,r1]) rfl ?_;have hR:=HR.o;rw[QqH be]at hR;subst hR;exact⟨_,rfl,Kb ai.o HF.o aA.o ay,ax⟩
  ·have ca:(m:Int)<=1000:=O;have bF:Hid (∀W j c3,Below wc wc W->StrsAt W (.slice j m c3) (List.replicate m Zm)->C 175 #[.agg #[I H,I K,.slice Z sl c'],I fr,.slice j m c3] W λe w'=>∃j n3 c3,e=ρ (.agg #[I H,I K,.slice j n3 c3])/\SecsAt w' (gr F w1 w') (.slice j n3 c3) S/\Below wc wc w'):=by
    intro W j c3 hb ba;have au:=(f.o W hb).2;have N:Below w w W:=b.o.trans (au.mono b.o.size);refine(b7.o W j c3 N ba).mono ?_;rintro e w' ⟨a9,rfl,cg,a8⟩;obtain⟨j,c3,rfl,k1,k2⟩:=cg;refine⟨j,_,c3,rfl,SecsAt.mono ⟨j,c3,rfl,k1,k2⟩ ?_,hb.trans (a8.mono hb.size)⟩;rintro k (hk|⟨hk,ch⟩)
    ·exact .inl hk
    ·exact .inr ⟨QqR au.size hk,ch⟩
   go_wp2_with fail
   go_region_held3 (λw'=>(w' (w,0)=I cap/\w' (w,1)=some (.slice (some (g,o)) n c))/\(w' (M,0)=I H/\w' (M,1)=I K/\w' (M,2)=some (.slice Z sl c'))) (first|with_reducible exact T0.o|with_reducible exact av.o|with_reducible exact T5.o|with_reducible exact T6.o) (first|(go_at_call 174;refine(aY.o _ B0.drew).mono ?_;rintro e w5 ⟨rfl,z⟩;have aQ:=Q7h z;have T5:=Q7h (f.o _ z).1;clear z)|(go_at_call 98;refine(aZ.o _ aQ.o).mono ?_;rintro e w6 ⟨rfl,aa⟩;have ah:=Q7h aa;have T6:=Q7h (f.o _ aa).1;clear aa))
   obtain⟨i0,a5,bH,bK,bL⟩:=QzX L6;have ci:=Q7h a5;have cj:=Q7h bH;have ck:=Q7h bK;have cl:=Q7h bL;clear a5 bH bK bL T0 av T5;go_wp2_with fail
   go_loopw [12,13] (λov kv wr=>∃(k:Nat) (B:Option Addr) (d:Nat),k<=m/\kv= I k/\ov= .slice B k d/\Hid (wr.ownsRow w6.heap.size 9 1 (.slice B k d) k ((List.replicate k Zm).map Value.string))/\Hid (Below w6 w6 wr)) (λ_ kv _=>m-(intOf kv).toNat)
   case atStart=>exact⟨0,none,0,QqM _,rfl,rfl,⟨rfl,.inl ⟨rfl,rfl⟩⟩,QqA _ _⟩
   case round=>
    obtain⟨k,B,d,hk,rfl,rfl,HO,HB⟩:=hrel;by_cases cN:k<m
    ·have cQ:(k:Int)<(m:Int):=O;have bM:=Q7h (Qjk wr);obtain⟨bb,az⟩:=Zx Zm;rw[az]at bM HO bF;rw[az];have bf:m-(intOf (I ((k:Int)+1))).toNat<m-(intOf (I (k:Int))).toNat:=by simp[intOf];omega
     go_wp2_with fail
     refine bM.o.mono ?_;rintro e Y ⟨rfl,L⟩;have aB:w6.heap.size<=Y.heap.size:=QqR HB.o.size L.size;have cm:=Q7h ((own_below HO.o L).alloc (.cells #[.string bb] 9));have aq:Hid (Below w6 w6 Y):=HB.o.trans (L.mono HB.o.size);have bN:=Q7h (own_below HO.o L);have cn:Hid (∀(j':Nat) (u:Value),([.string bb]:List Value)[j']? =some u->(Y.alloc (.cells #[.string bb] 9)) (((Y,0):Addr).add j')=some u):=World.news_of_block (by simpa using QzY Y (.cells #[.string bb] 9));have bQ:Hid (∀u∈([.string bb]:List Value),u.oneCell'=true):=by show ∀u∈_,_;simp[Value.oneCell']
     have bR:Hid (w6.heap.size<=(Y.alloc (.cells #[.string bb] 9)).heap.size):=by show _<=_;simp only[QqW];omega
     have bS:=Q7h aB;clear L aB;go_wp2_with (at_builtin;go_must (refine QkW _ rfl (.tmp 47) (.tmp 49) 190 rfl w6.heap.size 9 i0 _ 1 16 Tryz.underlying190 ci.o cj.o ck.o cl.o rfl O (.slice B k d) k ((List.replicate k bb).map Value.string) rfl cm.o (Y,0) 1 1 [.string bb] rfl rfl cn.o bQ.o (by simp only[maxLen];omega) O bR.o ?_;intro v2 w8 ab bT _;have co:=Q7h ab;have cp:=Q7h (Qy bN.o bT bS.o);obtain⟨A2,cq,e2⟩:=Qk ab;subst e2;clear ab bT))
     refine⟨⟨k+1,A2,cq,O,?_,rfl,?_,aq.o.trans cp.o⟩,bf⟩
     ·go_num
     ·rw[List.replicate_succ',QqY,QzE,QjE];with_reducible exact co
    ·obtain rfl:k=m:=O;have aR:Below wc wc wr:=ah.o.trans (HB.o.mono ah.o.size);have cr:=Q7h (Wl HO.o U O);have T0:=Q7h (f.o _ aR).1;have av:=Q7h (f.o _ aR.drew).1;have a0:=aR.drew;have bV:=Q7h (cr.o.below ((QqA wr wr).drew));have bW:=Q7h a0;clear aR a0;have bY:Hid (∀W j n3 c3,Below wc wc W->SecsAt W (gr F w1 W) (.slice j n3 c3) S->C 169 #[.agg #[I cap,.slice (some (g,o)) n c],.agg #[I H,I K,.slice j n3 c3]] W λe w'=>∃Q n6 T,e=ρ (.agg #[I cap,.slice Q n6 T])/\SpcsAt w' (gr F w1 w') (.slice Q n6 T) (Z9 l ⟨H,K,S⟩)/\Below wc wc w'/\(((w'.setCell (w,1,0) (I cap)).setCell (w,1,1) (.slice Q n6 T)) (w,0)=I cap/\((w'.setCell (w,1,0) (I cap)).setCell (w,1,1) (.slice Q n6 T)) (w,1)=some (.slice (some (g,o)) n c))/\(((w'.setCell (w,1,0) (I cap)).setCell (w,1,1) (.slice Q n6 T)) (M,0)=I H/\((w'.setCell (w,1,0) (I cap)).setCell (w,1,1) (.slice Q n6 T)) (M,1)=I K/\((w'.setCell (w,1,0) (I cap)).setCell (w,1,1) (.slice Q n6 T)) (M,2)=some (.slice Z sl c'))):=by
      intro W j n3 c3 hb hs;refine(b8.o W j n3 c3 (f.o W hb).2 hs).mono ?_;rintro e w' ⟨Q,n6,T,rfl,h1,h2⟩;have az:=hb.trans (h2.mono hb.size);obtain⟨⟨k0,k1⟩,k2,k3,k4⟩:=(f.o w' az).1;have hk:Keep (λk=>k=w.heap.size+1) w' ((w'.setCell (w,1,0) (I cap)).setCell (w,1,1) (.slice Q n6 T)):=((Keep.refl (λk=>k=w.heap.size+1) w').setCell (p:=(w,1,0)) (.inl rfl) _).setCell (p:=(w,1,1)) (.inl rfl) _;have n0:¬w.heap.size=w.heap.size+1:=O;have n1:¬M=w.heap.size+1:=by have:=ar.o.2.2;have:=bj.o;omega
      exact⟨Q,n6,T,rfl,h1,az,⟨hk.cell k0 n0,hk.cell k1 n0⟩,hk.cell k2 n1,hk.cell k3 n1,hk.cell k4 n1⟩
     go_wp2_with fail
     go_region_held3 (λw'=>(w' (w,0)=I cap/\w' (w,1)=some (.slice (some (g,o)) n c))/\(w' (M,0)=I H/\w' (M,1)=I K/\w' (M,2)=some (.slice Z sl c'))) (first|with_reducible exact T0.o|with_reducible exact av.o|with_reducible exact T9.o|with_reducible exact TA.o|with_reducible exact TS.o) (first|(go_at_call 175;refine(bF.o _ _ _ bW.o bV.o).mono ?_;rintro e w9 ⟨j,n3,c3,rfl,bZ,bg⟩;have cs:=Q7h bg;have T9:=Q7h (f.o _ bg).1;have ct:=Q7h bZ;clear bg bZ)|(go_at_call 169;refine(bY.o _ _ _ _ cs.o ct.o).mono ?_;rintro e wa ⟨Q,n6,T,rfl,ak,y,bA⟩;have TA:=Q7h (f.o _ y).1;have y:=(f.o _ y).2;have ag:=Q7h y;have cu:=Q7h ak;have TS:=Q7h bA;have a:=ae.o.below y ae.o.lt;have ao:=Q7h a;have o0:wa (w,1,0)=I 0:=a.cell 0;have o1:wa (w,1,1)=some (.slice none 0 0):=a.cell 1;have e0:=a.fz 0;have e1:=a.fz 1;clear y ak a bA))
     go_wp2_with fail
     obtain⟨⟨r0,r1⟩,ax,ay⟩:=fine (b.o.trans (ag.o.mono b.o.size)) ao.o (I cap) (.slice Q n6 T);refine QqG (v:=τ #[.agg #[I cap,.slice Q n6 T],I 0]) (by simp[results,Tryz.results95,go_sem,r0,r1]) rfl ?_;have hR:=HR.o;rw[QqE O]at hR;subst hR;exact⟨_,rfl,Ux cu.o HF.o bj.o ay,ax⟩
 ·have al:Ey ⟨cap,l⟩ id fr nn=(⟨cap,l⟩,wi):=by unfold Ey;rw[QqH (by show Qm l id fr nn true≠0;rw[X];exact aH)];simp only[X]
  rw[al];have cR:(wi==0)=false:=by simpa using aH
  clear al X hz;go_in
  go_wp2_with fail
  refine aj.o.mono ?_;rintro e w2 ⟨rfl,t⟩;have V:=bl.o.below t bl.o.lt;have a:=ae.o.below t ae.o.lt;have af:=Q7h (b.o.trans (t.mono b.o.size));have bB:=Q7h a;have z0:w2 (w,0)=I cap:=V.cell 0;have z1:w2 (w,1)=some (.slice A n c):=V.cell 1;have o0:w2 (w,1,0)=I 0:=a.cell 0;have o1:w2 (w,1,1)=some (.slice none 0 0):=a.cell 1;have e0:=a.fz 0;have e1:=a.fz 1;clear V a t;go_wp2_with fail
  obtain⟨⟨r0,r1⟩,ax,ay⟩:=fine af.o bB.o (I cap) (.slice A n c);refine QqG (v:=τ #[.agg #[I cap,.slice A n c],I wi]) (by simp[results,Tryz.results95,go_sem,r0,r1]) rfl ⟨_,rfl,Kb ai.o HF.o af.o ay,ax⟩
def slc(t:ByteArray)(i:Nat):ByteArray:=t.extract (32*i) (32*i+32)
def Iu(t:ByteArray)(m:Nat):List ByteArray:=(List.range m).map (slc t)
theorem Wt(t:ByteArray)(m:Nat):(Iu t m).length=m:=by simp[Iu]
def Cj(t:ByteArray):Bool:=decide (t.size/32*32=t.size)&&decide (t.size/32<=8)
def Uz(r:Dv)(id fr:Int)(t:ByteArray):Dv×Int:=
 if Qm r.l id fr (t.size/32:Nat) (Cj t)≠0 then(r,Qm r.l id fr (t.size/32:Nat) (Cj t))else
 if Ug r<(t.size/32:Nat)-dIn (Vx r.l id) fr (fr+(t.size/32:Nat))then(r,71)else({r with l:=Z9 r.l (Ic (Vx r.l id) fr (Iu t (t.size/32)))},0)
theorem Qgp(w:ν)(F:φ)(v:Value)(r:Dv)(id fr:Int)(t:β)(h:DvAt w F v r)(h9:r.l.length<=1000)(hz:∀x∈r.l,0<=x.size/\x.size<=16777216)(a0:∀x∈r.l,x.s.length<=1000)(aR:0<=r.cap/\r.cap<=1000000000)(ht:t.size<=1000):
  C 94 #[v,I id,I fr,.string t] w (OpD w F (Uz r id fr t)):=by
 have HD:=Q7h h;have HF:=Q7h h.lt;obtain⟨cv,rfl,bl⟩:=h.row;have ah:=Q7h bl;obtain⟨A,c,rfl,hl,ai⟩:=bl;obtain⟨cap,l⟩:=r;simp only at hl h9 ai hz a0 aR ah ⊢;obtain⟨n,hn⟩:=Zx l.length;simp only[hn]at hl h9 HD ah ⊢;have HN:=Q7h hn;have bB:=Q7h ai;obtain⟨w1,cw,hB,y,a,bm⟩:=stage w cap A n c;have b:=Q7h hB;have Z:=Q7h a;have bn:=Q7h bm;have ay:=Q7h y;have z0:w1 (w,0)=I cap:=y.cell 0;have z1:w1 (w,1)=some (.slice A n c):=y.cell 1;obtain⟨m,hm⟩:∃m:Nat,t.size/32=m:=⟨_,rfl⟩;obtain⟨may,aa⟩:=Zx (Cj t);have bo:=Q7h (Q77 w1 F _ ⟨cap,l⟩ id fr m may (HD.o.below hB) hz);obtain⟨wi,ab⟩:=Zx (Qm l id fr m may);have L:Hid (C 173 #[.agg #[I cap,.slice A n c],I id,I fr,I m,.bool may] w1 λe w'=>e=ρ (I wi)/\Below w1 w1 w'):=by rw[<-ab];exact bo.o
 clear h hn ai hB y a bm bo;by_cases az:wi=0
 ·rw[az]at ab L;obtain⟨i,x,a4,aF,al,bp,cx,b0,cy,cz⟩:=Kj ab;have b1:=hz x (QqL aF);have b2:=QqL aF;have aH:=a0 x b2;have aK:=aa.trans bp;unfold Cj at aK;rw[hm]at aK;simp only[QzC,QzD]at aK;obtain⟨cF,cH⟩:=aK;rw[bp]at L;have a5:(t.size:Int)/32=(m:Int):=O;have b3:decide ((m:Int)<=8)=true:=QxA O;have b4:(m:Int)<=1000:=O;have am:Uz ⟨cap,l⟩ id fr t=if Ug ⟨cap,l⟩<m-dIn x fr (fr+m)then(⟨cap,l⟩,71)else(⟨cap,Z9 l (Ic x fr (Iu t m))⟩,0):=by unfold Uz;rw[hm,aa,QqE (by show ¬Qm l id fr m may≠0;rw[ab];simp)];simp only[al]
  rw[am];have hi:=Yw a4;have cK:i<n:=by rw[<-HN.o];exact hi
  have cL:(i:Int)<(n:Int):=O;have a6:(0:Int)<=(i:Int):=QkD _;have cM:IntKind.i64.wrap (i:Int)=(i:Int):=by rw[QqN];omega
  have cN:IntKind.i64.wrap (fr+m)=fr+m:=by rw[QqN];omega
  have HI:Hid (Ky l id=(i:Int)):=by show _=_;unfold Ky;rw[a4]
  obtain⟨g,o,rfl,b5,ai⟩:=bB.o (by have:=HN.o;omega);obtain⟨sv,a1,a2,a3,bq⟩:=ai i x aF;have a7:=Q7h bq;obtain⟨A',c',rfl,br,_⟩:=bq;obtain⟨sl,aS⟩:=Zx x.s.length;obtain⟨M,an⟩:=Zx x.id;obtain⟨N,ao⟩:=Zx x.size;rw[aS]at a3 a7;rw[an]at a1;rw[ao]at a2;have HK:Hid (∀W,Below w1 w1 W->(W (w,0)=I cap/\W (w,1)=some (.slice (some (g,o)) n c))/\(W (g,o+i*3)=I M/\W (g,o+i*3+1)=I N/\W (g,o+i*3+2)=some (.slice A' sl c'))):=λW hb=>⟨⟨Qq hb z0,Qq hb z1⟩,Qq hb (Qq b.o a1),Qq hb (Qq b.o a2),Qq hb (Qq b.o a3)⟩;have a8:Hid (∀W,Below w1 w1 W->C 168 #[.agg #[I cap,.slice (some (g,o)) n c],I id] W λe w'=>e=ρ (I (i:Int))/\Below W W w'):=by
   intro W hb;refine(Xg W F _ ⟨cap,l⟩ id ((HD.o.below b.o).below hb)).mono ?_;rintro e w' ⟨rfl,h2⟩;exact⟨by rw[HI.o],h2⟩
  obtain⟨qi,aL⟩:=Zx (dIn x fr (fr+m));obtain⟨ql,a9⟩:=Zx (Ug ⟨cap,l⟩);have b6:=Qx5 x fr (fr+m);rw[aL]at b6;have bs:Hid (∀W,Below w1 w1 W->C 174 #[.agg #[I M,I N,.slice A' sl c'],I fr,I (fr+m)] W λe w'=>e=ρ (I qi)/\Below W W w'):=by
   intro W hb;have T:Below w w W:=b.o.trans (hb.mono b.o.size);have q:=Yv W F (.slice A' sl c') x fr (fr+m) (a7.o.below T) (λk hk=>QzB (HF.o k hk) T.size);rw[an,ao,aL]at q;refine q.mono ?_;rintro e w' ⟨rfl,ba⟩;exact⟨rfl,ba⟩
  obtain⟨S,hS⟩:=Zx ((Ic x fr (Iu t m)).s);have bt:Ic x fr (Iu t m)=⟨M,N,S⟩:=by rw[<-hS,<-an,<-ao];rfl
  have b7:Hid (∀W z c3,Below w w W->StrsAt W (.slice z m c3) (Iu t m)->C 175 #[.agg #[I M,I N,.slice A' sl c'],I fr,.slice z m c3] W λe w'=>∃bb,e=ρ (.agg #[I M,I N,bb])/\SecsAt w' (gr F W w') bb S/\Below W W w'):=by
   intro W z c3 T bc;have q:=Qq0 W F (.slice A' sl c') _ x fr _ (a7.o.below T) (λk hk=>QzB (HF.o k hk) T.size) bc ⟨b0,O⟩ aH;rw[an,ao,hS]at q;exact q
  have b8:Hid (∀W z n3 c3,Below w1 w1 W->SecsAt W (gr F w1 W) (.slice z n3 c3) S->C 169 #[.agg #[I cap,.slice (some (g,o)) n c],.agg #[I M,I N,.slice z n3 c3]] W λe w'=>∃V n6 X,e=ρ (.agg #[I cap,.slice V n6 X])/\SpcsAt w' (gr F w1 w') (.slice V n6 X) (Z9 l ⟨M,N,S⟩)/\Below W W w'):=by
   intro W z n3 c3 hb hs;have T:Below w w W:=b.o.trans (hb.mono b.o.size);have a5:DvAt W (gr F w1 W) (.agg #[I cap,.slice (some (g,o)) n c]) ⟨cap,l⟩:=⟨⟨_,rfl,(ah.o.below T).mono Ak⟩,Tn (λk hk=>QzB (HF.o k hk) b.o.size) hb.size⟩;refine(Gq W (gr F w1 W) _ ⟨cap,l⟩ ⟨M,N,S⟩ (.slice z n3 c3) a5 hs (by rw[HN.o];exact h9)).mono ?_;rintro e w' ⟨lv,rfl,h1,h2⟩;obtain⟨V,X,rfl,k1,k2⟩:=h1;exact⟨V,_,X,rfl,SpcsAt.mono ⟨V,X,rfl,k1,k2⟩ (Qjt hb.size h2.size),h2⟩
  have bu:Hid (∀W,Below w1 w1 W->C 98 #[.agg #[I cap,.slice (some (g,o)) n c]] W λe w'=>e=ρ (I ql)/\Below W W w'):=by
   intro W hb;refine(Bp W F _ ⟨cap,l⟩ ((HD.o.below b.o).below hb) aR).mono ?_;rintro e w' ⟨rfl,h2⟩;exact⟨by rw[a9],h2⟩
  rw[aL,a9,bt];obtain⟨R,hR⟩:=Zx (if ql<(m:Int)-qi then((⟨cap,l⟩:Dv),(71:Int))else(⟨cap,Z9 l ⟨M,N,S⟩⟩,0));rw[hR];have HR:=Q7h hR;clear hR;have cQ:(m:Int)<=1000:=b4;have cu:IntKind.i64.wrap ((m:Int)-qi)=(m:Int)-qi:=by rw[QqN];omega
  clear ab az a4 aF al b1 am hi ai a1 a2 a3 a0 br aS an ao b5 hz aL a9 hS bt;go_in
  go_wp2_with fail
  first|refine L.o.mono ?_|(rw[b3];refine L.o.mono ?_)
  rintro e w2 ⟨rfl,f⟩;have H:Below w1 w1 (w2.alloc (.cells #[I 0,I 0,.slice none 0 0] 155)):=f.alloc f.size _;have be:=Whole.new w2 155 #[I 0,I 0,.slice none 0 0];have aT:=f.size;have ag:=Q7h aT;have Y:=Q7h f;obtain⟨wa,bv⟩:=Zx (w2.alloc (.cells #[I 0,I 0,.slice none 0 0] 155));rw[bv]at H be;have aj:=Q7h H;have ap:=Q7h be;have S2:=Q7h (HK.o _ f);have bw:=Q7h (HK.o _ f.drew);have SA:=Q7h (HK.o _ H);have bz:=Q7h (HK.o _ H.drew);clear f z0 z1 H be aT;have bF:Hid (∀w5,Below wa.drew.heap.size wa.drew w5->Below w1 w1 w5/\Whole w5 w2.heap.size 155 #[I 0,I 0,.slice none 0 0]/\Below w1 w1 (((w5.setCell (w2,0) (I M)).setCell (w2,1) (I N)).setCell (w2,2) (.slice A' sl c'))):=by
   intro w5 K;have aV:=Qs K;have aW:=aj.o.trans (aV.mono aj.o.size);exact⟨aW,ap.o.below aV ap.o.lt,((aW.setCell (p:=(w2,0)) ag.o _).setCell (p:=(w2,1)) ag.o _).setCell (p:=(w2,2)) ag.o _⟩
  have bH:Hid (∀w7,Below w2.drew.heap.size w2.drew w7->Below w1 w1 w7/\∀o',Below w1 w1 (w7.alloc o')):=by
   intro w7 aM;have aq:=Y.o.trans ((Qs aM).mono Y.o.size);exact⟨aq,λo'=>aq.alloc aq.size o'⟩
  go_upto_region 5 with fail
  go_cut [12]from 36 to 42 (λxv wx=>∃Q,xv= (Q,0)/\Hid (Whole wx Q 155 #[I M,I N,.slice A' sl c']/\Below w1 w1 wx/\w1.heap.size<=Q))
  case first=>
   go_region_held3 (λw'=>(w' (w,0)=I cap/\w' (w,1)=some (.slice (some (g,o)) n c))/\(w' (g,o+i*3)=I M/\w' (g,o+i*3+1)=I N/\w' (g,o+i*3+2)=some (.slice A' sl c'))) (first|with_reducible exact S2.o|with_reducible exact bw.o|with_reducible exact SA.o|with_reducible exact bz.o|with_reducible exact S5.o|with_reducible exact b9.o|with_reducible exact S7.o|with_reducible exact ca.o _|with_reducible exact S7b.o) (first|(go_at_call 168;refine(a8.o _ aj.o.drew).mono ?_;rintro e w5 ⟨rfl,K⟩;have hq:=bF.o w5 K;have aN:=Q7h hq.1;have S5:=Q7h (HK.o w5 hq.1);have cb:=Q7h hq.2.1;have p0:=hq.2.1.cell 0;have p1:=hq.2.1.cell 1;have p2:=hq.2.1.cell 2;simp at p0 p1 p2;have q0:=hq.2.1.fz 0;have q1:=hq.2.1.fz 1;have q2:=hq.2.1.fz 2;have b9:=Q7h (HK.o _ hq.2.2);have ak:=Q7h hq.2.2;clear K hq)|(go_at_call 168;refine(a8.o _ Y.o.drew).mono ?_;rintro e w7 ⟨rfl,aM⟩;have hq:=bH.o w7 aM;have bf:=Q7h hq.1;have S7:=Q7h (HK.o w7 hq.1);have ca:=Q7h (λo'=>HK.o (w7.alloc o') (hq.2 o'));clear aM hq))
   all_goals go_wp2_with fail
   all_goals go_meet
   all_goals first
    |exact⟨w2.heap.size,rfl,by simpa using((cb.o.set 0 (I M)).set 1 (I N)).set 2 (.slice A' sl c'),ak.o,ag.o⟩
    |exact⟨w7.heap.size,rfl,Whole.new _ _ _,bf.o.alloc bf.o.size _,bf.o.size⟩
  case rest=>
  obtain⟨Q,rfl,ar⟩:=hcut;have j:Hid (∀W,Below wc wc W->((W (w,0)=I cap/\W (w,1)=some (.slice (some (g,o)) n c))/\(W (Q,0)=I M/\W (Q,1)=I N/\W (Q,2)=some (.slice A' sl c')))/\Below w1 w1 W):=by
   intro W hb;have au:=ar.o.2.1.trans (hb.mono ar.o.2.1.size);have hx:=ar.o.1.below hb ar.o.1.lt;exact⟨⟨(HK.o W au).1,hx.cell 0,hx.cell 1,hx.cell 2⟩,au⟩
  have T0:=Q7h (j.o _ B0).1;have av:=Q7h (j.o _ B0.drew).1;have aX:Hid (∀W,Below wc wc W->C 174 #[.agg #[I M,I N,.slice A' sl c'],I fr,I (fr+m)] W λe w'=>e=ρ (I qi)/\Below wc wc w'):=λW hb=>(bs.o W (j.o W hb).2).mono (by rintro e w' ⟨rfl,h⟩;exact⟨rfl,hb.trans (h.mono hb.size)⟩);have aY:Hid (∀W,Below wc wc W->C 98 #[.agg #[I cap,.slice (some (g,o)) n c]] W λe w'=>e=ρ (I ql)/\Below wc wc w'):=λW hb=>(bu.o W (j.o W hb).2).mono (by rintro e w' ⟨rfl,h⟩;exact⟨rfl,hb.trans (h.mono hb.size)⟩);clear bs bu a8 S2 bw SA bz aj ap bF bH bv;by_cases bg:ql<(m:Int)-qi
  ·go_wp2_with fail
   go_region_held3 (λw'=>(w' (w,0)=I cap/\w' (w,1)=some (.slice (some (g,o)) n c))/\(w' (Q,0)=I M/\w' (Q,1)=I N/\w' (Q,2)=some (.slice A' sl c'))) (first|with_reducible exact T0.o|with_reducible exact av.o|with_reducible exact T5.o|with_reducible exact T6.o) (first|(go_at_call 174;refine(aX.o _ B0.drew).mono ?_;rintro e w5 ⟨rfl,K⟩;have aN:=Q7h K;have T5:=Q7h (j.o _ K).1;clear K)|(go_at_call 98;refine(aY.o _ aN.o).mono ?_;rintro e w6 ⟨rfl,ac⟩;have ak:=Q7h ac;have T6:=Q7h (j.o _ ac).1;clear ac))
   obtain⟨⟨z0,z1⟩,_⟩:=T6.o;have aw:=(j.o _ ak.o).2;have a:=Z.o.below aw Z.o.lt;have cc:=Q7h a;have aZ:=Q7h (b.o.trans (aw.mono b.o.size));have o0:w6 (w,1,0)=I 0:=a.cell 0;have o1:w6 (w,1,1)=some (.slice none 0 0):=a.cell 1;have e0:=a.fz 0;have e1:=a.fz 1;clear aw a;go_wp2_with fail
   obtain⟨⟨r0,r1⟩,ad,ae⟩:=fine aZ.o cc.o (I cap) (.slice (some (g,o)) n c);refine QqG (v:=τ #[.agg #[I cap,.slice (some (g,o)) n c],I 71]) (by simp[results,Tryz.results94,go_sem,r0,r1]) rfl ?_;have hR:=HR.o;rw[QqH bg]at hR;subst hR;exact⟨_,rfl,Kb ah.o HF.o aZ.o ae,ad⟩
  ·have cd:Hid (∀W z c3,Below wc wc W->StrsAt W (.slice z m c3) (Iu t m)->C 175 #[.agg #[I M,I N,.slice A' sl c'],I fr,.slice z m c3] W λe w'=>∃z n3 c3,e=ρ (.agg #[I M,I N,.slice z n3 c3])/\SecsAt w' (gr F w1 w') (.slice z n3 c3) S/\Below wc wc w'):=by
    intro W z c3 hb bc;have au:=(j.o W hb).2;have T:Below w w W:=b.o.trans (au.mono b.o.size);refine(b7.o W z c3 T bc).mono ?_;rintro e w' ⟨bb,rfl,ce,ba⟩;obtain⟨z,c3,rfl,k1,k2⟩:=ce;refine⟨z,_,c3,rfl,SecsAt.mono ⟨z,c3,rfl,k1,k2⟩ ?_,hb.trans (ba.mono hb.size)⟩;rintro k (hk|⟨hk,cf⟩)
    ·exact .inl hk
    ·exact .inr ⟨QqR au.size hk,cf⟩
   go_wp2_with fail
   go_region_held3 (λw'=>(w' (w,0)=I cap/\w' (w,1)=some (.slice (some (g,o)) n c))/\(w' (Q,0)=I M/\w' (Q,1)=I N/\w' (Q,2)=some (.slice A' sl c'))) (first|with_reducible exact T0.o|with_reducible exact av.o|with_reducible exact T5.o|with_reducible exact T6.o) (first|(go_at_call 174;refine(aX.o _ B0.drew).mono ?_;rintro e w5 ⟨rfl,K⟩;have aN:=Q7h K;have T5:=Q7h (j.o _ K).1;clear K)|(go_at_call 98;refine(aY.o _ aN.o).mono ?_;rintro e w6 ⟨rfl,ac⟩;have ak:=Q7h ac;have T6:=Q7h (j.o _ ac).1;clear ac))
   obtain⟨i0,a6,bK,bL,bM⟩:=QzX L6;have cg:=Q7h a6;have ch:=Q7h bK;have ci:=Q7h bL;have cj:=Q7h bM;clear a6 bK bL bM T0 av T5;go_wp2_with fail
   go_loopw [13,14] (λov kv wr=>∃(k:Nat) (B:Option Addr) (d:Nat),k<=m/\kv= I k/\ov= .slice B k d/\Hid (wr.ownsRow w6.heap.size 9 1 (.slice B k d) k ((Iu t k).map Value.string))/\Hid (Below w6 w6 wr)) (λ_ kv _=>m-(intOf kv).toNat)
   case atStart=>exact⟨0,none,0,QqM _,rfl,rfl,⟨rfl,.inl ⟨rfl,rfl⟩⟩,QqA _ _⟩
   case round=>
    obtain⟨k,B,d,hk,rfl,rfl,HO,HB⟩:=hrel;by_cases cR:k<m
    ·have cS:(k:Int)<(m:Int):=O;have bh:m-(intOf (I ((k:Int)+1))).toNat<m-(intOf (I (k:Int))).toNat:=by simp[intOf];omega
     have ck:Hid (Iu t (k+1)=Iu t k++[t.extract (32*k) (32*k+32)]):=by show _=_;unfold Iu;rw[QyS,QqY];rfl
     have cl:=Q7h (HO.o.alloc (.cells #[.string (t.extract (32*k) (32*k+32))] 9));have cm:Hid (∀(j':Nat) (u:Value),([.string (t.extract (32*k) (32*k+32))]:List Value)[j']? =some u->(wr.alloc (.cells #[.string (t.extract (32*k) (32*k+32))] 9)) (((wr,0):Addr).add j')=some u):=World.news_of_block (by simpa using QzY wr (.cells #[.string (t.extract (32*k) (32*k+32))] 9));have bN:Hid (∀u∈([.string (t.extract (32*k) (32*k+32))]:List Value),u.oneCell'=true):=by show ∀u∈_,_;simp[Value.oneCell']
     have aA:=HB.o.size;have bQ:Hid (w6.heap.size<=(wr.alloc (.cells #[.string (t.extract (32*k) (32*k+32))] 9)).heap.size):=by show _<=_;simp only[QqW];omega
     have bR:=Q7h aA;clear aA;go_wp2_with (at_builtin;go_must (refine QkW _ rfl (.tmp 60) (.tmp 68) 190 rfl w6.heap.size 9 i0 _ 1 16 Tryz.underlying190 cg.o ch.o ci.o cj.o rfl O (.slice B k d) k ((Iu t k).map Value.string) rfl cl.o (wr,0) 1 1 [.string (t.extract (32*k) (32*k+32))] rfl rfl cm.o bN.o (by simp only[maxLen];omega) O bQ.o ?_;intro v2 w8 af bS _;have cn:=Q7h af;have co:=Q7h (Qy HO.o bS bR.o);obtain⟨A2,cp,e2⟩:=Qk af;subst e2;clear af bS))
     refine⟨⟨k+1,A2,cp,O,?_,rfl,?_,HB.o.trans co.o⟩,bh⟩
     ·go_num
     ·rw[ck.o,QqY,QzE,QjE];with_reducible exact cn
    ·obtain rfl:k=m:=O;have aQ:Below wc wc wr:=ak.o.trans (HB.o.mono ak.o.size);have cq:=Q7h (Wl HO.o (Wt _ _) O);have T0:=Q7h (j.o _ aQ).1;have av:=Q7h (j.o _ aQ.drew).1;have aB:=aQ.drew;have bT:=Q7h (cq.o.below ((QqA wr wr).drew));have bV:=Q7h aB;clear aQ aB;have bW:Hid (∀W z n3 c3,Below wc wc W->SecsAt W (gr F w1 W) (.slice z n3 c3) S->C 169 #[.agg #[I cap,.slice (some (g,o)) n c],.agg #[I M,I N,.slice z n3 c3]] W λe w'=>∃V n6 X,e=ρ (.agg #[I cap,.slice V n6 X])/\SpcsAt w' (gr F w1 w') (.slice V n6 X) (Z9 l ⟨M,N,S⟩)/\Below wc wc w'/\(((w'.setCell (w,1,0) (I cap)).setCell (w,1,1) (.slice V n6 X)) (w,0)=I cap/\((w'.setCell (w,1,0) (I cap)).setCell (w,1,1) (.slice V n6 X)) (w,1)=some (.slice (some (g,o)) n c))/\(((w'.setCell (w,1,0) (I cap)).setCell (w,1,1) (.slice V n6 X)) (Q,0)=I M/\((w'.setCell (w,1,0) (I cap)).setCell (w,1,1) (.slice V n6 X)) (Q,1)=I N/\((w'.setCell (w,1,0) (I cap)).setCell (w,1,1) (.slice V n6 X)) (Q,2)=some (.slice A' sl c'))):=by
      intro W z n3 c3 hb hs;refine(b8.o W z n3 c3 (j.o W hb).2 hs).mono ?_;rintro e w' ⟨V,n6,X,rfl,h1,h2⟩;have bY:=hb.trans (h2.mono hb.size);obtain⟨⟨k0,k1⟩,k2,k3,k4⟩:=(j.o w' bY).1;have hk:Keep (λk=>k=w.heap.size+1) w' ((w'.setCell (w,1,0) (I cap)).setCell (w,1,1) (.slice V n6 X)):=((Keep.refl (λk=>k=w.heap.size+1) w').setCell (p:=(w,1,0)) (.inl rfl) _).setCell (p:=(w,1,1)) (.inl rfl) _;have n0:¬w.heap.size=w.heap.size+1:=O;have n1:¬Q=w.heap.size+1:=by have:=ar.o.2.2;have:=bn.o;omega
      exact⟨V,n6,X,rfl,h1,bY,⟨hk.cell k0 n0,hk.cell k1 n0⟩,hk.cell k2 n1,hk.cell k3 n1,hk.cell k4 n1⟩
     go_wp2_with fail
     go_region_held3 (λw'=>(w' (w,0)=I cap/\w' (w,1)=some (.slice (some (g,o)) n c))/\(w' (Q,0)=I M/\w' (Q,1)=I N/\w' (Q,2)=some (.slice A' sl c'))) (first|with_reducible exact T0.o|with_reducible exact av.o|with_reducible exact T9.o|with_reducible exact TA.o|with_reducible exact TS.o) (first|(go_at_call 175;refine(cd.o _ _ _ bV.o bT.o).mono ?_;rintro e w9 ⟨z,n3,c3,rfl,bZ,bi⟩;have cr:=Q7h bi;have T9:=Q7h (j.o _ bi).1;have cs:=Q7h bZ;clear bi bZ)|(go_at_call 169;refine(bW.o _ _ _ _ cr.o cs.o).mono ?_;rintro e wa ⟨V,n6,X,rfl,al,H,bA⟩;have TA:=Q7h (j.o _ H).1;have H:=(j.o _ H).2;have aj:=Q7h H;have ct:=Q7h al;have TS:=Q7h bA;have a:=Z.o.below H Z.o.lt;have ap:=Q7h a;have o0:wa (w,1,0)=I 0:=a.cell 0;have o1:wa (w,1,1)=some (.slice none 0 0):=a.cell 1;have e0:=a.fz 0;have e1:=a.fz 1;clear H al a bA))
     go_wp2_with fail
     obtain⟨⟨r0,r1⟩,ad,ae⟩:=fine (b.o.trans (aj.o.mono b.o.size)) ap.o (I cap) (.slice V n6 X);refine QqG (v:=τ #[.agg #[I cap,.slice V n6 X],I 0]) (by simp[results,Tryz.results94,go_sem,r0,r1]) rfl ?_;have hR:=HR.o;rw[QqE O]at hR;subst hR;exact⟨_,rfl,Ux ct.o HF.o bn.o ae,ad⟩
 ·have am:Uz ⟨cap,l⟩ id fr t=(⟨cap,l⟩,wi):=by unfold Uz;rw[hm,aa,QqH (by show Qm l id fr m may≠0;rw[ab];exact az)];simp only[ab]
  rw[am];have a5:(t.size:Int)/32=(m:Int):=O;have cT:(wi==0)=false:=by simpa using az
  clear am ab hz;go_in
  go_wp2_with fail
  ·rename_i hE;have bj:decide ((m:Int)<=8)=may:=by
    rw[<-aa];unfold Cj;rw[hm,QxA (show m*32=t.size by omega),Bool.true_and];exact decide_eq_decide.2 O
   first|rw[bj]|skip
   refine L.o.mono ?_;rintro e w2 ⟨rfl,f⟩;have y:=ay.o.below f ay.o.lt;have a:=Z.o.below f Z.o.lt;have Y:=Q7h (b.o.trans (f.mono b.o.size));have ax:=Q7h a;have z0:w2 (w,0)=I cap:=y.cell 0;have z1:w2 (w,1)=some (.slice A n c):=y.cell 1;have o0:w2 (w,1,0)=I 0:=a.cell 0;have o1:w2 (w,1,1)=some (.slice none 0 0):=a.cell 1;have e0:=a.fz 0;have e1:=a.fz 1;clear y a f;go_wp2_with fail
   obtain⟨⟨r0,r1⟩,ad,ae⟩:=fine Y.o ax.o (I cap) (.slice A n c);refine QqG (v:=τ #[.agg #[I cap,.slice A n c],I wi]) (by simp[results,Tryz.results94,go_sem,r0,r1]) rfl ⟨_,rfl,Kb ah.o HF.o Y.o ae,ad⟩
  ·rename_i hE;have bj:may=false:=by
    rw[<-aa];unfold Cj;rw[hm,QyF (show ¬m*32=t.size by omega),Bool.false_and]
   rw[bj]at L;refine L.o.mono ?_;rintro e w2 ⟨rfl,f⟩;have y:=ay.o.below f ay.o.lt;have a:=Z.o.below f Z.o.lt;have Y:=Q7h (b.o.trans (f.mono b.o.size));have ax:=Q7h a;have z0:w2 (w,0)=I cap:=y.cell 0;have z1:w2 (w,1)=some (.slice A n c):=y.cell 1;have o0:w2 (w,1,0)=I 0:=a.cell 0;have o1:w2 (w,1,1)=some (.slice none 0 0):=a.cell 1;have e0:=a.fz 0;have e1:=a.fz 1;clear y a f;go_wp2_with fail
   obtain⟨⟨r0,r1⟩,ad,ae⟩:=fine Y.o ax.o (I cap) (.slice A n c);refine QqG (v:=τ #[.agg #[I cap,.slice A n c],I wi]) (by simp[results,Tryz.results94,go_sem,r0,r1]) rfl ⟨_,rfl,Kb ah.o HF.o Y.o ae,ad⟩
end dc
end Go.Proofs.YtfialjmemcobjaaGreatDoor
