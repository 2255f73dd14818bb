/- A part of the proof. -/
import Derived.Test.YtfialjmemcobjaaGreatDoorPbFwB
import Derived.Test.YtfialjmemcobjaaGreatDoorPbYsP
import Derived.Laws.BytesArg
import Derived.Laws.Closers25b
set_option maxRecDepth 100000
set_option maxHeartbeats 16000000
set_option linter.unusedVariables false
set_option linter.unusedSimpArgs false
namespace Go.Proofs.YtfialjmemcobjaaGreatDoor
namespace tr
open Go.RowKit er
theorem Q16{e:Ext}(h:Qb e=true):decide (2048<=e.at_)=false:=by
 obtain⟨h1,h2,h3,h4⟩:=Qg h;simp;omega
theorem Qpp{l:List Ext}(h:∀e∈l,Qb e=true):l.any (λe=>decide (2048<=e.at_))=false:=by
 rw[List.any_eq_false];intro e a;rw[Q16 (h e a)];simp
theorem Q8b(l:List Ext)(v:Value)(w:World)(h:ExtsAt w v l)(g:Chk l)(h1:1<=l.length)(p:l.length<=8):
  C 288 #[v] w λx w'=>x= .returned (.bool true)/\Below w w w':=by
 have i:=Y0 l v w h O;rw[Uo _ g]at i;have j:=Q7h i;have k:Hid (∀a,Below w w a->C 310 #[v,.func (.func 311) #[] #[]] a λx w'=>x= .returned (.bool false)/\Below a a w'):=by
  intro a hb;have:=Qfg (λe=>decide (2048<=e.at_)) 311 #[] l v a (λ_ _=>J) (h.below hb) O (λe a _ _=>by
   have:=Qnz e a;simpa using this)
  rw[Qpp g.one]at this;exact this
 obtain⟨A,c,rfl,-⟩:=h;generalize l.length=n at *;have q:(1:Int)<=(n:Int):=O;have r:(n:Int)<=8:=O;clear g h1 p i;go_in
 go_wp2_with fail
 with_reducible refine j.o.mono ?_
 rintro e s ⟨rfl,b⟩;have d:=Q7h b;clear b;go_wp2_with fail
 with_reducible refine(k.o _ d.o).mono ?_
 rintro e t ⟨rfl,f⟩;have m:=Q7h (Qu d.o f);clear f;go_wp2_with fail
 go_ret
 exact⟨rfl,m.o⟩
def Ke(e:Ext):List (Nat×Int):=[(3,e.fr),(4,e.n),(1,e.kind),(2,e.at_)]
def Kv(e:Ext):List UInt8:=Jc (Ke e)
def Kc(l:List Ext):List UInt8:=UInt8.ofNat l.length::l.flatMap Kv
theorem Qd0{e:Ext}(h:Qb e=true):Qee (Ke e):=by
 obtain⟨h1,h2,h3,h4⟩:=Qg h;refine⟨?_,?_,?_,?_,by simp[Ke]⟩;all_goals (intro p a;simp only[Ke,QqF,QkU,QyA]at a;rcases a with rfl|rfl|rfl|rfl<;>simp<;>omega)
theorem Qc2(w:World):C 287 #[] w λx w'=>x= .returned (.slice (some (w,0)) 4 4)/\(∀e:Ext,WidAt w' w.heap.size (Ke e))/\Below w w w':=by
 have b:Hid (∀e:Ext,WidAt (w.alloc (.cells #[I 3,I 4,I 1,I 2] 3)) w.heap.size (Ke e)):=by
  intro e j p a;have c:=Whole.new w 3 #[I 3,I 4,I 1,I 2];rw[c.cell j];match j,a with
  |0,a=>simp[Ke]at a;subst a;rfl
  |1,a=>simp[Ke]at a;subst a;rfl
  |2,a=>simp[Ke]at a;subst a;rfl
  |3,a=>simp[Ke]at a;subst a;rfl
  |j+4,a=>simp[Ke]at a
 go_in
 go_wp2_with fail
 go_ret
 exact⟨rfl,b.o,B0.alloc N0 _⟩
theorem Qc3(e:Ext)(w:World)(h:Qb e=true):C 295 #[e.val] w λx w'=>∃g,x= .returned (.slice (some (g,0)) 4 4)/\Cx w' g (Ke e)/\Below w w w':=by
 obtain⟨h1,h2,h3,h4⟩:=Qg h;have h5:0<=e.kind/\e.kind<=2:=O;have b:0<=e.at_/\e.at_<=2048:=O;obtain⟨f,n,k,t⟩:=e;simp only at h1 h2 h3 h5 b;have c:Hid (Cx ((w.alloc (.cells #[I f,I n,I k,I t] 255)).alloc (.cells #[.int .u64 f,.int .u64 n,.int .u64 k,.int .u64 t] 98)) (w.heap.size+1) (Ke ⟨f,n,k,t⟩)):=by
  intro j p a;have d:=Whole.new' (w.alloc (.cells #[I f,I n,I k,I t] 255)) 98 #[.int .u64 f,.int .u64 n,.int .u64 k,.int .u64 t] (w.heap.size+1) U;rw[d.cell j];match j,a with
  |0,a=>simp[Ke]at a;subst a;rfl
  |1,a=>simp[Ke]at a;subst a;rfl
  |2,a=>simp[Ke]at a;subst a;rfl
  |3,a=>simp[Ke]at a;subst a;rfl
  |j+4,a=>simp[Ke]at a
 have i:f<=16777216:=O;have l:n<=16777216:=O;obtain⟨m,q⟩:=h5;obtain⟨t1,t2⟩:=b;clear h h3 h4;show C 295 #[.agg #[I f,I n,I k,I t]] w _;go_in
 go_wp2_with fail
 go_ret
 exact⟨_,rfl,c.o,(B0.alloc N0 _).alloc U _⟩
theorem Qxf(a b:List UInt8):(⟨a.toArray⟩:ByteArray)++⟨b.toArray⟩=⟨(a++b).toArray⟩:=by
 apply QyW;simp[ByteArray.data_append]
theorem Vn(e:Ext):(Kv e).length=10:=by simp[Kv,Ke,Jc,bytesOf_length]
theorem Qy9(l:List Ext):(l.flatMap Kv).length=l.length*10:=by
 induction l with
 |nil=>rfl
 |cons e l ih=>rw[QqV,QqK,ih,Vn,QzN];omega
theorem Qyo(l:List Ext)(v:Value)(gw:Nat)(w:World)(h:ExtsAt w v l)(h1:∀e∈l,Qb e=true)(h8:l.length<=8)(H:∀e:Ext,WidAt w gw (Ke e)):
  C 294 #[v,.slice (some (gw,0)) 4 4,.func (.func 295) #[] #[]] w λx w'=>x= .returned (.tuple #[.string ⟨(Kc l).toArray⟩,I 0])/\Below w w w':=by
 obtain⟨A,c,rfl,p⟩:=h;have⟨B,HW,H1⟩:=Q3 p H h1;obtain⟨n,q⟩:=Zx l.length;have N:=Q7h q;rw[q]at h8 B ⊢;have aa:(n:Int)<=8:=O;have ab:=QyY (P:=Tryz.prog) (w.alloc (.cells #[.int .u8 n] 5)) 127 5 Tryz.underlying127 Tryz.underlying5 w.heap.size 0 1 1 [(n:Int)] rfl (λi hi=>by
  have H:=Whole.new w 5 #[.int .u8 n];rw[QkG,H.cell i];match i,hi with
  |0,_=>rfl) 9 Tryz.underlying9
 have Q:Hid (strOfNums [(n:Int)]=⟨([UInt8.ofNat n]:List UInt8).toArray⟩):=by show _=_;unfold strOfNums;simp
 have T:Hid (Kc l=[UInt8.ofNat n]++l.flatMap Kv):=by show _=_;unfold Kc;rw[N.o];rfl
 clear p H h1 q;go_in
 go_wp2_with fail
 rw[Q.o];go_loopw [8,20] (λs8 i wr=>∃j:Nat,j<=n/\i= I j/\s8= .string ⟨([UInt8.ofNat n]++(l.take j).flatMap Kv).toArray⟩/\Hid (Below w w wr)) (λ_ i _=>n-(intOf i).toNat)
 case atStart=>exact⟨0,QqM _,rfl,U,B0.alloc N0 _⟩
 case round=>
  obtain⟨j,hj,rfl,rfl,K⟩:=hrel;by_cases V:j<n
  ·have ac:(j:Int)<(n:Int):=O;obtain⟨g,o,rfl,hc⟩:=B.o O;obtain⟨x,L⟩:∃x,l[j]? =some x:=⟨_,QqC (by rw[N.o];exact V)⟩;obtain⟨c0,c1,c2,c3⟩:=(hc j x L).below K.o;have b:=H1.o x (QqL L);have r:=Q7h (λa=>Qc3 x a b);have m:Hid (∀a g,Below w w a->Cx a g (Ke x)->C 54 #[.slice (some (g,0)) 4 4,.slice (some (gw,0)) 4 4] a λe w'=>e= .returned (.tuple #[.string ⟨(Kv x).toArray⟩,I 0])/\Below a a w'):=λa g hb q=>Qdx (Ke x) g 4 gw 4 a ((HW.o x).below hb) q (Qd0 b) 4 rfl;have W:Hid (⟨([UInt8.ofNat n]++(l.take j).flatMap Kv).toArray⟩++⟨(Kv x).toArray⟩=(⟨([UInt8.ofNat n]++(l.take (j+1)).flatMap Kv).toArray⟩:ByteArray)):=by
    show _=_;rw[Qxf,Jh _ _ _ _ L,QqU]
   have z1:(⟨([UInt8.ofNat n]++(l.take j).flatMap Kv).toArray⟩:ByteArray).size<=1000:=by
    show([UInt8.ofNat n]++(l.take j).flatMap Kv).toArray.size<=1000;have:(l.take j).length<=j:=by rw[QzJ];omega
    rw[QjR,QqK,Qy9,List.length_singleton];omega
   have z2:(⟨(Kv x).toArray⟩:ByteArray).size<=1000:=by
    show(Kv x).toArray.size<=1000;rw[QjR,Vn];omega
   obtain⟨S,X⟩:∃S:ByteArray,⟨([UInt8.ofNat n]++(l.take j).flatMap Kv).toArray⟩=S:=⟨_,rfl⟩;obtain⟨R,hR⟩:∃R:ByteArray,⟨(Kv x).toArray⟩=R:=⟨_,rfl⟩;rw[X]at W z1;rw[hR]at W z2 m;rw[X];obtain⟨f,M,k,t⟩:=x;simp only at c0 c1 c2 c3;have d0:(wr.alloc (.cells #[I f,I M,I k,I t] 255)).heap.size=wr.heap.size+1:=U;have Y:Hid (Below w w (wr.alloc (.cells #[I f,I M,I k,I t] 255))):=K.o.alloc (by have:=K.o.size;omega) _;have s:Hid (∀a,C 295 #[.agg #[I f,I M,I k,I t]] a λx w'=>∃g,x= .returned (.slice (some (g,0)) 4 4)/\Cx w' g (Ke ⟨f,M,k,t⟩)/\Below a a w'):=r.o;clear hc L b d0 r X hR;go_wp2_with fail
   with_reducible refine(s.o _).mono ?_
   rintro e w5 ⟨g5,rfl,u,y⟩;have z:=Q7h (Qu Y.o y);have HR:=Q7h (m.o _ _ z.o u);clear u y;go_wp2_with fail
   with_reducible refine HR.o.mono ?_
   rintro e w6 ⟨rfl,F⟩;have Z:=Q7h (Qu z.o F);clear F;go_wp2_with fail
   go_roundw
   case rel=>exact⟨j+1,O,by go_num,by rw[W.o],Z.o⟩
   case measure=>simp[intOf];omega
  ·obtain rfl:j=n:=O;have d:l.take j=l:=by rw[<-N.o];exact QzU
   rw[d,<-T.o];clear d;go_wp2_with fail
   go_returns;exact⟨rfl,K.o⟩
theorem Qwf(l:List Ext)(v:Value)(w:World)(h:ExtsAt w v l)(j:Chk l)(h1:1<=l.length)(k:l.length<=8):
  C 253 #[v] w λx w'=>x= .returned (.tuple #[.string ⟨(Kc l).toArray⟩,I 0])/\Below w w w':=by
 have t:=Q7h (Q8b l v w h j h1 k);have m:=Q7h (λa=>Qc2 a);have n:Hid (∀a gw,Below w w a->(∀e:Ext,WidAt a gw (Ke e))->C 294 #[v,.slice (some (gw,0)) 4 4,.func (.func 295) #[] #[]] a λx w'=>x= .returned (.tuple #[.string ⟨(Kc l).toArray⟩,I 0])/\Below a a w'):=λa gw hb u=>Qyo l v gw a (h.below hb) j.one k u;obtain⟨A,c,rfl,p⟩:=h;clear p j h1 k;go_in
 go_wp2_with fail
 with_reducible refine t.o.mono ?_
 rintro e y ⟨rfl,b⟩;have q:=Q7h b;clear b;go_wp2_with fail
 with_reducible refine(m.o _).mono ?_
 rintro e z ⟨rfl,d,f⟩;have g:=Q7h (Qu q.o f);have r:=Q7h (n.o _ _ g.o d);clear f d;go_wp2_with fail
 with_reducible refine r.o.mono ?_
 rintro e F ⟨rfl,i⟩;have s:=Q7h (Qu g.o i);clear i;go_wp2_with fail
 go_returns;exact⟨rfl,s.o⟩
def Fg(k:Kid):Prop:=(0<=k.key/\k.key<16777216)/\0<=k.at_/\k.at_<2048
def K2(k l:Kid):Prop:=Fg k/\Fg l/\k.key<l.key/\k.at_≠l.at_
def K2At(w:World)(g:Nat)(k l:Kid):Prop:=(w.cell? (g,0)=some (I k.key)/\w.cell? (g,1)=some (I k.at_))/\w.cell? (g,2)=some (I l.key)/\w.cell? (g,3)=some (I l.at_)
theorem K2At.below{w w':World}{g:Nat}{k l:Kid}(h:K2At w g k l)(hb:Below w w w'):K2At w' g k l:=⟨⟨Qq hb h.1.1,Qq hb h.1.2⟩,Qq hb h.2.1,Qq hb h.2.2⟩
theorem Q8t(k l:Kid)(g c:Nat)(w:World)(h:K2At w g k l)(N:K2 k l)(s:2<=c/\c<=maxLen):
  C 292 #[.slice (some (g,0)) 2 c] w λx w'=>x= .returned (.bool true)/\Below w w w':=by
 obtain⟨⟨c0,c1⟩,c2,c3⟩:=h;obtain⟨⟨⟨t,u⟩,v,y⟩,⟨⟨z,F⟩,H,K⟩,h1,h2⟩:=N;obtain⟨f,i⟩:=k;obtain⟨e,d⟩:=l;simp only at c0 c1 c2 c3 t u v y z F H K h1 h2;have eg:∀(args:Array Value) (w:World),(callFunc 313 args).run Tryz.prog w= .ok (.enter 313 args) w:=λ_ _=>J;have q1:decide (f<0)=false:=by simpa using t
 have X:decide ((16777216:Int)<=f)=false:=by simpa using u
 have Y:decide (i<0)=false:=by simpa using v
 have Z:decide ((2048:Int)<=i)=false:=by simpa using y
 have A:decide (e<0)=false:=by simpa using z
 have B:decide ((16777216:Int)<=e)=false:=by simpa using F
 have r3:decide (d<0)=false:=by simpa using H
 have r4:decide ((2048:Int)<=d)=false:=by simpa using K
 have r5:decide (e<=f)=false:=by simpa using h1
 have r6:(i==d)=false:=by simpa using h2
 have Q:(2:Int)<=(c:Int):=O;have R:(c:Int)<=9223372036854775807:=by have:=s.2;simp only[maxLen]at this;omega
 have w0:IntKind.i64.wrap 0=0:=J;clear s;go_in
 go_wp2_with fail
 refine QoS 3 ?_;rw[QoR];go_wp2_with fail
 go_quiet (fail)
 generalize j:World.drewN _ _=wq;have a:Hid (Below w w wq):=by show Below _ _ _;rw[<-j];exact below_drewN (B0.alloc N0 _) _
 have p:=Qq a.o c0;have L:=Qq a.o c1;have S:=Qq a.o c2;have T:=Qq a.o c3;have q:Hid (Below w w (wq.alloc (.cells #[I e,I d] 355))):=a.o.alloc a.o.size _;have m:=Q7h (Whole.new wq 355 #[I e,I d]);have V:(wq.alloc (.cells #[I e,I d] 355)).cell? (wq,0)=some (I e):=m.o.cell 0;have M:(wq.alloc (.cells #[I e,I d] 355)).cell? (wq,1)=some (I d):=m.o.cell 1;have W:=Qq ((QqA _ wq).alloc N0 (.cells #[I e,I d] 355)) p;clear j c0 c1 c2 c3;go_wp2
 refine QoS 1 ?_;rw[QoR];go_wp2
 rw[QoR];go_wp2_with fail
 go_quiet (fail)
 generalize b:World.drewN _ _=wr;have n:Hid (Below w w wr):=by show Below _ _ _;rw[<-b];exact below_drewN q.o _
 have f0:wr.cell? (g,0)=some (I f):=by rw[<-b];exact Qq (B0.alloc N0 _) p
 have f1:wr.cell? (g,1)=some (I i):=by rw[<-b];exact Qq (B0.alloc N0 _) L
 have f3:(wr.alloc (.cells #[I f,I i] 355)).cell? (wq,1)=some (I d):=Qq ((QqA _ wr).alloc N0 _) (by rw[<-b];exact M);have r:Hid (Below w w (wr.alloc (.cells #[I f,I i] 355))):=n.o.alloc n.o.size _;clear b p L S T V M W;go_wp2
 refine QoS 2 ?_;rw[QoR];go_wp2
 rw[QoR];go_wp2
 rw[QoR];go_wp2
 go_ret
 exact⟨rfl,r.o⟩
def Kid.val(k:Kid):Value:= .agg #[I k.key,I k.at_]
def K8(k:Kid):List (Nat×Int):=[(3,k.key),(2,k.at_)]
def Jz(k:Kid):List UInt8:=Jc (K8 k)
def Jk(l:List Kid):List UInt8:=UInt8.ofNat l.length::l.flatMap Jz
theorem Qna{k:Kid}(h:Fg k):Qee (K8 k):=by
 obtain⟨⟨h1,h2⟩,h3,h4⟩:=h;refine⟨?_,?_,?_,?_,by simp[K8]⟩;all_goals (intro p a;simp only[K8,QqF,QkU,QyA]at a;rcases a with rfl|rfl<;>simp<;>omega)
theorem Qco(k:Kid)(w:World)(h:Fg k):C 297 #[k.val] w λx w'=>∃g,x= .returned (.slice (some (g,0)) 2 2)/\Cx w' g (K8 k)/\Below w w w':=by
 obtain⟨⟨h1,h2⟩,h3,h4⟩:=h;obtain⟨f,t⟩:=k;simp only at h1 h2 h3 h4;have b:Hid (Cx ((w.alloc (.cells #[I f,I t] 355)).alloc (.cells #[.int .u64 f,.int .u64 t] 98)) (w.heap.size+1) (K8 ⟨f,t⟩)):=by
  intro j p a;have c:=Whole.new' (w.alloc (.cells #[I f,I t] 355)) 98 #[.int .u64 f,.int .u64 t] (w.heap.size+1) U;rw[c.cell j];match j,a with
  |0,a=>simp[K8]at a;subst a;rfl
  |1,a=>simp[K8]at a;subst a;rfl
  |j+2,a=>simp[K8]at a
 show C 297 #[.agg #[I f,I t]] w _;go_in
 go_wp2_with fail
 go_ret
 exact⟨_,rfl,b.o,(B0.alloc N0 _).alloc U _⟩
theorem Vh(e:Kid):(Jz e).length=5:=by simp[Jz,K8,Jc,bytesOf_length]
theorem Q9n(k l:Kid)(g c:Nat)(w:World)(h:K2At w g k l)(t:K2 k l)(hc:2<=c/\c<=maxLen):
  C 254 #[.slice (some (g,0)) 2 c] w λx w'=>x= .returned (.tuple #[.string ⟨(Jk [k,l]).toArray⟩,I 0])/\Below w w w':=by
 have⟨HK,HA⟩:=Q2 (Q8t k l g c w h t hc) h;have u:=Q7h λa=>Qco k a t.1;have v:=Q7h λa=>Qco l a t.2.1;have b:Hid (∀x a gw g,Fg x->(∀e:Kid,WidAt a gw (K8 e))->Cx a g (K8 x)->C 54 #[.slice (some (g,0)) 2 2,.slice (some (gw,0)) 2 2] a λe w'=>e= .returned (.tuple #[.string ⟨(Jz x).toArray⟩,I 0])/\Below a a w'):=λx a gw g hb s hn=>Qdx (K8 x) g 2 gw 2 a (s x) hn (Qna hb) 2 rfl;have HX:=Q7h t;generalize hZ:(⟨(Jk [k,l]).toArray⟩:ByteArray)=Z;have HZ:=Q7h hZ;obtain⟨X,Y⟩:=k;obtain⟨A,B⟩:=l;simp only[Kid.val]at u v;clear h t hc hZ;go_in
 go_wp2_with fail
 with_reducible refine HK.o.mono ?_
 rintro e d ⟨rfl,y⟩;have q:=Q7h y;clear y;have z:=QyY (P:=Tryz.prog) ((d.alloc (.cells #[I 3,I 2] 3)).alloc (.cells #[.int .u8 2] 5)) 127 5 Tryz.underlying127 Tryz.underlying5 (d.heap.size+1) 0 1 1 [(2:Int)] rfl (λi hi=>by
  have s:=Whole.new' (d.alloc (.cells #[I 3,I 2] 3)) 5 #[.int .u8 2] (d.heap.size+1) U;rw[QkG,s.cell i];match i,hi with
  |0,_=>rfl) 9 Tryz.underlying9
 obtain⟨w6,r⟩:=Zx ((d.alloc (.cells #[I 3,I 2] 3)).alloc (.cells #[.int .u8 2] 5));have F:Hid (Below w w w6):=by
  show Below _ _ _;rw[<-r];exact(q.o.alloc q.o.size _).alloc (by have:=q.o.size;simp only[QqW];omega) _
 have H:Hid (∀e:Kid,WidAt w6 d.heap.size (K8 e)):=by
  intro e j p f;have s:=(Whole.new d 3 #[I 3,I 2]).alloc (.cells #[.int .u8 2] 5);rw[r]at s;rw[s.cell j];match j,f with
  |0,f=>simp[K8]at f;subst f;rfl
  |1,f=>simp[K8]at f;subst f;rfl
  |j+2,f=>simp[K8]at f
 obtain⟨⟨c0,c1⟩,c2,c3⟩:=HA.o.below F.o;rw[r]at z;have K:Hid (strOfNums [(2:Int)]=⟨([2]:List UInt8).toArray⟩):=by show _=_;unfold strOfNums;simp
 rw[K.o]at z;have aa:Hid ((⟨([2]:List UInt8).toArray⟩:ByteArray)++⟨(Jz ⟨X,Y⟩).toArray⟩++⟨(Jz ⟨A,B⟩).toArray⟩=Z):=by
  show _=_;rw[Qxf,Qxf,<-HZ.o];simp[Jk]
 have sz:∀x:Kid,(⟨(Jz x).toArray⟩:ByteArray).size<=1000:=λx=>by
  show(Jz x).toArray.size<=1000;rw[QjR,Vh];omega
 have z1:=sz ⟨X,Y⟩;have z2:=sz ⟨A,B⟩;have z0:(⟨([2]:List UInt8).toArray⟩:ByteArray).size<=1000:=by show([2]:List UInt8).toArray.size<=1000;simp
 have ab:=Q7h λa gw g=>b.o ⟨X,Y⟩ a gw g HX.o.1;have ac:=Q7h λa gw g=>b.o ⟨A,B⟩ a gw g HX.o.2.1;generalize(⟨([2]:List UInt8).toArray⟩:ByteArray)=S at *;generalize(⟨(Jz ⟨X,Y⟩).toArray⟩:ByteArray)=R1 at *;generalize(⟨(Jz ⟨A,B⟩).toArray⟩:ByteArray)=R2 at *;have z3:(S++R1).size<=2000:=by rw[QjT];omega
 clear b HX HK K HZ sz;simp only at c0 c1 c2 c3;go_wp2
 refine QoS 3 ?_;rw[QoR];go_wp2_with fail
 with_reducible refine(u.o _).mono ?_
 rintro e w7 ⟨g7,rfl,L,M⟩;have N:=Q7h (Qu (B0.alloc N0 _) M);have HR:=Q7h (ab.o w7 d.heap.size g7 (λe=>(H.o e).below N.o) L);clear L M c0 c1;go_wp2_with fail
 with_reducible refine HR.o.mono ?_
 rintro e w8 ⟨rfl,Q⟩;have m:=Q7h (Qu N.o Q);have c2:=Qq m.o c2;have c3:=Qq m.o c3;clear Q;go_wp2
 rw[QoR];go_wp2_with fail
 with_reducible refine(v.o _).mono ?_
 rintro e w9 ⟨g9,rfl,R,T⟩;have V:=Q7h (Qu (m.o.alloc m.o.size _) T);have HR:=Q7h (ac.o w9 d.heap.size g9 (λe=>(H.o e).below V.o) R);clear R T c2 c3;go_wp2_with fail
 with_reducible refine HR.o.mono ?_
 rintro e ad ⟨rfl,n⟩;have W:=Q7h (Qu F.o (Qu V.o n));clear n;go_wp2
 rw[QoR];go_wp2
 rw[aa.o];go_returns;exact⟨rfl,W.o⟩
end tr
end Go.Proofs.YtfialjmemcobjaaGreatDoor
