/- A part of the proof. -/
import Derived.Test.YtfialjmemcobjaaGreatDoorPbDcD
import Derived.Test.YtfialjmemcobjaaGreatDoorPbVqB
import Derived.Deep.RegionHeld3
set_option maxRecDepth 100000
set_option maxHeartbeats 16000000
set_option linter.unusedVariables false
set_option linter.unusedSimpArgs false
namespace Go.Proofs.YtfialjmemcobjaaGreatDoor
namespace dc
open Go.RowKit er vo
def Zm:ByteArray:=strOfNums (List.replicate 32 0)
theorem Ri:(⟨(List.replicate 32 (0:UInt8)).toArray⟩:ByteArray)=Zm:=J
theorem Qjk(w:World):C 176 #[] w λe w'=>e= .returned (.string Zm)/\Below w w w':=by
 unfold Zm;obtain⟨T,h,k,l,m⟩:=QzX Qlw;have v:=Q7h h;have x:=Q7h k;have y:=Q7h l;have z:=Q7h m;clear h k l m;go_in
 go_wp2_with fail
 go_loopw [1,2] (λV iv wr=>∃(j:Nat) (A:Option Addr) (c:Nat),j<=32/\iv= I j/\V= .slice A j c/\Hid (wr.ownsRow w.heap.size 5 1 (.slice A j c) j ((List.replicate j (0:Int)).map (Value.int .u8)))/\Hid (Below w w wr)) (λ_ iv _=>32-(intOf iv).toNat)
 case atStart=>exact⟨0,none,0,O,rfl,rfl,⟨rfl,.inl ⟨rfl,rfl⟩⟩,QqA _ _⟩
 case round=>
  obtain⟨j,A,c,B,rfl,rfl,s,t⟩:=hrel;by_cases W:j<32
  ·have X:(j:Int)<32:=O;have F:=Q7h (s.o.alloc (.cells #[.int .u8 0] 5));have H:Hid (∀(R:Nat) (u:Value),([.int .u8 0]:List Value)[R]? =some u->(wr.alloc (.cells #[.int .u8 0] 5)).cell? (((wr,0):Addr).add R)=some u):=World.news_of_block (by simpa using QzY wr (.cells #[.int .u8 0] 5));have b:∀u∈([.int .u8 0]:List Value),u.oneCell'=true:=by simp[Value.oneCell']
   have n:=Q7h b;have p:Hid (w.heap.size<=(wr.alloc (.cells #[.int .u8 0] 5)).heap.size):=by
    show _<=_;have:=t.o.size;simp only[QqW];omega
   have q:=Q7h t.o.size;clear b;go_wp2_with (at_builtin;go_must (refine QkW _ rfl (.tmp 7) (.tmp 8) 127 rfl w.heap.size 5 T _ 1 1 Tryz.underlying127 v.o x.o y.o z.o rfl O (.slice A j c) j ((List.replicate j (0:Int)).map (Value.int .u8)) rfl F.o (wr,0) 1 1 [.int .u8 0] rfl rfl H.o n.o (by simp only[maxLen];omega) O p.o ?_;intro v2 w6 a r _;have K:=Q7h a;have L:=Q7h (Qy s.o r q.o);obtain⟨A2,M,Y⟩:=Qk a;subst Y;clear a r))
   have d:32-(intOf (I ((j:Int)+1))).toNat<32-(intOf (I (j:Int))).toNat:=by simp[intOf];omega
   refine⟨⟨j+1,A2,M,?_,?_,rfl,?_,?_⟩,d⟩
   ·omega
   ·go_num
   ·rw[List.replicate_succ',QqY,QzE,QjE];with_reducible exact K
   ·exact t.o.trans L.o
  ·obtain rfl:j=32:=O;obtain⟨g,rfl,_,N,Q,S,_⟩:=Qx s.o O;have Z:=QyY (P:=Tryz.prog) wr 127 5 Tryz.underlying127 Tryz.underlying5 g 0 32 c (List.replicate 32 0) U (λi hi=>by
    have f:i<(List.replicate 32 (0:Int)).length:=by simpa using hi
    have:=S i (.int .u8 ((List.replicate 32 (0:Int))[i]'f)) (by rw[QzF,QqC f];rfl);rw[QkG,this,QkH,QqC f];rfl) 9 Tryz.underlying9
   clear S N Q s;go_wp2_with fail
   go_ret
   exact⟨rfl,t.o⟩
theorem Q17{s:Spc}{a:Int}{i:Nat}{x:Sec}(b:s.s[i]? =some x)(h:∀y∈s.s.take i,y.at_≠a)(c:x.at_=a):dOf s a=x.data:=by
 have:s.s.find? (λx=>decide (x.at_=a))=some x:=by
  rw[List.find?_eq_some_iff_getElem];refine⟨by simpa using c,i,(QqD.1 b).1,(QqD.1 b).2,λj d=>?_⟩;have:=h (s.s[j]'(by have:=(QqD.1 b).1;omega)) (by rw[List.mem_take_iff_getElem];exact⟨j,by have:=(QqD.1 b).1;omega,rfl⟩);simpa using this
 unfold dOf;rw[this]
theorem Q18{s:Spc}{a:Int}(h:∀y∈s.s,y.at_≠a):dOf s a=Zm:=by
 have:s.s.find? (λx=>decide (x.at_=a))=none:=by
  rw[QuN];intro y b;simpa using h y b
 unfold dOf;rw[this,Ri]
theorem Qde(w:World)(F:Nat->Prop)(sv:Value)(x:Spc)(a:Int)(h:SecsAt w F sv x.s):
  C 99 #[.agg #[I x.id,I x.size,sv],I a] w λe w'=>e= .returned (.string (dOf x a))/\Below w w w':=by
 have H:=Q7h h;obtain⟨A,c,rfl,M,_⟩:=h;obtain⟨x0,x1,l⟩:=x;obtain⟨n,m⟩:=Zx l.length;simp only[m]at M H ⊢;have N:=Q7h m;have Q:(n:Int)<=100000:=O;obtain⟨w1,R,d,p⟩:=box w 155 #[I x0,I x1,.slice A n c];have V:=p.o.cell 2;have q:=Q7h (Qjk w1);clear m;go_in
 go_wp2_with fail
 go_loopw [5] (λiv wr=>∃i:Nat,i<=n/\iv= I i/\Hid (∀y∈l.take i,y.at_≠a)/\wr=w1) (λiv _=>n-(intOf iv).toNat)
 case atStart=>exact⟨0,QqM _,rfl,λy f=>by simp at f,by first|rfl|assumption⟩
 case round=>
  obtain⟨i,hi,rfl,r,rfl⟩:=hrel;by_cases t:i<n
  ·have S:(i:Int)<(n:Int):=O;obtain⟨g,o,u,T,rfl,f,W,X⟩:=Zzf H.o d.o t;have L:=Q7h f;clear f;by_cases b:u=a
   ·have j:(u==a)=true:=by simpa using b
    have v:Hid (dOf ⟨x0,x1,l⟩ a=T):=Q17 (s:=⟨x0,x1,l⟩) L.o r.o b;clear b;go_wp2_with fail
    go_ret
    exact⟨by rw[v.o];rfl,d.o⟩
   ·have j:(u==a)=false:=by simpa using b
    have z:=Q7h (Zzr L.o r.o b);clear b;go_wp2_with fail
    go_roundw
    case rel=>exact⟨i+1,O,by go_num,z.o,trivial⟩
    case measure=>simp[intOf];omega
  ·obtain rfl:i=n:=O;have v:Hid (dOf ⟨x0,x1,l⟩ a=Zm):=Q18 (s:=⟨x0,x1,l⟩) (λy f=>r.o y (by rw[QkT (by have:=N.o;omega)];exact f));go_wp2_with fail
   refine q.o.mono ?_;rintro e w2 ⟨rfl,k⟩;have K:=Q7h (d.o.trans (k.mono d.o.size));clear k;go_wp2_with fail
   go_ret
   exact⟨by rw[v.o];rfl,K.o⟩
theorem Q0z(a b c:Value)(w:World):(Instr.field 155 (.agg #[a,b,c]) 2).run Tryz.prog w= .ok c w:=J
theorem Yv(w:World)(F:Nat->Prop)(sv:Value)(x:Spc)(fr a:Int)(h:SecsAt w F sv x.s)(u:∀k,F k->k<w.heap.size):
  C 174 #[.agg #[I x.id,I x.size,sv],I fr,I a] w λe w'=>e= .returned (I (dIn x fr a))/\Below w w w':=by
 have H:=Q7h h;obtain⟨A,c,rfl,v,_⟩:=h;obtain⟨x0,x1,l⟩:=x;obtain⟨n,p⟩:=Zx l.length;simp only[p]at v H ⊢;obtain⟨w1,z,b,y⟩:=box w 155 #[I x0,I x1,.slice A n c];have q:Hid (∀W,Below w1 w1 W->W.cell? (w,0)=some (I x0)/\W.cell? (w,1)=some (I x1)/\W.cell? (w,2)=some (.slice A n c)):=λW hb=>(V5 (y.o.below hb y.o.lt)).1;obtain⟨k,g⟩:=Zx ((Ou ⟨x0,x1,l⟩ fr a).s.length);have K:(k:Int)<=n:=by rw[<-g,<-p];exact Int.ofNat_le.2 (QkE _ _)
 have r:Hid (∀W,Below w1 w1 W->C 171 #[.agg #[I x0,I x1,.slice A n c],I fr,I a] W λe w'=>∃d f,e= .returned (.agg #[I x0,I x1,.slice d k f])/\Below w1 w1 w'):=by
  intro W hb;have i:=b.o.trans (hb.mono b.o.size);refine(Ee W F (.slice A n c) ⟨x0,x1,l⟩ fr a (H.o.below i) (λk g=>QzB (u k g) i.size)).mono ?_;rintro e w' ⟨L,rfl,⟨d,f,rfl,_,_⟩,t⟩;exact⟨d,f,by rw[g],hb.trans (t.mono hb.size)⟩
 rw[show dIn ⟨x0,x1,l⟩ fr a=(n:Int)-k by rw[<-g,<-p];rfl];have⟨M,N⟩:=Q2 (q.o _ B0.drew) (q.o _ B0);have Q:IntKind.i64.wrap ((n:Int)-k)=(n:Int)-k:=by rw[QqN];omega
 have R:∀(d:Option Addr) (f:Nat) (W:World),(Instr.field 155 (.agg #[I x0,I x1,.slice d k f]) 2).run Tryz.prog W= .ok (.slice d k f) W:=λd f W=>Q0z _ _ _ W;clear p g v u;go_in
 go_wp2_with fail
 go_region_held3 (λw'=>w'.cell? (w,0)=some (I x0)/\w'.cell? (w,1)=some (I x1)/\w'.cell? (w,2)=some (.slice A n c)) (first|with_reducible exact M.o|with_reducible exact N.o|with_reducible exact q.o _ j.o) ((go_at_call 171;refine(r.o _ B0.drew).mono ?_;rintro e S ⟨d,f,rfl,m⟩;have j:=Q7h m;clear m))
 go_wp2_with fail
 go_ret
 exact⟨rfl,b.o.trans (j.o.mono b.o.size)⟩
def Qm(l:List Spc)(id fr n:Int)(may:Bool):Int:=
 match Iq l id with
 |none=>4
 |some i=>if may=false\/n<1 then 1 else if fr<0\/(l.getD i ⟨0,0,[]⟩).size<fr\/(l.getD i ⟨0,0,[]⟩).size-fr<n then 82 else 0
theorem Yw{l:List Spc}{id:Int}{i:Nat}(h:Iq l id=some i):i<l.length:=by
 unfold Iq at h;exact(QkP.1 h).1
theorem Q77(w:World)(F:Nat->Prop)(v:Value)(r:Dv)(id fr n:Int)(may:Bool)(h:DvAt w F v r)(hz:∀x∈r.l,0<=x.size/\x.size<=16777216):
  C 173 #[v,I id,I fr,I n,.bool may] w λe w'=>e= .returned (I (Qm r.l id fr n may))/\Below w w w':=by
 obtain⟨lv,rfl,M⟩:=h.row;have H:=Q7h M;have N:=Q7h h;obtain⟨A,c,rfl,V,_⟩:=M;obtain⟨cap,l⟩:=r;obtain⟨m,Q⟩:=Zx l.length;simp only[Q]at V hz H N ⊢;have X:(m:Int)<=100000:=O;obtain⟨w1,Y,b,u⟩:=box w 64 #[I cap,.slice A m c];obtain⟨⟨x0,x1⟩,_⟩:=Zzn u.o;have f:=Q7h (Xg w1 F _ ⟨cap,l⟩ id (N.o.below b.o));obtain⟨R,j⟩:=Zx (Qm l id fr n may);rw[j];have hq:(Ky l id= -1/\R=4)\/∃(i:Nat) (g o:Nat) (z:Int),A=some (g,o)/\Ky l id=i/\(i:Int)<m/\w1.cell? (g,o+i*3+1)=some (I z)/\(0<=z/\z<=16777216)/\((may=false/\R=1)\/(may=true/\n<1/\R=1)\/(may=true/\¬n<1/\fr<0/\R=82)\/(may=true/\¬n<1/\¬fr<0/\z<fr/\R=82)\/(may=true/\¬n<1/\¬fr<0/\¬z<fr/\z-fr<n/\R=82)\/(may=true/\¬n<1/\¬fr<0/\¬z<fr/\¬z-fr<n/\R=0)):=by
  unfold Qm at j;unfold Ky;cases hd:Iq l id with
  |none=>
   rw[hd]at j;exact .inl ⟨rfl,j.symm⟩
  |some i=>
   have hi:=Yw hd;obtain⟨g,o,a,z,s,A',k,c',rfl,S,q,_⟩:=Zzd H.o b.o (show i<m by omega);have y:=hz _ (QqL S);rw[hd]at j;simp only[QkH,S,QoN]at j;refine .inr ⟨i,g,o,z,rfl,rfl,O,q.2.1,y,?_⟩;subst j;cases may
   ·exact .inl ⟨rfl,rfl⟩
   ·(repeat' split)<;>simp_all<;>omega
 clear j Q hz h;rcases hq with⟨hi,rfl⟩|⟨i,g,o,z,rfl,hi,Z,q,B,hq⟩
 ·rw[hi]at f;go_in
  go_wp2_with fail
  refine f.o.mono ?_;rintro e w2 ⟨rfl,d⟩;have p:=Q7h (b.o.trans (d.mono b.o.size));clear d x0 x1;go_wp2_with fail
  go_ret
  exact⟨rfl,p.o⟩
 ·rw[hi]at f;have aa:(0:Int)<=(i:Int):=QkD _;have K:Hid (∀W,Below w1 w1 W->(W.cell? (w,0)=some (I cap)/\W.cell? (w,1)=some (.slice (some (g,o)) m c))/\W.cell? (g,o+i*3+1)=some (I z)):=λW hb=>⟨(Zzn (u.o.below hb u.o.lt)).1,Qq hb q⟩;clear hi q;rcases hq with⟨rfl,rfl⟩|⟨rfl,t,rfl⟩|⟨rfl,t,L,rfl⟩|⟨rfl,t,L,T,rfl⟩|⟨rfl,t,L,T,q5,rfl⟩|⟨rfl,t,L,T,q5,rfl⟩;all_goals
   go_in
   go_wp2_with fail
   refine f.o.mono ?_;rintro e w2 ⟨rfl,d⟩;obtain⟨⟨y0,y1⟩,y2⟩:=K.o w2 d;have p:=Q7h (b.o.trans (d.mono b.o.size));clear d x0 x1;go_wp2_with fail
   all_goals first|(go_ret;exact⟨rfl,p.o⟩)|(exfalso;omega)
end dc
namespace dc
open Go.RowKit er
def StrsAt(w:World)(v:Value)(d:List ByteArray):Prop:=∃A c,v= .slice A d.length c/\d.length<=1000/\(0<d.length->∃g o,A=some ⟨g,o,none⟩/\∀(j:Nat) (t:ByteArray),d[j]? =some t->w.cell? ⟨g,o+j,none⟩=some (.string t))
theorem StrsAt.below{w w':World}{v:Value}{d:List ByteArray}(h:StrsAt w v d)(hb:Below w w w'):StrsAt w' v d:=by
 obtain⟨A,c,h1,h2,h3⟩:=h;refine⟨A,c,h1,h2,λa=>?_⟩;obtain⟨g,o,h4,h5⟩:=h3 a;exact⟨g,o,h4,λj t b=>Qq hb (h5 j t b)⟩
theorem Zki{w wr:World}{A:Option Addr}{n c i:Nat}{D:List ByteArray}(h:StrsAt w (.slice A n c) D)(hb:Below w.heap.size w wr)(hi:i<n):∃g o t,A=some ⟨g,o,none⟩/\D[i]? =some t/\wr.cell? ⟨g,o+i,none⟩=some (.string t):=by
 obtain⟨k,l,e,_,b⟩:=h;injection e with d f j;subst d f j;obtain⟨g,o,rfl,a⟩:=b O;exact⟨g,o,_,rfl,QqC hi,Qq hb (a i _ (QqC hi))⟩
theorem Wj{α:Type}(p:α->Bool):∀{l:List α} {k:Nat},(∀x∈l.take k,p x=true)->(∀x,l[k]? =some x->p x=false)->l.takeWhile p=l.take k/\l.dropWhile p=l.drop k
 |[],k,_,_=>U
 |a::l,0,_,h=>by
  have:=h a rfl;simp[List.takeWhile,List.dropWhile,this]
 |a::l,k+1,h1,h2=>by
  have ha:=h1 a U;obtain⟨c,d⟩:=Wj p (l:=l) (k:=k) (λx b=>h1 x (by simp[b])) (λx b=>h2 x (by simpa using b));simp[List.takeWhile,List.dropWhile,ha,c,d]
theorem Qir(fr:Int)(d:List ByteArray)(i:Nat)(t:ByteArray)(h:d[i]? =some t):(Ti fr d).take (i+1)=(Ti fr d).take i++[⟨fr+i,t⟩]:=by
 have hi:=(QqD.1 h).1;rw[QzW];congr 1;unfold Ti;rw[QzF,QxV hi];simp[QkH,h]
theorem Qb2(fr:Int)(d:List ByteArray):(Ti fr d).length=d.length:=by simp[Ti]
theorem Qq0(w:World)(F:Nat->Prop)(sv dv:Value)(x:Spc)(fr:Int)(D:List ByteArray)(h:SecsAt w F sv x.s)(hF:∀k,F k->k<w.heap.size)(hd:StrsAt w dv D)(aQ:0<=fr/\fr<=16777216)(aw:x.s.length<=1000):
  C 175 #[.agg #[I x.id,I x.size,sv],I fr,dv] w λe w'=>∃al,e= .returned (.agg #[I x.id,I x.size,al])/\SecsAt w' (gr F w w') al (Ic x fr D).s/\Below w.heap.size w w':=by
 have H:=Q7h h;have HD:=Q7h hd;obtain⟨A,c,rfl,hl,_⟩:=h;obtain⟨AD,cD,rfl,ax,_⟩:=hd;obtain⟨x0,x1,xs⟩:=x;obtain⟨n,hn⟩:∃n,xs.length=n:=⟨_,rfl⟩;obtain⟨L,V⟩:∃n,D.length=n:=⟨_,rfl⟩;simp only[hn,V]at hl ax H HD aw ⊢;have aR:IntKind.i64.wrap (fr+L)=fr+L:=by rw[QqN];omega
 have aM:(L:Int)<=1000:=O;obtain⟨w1,aS,X,ae,am,HS⟩:=Zko w 155 155 #[I x0,I x1,.slice A n c] #[I 0,I 0,.slice none 0 0];obtain⟨⟨z0,z1,z2⟩,_⟩:=V5 ae.out;have af:=Q7h (Ee w1 F (.slice A n c) ⟨x0,x1,xs⟩ fr (fr+L) (H.out.below X.out) (λk hk=>QzB (hF k hk) X.out.size));obtain⟨cs,Y⟩:∃cs,(Ou ⟨x0,x1,xs⟩ fr (fr+L)).s=cs:=⟨_,rfl⟩;obtain⟨Z,aa⟩:∃Z,Ti fr D=Z:=⟨_,rfl⟩;have ay:cs.length<=1000:=by rw[<-Y];have:=QkE (λx:Sec=>decide (x.at_<fr) || decide (fr+L<=x.at_)) xs;exact QqR this O
 have az:Hid (∀(i:Nat) (t:ByteArray),D[i]? =some t->Z.take (i+1)=Z.take i++[⟨fr+i,t⟩]):=λi t ht=>by rw[<-aa];exact Qir fr D i t ht
 have an:Hid (Z.length=L):=by show _=_;rw[<-aa,Qb2,V]
 rw[show(Ic ⟨x0,x1,xs⟩ fr D).s=cs.takeWhile (λy=>decide (y.at_<fr))++Z++cs.dropWhile (λy=>decide (y.at_<fr)) by rw[<-Y,<-aa,<-V];rfl];rw[Y]at af;clear hn V hF Y aa;go_enter Tryz.func175,Tryz.ntmps175
 go_wp2_with fail
 refine af.out.mono ?_;rintro e w2 ⟨aT,rfl,ao,ag⟩;have ah:=Q7h ao;obtain⟨A2,c2,rfl,aF,_⟩:=ao;obtain⟨j,ai⟩:∃m,cs.length=m:=⟨_,rfl⟩;rw[ai]at ah aF ay ⊢;have ap:=Q7h ai;obtain⟨u,aH,ab,aq⟩:=box w2 155 #[I x0,I x1,.slice A2 j c2];have K:Hid (Below w1.heap.size w1 u):=ag.trans (ab.out.mono ag.size);have aj:Hid (Below w.heap.size w u):=X.out.trans (K.out.mono X.out.size);have ak:Hid (SecsAt u (gr F w1 w2) (.slice A2 j c2) cs):=ah.out.below ab.out;have HV:Hid (∀W,Below u.heap.size u W->W.cell? ⟨w2.heap.size,2,none⟩=some (.slice A2 j c2)):=λW hb=>(V5 (aq.out.below hb aq.out.lt)).1.2.2;clear ai ag z0 z1 z2 af ah;go_wp2_with fail
 go_loopw [8,9] (λov kv wr=>∃(k:Nat) (B:Option Addr) (d:Nat),k<=j/\kv= I k/\ov= .slice B k d/\Hid (∀y∈cs.take k,decide (y.at_<fr)=true)/\Hid (SeR wr u.heap.size (.slice B k d) k (cs.take k))/\Hid (Below u.heap.size u wr)) (λ_ kv _=>j-(intOf kv).toNat)
 case atStart=>exact⟨0,none,0,QqM _,rfl,rfl,λy hy=>by simp at hy,SeR.emp,by first|exact QqA _ _|(rw[aH];exact QqA _ _)⟩
 case round=>
  obtain⟨k,B,d,hk,rfl,rfl,HT,M,b⟩:=hrel;have q:=b.out.size;have v2:=HV.out wr b.out;by_cases f:∃y,cs[k]? =some y/\y.at_<fr
  ·obtain⟨y,hy,f⟩:=f;have aK:k<j:=by have:=(QqD.1 hy).1;have:=ap.out;omega
   have N:(k:Int)<(j:Int):=O;obtain⟨g,o,ya,yd,rfl,hx,y1,y2⟩:=Zzf ak.out b.out aK;obtain rfl:(⟨ya,yd⟩:Sec)=y:=by rw[hx]at hy;injection hy
   have f:ya<fr:=f;have HE:Hid (cs.take (k+1)=cs.take k++[⟨ya,yd⟩]):=by show _=_;rw[QzW,hx];rfl
   have aL:=Q7h (Zzr hx HT.out (QxA f));clear hx hy;go_wp2_with (at_builtin;go_must (refine Zzm M rfl rfl rfl rfl O q ?_;intro g2 Q w8 R S))
   go_roundw
   case rel=>exact⟨k+1,some ⟨g2,0,none⟩,Q,O,by go_num,rfl,aL.out,by rw[HE.out];exact R.out,b.out.trans S.out⟩
   case measure=>simp[intOf];omega
  ·have ar:=Q7h (Wj _ HT.out (λz hz=>QyF λe=>f ⟨z,hz,e⟩));have hc:((k:Int)<j/\∃g o ya,A2=some ⟨g,o,none⟩/\wr.cell? ⟨g,o+k*2,none⟩=some (I ya)/\¬ya<fr)\/¬(k:Int)<j:=by
    rcases QyH k j with h|h
    ·obtain⟨g,o,a,d,h1,h2,h3,_⟩:=Zzf ak.out b.out h;exact .inl ⟨O,g,o,a,h1,h3,λe=>f ⟨_,h2,e⟩⟩
    ·exact .inr O
   clear f HT;rcases hc with⟨N,g,o,ya,rfl,y1,aV⟩|N;all_goals
    go_wp2_with fail
    clear v2 N;go_loopw [8,10] (λov iv wr=>∃(i m:Nat) (B:Option Addr) (d:Nat),i<=L/\iv= I i/\ov= .slice B m d/\Hid (SeR wr u.heap.size (.slice B m d) m (cs.take k++Z.take i))/\Hid (Below u.heap.size u wr)) (λ_ iv _=>L-(intOf iv).toNat)
    case atStart=>exact⟨0,k,B,d,QqM _,rfl,rfl,by rw[List.take_zero,QzT];exact M.out,b.out⟩
    case round=>
     clear M b q;obtain⟨i,m,B2,d2,aW,rfl,rfl,M,b⟩:=hrel;have q:=b.out.size;have hm:m<=k+i:=by rw[<-M.out.2,QqK,QzJ,QzJ];omega
     by_cases ac:i<L
     ·have N:(i:Int)<(L:Int):=O;obtain⟨gD,oD,t,rfl,ht,u1⟩:=Zki HD.out (aj.out.trans (b.out.mono aj.out.size)) ac;have HE:=Q7h (az.out i t ht);clear ht;go_wp2_with (at_builtin;go_must (refine Zzm M rfl rfl rfl rfl O q ?_;intro g2 Q w8 R S))
      go_roundw
      case rel=>exact⟨i+1,m+1,some ⟨g2,0,none⟩,Q,O,by go_num,rfl,by rw[HE.out,<-QqU];exact R.out,b.out.trans S.out⟩
      case measure=>simp[intOf];omega
     ·obtain rfl:i=L:=O;have T:=M.out;rw[QkT (l:=Z) (by have:=an.out;omega)]at T;have T:=Q7h T;have v2:=HV.out wr b.out;clear ac;go_wp2_with fail
      go_loopw [8,9] (λov kv wr=>∃(r m:Nat) (B:Option Addr) (d:Nat),k<=r/\r<=j/\kv= I r/\ov= .slice B m d/\Hid (SeR wr u.heap.size (.slice B m d) m (cs.take k++Z++(cs.drop k).take (r-k)))/\Hid (Below u.heap.size u wr)) (λ_ kv _=>j-(intOf kv).toNat)
      case atStart=>exact⟨k,m,B2,d2,QqB _,hk,rfl,rfl,by rw[QyU,List.take_zero,QzT];exact T.out,b.out⟩
      case round=>
       clear v2 M T b q hm;obtain⟨r,m,B3,d3,aX,aN,rfl,rfl,M,b⟩:=hrel;have q:=b.out.size;have hm:m<=3000:=by have:=an.out;rw[<-M.out.2,QqK,QqK,QzJ,QzJ];omega
       have v2:=HV.out wr b.out;by_cases au:r<j
       ·have N:(r:Int)<(j:Int):=O;obtain⟨g3,o3,ya,yd,hA,hx,y1,y2⟩:=Zzf ak.out b.out au;first|subst hA|(injection hA with hA;injection hA with q1 q2;subst q1 q2)
        have HE:Hid ((cs.drop k).take (r+1-k)=(cs.drop k).take (r-k)++[⟨ya,yd⟩]):=by
         show _=_;rw[show r+1-k=(r-k)+1 by omega,QzW,QjY,show k+(r-k)=r by omega,hx];rfl
        clear hx;go_wp2_with (at_builtin;go_must (refine Zzm M rfl rfl rfl rfl O q ?_;intro g2 Q w8 R S))
        go_roundw
        case rel=>exact⟨r+1,m+1,some ⟨g2,0,none⟩,Q,O,O,by go_num,rfl,by rw[HE.out,<-QqU];exact R.out,b.out.trans S.out⟩
        case measure=>simp[intOf];omega
       ·obtain rfl:r=j:=O;have av:Hid (Below w1.heap.size w1 wr):=K.out.trans (b.out.mono K.out.size);obtain⟨⟨k0,k1,aY⟩,f0,f1,f2⟩:=V5 (ae.out.below av.out ae.out.lt);have ad:=Q7h (am.out.below av.out am.out.lt);obtain⟨⟨o0,o1,o2⟩,e0,e1,e2⟩:=V5 ad.out;go_wp2_with fail
        have hR:=M.out;rw[QkT (l:=cs.drop k) (by rw[QkJ];have:=ap.out;omega)]at hR;obtain⟨⟨r0,r1,r2⟩,h⟩:=Zz2 (F:=F) (p:=w.heap.size) (I x0) (I x1) rfl ad.out hR O b.out aj.out (by have:=HS.out;have:=K.out.size;omega);exact QqG (v:= .agg #[I x0,I x1,.slice B3 m d3]) (by simp[results,Tryz.results175,go_sem,r0,r1,r2]) rfl ⟨_,rfl,by rw[ar.out.1,ar.out.2];exact h⟩
end dc
end Go.Proofs.YtfialjmemcobjaaGreatDoor
