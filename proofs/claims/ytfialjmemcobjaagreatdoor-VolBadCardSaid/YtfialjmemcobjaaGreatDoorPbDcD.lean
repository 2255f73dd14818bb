/- A part of the proof. -/
import Derived.Test.YtfialjmemcobjaaGreatDoorPbFlL
import Derived.Deep.AppendLies
import Derived.BigQuiet
import Derived.Deep.QuietTactic
set_option maxRecDepth 100000
set_option maxHeartbeats 16000000
set_option linter.unusedVariables false
set_option linter.unusedSimpArgs false
namespace Go.Proofs.YtfialjmemcobjaaGreatDoor
namespace dc
open Go.RowKit er
theorem Qxh:(Tryz.prog.info? 155).map (λi=>(i.zero,i.size,i.bytes))=some (some (.agg #[I 0,I 0,.slice none 0 0]),3,40):=J
theorem Qxm:(Tryz.prog.info? 157).map (λi=>(i.zero,i.size,i.bytes))=some (some (.agg #[I 0,.string ⟨#[]⟩]),2,24):=J
structure Inf(t e:TypeId)(s:Nat):Prop where
 ex:∃i z b,Tryz.prog.underlying t=some (.slice e)/\Tryz.prog.info? e=some i/\i.zero=some z/\i.size=s/\i.bytes=b/\z.cells.size=s/\0<s/\b<=100
theorem Zkq{t e:TypeId}{z:Value}{s b:Nat}(h:(Tryz.prog.info? e).map (λi=>(i.zero,i.size,i.bytes))=some (some z,s,b))(a:Tryz.prog.underlying t=some (.slice e))(hz:z.cells.size=s)(c:0<s)(hb:b<=100):Inf t e s:=by
 obtain⟨i,h1,h2,h3,h4⟩:=QzX h;exact⟨i,z,b,a,h1,h2,h3,h4,hz,c,hb⟩
theorem Zkc:Inf 62 155 3:=Zkq Qxh Tryz.underlying62 rfl D D
theorem Zkf:Inf 153 157 2:=Zkq Qxm Tryz.underlying153 rfl D D
theorem push{ops:Array Oper}{rest:List Oper}{o:Oper}{a:Act}{Q:Exit->Act->World->Prop}{w:World}{t e j:TypeId}{s:Nat}(I:Inf t e s)(f:o.guard=none){p x:Operand}(l:o.op= .call {callee:= .builtin .append,args:=#[p,x],argTypes:=#[t,t]}){base n d:Nat}{B:Option Addr}{xs:List Value}(k:Hid (w.ownsRow base e s (.slice B n d) n xs))(m:a.eval p= .slice B n d){cs:List Value}(q:a.eval x= .slice (some ⟨w.heap.size,0,none⟩) 1 1)(N:cs.length=s)(h1:∀u∈cs,u.oneCell'=true)(R:n<=100000)(hb:base<=w.heap.size)
  (h:∀g c w',Hid (w'.ownsRow base e s (.slice (some ⟨g,0,none⟩) (n+1) c) (n+1) (xs++cs))->Hid (Below base w w')->wpList Tryz.prog ops Q rest (a.put o.dst (.slice (some ⟨g,0,none⟩) (n+1) c)) w'):wpList Tryz.prog ops Q (o::rest) a (w.alloc (.cells cs.toArray j)):=by
 obtain⟨i,z,b,r,v,y,F,H,K,L,M⟩:=I.ex;refine wpList_append_lies _ f p x t l base e i z s b r v y F H K L (.slice B n d) n xs m (k.out.alloc _) ⟨w.heap.size,0,none⟩ 1 1 cs q O ?_ h1 O (by simp only[maxLen];omega) (QqR (QgS (show n+1<=100001 by omega) M) D) (by simp only[QqW];omega) _ rfl (λg c w' h2 h3 _ _=>h g c w' h2 (Qy k.out h3 hb));have:=World.news_of_block (QzY w (.cells cs.toArray j));simpa using this
theorem bt{a W w':World}(h:Below a a W)(k:Below W W w'):Below a a w':=h.trans (k.mono h.size)
theorem box(w:World)(t:TypeId)(cs:Array Value):∃w1,w.alloc (.cells cs t)=w1/\Hid (Below w w w1)/\Hid (Whole w1 w.heap.size t cs):=⟨_,rfl,B0.alloc N0 _,Whole.new _ _ _⟩
theorem Zko(w:World)(t t2:TypeId)(cs a:Array Value):∃w1,(w.alloc (.cells cs t)).alloc (.cells a t2)=w1/\Hid (Below w w w1)/\Hid (Whole w1 w.heap.size t cs)/\Hid (Whole w1 (w.heap.size+1) t2 a)/\Hid (w1.heap.size=w.heap.size+2):=⟨_,rfl,(B0.alloc N0 _).alloc U _,Whole.alloc (Whole.new _ _ _) _,Whole.new' _ _ _ _ U,by show _=_;simp⟩
theorem Zzn{w:World}{q:Nat}{t:TypeId}{x y:Value}(h:Whole w q t #[x,y]):(w.cell? (q,0)=some x/\w.cell? (q,1)=some y)/\w.frozen? (q,0)=false/\w.frozen? (q,1)=false:=⟨⟨h.cell 0,h.cell 1⟩,h.fz 0,h.fz 1⟩
theorem V5{w:World}{q:Nat}{t:TypeId}{x y z:Value}(h:Whole w q t #[x,y,z]):(w.cell? (q,0)=some x/\w.cell? (q,1)=some y/\w.cell? (q,2)=some z)/\w.frozen? (q,0)=false/\w.frozen? (q,1)=false/\w.frozen? (q,2)=false:=⟨⟨h.cell 0,h.cell 1,h.cell 2⟩,h.fz 0,h.fz 1,h.fz 2⟩
theorem Zzf{w wr:World}{F:Nat->Prop}{A:Option Addr}{n c i:Nat}{l:List Sec}(h:SecsAt w F (.slice A n c) l)(hb:Below w.heap.size w wr)(hi:i<n):∃g o a d,A=some ⟨g,o,none⟩/\l[i]? =some ⟨a,d⟩/\wr.cell? ⟨g,o+i*2,none⟩=some (I a)/\wr.cell? ⟨g,o+i*2+1,none⟩=some (.string d):=by
 obtain⟨k,m,e,_,h⟩:=h;injection e with b f j;subst b f j;obtain⟨g,o,rfl,_,h⟩:=h O;obtain⟨a1,a2⟩:=h i _ (QqC hi);exact⟨g,o,_,_,rfl,QqC hi,Qq hb a1,Qq hb a2⟩
theorem Zzd{w wr:World}{F:Nat->Prop}{A:Option Addr}{n c i:Nat}{l:List Spc}(h:SpcsAt w F (.slice A n c) l)(hb:Below w.heap.size w wr)(hi:i<n):∃g o a b s f k j,A=some ⟨g,o,none⟩/\l[i]? =some ⟨a,b,s⟩/\(wr.cell? ⟨g,o+i*3,none⟩=some (I a)/\wr.cell? ⟨g,o+i*3+1,none⟩=some (I b)/\wr.cell? ⟨g,o+i*3+2,none⟩=some (.slice f k j))/\Hid (SecsAt w F (.slice f k j) s)/\k<=100000:=by
 obtain⟨f,j,e,_,h⟩:=h;injection e with m p q;subst m p q;obtain⟨g,o,rfl,_,h⟩:=h O;obtain⟨sv,a1,a2,a3,r⟩:=h i _ (QqC hi);obtain⟨B,d,rfl,h1,h2⟩:=r;exact⟨g,o,_,_,_,B,_,d,rfl,QqC hi,⟨Qq hb a1,Qq hb a2,Qq hb a3⟩,⟨B,d,rfl,h1,h2⟩,h1⟩
def Bj(L:List (Spc×Value)):List Value:=L.flatMap λy=>[I y.1.id,I y.1.size,y.2]
def Xb(l:List Sec):List Value:=l.flatMap λx=>[I x.at_,.string x.data]
theorem Qre(L:List (Spc×Value))(y:Spc×Value):Bj (L++[y])=Bj L++[I y.1.id,I y.1.size,y.2]:=by simp[Bj]
theorem Ub(l:List Sec)(x:Sec):Xb (l++[x])=Xb l++[I x.at_,.string x.data]:=by simp[Xb]
theorem Qmx:∀(L:List (Spc×Value)) (j:Nat) (y:Spc×Value),L[j]? =some y->(Bj L)[j*3]? =some (I y.1.id)/\(Bj L)[j*3+1]? =some (I y.1.size)/\(Bj L)[j*3+2]? =some y.2
 |[],j,y,h=>by simp at h
 |z::L,0,y,h=>by
  simp at h;subst h;exact⟨rfl,rfl,rfl⟩
 |z::L,j+1,y,h=>by
  have a:=Qmx L j y (by simpa using h);have e:Bj (z::L)= I z.1.id::I z.1.size::z.2::Bj L:=by simp[Bj]
  rw[e,show(j+1)*3=j*3+1+1+1 by omega];simpa using a
theorem Qmu:∀(l:List Sec) (j:Nat) (x:Sec),l[j]? =some x->(Xb l)[j*2]? =some (I x.at_)/\(Xb l)[j*2+1]? =some (.string x.data)
 |[],j,x,h=>by simp at h
 |z::l,0,x,h=>by
  simp at h;subst h;exact⟨rfl,rfl⟩
 |z::l,j+1,x,h=>by
  have a:=Qmu l j x (by simpa using h);have e:Xb (z::l)= I z.at_::.string z.data::Xb l:=by simp[Xb]
  rw[e,show(j+1)*2=j*2+1+1 by omega];simpa using a
theorem Hu{w:World}{F:Nat->Prop}{B n:Nat}{v:Value}{l:List Sec}(h:w.ownsRow B 157 2 v n (Xb l))(d:l.length=n)(i:n<=100000)(e:∀k,B<=k->k<w.heap.size->F k):SecsAt w F v l:=by
 obtain⟨A,c,rfl⟩:=Qk h;refine⟨A,c,by rw[d],O,λm=>?_⟩;obtain⟨g,rfl,_,_,_,a,_⟩:=Qx h O;have b:=h.lt g rfl;refine⟨g,0,rfl,e g b.1 b.2,λj x f=>?_⟩;obtain⟨a1,a2⟩:=Qmu l j x f;exact⟨by have:=a _ _ a1;simpa using this,by have:=a _ _ a2;simpa using this⟩
def SeR(w:World)(B:Nat)(v:Value)(n:Nat)(l:List Sec):Prop:=w.ownsRow B 157 2 v n (Xb l)/\l.length=n
theorem SeR.emp{w:World}{B:Nat}:SeR w B (.slice none 0 0) 0 []:=⟨⟨rfl,.inl ⟨rfl,rfl⟩⟩,rfl⟩
theorem SeR.snoc{w:World}{B g n c:Nat}{l:List Sec}{a:Int}{d:ByteArray}(b:l.length=n)(h:w.ownsRow B 157 2 (.slice (some (g,0)) (n+1) c) (n+1) (Xb l++[I a,.string d])):SeR w B (.slice (some (g,0)) (n+1) c) (n+1) (l++[⟨a,d⟩]):=⟨by rw[Ub];exact h,by rw[QqK,b];rfl⟩
structure SpRow(w0 w:World)(F:Nat->Prop)(B:Nat)(v:Value)(n:Nat)(l:List Spc):Prop where
 ex:∃L:List (Spc×Value),L.map (·.1)=l/\w.ownsRow B 155 3 v n (Bj L)/\(∀y∈L,SecsAt w0 F y.2 y.1.s)/\l.length=n
theorem SpRow.below{w0 w w':World}{F:Nat->Prop}{B n:Nat}{v:Value}{l:List Spc}(h:SpRow w0 w F B v n l)(hb:Below w w w'):SpRow w0 w' F B v n l:=by
 obtain⟨L,h1,h2,h3,h4⟩:=h.ex;exact⟨L,h1,own_below h2 hb,h3,h4⟩
theorem SpRow.emp{w0 w:World}{F:Nat->Prop}{B:Nat}:SpRow w0 w F B (.slice none 0 0) 0 []:=⟨[],rfl,⟨rfl,.inl ⟨rfl,rfl⟩⟩,λy a=>(by cases a),rfl⟩
theorem SpRow.done{w0 w:World}{F G:Nat->Prop}{B n:Nat}{v:Value}{l:List Spc}(h:SpRow w0 w F B v n l)(i:n<=100000)(hb:Below w0 w0 w)(e:∀k,B<=k->k<w.heap.size->G k)(f:∀k,F k->G k):SpcsAt w G v l:=by
 obtain⟨L,h1,h2,h3,h4⟩:=h.ex;obtain⟨A,c,rfl⟩:=Qk h2;refine⟨A,c,by rw[h4],O,λm=>?_⟩;obtain⟨g,rfl,_,_,_,b,_⟩:=Qx h2 O;have d:=h2.lt g rfl;refine⟨g,0,rfl,e g d.1 d.2,λj x a=>?_⟩;subst h1;rw[QzF]at a;cases hy:L[j]? with
 |none=>rw[hy]at a;cases a
 |some y=>
  rw[hy]at a;injection a with a;subst a;obtain⟨a1,a2,a3⟩:=Qmx L j y hy;exact⟨y.2,by have:=b _ _ a1;simpa using this,by have:=b _ _ a2;simpa using this,by have:=b _ _ a3;simpa using this,((h3 y (QqL hy)).below hb).mono f⟩
theorem SpRow.snoc{w0 d:World}{F:Nat->Prop}{B m e c2:Nat}{sv:Value}{l:List Spc}{L:List (Spc×Value)}{x:Spc}{a b:Int}(h1:L.map (·.1)=l)(h3:∀y∈L,SecsAt w0 F y.2 y.1.s)(h4:l.length=m)(f:SecsAt w0 F sv x.s)(ha:x.id=a)(hb:x.size=b)(h:d.ownsRow B 155 3 (.slice (some (e,0)) (m+1) c2) (m+1) (Bj L++[I a,I b,sv])):SpRow w0 d F B (.slice (some (e,0)) (m+1) c2) (m+1) (l++[x]):=by
 refine⟨L++[(x,sv)],by rw[QqY,h1];rfl,by rw[Qre,ha,hb];exact h,λy c=>?_,by rw[QqK,h4];rfl⟩;rcases QqJ.1 c with c|c
 ·exact h3 y c
 ·simp only[QzG]at c;subst c;exact f
theorem Zzm{ops:Array Oper}{rest:List Oper}{o:Oper}{a:Act}{Q:Exit->Act->World->Prop}{w:World}{f:TypeId}{p x:Operand}{B n d:Nat}{A:Option Addr}{l:List Sec}{u:Int}{v:ByteArray}(e:Hid (SeR w B (.slice A n d) n l))(b:o.guard=none)(i:o.op= .call {callee:= .builtin .append,args:=#[p,x],argTypes:=#[153,153]})(j:a.eval p= .slice A n d)(k:a.eval x= .slice (some ⟨w.heap.size,0,none⟩) 1 1)(m:n<=100000)(hb:B<=w.heap.size)
  (h:∀g c w',Hid (SeR w' B (.slice (some ⟨g,0,none⟩) (n+1) c) (n+1) (l++[⟨u,v⟩]))->Hid (Below B w w')->wpList Tryz.prog ops Q rest (a.put o.dst (.slice (some ⟨g,0,none⟩) (n+1) c)) w'):wpList Tryz.prog ops Q (o::rest) a (w.alloc (.cells #[I u,.string v] f)):=
 push (cs:=[I u,.string v]) Zkf b i e.out.1 j k rfl (by simp[Value.oneCell']) m hb λg c w' h1 h2=>h g c w' (SeR.snoc e.out.2 h1.out) h2
theorem Zzl{ops:Array Oper}{rest:List Oper}{o:Oper}{a:Act}{Q:Exit->Act->World->Prop}{w0 w:World}{F:Nat->Prop}{i:TypeId}{p x:Operand}{B n d:Nat}{A:Option Addr}{l:List Spc}{u y:Int}{b:Option Addr}{k e:Nat}{s:List Sec}(j:Hid (SpRow w0 w F B (.slice A n d) n l))(m:Hid (SecsAt w0 F (.slice b k e) s))(f:o.guard=none)(q:o.op= .call {callee:= .builtin .append,args:=#[p,x],argTypes:=#[62,62]})(r:a.eval p= .slice A n d)(t:a.eval x= .slice (some ⟨w.heap.size,0,none⟩) 1 1)(v:n<=100000)(hb:B<=w.heap.size)
  (h:∀g c w',Hid (SpRow w0 w' F B (.slice (some ⟨g,0,none⟩) (n+1) c) (n+1) (l++[⟨u,y,s⟩]))->Hid (Below B w w')->wpList Tryz.prog ops Q rest (a.put o.dst (.slice (some ⟨g,0,none⟩) (n+1) c)) w'):wpList Tryz.prog ops Q (o::rest) a (w.alloc (.cells #[I u,I y,.slice b k e] i)):=by
 obtain⟨L,h1,h2,h3,h4⟩:=j.out.ex;exact push (cs:=[I u,I y,.slice b k e]) Zkc f q h2 r t rfl (by simp[Value.oneCell']) v hb λg c w' z H=>h g c w' (SpRow.snoc h1 h3 h4 m.out rfl rfl z.out) H
theorem Zkx{w b W f:World}{F F':Nat->Prop}{p q m d:Nat}{A:Option Addr}{l:List Spc}{x y:Value}{t:TypeId}(a:Value)(e:f=((W.setCell (p,1) (.slice A m d)).setCell (q,0) a).setCell (q,1) (.slice A m d))(j:Whole W q t #[x,y])(n:SpRow b W F' b.heap.size (.slice A m d) m l)(o:m<=100000)(hb:Below b b W)(c:Below w w b)(r:w.heap.size<=p/\w.heap.size<=q/\p<b.heap.size/\q<b.heap.size/\q≠p)(i:∀k,F' k->k≠p/\k≠q/\gr F w b k):
  (f.cell? (q,0)=some a/\f.cell? (q,1)=some (.slice A m d))/\SpcsAt f (gr F w f) (.slice A m d) l/\Below w w f:=by
 subst e;have z:=((j.keep (Keep.set1 W p 1 (.slice A m d)) r.2.2.2.2).set 0 a).set 1 (.slice A m d);have g:Keep (λk=>k=p\/k=q) W (((W.setCell (p,1) (.slice A m d)).setCell (q,0) a).setCell (q,1) (.slice A m d)):=(((Keep.refl (λk=>k=p\/k=q) W).setCell (p:=(p,1)) (.inl (.inl rfl)) _).setCell (p:=(q,0)) (.inl (.inr rfl)) _).setCell (p:=(q,1)) (.inl (.inr rfl)) _;have v:=g.size;have s:=hb.size;have u:=n.done (G:=λk=>F' k\/(b.heap.size<=k/\k<W.heap.size)) o hb (λk h1 h2=>.inr ⟨h1,h2⟩) (λk h=>.inl h);have h1:=c.trans (hb.mono c.size);refine⟨⟨by simpa using z.cell 0,by simpa using z.cell 1⟩,(u.keep g ?_).mono ?_,h1.trans (g.toBelow h1.size (λk g=>O))⟩
 ·rintro k (h|h) g
  ·have:=i k h;omega
  ·omega
 ·rintro k (h|h)
  ·rcases(i k h).2.2 with h|h
   ·exact .inl h
   ·exact .inr ⟨h.1,O⟩
  ·exact .inr ⟨by have:=c.size;omega,O⟩
theorem Zz2{w c W f:World}{F:Nat->Prop}{p q m d:Nat}{A:Option Addr}{l:List Sec}{x y z:Value}{t:TypeId}(a b:Value)(e:f=(((W.setCell (p,2) (.slice A m d)).setCell (q,0) a).setCell (q,1) b).setCell (q,2) (.slice A m d))(n:Whole W q t #[x,y,z])(j:SeR W c.heap.size (.slice A m d) m l)(o:m<=100000)(hb:Below c c W)(g:Below w w c)(r:w.heap.size<=p/\w.heap.size<=q/\p<c.heap.size/\q<c.heap.size/\q≠p):
  (f.cell? (q,0)=some a/\f.cell? (q,1)=some b/\f.cell? (q,2)=some (.slice A m d))/\SecsAt f (gr F w f) (.slice A m d) l/\Below w w f:=by
 subst e;have z:=(((n.keep (Keep.set1 W p 2 (.slice A m d)) r.2.2.2.2).set 0 a).set 1 b).set 2 (.slice A m d);have i:Keep (λk=>k=p\/k=q) W ((((W.setCell (p,2) (.slice A m d)).setCell (q,0) a).setCell (q,1) b).setCell (q,2) (.slice A m d)):=((((Keep.refl (λk=>k=p\/k=q) W).setCell (p:=(p,2)) (.inl (.inl rfl)) _).setCell (p:=(q,0)) (.inl (.inr rfl)) _).setCell (p:=(q,1)) (.inl (.inr rfl)) _).setCell (p:=(q,2)) (.inl (.inr rfl)) _;have u:=i.size;have s:=Hu (F:=λk=>c.heap.size<=k/\k<W.heap.size) j.1 j.2 o (λk h1 h2=>⟨h1,h2⟩);have h1:=g.trans (hb.mono g.size);exact⟨⟨by simpa using z.cell 0,by simpa using z.cell 1,by simpa using z.cell 2⟩,(s.keep i (λk h e=>O)).mono (λk h=>.inr ⟨by have:=g.size;omega,O⟩),h1.trans (i.toBelow h1.size (λk i=>O))⟩
def Ky(l:List Spc)(id:Int):Int:=match Iq l id with|some i=>(i:Int)|none=> -1
theorem Qsh{l:List Spc}{id:Int}{i:Nat}{x:Spc}(a:l[i]? =some x)(h:∀y∈l.take i,y.id≠id)(b:x.id=id):Ky l id=i:=by
 have hi:=(QqD.1 a).1;have:Iq l id=some i:=by
  unfold Iq;rw[QkP];refine⟨hi,by rw[(QqD.1 a).2];simpa using b,λj c=>?_⟩;have:=h (l[j]'O) (by rw[List.mem_take_iff_getElem];exact⟨j,O,rfl⟩);simpa using this
 unfold Ky;rw[this]
theorem Qsl{l:List Spc}{id:Int}(h:∀y∈l,y.id≠id):Ky l id= -1:=by
 have:Iq l id=none:=by
  unfold Iq;rw[QjV];intro y a;simpa using h y a
 unfold Ky;rw[this]
theorem Zzr{α:Type}{P:α->Prop}{l:List α}{i:Nat}{x:α}(a:l[i]? =some x)(h:∀y∈l.take i,P y)(b:P x):∀y∈l.take (i+1),P y:=by
 intro z hz;rw[QzW,a]at hz;rcases QqJ.1 hz with hz|hz
 ·exact h z hz
 ·simp at hz;rw[hz];exact b
theorem Xg(w:World)(F:Nat->Prop)(v:Value)(r:Dv)(id:Int)(h:DvAt w F v r):
  C 168 #[v,I id] w λe w'=>e= .returned (I (Ky r.l id))/\Below w w w':=by
 obtain⟨lv,rfl,K⟩:=h.row;have H:=Q7h K;obtain⟨A,c,rfl,M,_⟩:=K;obtain⟨cap,l⟩:=r;obtain⟨n,m⟩:=Zx l.length;simp only[m]at M H ⊢;have N:=Q7h m;have Q:(n:Int)<=100000:=O;obtain⟨w1,R,d,j⟩:=box w 64 #[I cap,.slice A n c];have x1:w1.cell? (w,1)=some (.slice A n c):=j.o.cell 1;clear m;go_in
 go_wp2_with fail
 go_loopw [5] (λiv wr=>∃i:Nat,i<=n/\iv= I i/\Hid (∀y∈l.take i,y.id≠id)/\wr=w1) (λiv _=>n-(intOf iv).toNat)
 case atStart=>exact⟨0,QqM _,rfl,λy p=>by simp at p,by first|rfl|assumption⟩
 case round=>
  obtain⟨i,hi,rfl,q,rfl⟩:=hrel;by_cases t:i<n
  ·have S:(i:Int)<(n:Int):=O;obtain⟨g,o,u,b,s,T,k,V,rfl,L,⟨W,_⟩,_⟩:=Zzd H.o d.o t;have j:=Q7h L;clear L;by_cases a:u=id
   ·have f:(u==id)=true:=by simpa using a
    have x:Hid (Ky l id=i):=Qsh j.o q.o a;clear a;go_wp2_with fail
    go_ret
    exact⟨by rw[x.o];rfl,d.o⟩
   ·have f:(u==id)=false:=by simpa using a
    have z:=Q7h (Zzr j.o q.o a);clear a;go_wp2_with fail
    go_roundw
    case rel=>exact⟨i+1,O,by go_num,z.o,trivial⟩
    case measure=>simp[intOf];omega
  ·obtain rfl:i=n:=O;have x:Hid (Ky l id= -1):=Qsl (λy p=>q.o y (by rw[QkT (by have:=N.o;omega)];exact p));go_wp2_with fail
   go_ret
   exact⟨by rw[x.o];rfl,d.o⟩
def Vk(l:List Spc):Int:=(l.map λx=>(x.s.length:Int)).sum
theorem Qov{l:List Spc}{i:Nat}{x:Spc}(a:l[i]? =some x):Vk (l.take (i+1))=Vk (l.take i)+x.s.length:=by
 unfold Vk;rw[QzW,a,QqY,QuS];simp
theorem Bp(w:World)(F:Nat->Prop)(v:Value)(r:Dv)(h:DvAt w F v r)(d:0<=r.cap/\r.cap<=1000000000):
  C 98 #[v] w λe w'=>e= .returned (I (Ug r))/\Below w w w':=by
 obtain⟨lv,rfl,p⟩:=h.row;have H:=Q7h p;obtain⟨A,c,rfl,y,_⟩:=p;obtain⟨cap,l⟩:=r;obtain⟨n,f⟩:=Zx l.length;simp only[f]at y H d ⊢;have z:=Q7h f;have K:(n:Int)<=100000:=O;obtain⟨w1,L,a,t⟩:=box w 64 #[I cap,.slice A n c];have x0:=t.o.cell 0;have x1:=t.o.cell 1;clear f;go_in
 go_wp2_with fail
 go_loopw [3,4] (λM iv wr=>∃(i:Nat) (q:Int),i<=n/\M= I q/\iv= I i/\Hid (q=cap-Vk (l.take i))/\(-100000*(i:Int)<=q/\q<=1000000000)/\wr=w1) (λ_ iv _=>n-(intOf iv).toNat)
 case atStart=>exact⟨0,cap,QqM _,rfl,rfl,by show _=_;simp[Vk],O,by first|rfl|assumption⟩
 case round=>
  obtain⟨i,q,hi,rfl,rfl,u,hq,rfl⟩:=hrel;by_cases j:i<n
  ·have N:(i:Int)<(n:Int):=O;obtain⟨g,o,T,b,s,V,k,W,rfl,x,⟨_,_,X⟩,Q,Y⟩:=Zzd H.o a.o j;have m:Hid (q-k=cap-Vk (l.take (i+1))):=by
    obtain⟨_,_,e,_⟩:=Q.o;injection e with _ R _;show _=_;rw[Qov x,u.o,R];simp only;omega
   clear x;go_wp2_with fail
   go_roundw
   case rel=>exact⟨i+1,q-k,O,by go_num,by go_num,m.o,O,trivial⟩
   case measure=>simp[intOf];omega
  ·obtain rfl:i=n:=O;have S:Hid (q=Ug ⟨cap,l⟩):=by
    show _=_;rw[u.o,QkT (by have:=z.o;omega)];rfl
   go_wp2_with fail
   go_ret
   exact⟨by rw[S.o];rfl,a.o⟩
theorem Sv{α:Type}(p:α->Bool){l:List α}{i:Nat}{x:α}(a:l[i]? =some x):(l.take (i+1)).filter p=(l.take i).filter p++if p x=true then[x]else[]:=by
 rw[QzW,a,QjZ];simp[QkX]
theorem Dy(w:World)(F:Nat->Prop)(v:Value)(r:Dv)(id:Int)(h:DvAt w F v r):
  C 172 #[v,I id] w λe w'=>∃lv,e= .returned (.agg #[I r.cap,lv])/\SpcsAt w' (gr F w w') lv (Zj r.l id)/\Below w w w':=by
 have HF:=Q7h h.lt;obtain⟨lv,rfl,Y⟩:=h.row;have H:=Q7h Y;obtain⟨A,c,rfl,hl,_⟩:=Y;obtain⟨cap,l⟩:=r;obtain⟨n,K⟩:=Zx l.length;simp only[K]at hl H ⊢;have HN:=Q7h K;have aa:(n:Int)<=100000:=O;obtain⟨w1,L,j,u,x,HS⟩:=Zko w 64 64 #[I cap,.slice A n c] #[I 0,.slice none 0 0];clear K;go_in
 go_wp2_with fail
 go_loopw [5,6] (λov iv wr=>∃(i m:Nat) (B:Option Addr) (d:Nat),i<=n/\m<=i/\iv= I i/\ov= .slice B m d/\Hid (SpRow w1 wr F w1.heap.size (.slice B m d) m (Zj (l.take i) id))/\Hid (Below w1 w1 wr)) (λ_ iv _=>n-(intOf iv).toNat)
 case atStart=>exact⟨0,0,none,0,QqM _,QqB _,rfl,rfl,SpRow.emp,by first|exact QqA _ _|(rw[L];exact QqA _ _)⟩
 case round=>
  obtain⟨i,m,B,d,hi,ab,rfl,rfl,M,t⟩:=hrel;have N:Hid (Below w w wr):=j.o.trans (t.o.mono j.o.size);obtain⟨⟨z0,z1⟩,f0,f1⟩:=Zzn (u.o.below t.o u.o.lt);by_cases Q:i<n
  ·have ac:(i:Int)<(n:Int):=O;obtain⟨g,o,a,b,s,A',k,c',rfl,Z,⟨y1,y2,y3⟩,R,S⟩:=Zzd H.o N.o Q;have y:Hid (Zj (l.take (i+1)) id=Zj (l.take i) id++if decide (a≠id)=true then[⟨a,b,s⟩]else[]):=Sv _ Z;clear Z f0 f1;by_cases f:a=id
   ·have z:(a==id)=true:=by simpa using f
    have T:Hid (Zj (l.take (i+1)) id=Zj (l.take i) id):=by show _=_;rw[y.o,QqE (by simpa using f),QzT]
    clear f;go_wp2_with fail
    go_roundw
    case rel=>exact⟨i+1,m,B,d,O,O,by go_num,rfl,by rw[T.o];exact M.o,t.o⟩
    case measure=>simp[intOf];omega
   ·have z:(a==id)=false:=by simpa using f
    have T:Hid (Zj (l.take (i+1)) id=Zj (l.take i) id++[⟨a,b,s⟩]):=by show _=_;rw[y.o,QqH (by simpa using f)]
    have V:=t.o.size;clear f;go_wp2_with (at_builtin;go_must (refine Zzl M (R.o.below j.o) rfl rfl rfl rfl O V ?_;intro g2 c2 w8 W X))
    go_roundw
    case rel=>exact⟨i+1,m+1,some (g2,0),c2,O,O,by go_num,rfl,by rw[T.o];exact W.o,t.o.trans X.o⟩
    case measure=>simp[intOf];omega
  ·obtain rfl:i=n:=O;have q:=Q7h (x.o.below t.o x.o.lt);obtain⟨⟨o0,o1⟩,e0,e1⟩:=Zzn q.o;go_wp2_with fail
   have hR:=M.o;rw[QkT (by have:=HN.o;omega)]at hR;obtain⟨⟨r0,r1⟩,h⟩:=Zkx (F:=F) (F':=F) (p:=w.heap.size) (I cap) rfl q.o hR O t.o j.o (by have:=HS.o;omega) (λk S=>by have:=HF.o k S;exact⟨O,O,.inl S⟩);exact QqG (v:= .agg #[I cap,.slice B m d]) (by simp[results,Tryz.results172,go_sem,r0,r1]) rfl ⟨_,rfl,h⟩
theorem Ee(w:World)(F:Nat->Prop)(sv:Value)(x:Spc)(fr a:Int)(h:SecsAt w F sv x.s)(hF:∀k,F k->k<w.heap.size):
  C 171 #[.agg #[I x.id,I x.size,sv],I fr,I a] w λe w'=>∃y,e= .returned (.agg #[I x.id,I x.size,y])/\SecsAt w' (gr F w w') y (Ou x fr a).s/\Below w w w':=by
 have H:=Q7h h;obtain⟨A,c,rfl,hl,_⟩:=h;obtain⟨x0,x1,l⟩:=x;obtain⟨n,M⟩:=Zx l.length;simp only[M]at hl H ⊢;have HN:=Q7h M;have aa:(n:Int)<=100000:=O;obtain⟨w1,N,q,z,K,HS⟩:=Zko w 155 155 #[I x0,I x1,.slice A n c] #[I 0,I 0,.slice none 0 0];obtain⟨b,r⟩:∃b:Sec->Bool,(λx=>decide (x.at_<fr) || decide (a<=x.at_))=b:=⟨_,rfl⟩;have HP:Hid (∀x:Sec,b x=(decide (x.at_<fr) || decide (a<=x.at_))):=λx=>by rw[<-r]
 rw[show(Ou ⟨x0,x1,l⟩ fr a).s=l.filter b by rw[<-r];rfl];clear M hF r;go_in
 go_wp2_with fail
 go_loopw [7,8] (λov iv wr=>∃(i m:Nat) (B:Option Addr) (d:Nat),i<=n/\m<=i/\iv= I i/\ov= .slice B m d/\Hid (SeR wr w1.heap.size (.slice B m d) m ((l.take i).filter b))/\Hid (Below w1 w1 wr)) (λ_ iv _=>n-(intOf iv).toNat)
 case atStart=>exact⟨0,0,none,0,QqM _,QqB _,rfl,rfl,SeR.emp,by first|exact QqA _ _|(rw[N];exact QqA _ _)⟩
 case round=>
  obtain⟨i,m,B,d,hi,ab,rfl,rfl,Q,t⟩:=hrel;have R:=Q7h (q.o.trans (t.o.mono q.o.size));obtain⟨⟨z0,z1,z2⟩,f0,f1,f2⟩:=V5 (z.o.below t.o z.o.lt);by_cases S:i<n
  ·have ac:(i:Int)<(n:Int):=O;obtain⟨g,o,u,Y,rfl,Z,y1,y2⟩:=Zzf H.o R.o S;have L:=Q7h (Sv b Z);have f:=HP.o ⟨u,Y⟩;clear Z f0 f1 f2;by_cases hq:u<fr\/(¬u<fr/\a<=u)
   ·have T:Hid ((l.take (i+1)).filter b=(l.take i).filter b++[⟨u,Y⟩]):=by show _=_;rw[L.o,QqH (by rw[f];simp;omega)]
    have V:=t.o.size;clear f;rcases hq with hq|⟨hq,ad⟩;all_goals
     go_wp2_with (at_builtin;go_must (refine Zzm Q rfl rfl rfl rfl O V ?_;intro g2 c2 w8 W X))
     go_roundw
     case rel=>exact⟨i+1,m+1,some (g2,0),c2,O,O,by go_num,rfl,by rw[T.o];exact W.o,t.o.trans X.o⟩
     case measure=>simp[intOf];omega
   ·have T:Hid ((l.take (i+1)).filter b=(l.take i).filter b):=by show _=_;rw[L.o,QqE (by rw[f];simp;omega),QzT]
    obtain⟨q1,q2⟩:¬u<fr/\¬a<=u:=O;clear f hq;go_wp2_with fail
    go_roundw
    case rel=>exact⟨i+1,m,B,d,O,O,by go_num,rfl,by rw[T.o];exact Q.o,t.o⟩
    case measure=>simp[intOf];omega
  ·obtain rfl:i=n:=O;have j:=Q7h (K.o.below t.o K.o.lt);obtain⟨⟨o0,o1,o2⟩,e0,e1,e2⟩:=V5 j.o;go_wp2_with fail
   have hR:=Q.o;rw[QkT (by have:=HN.o;omega)]at hR;obtain⟨⟨r0,r1,r2⟩,h⟩:=Zz2 (F:=F) (p:=w.heap.size) (I x0) (I x1) rfl j.o hR O t.o q.o (by have:=HS.o;omega);exact QqG (v:= .agg #[I x0,I x1,.slice B m d]) (by simp[results,Tryz.results171,go_sem,r0,r1,r2]) rfl ⟨_,rfl,h⟩
end dc
end Go.Proofs.YtfialjmemcobjaaGreatDoor
namespace Go.Proofs.YtfialjmemcobjaaGreatDoor
namespace dc
open Go.RowKit er
def Qjb(X:Spc):Bool->List Spc->List Spc
 |true,l=>l
 |false,l=>Yc X l
theorem Zka{X y:Spc}{put:Bool}{l out r:List Spc}{i:Nat}(a:l[i]? =some y)(h:out++Qjb X put (l.drop i)=r)(b:put=true\/¬X.id<y.id):(out++[y])++Qjb X put (l.drop (i+1))=r:=by
 obtain⟨hi,e⟩:=QqD.1 a;rw[QkM hi,e]at h;rw[<-h,QqU];cases put
 ·have c:Yc X (y::l.drop (i+1))=y::Yc X (l.drop (i+1)):=QqE (b.resolve_left D);show out++([y]++Yc X _)=out++Yc X (y::_);rw[c];rfl
 ·rfl
theorem Zkd{X y:Spc}{l out r:List Spc}{i:Nat}(a:l[i]? =some y)(h:out++Qjb X false (l.drop i)=r)(b:X.id<y.id):(out++[X]++[y])++Qjb X true (l.drop (i+1))=r:=by
 obtain⟨hi,e⟩:=QqD.1 a;rw[QkM hi,e]at h;rw[<-h];have c:Yc X (y::l.drop (i+1))=X::y::l.drop (i+1):=QqH b;show out++[X]++[y]++_=out++Yc X (y::_);rw[c];simp[Qjb]
theorem Gq(w:World)(F:Nat->Prop)(v:Value)(r:Dv)(x:Spc)(sv:Value)(h:DvAt w F v r)(hx:SecsAt w F sv x.s)(h9:r.l.length<=1000):
  C 169 #[v,.agg #[I x.id,I x.size,sv]] w λe w'=>∃lv,e= .returned (.agg #[I r.cap,lv])/\SpcsAt w' (gr F w w') lv (Z9 r.l x)/\Below w.heap.size w w':=by
 have aa:=Q7h h;have ab:=Q7h hx;have HF:=Q7h h.lt;obtain⟨aQ,rfl,A,c,rfl,hl,_⟩:=h.row;obtain⟨A0,c0,rfl,aq,_⟩:=hx;obtain⟨cap,l⟩:=r;obtain⟨x0,x1,xs⟩:=x;obtain⟨n,hn⟩:∃n,l.length=n:=⟨_,rfl⟩;obtain⟨n0,ae⟩:∃n,xs.length=n:=⟨_,rfl⟩;simp only[hn,ae]at hl h9 aa ab ⊢;have HN:=Q7h hn;have hB:Below w.heap.size w (((w.alloc (.cells #[I cap,.slice A n c] 64)).alloc (.cells #[I x0,I x1,.slice A0 n0 c0] 155)).alloc (.cells #[I 0,.slice none 0 0] 64)):=(((QqA _ _).alloc (QqB _) _).alloc U _).alloc (by simp;omega) _;obtain⟨w1,aR,H,af,K,L,ag⟩:∃w1,((w.alloc (.cells #[I cap,.slice A n c] 64)).alloc (.cells #[I x0,I x1,.slice A0 n0 c0] 155)).alloc (.cells #[I 0,.slice none 0 0] 64)=w1/\Hid (Below w.heap.size w w1)/\Hid (Whole w1 w.heap.size 64 #[I cap,.slice A n c])/\Hid (Whole w1 (w.heap.size+1) 155 #[I x0,I x1,.slice A0 n0 c0])/\Hid (Whole w1 (w.heap.size+1+1) 64 #[I 0,.slice none 0 0])/\Hid (w1.heap.size=w.heap.size+3):=
  ⟨_,rfl,hB,Whole.alloc (Whole.alloc (Whole.new _ _ _) _) _,Whole.alloc (Whole.new' _ _ _ _ U) _,Whole.new' _ _ _ _ U,by show _=_;simp⟩
 obtain⟨⟨z0,z1⟩,_⟩:=Zzn af.out;obtain⟨⟨z2,_⟩,_⟩:=V5 K.out;have ah:=Q7h (Dy w1 F _ ⟨cap,l⟩ x0 (aa.out.below H.out));clear hn ae aq hB;go_enter Tryz.func169,Tryz.ntmps169
 go_wp2_with fail
 refine ah.out.mono ?_;rintro e w2 ⟨aS,rfl,T,M⟩;have N:=Q7h T;obtain⟨A2,c2,rfl,ai,_⟩:=T;obtain⟨X,hX⟩:∃X:Spc,(⟨x0,x1,xs⟩:Spc)=X:=⟨_,rfl⟩;obtain⟨p,Q⟩:∃p,Zj l x0=p:=⟨_,rfl⟩;have HW:Hid (Z9 l ⟨x0,x1,xs⟩=Yc X p):=by show _=_;rw[<-Q,<-hX];rfl
 have ar:p.length<=n:=by rw[<-Q,<-HN.out];exact QkE _ _
 rw[Q]at N ai ⊢;obtain⟨V,ac⟩:∃m,p.length=m:=⟨_,rfl⟩;rw[ac]at N ai ar ⊢;have au:=Q7h ac;obtain⟨a,av,Y,q⟩:=box w2 64 #[I cap,.slice A2 V c2];have b:Hid (Below w1.heap.size w1 a):=M.trans (Y.out.mono M.size);have HZ:Hid (w1.heap.size<=w2.heap.size/\w2.heap.size<a.heap.size):=⟨M.size,q.out.lt⟩;have aj:Hid (Below w.heap.size w a):=H.out.trans (b.out.mono H.out.size);have aw:Hid (SpcsAt a (gr F w1 w2) (.slice A2 V c2) p):=N.out.below Y.out;have ak:Hid (SecsAt a (gr F w1 w2) (.slice A0 n0 c0) xs):=(ab.out.below aj.out).mono Ak;have R:=Q7h hX;have HK:Hid (∀W,Below a.heap.size a W->(W.cell? ⟨w2.heap.size,0,none⟩=some (I cap)/\W.cell? ⟨w2.heap.size,1,none⟩=some (.slice A2 V c2))/\W.cell? ⟨w.heap.size+1,0,none⟩=some (I x0)/\W.cell? ⟨w.heap.size+1,1,none⟩=some (I x1)/\W.cell? ⟨w.heap.size+1,2,none⟩=some (.slice A0 n0 c0)):=λW hb=>⟨(Zzn (q.out.below hb q.out.lt)).1,(V5 (K.out.below (b.out.trans (hb.mono b.out.size)) K.out.lt)).1⟩;have Z:Hid (∀(W:World) (m d:Nat) (B:Option Addr) (W':World),SpRow a W (gr F w1 w2) a.heap.size (.slice B m d) m (Yc X p)->m<=2000->Below a.heap.size a W->W'=((W.setCell ⟨w2.heap.size,1,none⟩ (.slice B m d)).setCell ⟨w.heap.size+1+1,0,none⟩ (I cap)).setCell ⟨w.heap.size+1+1,1,none⟩ (.slice B m d)->(W'.cell? ⟨w.heap.size+1+1,0,none⟩=some (I cap)/\W'.cell? ⟨w.heap.size+1+1,1,none⟩=some (.slice B m d))/\SpcsAt W' (gr F w W') (.slice B m d) (Yc X p)/\Below w.heap.size w W'):=λW m d B W' hR hm hb e=>by
  have h1:=ag.out;have h2:=HZ.out;refine Zkx _ e (L.out.below (b.out.trans (hb.mono b.out.size)) L.out.lt) hR O hb aj.out O λk hk=>?_;rcases hk with hk|hk
  ·have:=HF.out k hk;exact⟨O,O,.inl hk⟩
  ·exact⟨O,O,.inr O⟩
 clear Q ac M z0 z1 z2 aa ab ah N af K H hX;go_wp2_with fail
 go_loopw [6,7,8] (λov pv iv wr=>∃(i m:Nat) (B:Option Addr) (d:Nat) (put:Bool) (out:List Spc),i<=V/\m<=i+1/\iv= I i/\pv= .bool put/\ov= .slice B m d/\Hid (out++Qjb X put (p.drop i)=Yc X p)/\Hid (put=false->m<=i)/\Hid (SpRow a wr (gr F w1 w2) a.heap.size (.slice B m d) m out)/\Hid (Below a.heap.size a wr)) (λ_ _ iv _=>V-(intOf iv).toNat)
 case atStart=>exact⟨0,0,none,0,false,[],QqM _,QqM _,rfl,rfl,rfl,rfl,λ_=>QqB _,SpRow.emp,by first|exact QqA _ _|(rw[av];exact QqA _ _)⟩
 case round=>
  obtain⟨i,m,B,d,put,out,hi,aT,rfl,rfl,rfl,HQ,al,HR,HB⟩:=hrel;obtain⟨⟨v0,v1⟩,s0,s1,s2⟩:=HK.out wr HB.out;have ad:=HB.out.size;by_cases ax:i<V
  ·have aV:(i:Int)<(V:Int):=O;obtain⟨g,o,y0,y1,ys,A',sl,c',rfl,hx,hy,am,_⟩:=Zzd aw.out (QqA _ _) ax;have HY:Hid (∀W,Below a.heap.size a W->W.cell? ⟨g,o+i*3,none⟩=some (I y0)/\W.cell? ⟨g,o+i*3+1,none⟩=some (I y1)/\W.cell? ⟨g,o+i*3+2,none⟩=some (.slice A' sl c')):=λW hb=>⟨Qq hb hy.1,Qq hb hy.2.1,Qq hb hy.2.2⟩;obtain⟨q0,q1,q2⟩:=HY.out wr HB.out;have an:=Q7h hx;clear hy hx;by_cases t:put=false/\x0<y0
   ·obtain⟨rfl,t⟩:=t;have ay:decide (x0<y0)=true:=QxA t;have j:=Q7h (Zkd an.out HQ.out (by rw[<-R.out];exact t));have ao:=al.out rfl;go_wp2_with fail
    go_quiet (fail)
    go_wp2_with (at_builtin;first|(refine Zzl (HR.out.below (below_drewN (QqA _ _) _)) ak rfl rfl rfl rfl O ad ?_;intro g1 u S y z;have f:Hid (Below a.heap.size a S):=HB.out.trans ((below_drewN (QqA _ _) _).trans z.out);clear v0 v1 s0 s1 s2 q0 q1 q2;obtain⟨⟨v0,v1⟩,s0,s1,s2⟩:=HK.out S f.out;obtain⟨q0,q1,q2⟩:=HY.out S f.out;have ap:=f.out.size)|(refine Zzl y am rfl rfl rfl rfl O ap ?_;intro g2 az w9 aF aH))
    go_roundw
    case rel=>exact⟨i+1,m+1+1,some ⟨g2,0,none⟩,az,true,_,O,O,by go_num,rfl,rfl,j.out,(λh=>by cases h),by rw[<-R.out];exact aF.out,f.out.trans aH.out⟩
    case measure=>simp[intOf];omega
   ·have j:=Q7h (Zka an.out HQ.out (by rw[<-R.out];cases put<;>simp_all));have aK:=al.out;have hc:put=true\/put=false/\decide (x0<y0)=false/\m<=i:=by cases put<;>simp_all
    clear t aK;rcases hc with rfl|⟨rfl,ay,ao⟩;all_goals
     go_wp2_with fail
     go_quiet (fail)
     go_wp2_with (at_builtin;go_must (refine Zzl (HR.out.below (below_drewN (QqA _ _) _)) am rfl rfl rfl rfl O ad ?_;intro g1 u S y f))
     go_roundw
     case rel=>exact⟨i+1,m+1,some ⟨g1,0,none⟩,u,_,_,O,O,by go_num,rfl,rfl,j.out,(λh=>by first|(cases h;done)|omega),y.out,HB.out.trans ((below_drewN (QqA _ _) _).trans f.out)⟩
     case measure=>simp[intOf];omega
  ·obtain rfl:i=V:=O;have aM:¬w.heap.size+1+1=w2.heap.size:=by have:=ag.out;have:=HZ.out;omega
   have aN:¬w2.heap.size=w.heap.size+1+1:=O;have j:=HQ.out;rw[List.drop_eq_nil_of_le (by have:=au.out;omega)]at j;have HO:Hid (∀W,Below a.heap.size a W->((W.cell? ⟨w.heap.size+1+1,0,none⟩=some (I 0)/\W.cell? ⟨w.heap.size+1+1,1,none⟩=some (.slice none 0 0))/\W.frozen? ⟨w.heap.size+1+1,0,none⟩=false/\W.frozen? ⟨w.heap.size+1+1,1,none⟩=false)/\W.frozen? ⟨w2.heap.size,0,none⟩=false/\W.frozen? ⟨w2.heap.size,1,none⟩=false):=λW hb=>⟨Zzn (L.out.below (b.out.trans (hb.mono b.out.size)) L.out.lt),(Zzn (q.out.below hb q.out.lt)).2⟩;cases put
   ·have aL:Hid (out++[X]=Yc X p):=j;go_wp2_with (at_builtin;go_must (refine Zzl HR ak rfl rfl rfl rfl O ad ?_;intro g1 u S y z;have f:Hid (Below a.heap.size a S):=HB.out.trans z.out;clear v0 v1 s0 s1 s2;obtain⟨⟨v0,v1⟩,_⟩:=HK.out S f.out;obtain⟨⟨⟨o0,o1⟩,e0,e1⟩,f0,f1⟩:=HO.out S f.out))
    obtain⟨⟨r0,r1⟩,h⟩:=Z.out S (m+1) u (some ⟨g1,0,none⟩) _ (by rw[<-aL.out,<-R.out];exact y.out) O f.out rfl;exact QqG (v:= .agg #[I cap,.slice (some ⟨g1,0,none⟩) (m+1) u]) (by simp[results,Tryz.results169,go_sem,r0,r1]) rfl ⟨_,rfl,by rw[HW.out];exact h⟩
   ·obtain rfl:out=Yc X p:=by rw[<-j];exact(QzT _).symm
    obtain⟨⟨⟨o0,o1⟩,e0,e1⟩,f0,f1⟩:=HO.out wr HB.out;clear j;go_wp2_with fail
    obtain⟨⟨r0,r1⟩,h⟩:=Z.out wr m d B _ HR.out O HB.out rfl;exact QqG (v:= .agg #[I cap,.slice B m d]) (by simp[results,Tryz.results169,go_sem,r0,r1]) rfl ⟨_,rfl,by rw[HW.out];exact h⟩
end dc
end Go.Proofs.YtfialjmemcobjaaGreatDoor
