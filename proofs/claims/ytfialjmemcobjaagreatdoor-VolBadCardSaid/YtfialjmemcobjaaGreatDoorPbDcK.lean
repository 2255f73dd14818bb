/- A part of the proof. -/
import Derived.Test.YtfialjmemcobjaaGreatDoorPbDcE
import Derived.Deep.Cut
import Derived.Deep.RegionLaw
import Derived.Deep.DeepCutAuto
set_option maxRecDepth 100000
set_option maxHeartbeats 16000000
set_option linter.unusedVariables false
set_option linter.unusedSimpArgs false
namespace Go.Proofs.YtfialjmemcobjaaGreatDoor
namespace dc
open Go.RowKit er
def OpD(w:World)(F:Nat->Prop)(r:Dv×Int)(e:Ending)(w':World):Prop:=∃lv,e= .returned (.tuple #[.agg #[I r.1.cap,lv],I r.2])/\SpcsAt w' (gr F w w') lv r.1.l/\Below w w w'
theorem Qbo(w:World)(F:Nat->Prop):SecsAt w F (.slice none 0 0) []:=⟨none,0,rfl,QqM _,λh=>by simp at h⟩
theorem Qjt{F:Nat->Prop}{w0 w w':World}(b:w0.heap.size<=w.heap.size)(h1:w.heap.size<=w'.heap.size):∀k,gr (gr F w0 w) w w' k->gr F w0 w' k:=by
 rintro k ((a|⟨h2,h3⟩)|⟨h2,h3⟩)
 ·exact .inl a
 ·exact .inr ⟨h2,O⟩
 ·exact .inr ⟨O,h3⟩
structure Sg(w w1:World)(F:Nat->Prop)(cap:Int)(A:Option Addr)(n c:Nat)(l:List Spc):Prop where
 hb:Below w w w1
 x0:Whole w1 w.heap.size 64 #[I cap,.slice A n c]
 sp:SpcsAt w F (.slice A n c) l
 lt:∀k,F k->k<w.heap.size
structure Sr(w w1:World)(F:Nat->Prop)(cap:Int)(A:Option Addr)(n c:Nat)(l:List Spc):Prop extends Sg w w1 F cap A n c l where
 x1:Whole w1 (w.heap.size+1) 64 #[I 0,.slice none 0 0]
 sz:w1.heap.size=w.heap.size+2
theorem stage{w:World}{F:Nat->Prop}{v:Value}{cap:Int}{l:List Spc}(h:DvAt w F v ⟨cap,l⟩):∃A n c w1,v= .agg #[I cap,.slice A n c]/\(w.alloc (.cells #[I cap,.slice A n c] 64)).alloc (.cells #[I 0,.slice none 0 0] 64)=w1/\Hid (Sr w w1 F cap A n c l)/\l.length=n/\(n:Int)<=100000:=by
 obtain⟨lv,rfl,d⟩:=h.row;have a:=d;obtain⟨A,c,rfl,e,_⟩:=d;obtain⟨w1,b,hb,x0,x1,sz⟩:=Zko w 64 64 #[I cap,.slice A l.length c] #[I 0,.slice none 0 0];exact⟨A,_,c,w1,rfl,b,⟨⟨hb.o,x0.o,a,h.lt⟩,x1.o,sz.o⟩,rfl,Int.ofNat_le.2 e⟩
section
variable {w w1 W W':World} {F:Nat→Prop} {cap:Int} {A:Option Addr} {n c:Nat} {l:List Spc}
theorem Sg.bw(h:Sg w w1 F cap A n c l)(hb:Below w1 w1 W):Below w w W:=h.hb.trans (hb.mono h.hb.size)
theorem Sg.at(h:Sg w w1 F cap A n c l)(hb:Below w1 w1 W):W.cell? (w,0)=some (I cap)/\W.cell? (w,1)=some (.slice A n c):=(Zzn (h.x0.below hb h.x0.lt)).1
theorem Sg.glt(h:Sg w w1 F cap A n c l)(hb:Below w1 w1 W):∀k,gr F w1 W k->k<W.heap.size:=Tn (λk a=>QzB (h.lt k a) h.hb.size) hb.size
theorem Sg.dv(h:Sg w w1 F cap A n c l)(hb:Below w1 w1 W):DvAt W (gr F w1 W) (.agg #[I cap,.slice A n c]) ⟨cap,l⟩:=⟨⟨_,rfl,(h.sp.below (h.bw hb)).mono Ak⟩,h.glt hb⟩
theorem Sg.find(h:Sg w w1 F cap A n c l)(hb:Below w1 w1 W)(id:Int):C 168 #[.agg #[I cap,.slice A n c],I id] W λe w'=>e= .returned (I (Ky l id))/\Below W W w':=Xg W _ _ ⟨cap,l⟩ id (h.dv hb)
theorem Sg.without(h:Sg w w1 F cap A n c l)(hb:Below w1 w1 W)(id:Int):C 172 #[.agg #[I cap,.slice A n c],I id] W λe w'=>∃B m d,e= .returned (.agg #[I cap,.slice B m d])/\SpcsAt w' (gr F w1 w') (.slice B m d) (Zj l id)/\Below W W w':=(Dy W _ _ ⟨cap,l⟩ id (h.dv hb)).mono (by
 rintro e w' ⟨lv,rfl,h1,h2⟩;have h3:=h1;obtain⟨B,d,rfl,_,_⟩:=h3;exact⟨B,_,d,rfl,h1.mono (Qjt hb.size h2.size),h2⟩)
theorem Sg.with(h:Sg w w1 F cap A n c l)(hb:Below w1 w1 W)(a:l.length<=1000){B:Option Addr}{m d:Nat}{y z:Int}{s:List Sec}(b:SecsAt W (gr F w1 W) (.slice B m d) s):C 169 #[.agg #[I cap,.slice A n c],.agg #[I y,I z,.slice B m d]] W λe w'=>∃B m d,e= .returned (.agg #[I cap,.slice B m d])/\SpcsAt w' (gr F w1 w') (.slice B m d) (Z9 l ⟨y,z,s⟩)/\Below W W w':=(Gq W _ _ ⟨cap,l⟩ ⟨y,z,s⟩ _ (h.dv hb) b a).mono (by
 rintro e w' ⟨lv,rfl,h1,h2⟩;have h3:=h1;obtain⟨B,d,rfl,_,_⟩:=h3;exact⟨B,_,d,rfl,h1.mono (Qjt hb.size h2.size),h2⟩)
end
section
variable {w w1 W W':World} {F:Nat→Prop} {cap:Int} {A:Option Addr} {n c:Nat} {l:List Spc}
theorem Sr.res(h:Sr w w1 F cap A n c l)(hb:Below w1 w1 W):(W.cell? (w.heap.size+1,0)=some (I 0)/\W.cell? (w.heap.size+1,1)=some (.slice none 0 0))/\W.frozen? (w.heap.size+1,0)=false/\W.frozen? (w.heap.size+1,1)=false:=Zzn (h.x1.below hb h.x1.lt)
theorem Sr.new(h:Sr w w1 F cap A n c l)(hb:Below w1 w1 W){B:Option Addr}{m d:Nat}{l':List Spc}(g:SpcsAt W (gr F w1 W) (.slice B m d) l')(E:Int)(e:W'=(W.setCell (w.heap.size+1,0) (I cap)).setCell (w.heap.size+1,1) (.slice B m d)):(W'.cell? (w.heap.size+1,0)=some (I cap)/\W'.cell? (w.heap.size+1,1)=some (.slice B m d))/\OpD w F (⟨cap,l'⟩,E) (.returned (.tuple #[.agg #[I cap,.slice B m d],I E])) W':=by
 subst e;have q:=((h.x1.below hb h.x1.lt).set 0 (I cap)).set 1 (.slice B m d);have f:Keep (λk=>k=w.heap.size+1) W ((W.setCell (w.heap.size+1,0) (I cap)).setCell (w.heap.size+1,1) (.slice B m d)):=((Keep.refl (λk=>k=w.heap.size+1) W).setCell (p:=(w.heap.size+1,0)) (.inl rfl) _).setCell (p:=(w.heap.size+1,1)) (.inl rfl) _;have hz:=h.sz;have i:=f.size;have a:=h.bw hb;refine⟨⟨by simpa using q.cell 0,by simpa using q.cell 1⟩,_,rfl,(g.keep f ?_).mono ?_,a.trans (f.toBelow a.size (λk f=>O))⟩
 ·rintro k (b|b) j
  ·have:=h.lt k b;omega
  ·omega
 ·rintro k (b|b)
  ·exact .inl b
  ·exact .inr ⟨O,O⟩
theorem Sr.same(h:Sr w w1 F cap A n c l)(hb:Below w1 w1 W)(E:Int)(e:W'=(W.setCell (w.heap.size+1,0) (I cap)).setCell (w.heap.size+1,1) (.slice A n c)):(W'.cell? (w.heap.size+1,0)=some (I cap)/\W'.cell? (w.heap.size+1,1)=some (.slice A n c))/\OpD w F (⟨cap,l⟩,E) (.returned (.tuple #[.agg #[I cap,.slice A n c],I E])) W':=h.new hb ((h.sp.below (h.bw hb)).mono Ak) E e
end
def Ji(r:Dv)(id size:Int):Dv×Int:=
 if id<1\/65535<id\/size<0\/16777216<size then(r,1)else if 0<=Ky r.l id then(r,7)else if 8<=r.l.length then(r,70)else({r with l:=Z9 r.l ⟨id,size,[]⟩},0)
theorem Qj6(w:World)(F:Nat->Prop)(v:Value)(r:Dv)(id size:Int)(h:DvAt w F v r)(N:r.l.length<=1000):
  C 90 #[v,I id,I size] w (OpD w F (Ji r id size)):=by
 obtain⟨cap,l⟩:=r;obtain⟨A,n,c,w1,rfl,V,f,t,W⟩:=stage h;obtain⟨Q,S⟩:=f.o.at B0;by_cases b:id<1\/65535<id\/size<0\/16777216<size
 ·rw[show Ji ⟨cap,l⟩ id size=(⟨cap,l⟩,1)from QqH b];obtain⟨⟨o0,o1⟩,u,x⟩:=f.o.res B0;have y:id<1\/(¬id<1/\65535<id)\/(¬id<1/\¬65535<id/\size<0)\/(¬id<1/\¬65535<id/\¬size<0/\16777216<size):=O;clear b h t;rcases y with q1|⟨q1,z⟩|⟨q1,z,T⟩|⟨q1,z,T,X⟩;all_goals
   go_in
   go_wp2_with fail
   obtain⟨⟨i,j⟩,h⟩:=f.o.same B0 1 rfl;exact QqG (v:= .tuple #[.agg #[I cap,.slice A n c],I 1]) (by simp[results,Tryz.results90,go_sem,i,j]) rfl h
 ·rw[show Ji ⟨cap,l⟩ id size=if 0<=Ky l id then(⟨cap,l⟩,7)else if 8<=l.length then(⟨cap,l⟩,70)else(⟨cap,Z9 l ⟨id,size,[]⟩⟩,0)from QqE b];have q1:¬id<1:=O;have z:¬65535<id:=O;have T:¬size<0:=O;have X:¬16777216<size:=O;have k:=Q7h (f.o.find B0 id);obtain⟨fi,p⟩:=Zx (Ky l id);rw[p]at k ⊢;rw[t];obtain⟨R,H⟩:∃R:Dv×Int,(if 0<=fi then(⟨cap,l⟩,7)else if 8<=n then(⟨cap,l⟩,70)else(⟨cap,Z9 l ⟨id,size,[]⟩⟩,0))=R:=⟨_,rfl⟩;rw[H];have⟨K,Y⟩:=Q2 H N;clear b h t p N H;go_in
  go_wp2_with fail
  refine k.o.mono ?_;rintro e w2 ⟨rfl,q⟩;have a:=Q7h q;clear Q S q;obtain⟨Q,S⟩:=f.o.at a.o;by_cases Z:0<=fi
  ·obtain⟨⟨o0,o1⟩,u,x⟩:=f.o.res a.o;go_wp2_with fail
   obtain⟨⟨i,j⟩,h⟩:=f.o.same a.o 7 rfl;exact QqG (v:= .tuple #[.agg #[I cap,.slice A n c],I 7]) (by simp[results,Tryz.results90,go_sem,i,j]) rfl (by rw[<-K.o,QqH O];exact h)
  by_cases h8:(8:Int)<=n
  ·obtain⟨⟨o0,o1⟩,u,x⟩:=f.o.res a.o;go_wp2_with fail
   obtain⟨⟨i,j⟩,h⟩:=f.o.same a.o 70 rfl;exact QqG (v:= .tuple #[.agg #[I cap,.slice A n c],I 70]) (by simp[results,Tryz.results90,go_sem,i,j]) rfl (by rw[<-K.o,QqE O,QqH O];exact h)
  ·go_wp2_with fail
   refine(f.o.with a.o Y.o (Qbo _ _)).mono ?_;rintro e w3 ⟨B,m,d,rfl,s,g⟩;have g:=bt a.o g;have⟨L,M⟩:=Q2 s g;obtain⟨⟨o0,o1⟩,u,x⟩:=f.o.res g;clear s g;go_wp2_with fail
   obtain⟨⟨i,j⟩,h⟩:=f.o.new M.o L.o 0 rfl;exact QqG (v:= .tuple #[.agg #[I cap,.slice B m d],I 0]) (by simp[results,Tryz.results90,go_sem,i,j]) rfl (by rw[<-K.o,QqE O,QqE O];exact h)
def Yh(r:Dv)(id:Int):Dv×Int:=if Ky r.l id<0 then(r,4)else({r with l:=Zj r.l id},0)
theorem Qj5(w:World)(F:Nat->Prop)(v:Value)(r:Dv)(id:Int)(h:DvAt w F v r):
  C 93 #[v,I id] w (OpD w F (Yh r id)):=by
 obtain⟨cap,l⟩:=r;obtain⟨A,n,c,w1,rfl,H,f,K,L⟩:=stage h;obtain⟨x,y⟩:=f.o.at B0;have g:=Q7h (f.o.find B0 id);rw[show Yh ⟨cap,l⟩ id=if Ky l id<0 then(⟨cap,l⟩,4)else(⟨cap,Zj l id⟩,0)from rfl];obtain⟨fi,i⟩:=Zx (Ky l id);rw[i]at g ⊢;obtain⟨R,p⟩:∃R:Dv×Int,(if fi<0 then(⟨cap,l⟩,4)else(⟨cap,Zj l id⟩,0))=R:=⟨_,rfl⟩;rw[p];have z:=Q7h p;clear h K i p;go_in
 go_wp2_with fail
 refine g.o.mono ?_;rintro e w2 ⟨rfl,j⟩;have a:=Q7h j;clear x y j;obtain⟨x,y⟩:=f.o.at a.o;by_cases Q:fi<0
 ·obtain⟨⟨o0,o1⟩,M,N⟩:=f.o.res a.o;go_wp2_with fail
  obtain⟨⟨q,s⟩,h⟩:=f.o.same a.o 4 rfl;exact QqG (v:= .tuple #[.agg #[I cap,.slice A n c],I 4]) (by simp[results,Tryz.results93,go_sem,q,s]) rfl (by rw[<-z.o,QqH O];exact h)
 ·go_wp2_with fail
  refine(f.o.without a.o id).mono ?_;rintro e S ⟨B,m,d,rfl,k,b⟩;have b:=bt a.o b;have⟨t,u⟩:=Q2 k b;obtain⟨⟨o0,o1⟩,M,N⟩:=f.o.res b;clear k b;go_wp2_with fail
  obtain⟨⟨q,s⟩,h⟩:=f.o.new u.o t.o 0 rfl;exact QqG (v:= .tuple #[.agg #[I cap,.slice B m d],I 0]) (by simp[results,Tryz.results93,go_sem,q,s]) rfl (by rw[<-z.o,QqE O];exact h)
end dc
namespace dc
open Go.RowKit er
theorem Sg.cut{w w1 W:World}{F:Nat->Prop}{cap:Int}{A:Option Addr}{n c:Nat}{l:List Spc}(h:Sg w w1 F cap A n c l)(hb:Below w1 w1 W){B:Option Addr}{m d:Nat}{y z:Int}{s:List Sec}(b:SecsAt w F (.slice B m d) s)(fr a:Int):C 171 #[.agg #[I y,I z,.slice B m d],I fr,I a] W λe w'=>∃B m d,e= .returned (.agg #[I y,I z,.slice B m d])/\SecsAt w' (gr F w1 w') (.slice B m d) (Ou ⟨y,z,s⟩ fr a).s/\Below W W w':=(Ee W (gr F w1 W) _ ⟨y,z,s⟩ fr a ((b.below (h.bw hb)).mono Ak) (h.glt hb)).mono (by
 rintro e w' ⟨sv,rfl,h1,h2⟩;have h3:=h1;obtain⟨B,d,rfl,_,_⟩:=h3;exact⟨B,_,d,rfl,h1.mono (Qjt hb.size h2.size),h2⟩)
def J9(r:Dv)(id size:Int):Dv×Int:=
 if size<0\/16777216<size then(r,1)else match Iq r.l id with
  |none=>(r,4)
  |some i=>({r with l:=Z9 r.l ⟨(r.l.getD i ⟨0,0,[]⟩).id,size,(Ou (r.l.getD i ⟨0,0,[]⟩) size 16777216).s⟩},0)
theorem Qj4(w:World)(F:Nat->Prop)(v:Value)(r:Dv)(id size:Int)(h:DvAt w F v r)(h9:r.l.length<=1000):
  C 92 #[v,I id,I size] w (OpD w F (J9 r id size)):=by
 obtain⟨cap,l⟩:=r;obtain⟨A,n,c,w1,rfl,ae,j,hn,af⟩:=stage h;obtain⟨H,K⟩:=j.o.at B0;by_cases q:size<0\/16777216<size
 ·rw[show J9 ⟨cap,l⟩ id size=(⟨cap,l⟩,1)from QqH q];obtain⟨⟨o0,o1⟩,e0,e1⟩:=j.o.res B0;have X:size<0\/(¬size<0/\16777216<size):=O;clear q h hn;rcases X with q1|⟨q1,q2⟩;all_goals
   go_in
   go_wp2_with fail
   obtain⟨⟨L,M⟩,h⟩:=j.o.same B0 1 rfl;exact QqG (v:= .tuple #[.agg #[I cap,.slice A n c],I 1]) (by simp[results,Tryz.results92,go_sem,L,M]) rfl h
 ·have q1:¬size<0:=O;have q2:¬16777216<size:=O;have x:=Q7h (j.o.find B0 id);have H9:=Q7h h9;have hi:(Ky l id= -1/\J9 ⟨cap,l⟩ id size=(⟨cap,l⟩,4))\/∃(i:Nat) (g o:Nat) (N Y:Int) (ys:List Sec) (Q:Option Addr) (sl R:Nat),A=some (g,o)/\Ky l id=i/\(i:Int)<n/\(w1.cell? (g,o+i*3)=some (I N)/\w1.cell? (g,o+i*3+1)=some (I Y)/\w1.cell? (g,o+i*3+2)=some (.slice Q sl R))/\Hid (SecsAt w F (.slice Q sl R) ys)/\J9 ⟨cap,l⟩ id size=(⟨cap,Z9 l ⟨N,size,(Ou ⟨N,Y,ys⟩ size 16777216).s⟩⟩,0):=by
   unfold J9 Ky;rw[QqE q];cases hd:Iq l id with
   |none=>exact .inl ⟨rfl,by simp only[hd]⟩
   |some i=>
    have hi:=Yw hd;obtain⟨g,o,a,b,s,Q,k,R,rfl,hx,W,hs,_⟩:=Zzd j.o.sp j.o.hb (show i<n by omega);exact .inr ⟨i,g,o,a,b,s,Q,k,R,rfl,rfl,O,W,hs,by simp only[hd,QkH,hx,QoN]⟩
  clear q h hn h9;rcases hi with⟨hi,S⟩|⟨i,g,o,N,Y,ys,Q,sl,R,rfl,hi,ag,W,HS,S⟩
  ·rw[hi]at x;rw[S];clear hi S;go_in
   go_wp2_with fail
   refine x.o.mono ?_;rintro e w2 ⟨rfl,f⟩;have p:=Q7h f;clear H K f;obtain⟨H,K⟩:=j.o.at p.o;obtain⟨⟨o0,o1⟩,e0,e1⟩:=j.o.res p.o;go_wp2_with fail
   obtain⟨⟨L,M⟩,h⟩:=j.o.same p.o 4 rfl;exact QqG (v:= .tuple #[.agg #[I cap,.slice A n c],I 4]) (by simp[results,Tryz.results92,go_sem,L,M]) rfl h
  ·rw[hi]at x;rw[S];have ah:(0:Int)<=(i:Int):=QkD _;have Z:=Q7h W;clear hi S W;go_in
   go_wp2_with fail
   refine x.o.mono ?_;rintro e w2 ⟨rfl,f⟩;have p:=Q7h f;clear H K;obtain⟨H,K⟩:=j.o.at p.o;have u0:=Qq f Z.o.1;have u1:=Qq f Z.o.2.1;have u2:=Qq f Z.o.2.2;clear f;go_wp2_with fail
   refine(j.o.cut p.o HS.o size 16777216).mono ?_;rintro e w3 ⟨A3,n3,c3,rfl,T,y⟩;have y:=bt p.o y;obtain⟨w4,ai,t,aa⟩:=box w3 155 #[I N,I size,.slice A3 n3 c3];have z:=Q7h (bt y t.o);have ab:=Q7h ((T.below t.o).mono (Qnv t.o.size));clear T y H K u0 u1 u2;obtain⟨H,K⟩:=j.o.at z.o;obtain⟨⟨t0,t1,t2⟩,_⟩:=V5 aa.o;go_wp2_with fail
   refine(j.o.with z.o H9.o ab.o).mono ?_;rintro e w6 ⟨B,m,d,rfl,V,u⟩;have u:=bt z.o u;have ac:=Q7h V;have ad:=Q7h u;obtain⟨⟨o0,o1⟩,e0,e1⟩:=j.o.res u;clear V u;go_wp2_with fail
   obtain⟨⟨L,M⟩,h⟩:=j.o.new ad.o ac.o 0 rfl;exact QqG (v:= .tuple #[.agg #[I cap,.slice B m d],I 0]) (by simp[results,Tryz.results92,go_sem,L,M]) rfl h
end dc
namespace dc
open Go.RowKit er
def Vx(l:List Spc)(id:Int):Spc:=match Iq l id with|some i=>l.getD i ⟨0,0,[]⟩|none=>⟨0,0,[]⟩
theorem Kj{l:List Spc}{id fr n:Int}{may:Bool}(h:Qm l id fr n may=0):∃(i:Nat) (x:Spc),Iq l id=some i/\l[i]? =some x/\Vx l id=x/\may=true/\1<=n/\0<=fr/\fr<=x.size/\n<=x.size-fr:=by
 unfold Qm at h;cases hd:Iq l id with
 |none=>rw[hd]at h;simp at h
 |some i=>
  rw[hd]at h;simp only at h;obtain⟨x,a⟩:∃x,l[i]? =some x:=⟨_,QqC (Yw hd)⟩;have b:l.getD i ⟨0,0,[]⟩=x:=by simp only[QkH,a,QoN]
  rw[b]at h;split at h
  ·simp at h
  ·rename_i h1;split at h
   ·simp at h
   ·rename_i h2;have c:may=true:=by cases may<;>simp at h1 ⊢
    exact⟨i,x,rfl,a,by unfold Vx;rw[hd];exact b,c,O,O,O,O⟩
abbrev Cs(W:World)(p:Nat)(cap:Int)(A:Option Addr)(n c g a0 a1 a2:Nat)(y z:Int)(v:Value):Prop:=(W.cell? (p,0)=some (I cap)/\W.cell? (p,1)=some (.slice A n c))/\W.cell? (g,a0)=some (I y)/\W.cell? (g,a1)=some (I z)/\W.cell? (g,a2)=some v
theorem Cs.set{W:World}{p:Nat}{cap:Int}{A:Option Addr}{n c g f a1 a2:Nat}{y z:Int}{v:Value}(h:Cs W p cap A n c g f a1 a2 y z v){q:Nat}{a b:Value}(i:p≠q)(e:g≠q):Cs ((W.setCell (q,0) a).setCell (q,1) b) p cap A n c g f a1 a2 y z v:=by
 have d:Keep (λk=>k=q) W ((W.setCell (q,0) a).setCell (q,1) b):=((Keep.refl (λk=>k=q) W).setCell (p:=(q,0)) (.inl rfl) _).setCell (p:=(q,1)) (.inl rfl) _;exact⟨⟨d.cell h.1.1 i,d.cell h.1.2 i⟩,d.cell h.2.1 e,d.cell h.2.2.1 e,d.cell h.2.2.2 e⟩
section
variable {w w1 W W':World} {F:Nat→Prop} {cap:Int} {A:Option Addr} {n c:Nat} {l:List Spc}
theorem Sg.within(h:Sg w w1 F cap A n c l)(hb:Below w1 w1 W)(hz:∀x∈l,0<=x.size/\x.size<=16777216)(id fr m:Int)(may:Bool):C 173 #[.agg #[I cap,.slice A n c],I id,I fr,I m,.bool may] W λe w'=>e= .returned (I (Qm l id fr m may))/\Below W W w':=Q77 W _ _ ⟨cap,l⟩ id fr m may (h.dv hb) hz
theorem Sg.some(h:Sg w w1 F cap A n c l)(H:l.length=n){id fr m:Int}{may:Bool}(v:Qm l id fr m may=0):∃(i g o:Nat) (r d:Int) (ys:List Sec) (j:Option Addr) (sl p:Nat),A=some (g,o)/\(i:Int)<n/\l[i]? =some ⟨r,d,ys⟩/\Vx l id=⟨r,d,ys⟩/\(may=true/\1<=m/\0<=fr/\fr<=d/\m<=d-fr)/\Hid (∀W,Below w1 w1 W->Cs W w.heap.size cap (some (g,o)) n c g (o+i*3) (o+i*3+1) (o+i*3+2) r d (.slice j sl p))/\Hid (∀W,Below w1 w1 W->C 168 #[.agg #[I cap,.slice (some (g,o)) n c],I id] W λe w'=>e= .returned (I (i:Int))/\Below W W w')/\Hid (SecsAt w F (.slice j sl p) ys)/\g<w.heap.size:=by
 obtain⟨i,x,t,u,y,hq⟩:=Kj v;have hi:=Yw t;obtain⟨g,o,a,b,s,j,k,p,rfl,f,q,z,_⟩:=Zzd h.sp B0 (show i<n by omega);obtain rfl:x=⟨a,b,s⟩:=by rw[u]at f;injection f
 refine⟨i,g,o,a,b,s,j,k,p,rfl,O,u,y,hq,λW hb=>⟨h.at hb,?_⟩,λW hb=>?_,z,QjA _ _ q.1⟩
 ·have hb:=h.bw hb;exact⟨Qq hb q.1,Qq hb q.2.1,Qq hb q.2.2⟩
 ·have:=Xg W _ _ ⟨cap,l⟩ id (h.dv hb);unfold Ky at this;rw[t]at this;exact this
end
def Eu(r:Dv)(id fr n:Int):Dv×Int:=
 if Qm r.l id fr n true≠0 then(r,Qm r.l id fr n true)else({r with l:=Z9 r.l (Ou (Vx r.l id) fr (fr+n))},0)
theorem Qab(w:World)(F:Nat->Prop)(v:Value)(r:Dv)(id fr m:Int)(h:DvAt w F v r)(S:r.l.length<=1000)(hz:∀x∈r.l,0<=x.size/\x.size<=16777216):
  C 96 #[v,I id,I fr,I m] w (OpD w F (Eu r id fr m)):=by
 obtain⟨cap,l⟩:=r;obtain⟨A,n,c,w1,rfl,ac,k,T,ad⟩:=stage h;obtain⟨V,X⟩:=k.o.at B0;have u:=Q7h (k.o.within B0 hz id fr m true);obtain⟨y,d⟩:=Zx (Qm l id fr m true);rw[d]at u;have H9:=Q7h S;rw[show Eu ⟨cap,l⟩ id fr m=if y≠0 then(⟨cap,l⟩,y)else(⟨cap,Z9 l (Ou (Vx l id) fr (fr+m))⟩,0) by rw[<-d];rfl];by_cases s:y=0
 ·subst s;obtain⟨i,g,o,y0,y1,ys,A',sl,c',rfl,ae,hx,H,⟨_,af,ag,ah,ai⟩,z,Y,HS,hg⟩:=k.o.some T d;have K:=hz _ (QqL hx);have aj:(0:Int)<=(i:Int):=QkD _;have ak:IntKind.i64.wrap (fr+m)=fr+m:=by rw[QqN];simp only at K;omega
  rw[QqE U,H];have Z:Hid (∀W p q,Below w1 w1 W->Cs ((W.setCell (w.heap.size+1,0) p).setCell (w.heap.size+1,1) q) w.heap.size cap (some (g,o)) n c g (o+i*3) (o+i*3+1) (o+i*3+2) y0 y1 (.slice A' sl c')):=λW p q hb=>(z.o W hb).set O O;clear d hx H K h hz T S;go_in
  go_wp2_with fail
  refine u.o.mono ?_;rintro e w2 ⟨rfl,a⟩;have t:=Q7h a;have S2:=Q7h (z.o _ a);have B:=Q7h (z.o _ a.drew);clear a V X;go_wp2_with fail
  go_region_held3 (λw'=>Cs w' w.heap.size cap (some (g,o)) n c g (o+i*3) (o+i*3+1) (o+i*3+2) y0 y1 (.slice A' sl c')) (first|with_reducible exact S2.o|with_reducible exact B.o|with_reducible exact S5.o|with_reducible exact S6.o|with_reducible exact S7.o|with_reducible exact Z.o _ _ _ L.o) (first|(go_at_call 168;refine(Y.o _ t.o.drew).mono ?_;rintro e w5 ⟨rfl,f⟩;have f:=bt t.o.drew f;have M:=Q7h f;have S5:=Q7h (z.o _ f);clear f)|(go_at_call 171;refine(k.o.cut M.o HS.o fr (fr+m)).mono ?_;rintro e w6 ⟨A3,n3,c3,rfl,N,j⟩;have j:=bt M.o j;have Q:=Q7h j;have S6:=Q7h (z.o _ j);have aa:=Q7h N;clear j N)|(go_at_call 169;refine(k.o.with Q.o H9.o aa.o).mono ?_;rintro e w7 ⟨A6,n6,c6,rfl,R,b⟩;have b:=bt Q.o b;have L:=Q7h b;have S7:=Q7h (z.o _ b);have ab:=Q7h R;obtain⟨⟨o0,o1⟩,e0,e1⟩:=k.o.res b;clear b R))
  go_wp2_with fail
  obtain⟨⟨r0,r1⟩,h⟩:=k.o.new L.o ab.o 0 rfl;exact QqG (v:= .tuple #[.agg #[I cap,.slice A6 n6 c6],I 0]) (by simp[results,Tryz.results96,go_sem,r0,r1]) rfl h
 ·have al:(y==0)=false:=by simpa using s
  rw[QqH s];clear d hz h T S s;go_in
  go_wp2_with fail
  refine u.o.mono ?_;rintro e w2 ⟨rfl,a⟩;have t:=Q7h a;clear V X;obtain⟨V,X⟩:=k.o.at a;obtain⟨⟨o0,o1⟩,e0,e1⟩:=k.o.res a;clear a;go_wp2_with fail
  obtain⟨⟨r0,r1⟩,h⟩:=k.o.same t.o y rfl;exact QqG (v:= .tuple #[.agg #[I cap,.slice A n c],I y]) (by simp[results,Tryz.results96,go_sem,r0,r1]) rfl h
end dc
namespace dc
open Go.RowKit er
def Gv(x:Spc)(fr:Int):Nat->ByteArray
 |0=>⟨#[]⟩
 |k+1=>Gv x fr k++dOf x (fr+(k:Int))
def Im(r:Dv)(id fr n:Int):ByteArray×Int:=
 if Qm r.l id fr n (decide (n<=8))≠0 then(⟨#[]⟩,Qm r.l id fr n (decide (n<=8)))else(Gv (Vx r.l id) fr n.toNat,0)
theorem Qxx:Zm.size=32:=J
theorem Qg0{x:Spc}(h:∀y∈x.s,y.data.size<=100)(a:Int):(dOf x a).size<=100:=by
 unfold dOf;split
 ·rename_i y b;exact h y (QjU b)
 ·rw[Ri,Qxx];omega
theorem Vi{x:Spc}(h:∀y∈x.s,y.data.size<=100)(fr:Int):∀k,(Gv x fr k).size<=100*k
 |0=>QqB _
 |k+1=>by
  have h1:=Vi h fr k;have h2:=Qg0 h (fr+(k:Int));show(Gv x fr k++dOf x (fr+(k:Int))).size<=_;rw[QjT];omega
theorem Qac(w:World)(F:Nat->Prop)(v:Value)(r:Dv)(id fr f:Int)(h:DvAt w F v r)(hz:∀x∈r.l,0<=x.size/\x.size<=16777216)(z:∀x∈r.l,∀y∈x.s,y.data.size<=100):
  C 97 #[v,I id,I fr,I f] w λe w'=>e= .returned (.tuple #[.string (Im r id fr f).1,I (Im r id fr f).2])/\Below w w w':=by
 obtain⟨cap,l⟩:=r;obtain⟨ai,rfl,hs⟩:=h.row;have HS:=Q7h hs;obtain⟨A,c,rfl,hl,_⟩:=hs;obtain⟨n,hn⟩:=Zx l.length;simp only[hn]at hl HS ⊢;obtain⟨w1,aj,j,aa⟩:=box w 64 #[I cap,.slice A n c];have HG:Hid (Sg w w1 F cap A n c l):=⟨j.o,aa.o,HS.o,h.lt⟩;obtain⟨z0,z1⟩:=HG.o.at (QqA _ _);obtain⟨may,b⟩:=Zx (decide (f<=8));have H:=Q7h (HG.o.within (QqA _ _) hz id fr f may);obtain⟨T,p⟩:=Zx (Qm l id fr f may);rw[p]at H;rw[show Im ⟨cap,l⟩ id fr f=if T≠0 then(⟨#[]⟩,T)else(Gv (Vx l id) fr f.toNat,0) by rw[<-p,<-b];rfl];by_cases K:T=0
 ·subst K;obtain⟨i,g,o,Q,R,ys,A',sl,c',rfl,ak,hx,V,⟨rfl,al,am,an,ao⟩,HK,ab,ac,hg⟩:=HG.o.some hn p;have L:=QqL hx;have X:=hz _ L;have ap:f<=8:=QxM b;obtain⟨m,rfl⟩:∃m:Nat,f=(m:Int):=⟨f.toNat,O⟩;rw[QqE U,V];simp only[QyD];have aq:m<=8:=O;have ar:(0:Int)<=(i:Int):=QkD _;have Y:Hid (∀k,(Gv ⟨Q,R,ys⟩ fr k).size<=100*k):=Vi (z _ L) fr;have Z:Hid (∀a,(dOf ⟨Q,R,ys⟩ a).size<=100):=Qg0 (z _ L);have B:Hid (∀W a,Below w1 w1 W->C 99 #[.agg #[I Q,I R,.slice A' sl c'],I a] W λe w'=>e= .returned (.string (dOf ⟨Q,R,ys⟩ a))/\Below w1 w1 w'):=λW a hb=>(Qde W F _ ⟨Q,R,ys⟩ a (ac.o.below (HG.o.bw hb))).mono λe w' k=>⟨k.1,hb.trans (k.2.mono hb.size)⟩;obtain⟨x,hx⟩:∃x:Spc,(⟨Q,R,ys⟩:Spc)=x:=⟨_,rfl⟩;rw[hx]at Y Z B ⊢;have au:fr<=16777216:=by simp only at X;omega
  clear p V X h hz z hn L hx HS;go_enter Tryz.func97,Tryz.ntmps97
  go_wp2_with fail
  refine H.o.mono ?_;rintro e w2 ⟨rfl,q⟩;have M:=Q7h q;clear q z0 z1;go_wp2_with fail
  go_loopw [11,12] (λtv kv wr=>∃(k:Nat) (t:ByteArray),k<=m/\kv= I k/\tv= .string t/\Hid (t=Gv x fr k)/\Hid (Below w1 w1 wr)) (λ_ kv _=>m-(intOf kv).toNat)
  case atStart=>exact⟨0,_,QqM _,rfl,rfl,by show _=_;rfl,M.o⟩
  case round=>
   clear M;obtain⟨k,t,hk,rfl,rfl,HT,HB⟩:=hrel;by_cases av:k<m
   ·have aw:(k:Int)<(m:Int):=O;have ax:IntKind.i64.wrap (fr+(k:Int))=fr+(k:Int):=by rw[QqN];omega
    have S2:=Q7h (HK.o _ HB.o);have ad:=Q7h (HK.o _ HB.o.drew);obtain⟨d,hd⟩:=Zx (dOf x (fr+(k:Int)));have ay:t.size<=800:=by have:=Y.o k;rw[HT.o];omega
    have az:d.size<=100:=by rw[<-hd];exact Z.o _
    have ah:¬9223372036854775807<t.size+d.size:=O;have N:=Q7h (λW hb=>B.o W (fr+(k:Int)) hb);rw[hd]at N;have ae:Hid (t++d=Gv x fr (k+1)):=by show _=Gv x fr k++_;rw[<-HT.o,hd]
    clear hd;go_wp2_with fail
    go_region_held3 (λw'=>Cs w' w.heap.size cap (some (g,o)) n c g (o+i*3) (o+i*3+1) (o+i*3+2) Q R (.slice A' sl c')) (first|with_reducible exact S2.o|with_reducible exact ad.o|with_reducible exact S5.o|with_reducible exact S6.o) (first|(go_at_call 168;refine(ab.o _ HB.o.drew).mono ?_;rintro e w5 ⟨rfl,u⟩;have u:=bt HB.o.drew u;have af:=Q7h u;have S5:=Q7h (HK.o _ u);clear u)|(go_at_call 99;refine(N.o _ af.o).mono ?_;rintro e w6 ⟨rfl,S⟩;have ag:=Q7h S;have S6:=Q7h (HK.o _ S);clear S))
    go_wp2_with fail
    go_roundw
    case rel=>exact⟨k+1,t++d,O,by go_num,rfl,ae.o,ag.o⟩
    case measure=>simp[intOf];omega
   ·obtain rfl:k=m:=O;go_wp2_with fail
    exact QqG (v:= .tuple #[.string t,I 0]) (by simp[results,Tryz.results97,go_sem]) rfl ⟨by rw[HT.o],j.o.trans (HB.o.mono j.o.size)⟩
 ·have aF:(T==0)=false:=by simpa using K
  rw[QqH K];rw[<-b]at H;clear p hz z b h hn K HS;go_enter Tryz.func97,Tryz.ntmps97
  go_wp2_with fail
  refine H.o.mono ?_;rintro e w2 ⟨rfl,q⟩;have M:=Q7h (j.o.trans (q.mono j.o.size));clear q;go_wp2_with fail
  exact QqG (v:= .tuple #[.string ⟨#[]⟩,I T]) (by simp[results,Tryz.results97,go_sem]) rfl ⟨rfl,M.o⟩
end dc
end Go.Proofs.YtfialjmemcobjaaGreatDoor
namespace Go.Proofs.YtfialjmemcobjaaGreatDoor
namespace dc
open Go.RowKit er
theorem L6:(Tryz.prog.info? 9).map (λi=>(i.zero,i.size,i.bytes))=some (some (.string ⟨#[]⟩),1,16):=J
theorem Zkb:Inf 190 9 1:=Zkq L6 Tryz.underlying190 rfl D D
theorem Qx5(x:Spc)(a b:Int):0<=dIn x a b/\dIn x a b<=x.s.length:=by
 have:(Ou x a b).s.length<=x.s.length:=QkE _ _;unfold dIn;omega
theorem Wl{w:World}{B n:Nat}{v:Value}{d:List ByteArray}(h:w.ownsRow B 9 1 v n (d.map Value.string))(a:d.length=n)(f:n<=1000):StrsAt w v d:=by
 obtain⟨A,c,rfl⟩:=Qk h;refine⟨A,c,by rw[a],O,λi=>?_⟩;obtain⟨g,rfl,_,_,_,b,_⟩:=Qx h O;refine⟨g,0,rfl,λj t e=>?_⟩;have:=b j (.string t) (by rw[QzF,e];rfl);simpa using this
theorem Zzp{ops:Array Oper}{rest:List Oper}{o:Oper}{a:Act}{Q:Exit->Act->World->Prop}{w:World}{e:TypeId}{p x:Operand}{B n d:Nat}{A:Option Addr}{l:List ByteArray}{u:ByteArray}(f:Hid (w.ownsRow B 9 1 (.slice A n d) n (l.map Value.string)))(b:o.guard=none)(i:o.op= .call {callee:= .builtin .append,args:=#[p,x],argTypes:=#[190,190]})(j:a.eval p= .slice A n d)(k:a.eval x= .slice (some ⟨w.heap.size,0,none⟩) 1 1)(m:n<=100000)(hb:B<=w.heap.size)
  (h:∀g c w',Hid (w'.ownsRow B 9 1 (.slice (some ⟨g,0,none⟩) (n+1) c) (n+1) ((l++[u]).map Value.string))->Hid (Below B w w')->wpList Tryz.prog ops Q rest (a.put o.dst (.slice (some ⟨g,0,none⟩) (n+1) c)) w'):wpList Tryz.prog ops Q (o::rest) a (w.alloc (.cells #[.string u] e)):=
 push (cs:=[.string u]) Zkb b i f j k rfl (by simp[Value.oneCell']) m hb λg c w' h1 h2=>h g c w' (by rw[QqY];exact h1) h2
theorem Qs{w w':World}(h:Below w.drew.heap.size w.drew w'):Below w w w':=((QqA w.heap.size w).drew).trans h
theorem boxed{w1 w2 e d:World}{t:TypeId}{cs:Array Value}(hb:Below w1 w1 w2)(g:w2.alloc (.cells cs t)=e)(h:Below e.drew.heap.size e.drew d):Below w1 w1 d/\Whole d w2.heap.size t cs/\∀a b c,Below w1 w1 (((d.setCell (w2,0) a).setCell (w2,1) b).setCell (w2,2) c):=by
 subst g;have h5:=Qs h;have f:=Whole.new w2 t cs;have h1:=(hb.alloc hb.size (.cells cs t)).trans (h5.mono (hb.alloc hb.size (.cells cs t)).size);exact⟨h1,f.below h5 f.lt,λa b c=>((h1.setCell (p:=(w2,0)) hb.size _).setCell (p:=(w2,1)) hb.size _).setCell (p:=(w2,2)) hb.size _⟩
section
variable {w w1 W W':World} {F:Nat→Prop} {cap:Int} {A:Option Addr} {n c:Nat} {l:List Spc} {B:Option Addr} {m d:Nat} {y z:Int} {s:List Sec}
theorem Sg.left(h:Sg w w1 F cap A n c l)(hb:Below w1 w1 W)(a:0<=cap/\cap<=1000000000):C 98 #[.agg #[I cap,.slice A n c]] W λe w'=>e= .returned (I (Ug ⟨cap,l⟩))/\Below W W w':=Bp W _ _ ⟨cap,l⟩ (h.dv hb) a
theorem Sg.in(h:Sg w w1 F cap A n c l)(hb:Below w1 w1 W)(b:SecsAt w F (.slice B m d) s)(fr a:Int):C 174 #[.agg #[I y,I z,.slice B m d],I fr,I a] W λe w'=>e= .returned (I (dIn ⟨y,z,s⟩ fr a))/\Below W W w':=Yv W (gr F w1 W) _ ⟨y,z,s⟩ fr a ((b.below (h.bw hb)).mono Ak) (h.glt hb)
theorem Sg.lay(h:Sg w w1 F cap A n c l)(hb:Below w1 w1 W)(b:SecsAt w F (.slice B m d) s){fr:Int}{D:List ByteArray}{v:Value}(f:StrsAt W v D)(a:0<=fr/\fr<=16777216)(g:s.length<=1000):C 175 #[.agg #[I y,I z,.slice B m d],I fr,v] W λe w'=>∃B m d,e= .returned (.agg #[I y,I z,.slice B m d])/\SecsAt w' (gr F w1 w') (.slice B m d) (Ic ⟨y,z,s⟩ fr D).s/\Below W W w':=(Qq0 W (gr F w1 W) _ _ ⟨y,z,s⟩ fr D ((b.below (h.bw hb)).mono Ak) (h.glt hb) f a g).mono (by
 rintro e w' ⟨sv,rfl,h1,h2⟩;have h3:=h1;obtain⟨B,d,rfl,_,_⟩:=h3;exact⟨B,_,d,rfl,h1.mono (Qjt hb.size h2.size),h2⟩)
end
def Ey(r:Dv)(id fr n:Int):Dv×Int:=
 if Qm r.l id fr n true≠0 then(r,Qm r.l id fr n true)else
 if Ug r<n-dIn (Vx r.l id) fr (fr+n)then(r,71)else({r with l:=Z9 r.l (Ic (Vx r.l id) fr (List.replicate n.toNat Zm))},0)
theorem Qae(w:World)(F:Nat->Prop)(v:Value)(r:Dv)(id fr X:Int)(h:DvAt w F v r)(h9:r.l.length<=1000)(hz:∀x∈r.l,0<=x.size/\x.size<=16777216)(ag:∀x∈r.l,x.s.length<=500)(af:0<=r.cap/\r.cap<=1000000000)(Y:Ug r<=500):
  C 95 #[v,I id,I fr,I X] w (OpD w F (Ey r id fr X)):=by
 obtain⟨cap,l⟩:=r;obtain⟨A,n,c,w1,rfl,a4,H,hn,a5⟩:=stage h;obtain⟨z0,z1⟩:=H.o.at (QqA _ _);have H9:=Q7h h9;have ah:=Q7h (H.o.within (QqA _ _) hz id fr X true);obtain⟨wi,M⟩:=Zx (Qm l id fr X true);rw[M]at ah;rw[show Ey ⟨cap,l⟩ id fr X=if wi≠0 then(⟨cap,l⟩,wi)else if Ug ⟨cap,l⟩<X-dIn (Vx l id) fr (fr+X)then(⟨cap,l⟩,71)else(⟨cap,Z9 l (Ic (Vx l id) fr (List.replicate X.toNat Zm))⟩,0) by rw[<-M];rfl];by_cases Z:wi=0
 ·subst Z;obtain⟨i,g,o,K,L,ys,A',sl,c',rfl,a6,hx,N,⟨a7,a8,aK,a9,ba⟩,HK,ai,HS,hg⟩:=H.o.some hn M;have aq:=hz _ (QqL hx);have aL:=ag _ (QqL hx);simp only at aq aL;obtain⟨m,rfl⟩:∃m:Nat,X=(m:Int):=⟨X.toNat,O⟩;rw[QqE U,N,QyD];have bc:(m:Int)<=16777216:=O;have Y:Ug ⟨cap,l⟩<=500:=Y;have be:(0:Int)<=(i:Int):=QkD _;have bf:IntKind.i64.wrap (i:Int)=(i:Int):=by rw[QqN];omega
  have bg:IntKind.i64.wrap (fr+m)=fr+m:=by rw[QqN];omega
  have aj:=Qx5 ⟨K,L,ys⟩ fr (fr+m);have ak:=Q7h (λ(W:World) (hb:Below w1 w1 W)=>H.o.in (y:=K) (z:=L) hb HS.o fr (fr+m));have al:=Q7h (λ(W:World) (hb:Below w1 w1 W)=>H.o.left hb af);have am:=Q7h (λ(W:World) (v:Value) (hb:Below w1 w1 W) (hd:StrsAt W v (List.replicate m Zm))=>H.o.lay (y:=K) (z:=L) hb HS.o (fr:=fr) hd ⟨aK,O⟩ O);obtain⟨S,hS⟩:=Zx ((Ic ⟨K,L,ys⟩ fr (List.replicate m Zm)).s);obtain⟨qi,an⟩:=Zx (dIn ⟨K,L,ys⟩ fr (fr+m));obtain⟨ql,aa⟩:=Zx (Ug ⟨cap,l⟩);rw[an]at aj ak;rw[aa]at al;rw[hS]at am;rw[an,aa,show Ic ⟨K,L,ys⟩ fr (List.replicate m Zm)=⟨K,L,S⟩ by rw[<-hS];rfl];simp only at aj;have a0:IntKind.i64.wrap ((m:Int)-qi)=(m:Int)-qi:=by rw[QqN];omega
  have aM:ql+qi<=1000:=by rw[aa]at Y;omega
  clear Y;obtain⟨R,hR⟩:∃R:Dv×Int,(if ql<(m:Int)-qi then(⟨cap,l⟩,71)else(⟨cap,Z9 l ⟨K,L,S⟩⟩,0))=R:=⟨_,rfl⟩;rw[hR];have HR:=Q7h hR;clear M hx N aq hz ag h hn h9 an aa hS aj af hR;go_enter Tryz.func95,Tryz.ntmps95
  go_wp2_with fail
  refine ah.o.mono ?_;rintro e w2 ⟨rfl,a⟩;have Q:=Q7h a;have S2:=Q7h (HK.o _ a);have ar:=Q7h (HK.o _ a.drew);have b:=a.alloc a.size (.cells #[I 0,I 0,.slice none 0 0] 155);obtain⟨wa,ao⟩:=Zx (w2.alloc (.cells #[I 0,I 0,.slice none 0 0] 155));rw[ao]at b;have ab:=Q7h b;have SA:=Q7h (HK.o _ b);have au:=Q7h (HK.o _ b.drew);have av:=Q7h (λ(w5:World) (f:Below wa.drew.heap.size wa.drew w5)=>boxed a ao f);clear a z0 z1 b;go_upto_region 4 with fail
  go_cut [11]from 23 to 29 (λxv wx=>∃bX,xv= (bX,0)/\Hid (Whole wx bX 155 #[I K,I L,.slice A' sl c']/\Below w1 w1 wx/\w1.heap.size<=bX))
  case first=>
   go_region_held3 (λw'=>Cs w' w.heap.size cap (some (g,o)) n c g (o+i*3) (o+i*3+1) (o+i*3+2) K L (.slice A' sl c')) (first|with_reducible exact S2.o|with_reducible exact ar.o|with_reducible exact SA.o|with_reducible exact au.o|with_reducible exact S5.o|with_reducible exact HK.o _ (ac.o _ _ _)|with_reducible exact HK.o _ (u.o.alloc u.o.size _)) (first|(go_at_call 168;refine(ai.o _ ab.o.drew).mono ?_;rintro e w5 ⟨rfl,f⟩;obtain⟨hb,hx,hs⟩:=av.o w5 f;have S5:=Q7h (HK.o w5 hb);have aN:=Q7h hx;have ac:=Q7h hs;obtain⟨⟨p0,p1,p2⟩,q0,q1,q2⟩:=V5 hx;clear f hb hx hs)|(go_at_call 168;refine(ai.o _ Q.o.drew).mono ?_;rintro e w7 ⟨rfl,j⟩;have j:=bt Q.o.drew j;have u:=Q7h j;have S5:=Q7h (HK.o w7 j);clear j))
   all_goals go_wp2_with fail
   all_goals go_meet
   all_goals first
    |exact⟨w2.heap.size,rfl,by simpa using((aN.o.set 0 (I K)).set 1 (I L)).set 2 (.slice A' sl c'),ac.o _ _ _,Q.o.size⟩
    |exact⟨w7.heap.size,rfl,Whole.new _ _ _,u.o.alloc u.o.size _,u.o.size⟩
  case rest=>
  obtain⟨bX,rfl,ad⟩:=hcut;have t:Hid (∀W,Below wc wc W->Cs W w.heap.size cap (some (g,o)) n c bX 0 1 2 K L (.slice A' sl c')/\Below w1 w1 W):=λW hb=>by
   have aw:=bt ad.o.2.1 hb;exact⟨⟨H.o.at aw,(V5 (ad.o.1.below hb ad.o.1.lt)).1⟩,aw⟩
  have T0:=Q7h (t.o _ (QqA _ _)).1;have ap:=Q7h (t.o _ (QqA _ _).drew);clear ai S2 ar SA au ab av ao;go_wp2_with fail
  go_region_held3 (λw'=>Cs w' w.heap.size cap (some (g,o)) n c bX 0 1 2 K L (.slice A' sl c')) (first|with_reducible exact T0.o|with_reducible exact ap.o.1|with_reducible exact T5.o.1|with_reducible exact T6.o.1) (first|(go_at_call 174;refine(ak.o _ ap.o.2).mono ?_;rintro e w5 ⟨rfl,f⟩;have f:=bt (QqA _ _).drew f;have aQ:=Q7h f;have T5:=Q7h (t.o _ f);clear f)|(go_at_call 98;refine(al.o _ T5.o.2).mono ?_;rintro e w6 ⟨rfl,T⟩;have T:=bt aQ.o T;have ac:=Q7h T;have T6:=Q7h (t.o _ T);clear T))
  by_cases aR:ql<(m:Int)-qi
  ·obtain⟨⟨z0,z1⟩,_⟩:=T6.o.1;obtain⟨⟨o0,o1⟩,e0,e1⟩:=H.o.res T6.o.2;go_wp2_with fail
   obtain⟨⟨r0,r1⟩,h⟩:=H.o.same T6.o.2 71 rfl;exact QqG (v:= .tuple #[.agg #[I cap,.slice (some (g,o)) n c],I 71]) (by simp[results,Tryz.results95,go_sem,r0,r1]) rfl (by rw[<-HR.o,QqH O];exact h)
  ·have bh:m<=1000:=O;clear T0 ap T5 ak al;go_wp2_with fail
   go_loopw [12,13] (λov kv wr=>∃(k:Nat) (B:Option Addr) (d:Nat),k<=m/\kv= I k/\ov= .slice B k d/\Hid (wr.ownsRow w6.heap.size 9 1 (.slice B k d) k ((List.replicate k Zm).map Value.string))/\Hid (Below w6 w6 wr)) (λ_ kv _=>m-(intOf kv).toNat)
   case atStart=>exact⟨0,none,0,QqM _,rfl,rfl,⟨rfl,.inl ⟨rfl,rfl⟩⟩,QqA _ _⟩
   case round=>
    obtain⟨k,B,d,hk,rfl,rfl,HO,HB⟩:=hrel;by_cases bi:k<m
    ·have bj:(k:Int)<(m:Int):=O;have ax:=Q7h (Qjk wr);obtain⟨bb,ay⟩:=Zx Zm;rw[ay]at ax HO am;rw[ay];go_wp2_with fail
     refine ax.o.mono ?_;rintro e w7 ⟨rfl,j⟩;have u:=Q7h j;have aS:=(bt HB.o j).size;clear j;go_wp2_with (at_builtin;go_must (refine Zzp (own_below HO.o u.o) rfl rfl rfl rfl O aS ?_;intro g2 aT w8 aV aW))
     go_roundw
     case rel=>exact⟨k+1,some (g2,0),aT,O,by go_num,rfl,by rw[List.replicate_succ'];exact aV.o,(bt HB.o u.o).trans aW.o⟩
     case measure=>simp[intOf];omega
    ·obtain rfl:k=m:=O;have ae:=bt ac.o HB.o;have T8:=Q7h (t.o _ ae);have az:=Q7h (t.o _ ae.drew);have aX:Hid (StrsAt wr.drew (.slice B k d) (List.replicate k Zm)):=(Wl HO.o U O).below ((QqA wr.heap.size wr).drew);have aY:=Q7h ae;have aF:Hid (∀W p q,Below wc wc W->Cs ((W.setCell (w.heap.size+1,0) p).setCell (w.heap.size+1,1) q) w.heap.size cap (some (g,o)) n c bX 0 1 2 K L (.slice A' sl c')):=λW p q hb=>(t.o W hb).1.set O (by have:=ad.o.2.2;have:=H.o.sz;omega);clear ae;go_wp2_with fail
     go_region_held3 (λw'=>Cs w' w.heap.size cap (some (g,o)) n c bX 0 1 2 K L (.slice A' sl c')) (first|with_reducible exact T8.o.1|with_reducible exact az.o.1|with_reducible exact T9.o.1|with_reducible exact TA.o.1|with_reducible exact aF.o _ _ _ ab.o) (first|(go_at_call 175;refine(am.o _ _ az.o.2 aX.o).mono ?_;rintro e w9 ⟨A3,n3,c3,rfl,aH,V⟩;have V:=bt aY.o.drew V;have aZ:=Q7h V;have T9:=Q7h (t.o _ V);have aA:=Q7h aH;clear V aH)|(go_at_call 169;refine(H.o.with T9.o.2 H9.o aA.o).mono ?_;rintro e wa ⟨A6,n6,c6,rfl,N,b⟩;have b:=bt aZ.o b;have ab:=Q7h b;have TA:=Q7h (t.o _ b);have aB:=Q7h N;obtain⟨⟨o0,o1⟩,e0,e1⟩:=H.o.res TA.o.2;clear b N))
     go_wp2_with fail
     obtain⟨⟨r0,r1⟩,h⟩:=H.o.new TA.o.2 aB.o 0 rfl;exact QqG (v:= .tuple #[.agg #[I cap,.slice A6 n6 c6],I 0]) (by simp[results,Tryz.results95,go_sem,r0,r1]) rfl (by rw[<-HR.o,QqE O];exact h)
 ·have bl:(wi==0)=false:=by simpa using Z
  rw[QqH Z];clear M hz ag h hn h9 Z;go_enter Tryz.func95,Tryz.ntmps95
  go_wp2_with fail
  refine ah.o.mono ?_;rintro e w2 ⟨rfl,a⟩;have Q:=Q7h a;clear z0 z1;obtain⟨z0,z1⟩:=H.o.at a;obtain⟨⟨o0,o1⟩,e0,e1⟩:=H.o.res a;clear a;go_wp2_with fail
  obtain⟨⟨r0,r1⟩,h⟩:=H.o.same Q.o wi rfl;exact QqG (v:= .tuple #[.agg #[I cap,.slice A n c],I wi]) (by simp[results,Tryz.results95,go_sem,r0,r1]) rfl h
end dc
namespace dc
open Go.RowKit er
def slc(t:ByteArray)(i:Nat):ByteArray:=t.extract (32*i) (32*i+32)
def Iu(t:ByteArray)(m:Nat):List ByteArray:=(List.range m).map (slc t)
theorem Wt(t:ByteArray)(m:Nat):(Iu t m).length=m:=by simp[Iu]
def Cj(t:ByteArray):Bool:=decide (t.size/32*32=t.size)&&decide (t.size/32<=8)
def Uz(r:Dv)(id fr:Int)(t:ByteArray):Dv×Int:=
 if Qm r.l id fr (t.size/32:Nat) (Cj t)≠0 then(r,Qm r.l id fr (t.size/32:Nat) (Cj t))else
 if Ug r<(t.size/32:Nat)-dIn (Vx r.l id) fr (fr+(t.size/32:Nat))then(r,71)else({r with l:=Z9 r.l (Ic (Vx r.l id) fr (Iu t (t.size/32)))},0)
theorem Qgp(w:World)(F:Nat->Prop)(v:Value)(r:Dv)(id fr:Int)(t:ByteArray)(h:DvAt w F v r)(h9:r.l.length<=1000)(hz:∀x∈r.l,0<=x.size/\x.size<=16777216)(ag:∀x∈r.l,x.s.length<=1000)(af:0<=r.cap/\r.cap<=1000000000)(ht:t.size<=1000):
  C 94 #[v,I id,I fr,.string t] w (OpD w F (Uz r id fr t)):=by
 obtain⟨cap,l⟩:=r;obtain⟨A,n,c,w1,rfl,a5,u,hn,a6⟩:=stage h;obtain⟨z0,z1⟩:=u.o.at (QqA _ _);have H9:=Q7h h9;obtain⟨m,hm⟩:∃m:Nat,t.size/32=m:=⟨_,rfl⟩;obtain⟨may,b⟩:=Zx (Cj t);have N:=Q7h (u.o.within (QqA _ _) hz id fr m may);obtain⟨wi,Q⟩:=Zx (Qm l id fr m may);rw[Q]at N;have a7:(t.size:Int)/32=(m:Int):=O;rw[show Uz ⟨cap,l⟩ id fr t=if wi≠0 then(⟨cap,l⟩,wi)else if Ug ⟨cap,l⟩<m-dIn (Vx l id) fr (fr+m)then(⟨cap,l⟩,71)else(⟨cap,Z9 l (Ic (Vx l id) fr (Iu t m))⟩,0) by rw[<-Q,<-b,<-hm];rfl];by_cases aa:wi=0
 ·subst aa;obtain⟨i,g,o,K,L,ys,A',sl,c',rfl,a8,hx,T,⟨aH,a9,aK,ba,bb⟩,HK,ah,HS,hg⟩:=u.o.some hn Q;have aq:=hz _ (QqL hx);have aL:=ag _ (QqL hx);simp only at aq aL;subst aH;unfold Cj at b;rw[hm]at b;simp only[QzC,QzD]at b;obtain⟨aM,bc⟩:=b;have aN:decide ((m:Int)<=8)=true:=QxA O;have be:(m:Int)<=1000:=O;rw[QqE U,T];have bf:(0:Int)<=(i:Int):=QkD _;have bg:IntKind.i64.wrap (i:Int)=(i:Int):=by rw[QqN];omega
  have bh:IntKind.i64.wrap (fr+m)=fr+m:=by rw[QqN];omega
  have ai:=Qx5 ⟨K,L,ys⟩ fr (fr+m);have aj:=Q7h (λ(W:World) (hb:Below w1 w1 W)=>u.o.in (y:=K) (z:=L) hb HS.o fr (fr+m));have ak:=Q7h (λ(W:World) (hb:Below w1 w1 W)=>u.o.left hb af);have ar:=Q7h (λ(W:World) (v:Value) (hb:Below w1 w1 W) (hd:StrsAt W v (Iu t m))=>u.o.lay (y:=K) (z:=L) hb HS.o (fr:=fr) hd ⟨aK,O⟩ O);obtain⟨S,hS⟩:=Zx ((Ic ⟨K,L,ys⟩ fr (Iu t m)).s);obtain⟨qi,al⟩:=Zx (dIn ⟨K,L,ys⟩ fr (fr+m));obtain⟨ql,am⟩:=Zx (Ug ⟨cap,l⟩);rw[al]at ai aj;rw[am]at ak;rw[hS]at ar;rw[al,am,show Ic ⟨K,L,ys⟩ fr (Iu t m)=⟨K,L,S⟩ by rw[<-hS];rfl];simp only at ai;have a4:IntKind.i64.wrap ((m:Int)-qi)=(m:Int)-qi:=by rw[QqN];omega
  obtain⟨R,hR⟩:∃R:Dv×Int,(if ql<(m:Int)-qi then(⟨cap,l⟩,71)else(⟨cap,Z9 l ⟨K,L,S⟩⟩,0))=R:=⟨_,rfl⟩;rw[hR];have HR:=Q7h hR;clear Q hx T aq hz ag h hn h9 al am hS ai af hR;go_enter Tryz.func94,Tryz.ntmps94
  go_wp2_with fail
  first|refine N.o.mono ?_|(rw[aN];refine N.o.mono ?_)
  rintro e w2 ⟨rfl,a⟩;have M:=Q7h a;have S2:=Q7h (HK.o _ a);have au:=Q7h (HK.o _ a.drew);have f:=a.alloc a.size (.cells #[I 0,I 0,.slice none 0 0] 155);obtain⟨wa,an⟩:=Zx (w2.alloc (.cells #[I 0,I 0,.slice none 0 0] 155));rw[an]at f;have ab:=Q7h f;have SA:=Q7h (HK.o _ f);have av:=Q7h (HK.o _ f.drew);have aw:=Q7h (λ(w5:World) (j:Below wa.drew.heap.size wa.drew w5)=>boxed a an j);clear a z0 z1 f;go_upto_region 5 with fail
  go_cut [12]from 36 to 42 (λxv wx=>∃bX,xv= (bX,0)/\Hid (Whole wx bX 155 #[I K,I L,.slice A' sl c']/\Below w1 w1 wx/\w1.heap.size<=bX))
  case first=>
   go_region_held3 (λw'=>Cs w' w.heap.size cap (some (g,o)) n c g (o+i*3) (o+i*3+1) (o+i*3+2) K L (.slice A' sl c')) (first|with_reducible exact S2.o|with_reducible exact au.o|with_reducible exact SA.o|with_reducible exact av.o|with_reducible exact S5.o|with_reducible exact HK.o _ (ac.o _ _ _)|with_reducible exact HK.o _ (V.o.alloc V.o.size _)) (first|(go_at_call 168;refine(ah.o _ ab.o.drew).mono ?_;rintro e w5 ⟨rfl,j⟩;obtain⟨hb,hx,hs⟩:=aw.o w5 j;have S5:=Q7h (HK.o w5 hb);have aQ:=Q7h hx;have ac:=Q7h hs;obtain⟨⟨p0,p1,p2⟩,q0,q1,q2⟩:=V5 hx;clear j hb hx hs)|(go_at_call 168;refine(ah.o _ M.o.drew).mono ?_;rintro e w7 ⟨rfl,X⟩;have X:=bt M.o.drew X;have V:=Q7h X;have S5:=Q7h (HK.o w7 X);clear X))
   all_goals go_wp2_with fail
   all_goals go_meet
   all_goals first
    |exact⟨w2.heap.size,rfl,by simpa using((aQ.o.set 0 (I K)).set 1 (I L)).set 2 (.slice A' sl c'),ac.o _ _ _,M.o.size⟩
    |exact⟨w7.heap.size,rfl,Whole.new _ _ _,V.o.alloc V.o.size _,V.o.size⟩
  case rest=>
  obtain⟨bX,rfl,ad⟩:=hcut;have H:Hid (∀W,Below wc wc W->Cs W w.heap.size cap (some (g,o)) n c bX 0 1 2 K L (.slice A' sl c')/\Below w1 w1 W):=λW hb=>by
   have ax:=bt ad.o.2.1 hb;exact⟨⟨u.o.at ax,(V5 (ad.o.1.below hb ad.o.1.lt)).1⟩,ax⟩
  have T0:=Q7h (H.o _ (QqA _ _)).1;have ao:=Q7h (H.o _ (QqA _ _).drew);clear ah S2 au SA av ab aw an;go_wp2_with fail
  go_region_held3 (λw'=>Cs w' w.heap.size cap (some (g,o)) n c bX 0 1 2 K L (.slice A' sl c')) (first|with_reducible exact T0.o|with_reducible exact ao.o.1|with_reducible exact T5.o.1|with_reducible exact T6.o.1) (first|(go_at_call 174;refine(aj.o _ ao.o.2).mono ?_;rintro e w5 ⟨rfl,j⟩;have j:=bt (QqA _ _).drew j;have aR:=Q7h j;have T5:=Q7h (H.o _ j);clear j)|(go_at_call 98;refine(ak.o _ T5.o.2).mono ?_;rintro e w6 ⟨rfl,Y⟩;have Y:=bt aR.o Y;have ac:=Q7h Y;have T6:=Q7h (H.o _ Y);clear Y))
  by_cases aS:ql<(m:Int)-qi
  ·obtain⟨⟨z0,z1⟩,_⟩:=T6.o.1;obtain⟨⟨o0,o1⟩,e0,e1⟩:=u.o.res T6.o.2;go_wp2_with fail
   obtain⟨⟨r0,r1⟩,h⟩:=u.o.same T6.o.2 71 rfl;exact QqG (v:= .tuple #[.agg #[I cap,.slice (some (g,o)) n c],I 71]) (by simp[results,Tryz.results94,go_sem,r0,r1]) rfl (by rw[<-HR.o,QqH O];exact h)
  ·have aM:m<=1000:=O;clear T0 ao T5 aj ak;go_wp2_with fail
   go_loopw [13,14] (λov kv wr=>∃(k:Nat) (B:Option Addr) (d:Nat),k<=m/\kv= I k/\ov= .slice B k d/\Hid (wr.ownsRow w6.heap.size 9 1 (.slice B k d) k ((Iu t k).map Value.string))/\Hid (Below w6 w6 wr)) (λ_ kv _=>m-(intOf kv).toNat)
   case atStart=>exact⟨0,none,0,QqM _,rfl,rfl,⟨rfl,.inl ⟨rfl,rfl⟩⟩,QqA _ _⟩
   case round=>
    obtain⟨k,B,d,hk,rfl,rfl,HO,HB⟩:=hrel;by_cases bi:k<m
    ·have bj:(k:Int)<(m:Int):=O;have aT:=HB.o.size;go_wp2_with (at_builtin;go_must (refine Zzp HO rfl rfl rfl rfl O aT ?_;intro g2 aV w8 aW aX))
     go_roundw
     case rel=>exact⟨k+1,some (g2,0),aV,O,by go_num,rfl,by rw[show Iu t (k+1)=Iu t k++[slc t k] by unfold Iu;rw[QyS,QqY];rfl];exact aW.o,HB.o.trans aX.o⟩
     case measure=>simp[intOf];omega
    ·obtain rfl:k=m:=O;have ae:=bt ac.o HB.o;have T8:=Q7h (H.o _ ae);have ay:=Q7h (H.o _ ae.drew);have aY:Hid (StrsAt wr.drew (.slice B k d) (Iu t k)):=(Wl HO.o (Wt _ _) O).below ((QqA wr.heap.size wr).drew);have aZ:=Q7h ae;have az:Hid (∀W p q,Below wc wc W->Cs ((W.setCell (w.heap.size+1,0) p).setCell (w.heap.size+1,1) q) w.heap.size cap (some (g,o)) n c bX 0 1 2 K L (.slice A' sl c')):=λW p q hb=>(H.o W hb).1.set O (by have:=ad.o.2.2;have:=u.o.sz;omega);clear ae;go_wp2_with fail
     go_region_held3 (λw'=>Cs w' w.heap.size cap (some (g,o)) n c bX 0 1 2 K L (.slice A' sl c')) (first|with_reducible exact T8.o.1|with_reducible exact ay.o.1|with_reducible exact T9.o.1|with_reducible exact TA.o.1|with_reducible exact az.o _ _ _ ab.o) (first|(go_at_call 175;refine(ar.o _ _ ay.o.2 aY.o).mono ?_;rintro e w9 ⟨A3,n3,c3,rfl,aF,Z⟩;have Z:=bt aZ.o.drew Z;have aA:=Q7h Z;have T9:=Q7h (H.o _ Z);have aB:=Q7h aF;clear Z aF)|(go_at_call 169;refine(u.o.with T9.o.2 H9.o aB.o).mono ?_;rintro e wa ⟨A6,n6,c6,rfl,T,f⟩;have f:=bt aA.o f;have ab:=Q7h f;have TA:=Q7h (H.o _ f);have a0:=Q7h T;obtain⟨⟨o0,o1⟩,e0,e1⟩:=u.o.res TA.o.2;clear f T))
     go_wp2_with fail
     obtain⟨⟨r0,r1⟩,h⟩:=u.o.new TA.o.2 a0.o 0 rfl;exact QqG (v:= .tuple #[.agg #[I cap,.slice A6 n6 c6],I 0]) (by simp[results,Tryz.results94,go_sem,r0,r1]) rfl (by rw[<-HR.o,QqE O];exact h)
 ·have bl:(wi==0)=false:=by simpa using aa
  rw[QqH aa];clear Q hz ag h hn h9 aa;go_enter Tryz.func94,Tryz.ntmps94
  go_wp2_with fail
  ·rename_i hE;have ap:decide ((m:Int)<=8)=may:=by
    rw[<-b];unfold Cj;rw[hm,QxA (show m*32=t.size by omega),Bool.true_and];exact decide_eq_decide.2 O
   first|rw[ap]|skip
   refine N.o.mono ?_;rintro e w2 ⟨rfl,a⟩;have M:=Q7h a;clear z0 z1;obtain⟨z0,z1⟩:=u.o.at a;obtain⟨⟨o0,o1⟩,e0,e1⟩:=u.o.res a;clear a;go_wp2_with fail
   obtain⟨⟨r0,r1⟩,h⟩:=u.o.same M.o wi rfl;exact QqG (v:= .tuple #[.agg #[I cap,.slice A n c],I wi]) (by simp[results,Tryz.results94,go_sem,r0,r1]) rfl h
  ·rename_i hE;have ap:may=false:=by
    rw[<-b];unfold Cj;rw[hm,QyF (show ¬m*32=t.size by omega),Bool.false_and]
   rw[ap]at N;refine N.o.mono ?_;rintro e w2 ⟨rfl,a⟩;have M:=Q7h a;clear z0 z1;obtain⟨z0,z1⟩:=u.o.at a;obtain⟨⟨o0,o1⟩,e0,e1⟩:=u.o.res a;clear a;go_wp2_with fail
   obtain⟨⟨r0,r1⟩,h⟩:=u.o.same M.o wi rfl;exact QqG (v:= .tuple #[.agg #[I cap,.slice A n c],I wi]) (by simp[results,Tryz.results94,go_sem,r0,r1]) rfl h
end dc
end Go.Proofs.YtfialjmemcobjaaGreatDoor
