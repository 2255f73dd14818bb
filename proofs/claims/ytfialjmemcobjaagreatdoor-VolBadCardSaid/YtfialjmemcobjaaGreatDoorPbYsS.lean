/- A part of the proof. -/
import Derived.Test.YtfialjmemcobjaaGreatDoorPbTsS
import Derived.Test.YtfialjmemcobjaaGreatDoorPbYsF
import Derived.Sort.OwnSortedInts
set_option maxRecDepth 100000
set_option maxHeartbeats 16000000
set_option linter.unusedVariables false
set_option linter.unusedSimpArgs false
namespace Go.Proofs.YtfialjmemcobjaaGreatDoor
namespace tr
open Go.RowKit er
def sorted(zs:List Int):List Int:=zs.mergeSort λx y=>decide (x<=y)
theorem Xd(a:List Int):(sorted a).length=a.length:=List.length_mergeSort a
theorem Q2o(w:World):C 238 #[.int .u64 0] w λx w'=>x= .returned (I 0)/\w'=w:=by
 go_in
 go_wp2_with fail
 go_ret
 exact⟨by first|kernel_rfl|decide,rfl⟩
theorem Q5v(w:World):C 167 #[.int .u64 0] w λx w'=>x= .returned (I 0)/\w'=w:=by
 have H:=Q7h (Q2o w);go_in
 go_wp2_with fail
 with_reducible refine H.o.mono ?_
 rintro e a ⟨rfl,rfl⟩;go_wp2_with fail
 go_ret
 exact⟨rfl,rfl⟩
theorem Q51(w:World):C 228 #[.slice none 0 0,I 0,I 0] w λx w'=>x= .returned (.tuple #[])/\w'=w:=by
 go_in
 go_wp2_with fail
 go_loopw [6,7] (λa b wr=>wr=w/\a= I 1) (λ_ _ _=>0)
 case atStart=>exact⟨rfl,rfl⟩
 case round=>
  obtain⟨rfl,rfl⟩:=hrel;go_wp2_with fail
  go_end0
  exact⟨rfl,rfl⟩
theorem Q5h(w:World):C 166 #[.slice none 0 0,I 0,I 0,I 0] w λx w'=>x= .returned (.tuple #[])/\w'=w:=by
 have H:=Q7h (Q51 w);go_in
 go_wp2_with fail
 go_loopw [1,2,3,8,9,10] (λs1 s2 s3 b c a wr=>wr=w/\s1= I 0/\s2= I 0/\s3= I 0) (λ_ _ _ _ _ _ _=>0)
 case atStart=>exact⟨rfl,rfl,rfl,rfl⟩
 case round=>
  obtain⟨rfl,rfl,rfl,rfl⟩:=hrel;go_wp2_with fail
  with_reducible refine H.o.mono ?_
  rintro e d ⟨rfl,rfl⟩;go_wp2_with fail
  go_returns;exact⟨rfl,rfl⟩
theorem Q4z(w:World):C 87 #[.slice none 0 0] w λx w'=>x= .returned (.tuple #[])/\w'=w:=by
 have⟨a,b⟩:=Q2 (Q5v w) (Q5h w);go_in
 go_wp2_with fail
 with_reducible refine a.o.mono ?_
 rintro e c ⟨rfl,rfl⟩;go_wp2_with fail
 with_reducible refine b.o.mono ?_
 rintro e c ⟨rfl,rfl⟩;go_wp2_with fail
 go_end0
 exact⟨rfl,rfl⟩
theorem Qyw(b:List Int)(base:Nat)(v:Value)(w:World)(h:w.ownsRow base 3 1 v b.length (b.map (Value.int .i64)))(l:b.length<=16777216):
  C 87 #[v] w λe w'=>e= .returned (.tuple #[])/\w'.ownsRow base 3 1 v b.length ((sorted b).map (Value.int .i64))/\w.grownBy w' v.ownBlock:=by
 have f:=h;obtain⟨h1,⟨h2,h3⟩|⟨g,cap,c,rfl,h3,h4,h5,i,j,d⟩⟩:=h
 ·subst h2;have e:b=[]:=by
   cases b with
   |nil=>rfl
   |cons a r=>simp at h3
  subst e;refine(Q4z w).mono ?_;rintro x w' ⟨rfl,rfl⟩;refine⟨rfl,?_,Je B0 _⟩;have:sorted []=[]:=by unfold sorted;simp
  rw[this];exact f
 ·have k:c.toList.take b.length=b.map (Value.int .i64):=by rw[QkN]at d;exact d
  refine(Tryz.slices_Sort_int g 0 cap b w (holds_of_blockI h4 k) (QyB.1 h4).1 O).mono ?_;rintro x w' ⟨rfl,n,os,rfl⟩;exact⟨rfl,ownsRow_sortedI (ss:=b) (ts:=sorted b) (Xd b) h3 h4 h5 i j,grownBy_sortedI _⟩
theorem Ex:(Tryz.prog.info? 3).map (λi=>(i.zero,i.size,i.bytes))=some (some (I 0),1,8):=J
def Qzn(w:World)(zs:List Int)(x:Ending)(w':World):Prop:=∃A c,x= .returned (.slice A zs.length c)/\w'.ownsRow w.heap.size 3 1 (.slice A zs.length c) zs.length ((sorted zs).map (Value.int .i64))/\Below w w w'
def ndT:Bool->TypeId
 |true=>348
 |false=>297
def whF:Bool->FuncId
 |true=>389
 |false=>375
theorem D9(v : Value)(w : World) : ∀ h, (Go.method 567 (ndT h) v "scoria/tree.where").run Tryz.prog w = .ok (whF h, v) w
 |true=>J
 |false=>J
theorem Ez(args:Array Value)(w:World):∀h,(callFunc (whF h) args).run Tryz.prog w= .ok (.enter (whF h) args) w
 |true=>J
 |false=>J
theorem Kz(w:World)(b:Nat):∀h,C (whF h) #[(b,0)] w λe w'=>e= .returned (b,0)/\w=w'
 |true=>by
  show C 389 _ w _;go_in
  go_wp2
  go_ret
  exact⟨rfl,rfl⟩
 |false=>by
  show C 375 _ w _;go_in
  go_wp2
  go_ret
  exact⟨rfl,rfl⟩
def Zqb(w:World)(vs:List Value)(T:Tree):Prop:=vs.length=T.ats.length/\T.ats.length<=3/\∀(j:Nat) a,T.ats[j]? =some a->∃h b,vs[j]? =some (Value.iface (ndT h) (.pointer (some ⟨b,0,none⟩)))/\w.cell? ⟨b,0,none⟩=some (I a)
theorem Q9z{w:World}{F:List Nat}{v:Value}{T:Tree}{vs:List Value}(f:NsAt w F v T)(d:Q81 w F T vs):Zqb w vs T:=by
 cases T with
 |no=>
  obtain rfl:=d;exact⟨rfl,by simp[Tree.ats],λj a h=>by simp[Tree.ats]at h⟩
 |one x=>
  obtain⟨b,g,rfl,rfl,c,h1,_⟩:=f;obtain⟨_,_,e,rfl⟩:=d;simp only[QoV]at e;obtain⟨rfl,_⟩:=e;refine⟨rfl,by simp[Tree.ats],λj a h=>?_⟩;match j,h with
  |0,h=>obtain rfl:x.a=a:=by simpa[Tree.ats]using h
        exact⟨true,_,rfl,h1.cell 0⟩
  |j+1,h=>simp[Tree.ats]at h
 |two a x y=>
  obtain⟨i,j,b,g,b2,k,rfl,rfl,⟨_,h1,_⟩,⟨_,h2,_⟩,⟨_,h3,_⟩,_⟩:=f;obtain⟨_,_,_,_,_,_,e,rfl⟩:=d;simp only[QoV]at e;obtain⟨rfl,rfl,rfl,rfl,rfl,_⟩:=e;refine⟨rfl,by simp[Tree.ats],λj c h=>?_⟩;match j,h with
  |0,h=>obtain rfl:x.a=c:=by simpa[Tree.ats]using h
        exact⟨true,_,rfl,h2.cell 0⟩
  |1,h=>obtain rfl:y.a=c:=by simpa[Tree.ats]using h
        exact⟨true,_,rfl,h3.cell 0⟩
  |2,h=>obtain rfl:a=c:=by simpa[Tree.ats]using h
        exact⟨false,_,rfl,h1.cell 0⟩
  |j+3,h=>simp[Tree.ats]at h
theorem Q9m(w:World)(F:List Nat)(p:Nat)(T:Tree)(f:TrAt w F p T):C 203 #[.pointer (some ⟨p,0,none⟩)] w λx w'=>∃A m c,x= .returned (.slice A m c)/\m=T.ats.length/\m<=3/\Below w.heap.size w w'/\(0<m->∃g,A=some ⟨g,0,none⟩/\∀i a,T.ats[i]? =some a->∃h b,w'.cell? ⟨g,i,none⟩=some (.iface (ndT h) (.pointer (some ⟨b,0,none⟩)))/\w'.cell? ⟨b,0,none⟩=some (I a)):=by
 obtain⟨F',vs,rfl,j,d⟩:=Qr3 w F p T f;obtain⟨_,v,e,_,k⟩:=f;simp only[QoV,true_and]at e;obtain rfl:=e;obtain⟨n1,n2,l⟩:=Q9z k j;refine d.mono ?_;rintro x w' ⟨A,c,rfl,h1,h3⟩;refine⟨A,_,c,rfl,n1,O,h3,λn=>?_⟩;obtain⟨g,rfl,_,_,_,d,_⟩:=Qx h1 n;refine⟨g,rfl,λi a ha=>?_⟩;obtain⟨h,b,q1,o⟩:=l i a ha;exact⟨h,b,d i _ q1,Qq h3 o⟩
theorem Qil(w:World)(F:List Nat)(p:Nat)(T:Tree)(ht:TrAt w F p T):
  C 163 #[.pointer (some ⟨p,0,none⟩)] w (Qzn w T.nfs):=by
 have y:=Q7h (Q9m w F p T ht);unfold Tree.nfs;obtain⟨f,V⟩:∃f,T.ats=f:=⟨_,rfl⟩;rw[V]at y ⊢;have ak:Hid (∀H base v,H.ownsRow base 3 1 v (f.filter λa=>decide (a≠-1)).length ((f.filter λa=>decide (a≠-1)).map (Value.int .i64))->f.length<=3->C 87 #[v] H λe w'=>e= .returned (.tuple #[])/\w'.ownsRow base 3 1 v (f.filter λa=>decide (a≠-1)).length ((sorted (f.filter λa=>decide (a≠-1))).map (Value.int .i64))/\H.grownBy w' v.ownBlock):=λH base v ho hl=>Qyw _ base v H ho (QqR (QkE _ _) O);have az:=λh b w=>D9 (.pointer (some ⟨b,0,none⟩)) w h;have aF:=λh b w=>Ez #[.pointer (some ⟨b,0,none⟩)] w h;have K:=Q7h (λH b h=>Kz H b h);obtain⟨i0,W,X,n,Y⟩:=QzX Ex;have al:=Q7h W;have am:=Q7h X;have an:=Q7h n;have L:=Q7h Y;clear ht V W X n Y;go_enter Tryz.func163,Tryz.ntmps163
 go_wp2_with fail
 with_reducible refine y.out.mono ?_
 rintro e w1 ⟨A,m,c,rfl,Z,hm,aa,ab⟩;have M:=Q7h Z;have ac:=Q7h aa;have ao:=Q7h ab;have aH:(m:Int)<=3:=O;clear aa ab Z y;go_wp2_with fail
 go_loopw [3,5,9] (λs3 s5 s9 wr=>∃(j:Nat) (z:List Int) (B:Option Addr) (d:Nat),j<=m/\s9= I j/\s3= .slice B z.length d/\Hid ((f.take j).filter (λa=>decide (a≠-1))=z)/\z.length<=j/\Hid (wr.ownsRow w1.heap.size 3 1 (.slice B z.length d) z.length (z.map (Value.int .i64)))/\Hid (Below w1.heap.size w1 wr)) (λ_ _ s9 _=>m-(intOf s9).toNat)
 case atStart=>exact⟨0,[],none,0,QqM _,rfl,rfl,rfl,QqB _,⟨rfl,.inl ⟨rfl,rfl⟩⟩,QqA _ _⟩
 case round=>
  obtain⟨j,z,B,d,hj,rfl,rfl,HZ,ad,N,Q⟩:=hrel;by_cases ap:j<m
  ·have aK:(j:Int)<(m:Int):=O;obtain⟨g,rfl,hc⟩:=ao.out O;obtain⟨a,ha⟩:∃a,f[j]? =some a:=⟨_,QqC (by rw[<-M.out];exact ap)⟩;obtain⟨h,b,q1,q2⟩:=hc j a ha;have c1:=Qq Q.out q1;have c2:=Qq Q.out q2;by_cases q:a= -1
   ·have L:Hid ((f.take (j+1)).filter (λa=>decide (a≠-1))=z):=by
     show _=_;rw[QzW,ha,QjZ,HZ.out];simp[q]
    subst q;clear hc ha q1 q2;go_wp2_with fail
    refine(K.out _ b h).mono ?_;rintro e w5 ⟨rfl,rfl⟩;go_wp2_with fail
    go_roundw
    case rel=>exact⟨j+1,z,B,d,O,by go_num,rfl,L,O,N,Q⟩
    case measure=>simp[intOf];omega
   ·have aq:Hid ((f.take (j+1)).filter (λa=>decide (a≠-1))=z++[a]):=by
     show _=_;rw[QzW,ha,QjZ,HZ.out];simp[q]
    have aL:(a == -1)=false:=by simpa using q
    have ae:=Q7h (N.out.alloc (.cells #[I a] 3));have ar:Hid (∀(j':Nat) (u:Value),([I a]:List Value)[j']? =some u->(wr.alloc (.cells #[I a] 3)).cell? ((⟨wr.heap.size,0,none⟩:Addr).add j')=some u):=Z4 _ _ _;have t:∀u∈([I a]:List Value),u.oneCell'=true:=by simp[Value.oneCell']
    have af:=Q7h t;have x:=Q.out.size;have ag:Hid (w1.heap.size<=(wr.alloc (.cells #[I a] 3)).heap.size):=by show _<=_;simp only[QqW];omega
    have ah:=Q7h x;obtain⟨r,i⟩:∃r,z.length=r:=⟨_,rfl⟩;have s:=Q7h i;rw[i]at N ae ad ⊢;clear hc ha q1 q2 t x i;go_wp2_with fail
    refine(K.out _ b h).mono ?_;rintro e w5 ⟨rfl,rfl⟩;go_wp2_with fail
    refine(K.out _ b h).mono ?_;rintro e w5 ⟨rfl,rfl⟩;go_wp2_with (at_builtin;go_must (refine QkW _ rfl (.tmp 18) (.tmp 23) 39 rfl w1.heap.size 3 i0 _ 1 8 Tryz.underlying39 al.out am.out an.out L.out rfl O (.slice B r d) r (z.map (Value.int .i64)) rfl ae.out ⟨wr.heap.size,0,none⟩ 1 1 [I a] rfl rfl ar.out af.out (by simp only[maxLen];omega) O ag.out ?_;intro v2 w6 l ai _;have au:=Q7h l;have av:=Q7h (Qy N.out ai ah.out);obtain⟨A2,aw,e2⟩:=Qk l;subst e2;clear l ai))
    have R:m-(intOf (I ((j:Int)+1))).toNat<m-(intOf (I (j:Int))).toNat:=by simp[intOf];omega
    have n:(z++[a]).length=r+1:=by rw[QqK,s.out];rfl
    refine⟨⟨j+1,z++[a],A2,aw,?_,?_,?_,aq,?_,?_,?_⟩,R⟩
    ·omega
    ·go_num
    ·rw[n]
    ·omega
    ·rw[n,QqY,QzE,QjE];with_reducible exact au
    ·exact Q.out.trans av.out
  ·obtain rfl:j=m:=O;have o:f.take j=f:=by rw[M.out];exact QzU
   rw[o]at HZ;have hz:=HZ.out;subst hz;have HS:=Q7h (ak.out wr _ _ N.out (by rw[<-M.out];exact hm));have aj:Hid (∀k,(Value.slice B (f.filter λa=>decide (a≠-1)).length d).ownBlock=some k->w1.heap.size<=k):=λk hk=>(N.out.lt k hk).1;obtain⟨r,i⟩:∃r,(f.filter λa=>decide (a≠-1)).length=r:=⟨_,rfl⟩;have s:=Q7h i;rw[i]at HS N aj ad ⊢;clear o i;go_wp2_with fail
   with_reducible refine HS.out.mono ?_
   rintro e w5 ⟨rfl,h5,S⟩;have HR:Hid (Qzn w (f.filter λa=>decide (a≠-1)) (.returned (.slice B r d)) w5):=by
    have ax:=ac.out.size;refine⟨B,d,by rw[s.out],by rw[s.out];exact Qr h5 ax,?_⟩;have ay:Below w1.heap.size w1 w5:=Q.out.trans ⟨S.os,S.tape,S.output,S.size,λk hk=>S.block k (by have:=Q.out.size;omega) (λe=>by have:=aj.out k e.symm;omega)⟩;exact Qu ac.out ay
   clear h5 S;go_wp2_with fail
   go_ret
   exact HR.out
def Tree.mv:Tree->Int->Tree×Bool
 |.no,_=>(.no,false)
 |.one x,pg=>if 0<=pg/\x.a=pg then(.one ⟨-1,x.l⟩,true)else(.one x,false)
 |.two a x y,pg=>if 0<=pg/\a=pg then(.two (-1) x y,true)else if 0<=pg/\x.a=pg then(.two (-1) ⟨-1,x.l⟩ y,true)else if 0<=pg/\y.a=pg then(.two (-1) x ⟨-1,y.l⟩,true)else(.two a x y,false)
theorem Qdc(T:Tree)(pg:Int):(T.Ok->(T.mv pg).1.Ok)/\(T.mv pg).1.flat=T.flat/\Kp T (T.mv pg).1:=by
 cases T with
 |no=>exact⟨id,rfl,Kp.refl _⟩
 |one x=>
  simp only[Tree.mv];split
  ·exact⟨id,rfl,λ_ _=>by simp[Gd],by simp[Tree.nfs,Tree.ats]⟩
  ·exact⟨id,rfl,Kp.refl _⟩
 |two a x y=>
  simp only[Tree.mv];split
  ·exact⟨id,rfl,λ_ h=>⟨h.1,h.2.1,λh=>absurd rfl h⟩,by simp[Tree.nfs,Tree.ats,QkX];(repeat' split)<;>simp_all⟩
  ·split
   ·exact⟨id,rfl,λ_ h=>⟨λh=>absurd rfl h,h.2.1,λh=>absurd rfl h⟩,by simp[Tree.nfs,Tree.ats,QkX];(repeat' split)<;>simp_all⟩
   ·split
    ·exact⟨id,rfl,λ_ h=>⟨h.1,λh=>absurd rfl h,λh=>absurd rfl h⟩,by simp[Tree.nfs,Tree.ats,QkX];(repeat' split)<;>simp_all⟩
    ·exact⟨id,rfl,Kp.refl _⟩
def Qzr(w:World)(F:List Nat)(p:Nat)(r:Tree×Bool)(x:Ending)(w':World):Prop:=x= .returned (.bool r.2)/\TrAt w' F p r.1/\Keep (λk=>k∈F) w w'/\(r.2=false->Below w w w')
def MvL(w:World)(b g:Nat)(x:Lf)(pg:Int)(w':World):Prop:=LfAt w' b g (if x.a=pg then⟨-1,x.l⟩else x)/\Keep (λk=>k=b) w w'/\(x.a≠pg->Below w w w')
theorem Q8s(w:World)(b g:Nat)(x:Lf)(pg:Int)(h:LfAt w b g x):
  C 225 #[lfV b,I pg] w λe w'=>e= .returned (.bool (decide (x.a=pg)))/\MvL w b g x pg w':=by
 obtain⟨w2,d⟩:=Zx (w.alloc (.cells #[I pg] 3));have f:Below w w w2.drew:=by rw[<-d];exact QqZ (B0.alloc N0 _)
 have j:=h.keep (Keep.below (F:=λ_=>False) f) id id;have p0:w2.cell? (w,0)=some (I pg):=by rw[<-d];exact(Whole.new w _ _).cell 0
 obtain⟨a,l⟩:=x;have q:Hid (LfAt (w2.drew.setCell (b,0) (I (-1))) b g ⟨-1,l⟩/\Keep (λk=>k=b) w (w2.drew.setCell (b,0) (I (-1)))):=by
  obtain⟨c,q1,i⟩:=j;exact⟨⟨c,q1.set 0 _,i.keep (Keep.set1 _ b 0 _) (i.ne q1 D).symm⟩,(Keep.below (F:=λk=>k=b) f).setCell (p:=(b,0)) (.inl rfl) _⟩
 have m:=Q7h (⟨f,j⟩:_/\_);obtain⟨c,q1,i⟩:=j;have c1:=q1.cell 0;have v:=q1.fz 0;have s:=λw=>D9 (b,0) w true;have t:=λw=>Ez #[(b,0)] w true;simp only[ndT,whF]at s t;have u:=Qja;have r:=Q7h λw=>(Kz w b true).mono λ_ _ h=>(⟨h.1,h.2.symm⟩:_/\_);have n:=Q7h λw=>Kz w b true;clear q1 i h f;unfold lfV;simp only;unfold MvL;by_cases e:a=pg
 ·subst e;simp only[QyC,QoY];go_in
  go_wp2_with fail
  go_still_tail 6,J
  still_call r.o _
  repeat still_step
  refine QoU ?_;go_wp2_with fail
  refine(n.o _).mono ?_;rintro e y ⟨rfl,rfl⟩;go_wp2_with fail
  go_ret
  exact⟨rfl,q.o.1,q.o.2,λh=>absurd rfl h⟩
 ·have z:(a==pg)=false:=by simpa using e
  simp only[e,QiA,QoZ];go_in
  go_wp2_with fail
  go_still_tail 6,J
  still_call r.o _
  repeat still_step
  refine QoU ?_;go_wp2_with fail
  go_ret
  exact⟨rfl,m.o.2,Keep.below m.o.1,λ_=>m.o.1⟩
theorem Q8c(w:World)(b g pb:Nat)(x:Lf)(pg:Int)(h:LfAt w b g x)(f:w.cell? (pb,0)=some (I pg)):
  C 276 #[lfV b,(pb,0)] w λe w'=>e= .returned (.bool (decide (x.a=pg)))/\MvL w b g x pg w':=by
 have c:=Q7h (Q8s w b g x pg h);clear h;generalize decide (x.a=pg)=r at *;unfold lfV at *;go_in
 go_wp2_with fail
 with_reducible refine c.o.mono ?_
 rintro e i ⟨rfl,h5⟩;have d:=Q7h h5;clear h5;go_wp2_with fail
 go_ret
 exact⟨rfl,d.o⟩
theorem egM(args:Array Value)(w:World):(callFunc 276 args).run Tryz.prog w= .ok (.enter 276 args) w:=J
theorem InAt.mv{w w':World}{i h b g b2 j:Nat}{a:Int}{x y:Lf}{F:Nat->Prop}(hi:InAt w i h b b2 a)(e:LfAt w b g x)(f:LfAt w b2 j y)(m:Keep F w' w)(n:F i):InAt (w.setCell (i,0) (I (-1))) i h b b2 (-1)/\LfAt (w.setCell (i,0) (I (-1))) b g x/\LfAt (w.setCell (i,0) (I (-1))) b2 j y/\Keep F w' (w.setCell (i,0) (I (-1))):=by
 obtain⟨k,d,l⟩:=hi;have K:=Keep.set1 w i 0 (I (-1));have ne:∀{b g x},LfAt w b g x->b≠i/\g≠i:=λh=>by
  obtain⟨c,q1,o⟩:=h;exact⟨O3 q1 d D,(o.ne d D).symm⟩
 exact⟨⟨k,d.set 0 _,l.keep K (l.ne d D).symm⟩,e.keep K (ne e).1 (ne e).2,f.keep K (ne f).1 (ne f).2,m.setCell (p:=(i,0)) (.inl n) _⟩
def MvT(w:World)(i h b g b2 g2:Nat)(a:Int)(x y:Lf)(pg:Int)(t:Bool)(w':World):Prop:=∃a' x' y',(0<=pg->(Tree.two a x y).mv pg=(.two a' x' y',t))/\InAt w' i h b b2 a'/\LfAt w' b g x'/\LfAt w' b2 g2 y'/\Keep (λk=>k=i\/k=b\/k=b2) w w'/\(t=false->Below w w w')
theorem Q85(w:World)(i h b g b2 r:Nat)(a:Int)(x y:Lf)(pg:Int)(hi:InAt w i h b b2 a)(hx:LfAt w b g x)(hy:LfAt w b2 r y)(hb:b≠b2)(hg:g≠r):
  C 225 #[inV i,I pg] w λe w'=>∃t,e= .returned (.bool t)/\MvT w i h b g b2 r a x y pg t w':=by
 obtain⟨w2,z⟩:∃w2,w.alloc (.cells #[I pg] 3)=w2:=⟨_,rfl⟩;have hB:Below w.heap.size w w2.drew:=by rw[<-z];exact QqZ ((QqA _ _).alloc (QqB _) _)
 have aa:w.heap.size<w2.heap.size:=by rw[<-z];simp
 have S:Keep (λ_=>False) w w2.drew:=Keep.below hB;have T:InAt w2.drew i h b b2 a:=hi.keep S id id;have hX:LfAt w2.drew b g x:=hx.keep S id id;have hY:LfAt w2.drew b2 r y:=hy.keep S id id;have p0:w2.cell? ⟨w.heap.size,0,none⟩=some (I pg):=by rw[<-z];exact(Whole.new w _ _).cell 0
 have K0:Keep (λk=>k=i\/k=b\/k=b2) w w2.drew:=S.mono λ_ _ h=>h.elim
 -- behind the first leaf
 have X5:∀f,MvL w2.drew b g x pg f->Keep (λk=>k=i\/k=b\/k=b2) w f/\InAt f i h b b2 a/\LfAt f b2 r y/\LfAt f b g (if x.a=pg then⟨-1,x.l⟩else x):=by
  rintro f ⟨m1,n,m3⟩;obtain⟨k,V,W⟩:=T;obtain⟨c,x1,x2⟩:=hX;obtain⟨d,X,y2⟩:=hY;exact⟨K0.trans n λk e=>.inl (.inr (.inl e)),⟨k,V.keep n (O3 V x1 D),W.keep n (W.ne x1 D).symm⟩,⟨d,X.keep n hb.symm,y2.keep n (y2.ne x1 D).symm⟩,m1⟩
 have Y6:∀f m,x.a≠pg->MvL w2.drew b g x pg f->MvL f b2 r y pg m->Keep (λk=>k=i\/k=b\/k=b2) w m/\InAt m i h b b2 a/\LfAt m b g x/\LfAt m b2 r (if y.a=pg then⟨-1,y.l⟩else y)/\(y.a≠pg->Below w.heap.size w m):=by
  rintro f m Y h5 ⟨m1,n,m3⟩;obtain⟨F,j,u,x5⟩:=X5 f h5;rw[QqE Y]at x5;obtain⟨k,V,W⟩:=j;obtain⟨c,x1,x2⟩:=x5;obtain⟨d,X,y2⟩:=u;exact⟨F.trans n λk e=>.inl (.inr (.inr e)),⟨k,V.keep n (O3 V X D),W.keep n (W.ne X D).symm⟩,⟨c,x1.keep n hb,x2.keep n (x2.ne X D).symm⟩,m1,λe=>Qu hB (Qu (h5.2.2 Y) (m3 e))⟩
 have P5:∀f,MvL w2.drew b g x pg f->f.cell? ⟨w.heap.size,0,none⟩=some (I pg):=λf h5=>h5.2.1.cell (p:=⟨w.heap.size,0,none⟩) p0 (λe=>by have:=hx.lt.1;have e':w.heap.size=b:=e;omega);have Q:=Q7h (Q8c w2.drew b g w.heap.size x pg hX p0);have Z:=Q7h λf h5=>Q8c f b2 r w.heap.size y pg (X5 f h5).2.2.1 (P5 f h5);obtain⟨k,c1,c2,c3,c4⟩:=T.see;have me:=λw=>D9 (.pointer (some ⟨i,0,none⟩)) w false;have en:=λw=>Ez #[.pointer (some ⟨i,0,none⟩)] w false;simp only[ndT,whF]at me en;have ab:=O4;have ac:=Nf;have eg:=egM;have HW:=Q7h λw=>(Kz w i false).mono λ_ _ h=>(⟨h.1,h.2.symm⟩:_/\_);have H:=Q7h λw=>Kz w i false;have ad:w2.cell? ⟨i,0,none⟩=some (I a):=c1;have z1:w2.frozen? ⟨i,0,none⟩=false:=by obtain⟨_,q,_⟩:=T;exact q.fz 0
 have o:=Q7h (⟨T,hX,hY,K0,hB,X5,Y6⟩:_/\_/\_/\_/\_/\_/\_);clear T hi hx hy hB hX hY K0 S X5 Y6 P5 hb hg aa;obtain⟨a0,l⟩:=x;obtain⟨b0,l2⟩:=y;simp only at Q Z o;unfold inV;unfold lfV at *;have K:=Q7h λ(wq:World) x y (h1:InAt wq i h b b2 a) (h2:LfAt wq b g x) (h3:LfAt wq b2 r y) (h4:Keep (λk=>k=i\/k=b\/k=b2) w wq)=>h1.mv h2 h3 h4 (.inl rfl);by_cases e:a=pg
 ·subst e;go_in
  go_wp2_with fail
  go_still_tail 6,J
  still_call HW.out _
  repeat still_step
  refine QoU ?_;go_wp2_with fail
  refine(H.out _).mono ?_;rintro e f ⟨rfl,rfl⟩;go_wp2_with fail
  go_ret
  obtain⟨L,M,N,v⟩:=K.out _ _ _ o.out.1 o.out.2.1 o.out.2.2.1 o.out.2.2.2.1;exact⟨true,rfl,-1,_,_,λh=>by simp[Tree.mv,h],L,M,N,v,λh=>by cases h⟩
 have ed:(a==pg)=false:=by simpa using e
 by_cases R:a0=pg
 ·subst R;simp only[QoY]at Q;go_in
  go_wp2_with fail
  go_still_tail 6,J
  still_call HW.out _
  repeat still_step
  refine QoU ?_;go_wp2
  refine QoS 1 ?_;rw[QoR];go_wp2_with fail
  with_reducible refine Q.out.mono ?_
  rintro e f ⟨rfl,h5⟩;obtain⟨F,j,u,x5⟩:=o.out.2.2.2.2.2.1 f h5;rw[QqH trivial]at x5;have d1:f.cell? ⟨i,0,none⟩=some (I a):=by obtain⟨_,q,_⟩:=j;exact q.cell 0
  have d2:f.frozen? ⟨i,0,none⟩=false:=by obtain⟨_,q,_⟩:=j;exact q.fz 0
  have s:=Q7h (K.out _ _ _ j x5 u F);clear h5 F j u x5;go_wp2_with fail
  refine(H.out _).mono ?_;rintro e m ⟨rfl,rfl⟩;go_wp2_with fail
  go_ret
  obtain⟨L,M,N,v⟩:=s.out;exact⟨true,rfl,-1,_,_,λh=>by simp[Tree.mv,h,e],L,M,N,v,λh=>by cases h⟩
 simp only[R,QoZ]at Q;by_cases A:b0=pg
 ·subst A;simp only[QoY]at Z;go_in
  go_wp2_with fail
  go_still_tail 6,J
  still_call HW.out _
  repeat still_step
  refine QoU ?_;go_wp2
  refine QoS 2 ?_;rw[QoR];go_wp2_with fail
  with_reducible refine Q.out.mono ?_
  rintro e f ⟨rfl,h5⟩;obtain⟨_,j,_⟩:=o.out.2.2.2.2.2.1 f h5;obtain⟨_,_,_,_,d4⟩:=j.see;try unfold lfV at d4
  have s:=Q7h h5;clear h5 j;go_wp2_with fail
  rw[QoR];go_wp2_with fail
  with_reducible refine(Z.out f s.out).mono ?_
  rintro e m ⟨rfl,B⟩;obtain⟨F,j,x5,u,-⟩:=o.out.2.2.2.2.2.2 f m R s.out B;rw[QqH trivial]at u;have d1:m.cell? ⟨i,0,none⟩=some (I a):=by obtain⟨_,q,_⟩:=j;exact q.cell 0
  have d2:m.frozen? ⟨i,0,none⟩=false:=by obtain⟨_,q,_⟩:=j;exact q.fz 0
  have s:=Q7h (K.out _ _ _ j x5 u F);clear B F j u x5;go_wp2_with fail
  refine(H.out _).mono ?_;rintro e m ⟨rfl,rfl⟩;go_wp2_with fail
  go_ret
  obtain⟨L,M,N,v⟩:=s.out;exact⟨true,rfl,-1,_,_,λh=>by simp[Tree.mv,h,e,R],L,M,N,v,λh=>by cases h⟩
 simp only[A,QoZ]at Z;go_in
 go_wp2_with fail
 go_still_tail 6,J
 still_call HW.out _
 repeat still_step
 refine QoU ?_;go_wp2
 refine QoS 3 ?_;rw[QoR];go_wp2_with fail
 with_reducible refine Q.out.mono ?_
 rintro e f ⟨rfl,h5⟩;obtain⟨_,j,_⟩:=o.out.2.2.2.2.2.1 f h5;obtain⟨_,_,_,_,d4⟩:=j.see;try unfold lfV at d4
 have s:=Q7h h5;clear h5 j;go_wp2_with fail
 rw[QoR];go_wp2_with fail
 with_reducible refine(Z.out f s.out).mono ?_
 rintro e m ⟨rfl,B⟩;have H6:=Q7h (o.out.2.2.2.2.2.2 f m R s.out B);clear B;go_wp2_with fail
 rw[QoR];go_wp2_with fail
 go_ret
 obtain⟨L,M,N,v,f5⟩:=H6.out;rw[QqE A]at v;exact⟨false,rfl,a,_,_,λh=>by simp[Tree.mv,e,R,A],M,N,v,L,λ_=>f5 A⟩
theorem TrAt.lt{w:World}{F:List Nat}{p:Nat}{T:Tree}(h:TrAt w F p T):∀k∈F,k<w.heap.size:=h.fine.2.2
theorem Qf9(w:World)(F:List Nat)(p:Nat)(T:Tree)(pg:Int)(Q:TrAt w F p T):
  C 160 #[.pointer (some ⟨p,0,none⟩),I pg] w (Qzr w F p (T.mv pg)):=by
 have l:Hid (∀r:Tree×Bool,r=(T,false)->Qzr w F p r (.returned (.bool false)) w):=λr e=>by subst e;exact⟨rfl,Q,Keep.refl _ _,λ_=>QqA _ _⟩
 obtain⟨F',v,rfl,j,s⟩:=Q;have c0:=j.cell 0;simp at c0;have c:=(s.fine j).1;cases T with
 |no=>
  obtain⟨rfl,rfl⟩:=s;have H:=Q7h (l.out (Tree.mv .no pg) rfl);clear j c l;generalize Tree.mv .no pg=r at *;go_in
  go_wp2_with fail
  go_ret
  exact H.out
 |one x=>
  obtain⟨b,g,rfl,rfl,h2⟩:=s;by_cases n:0<=pg
  ·have z:=Q7h (Q8s w b g x pg h2);have K:Hid (∀f,MvL w b g x pg f->Qzr w [p,b,g] p (Tree.mv (.one x) pg) (.returned (.bool (decide (x.a=pg)))) f):=by
    rintro f ⟨m,o,L⟩;have R:Keep (λk=>k∈[p,b,g]) w f:=o.mono λ_ _ e=>by simp[e]
    have q:p≠b:=by simp at c;exact c.1.1
    by_cases e:x.a=pg
    ·rw[QqH e]at m;simp only[Tree.mv,n,e,true_and,QyC,QoY];exact⟨rfl,⟨_,_,rfl,j.keep o q,b,g,rfl,rfl,m⟩,R,λh=>by cases h⟩
    ·rw[QqE e]at m;simp only[Tree.mv,e,and_false,QiA,QoZ];exact⟨rfl,⟨_,_,rfl,j.keep o q,b,g,rfl,rfl,m⟩,R,λ_=>L e⟩
   clear j c h2 l;generalize Tree.mv (.one x) pg=r at *;generalize decide (x.a=pg)=d at *;unfold lfV at *;go_in
   go_wp2_with fail
   with_reducible refine z.out.mono ?_
   rintro e f ⟨rfl,h5⟩;have M:=Q7h (K.out f h5);clear h5;go_wp2_with fail
   go_ret
   exact M.out
  ·have H:=Q7h (l.out (Tree.mv (.one x) pg) (by simp[Tree.mv,n]));clear j c l;generalize Tree.mv (.one x) pg=r at *;unfold lfV at *;go_in
   go_wp2_with fail
   go_ret
   exact H.out
 |two a x y=>
  obtain⟨i,h,b,g,b2,u,rfl,rfl,h2,h3,h4,h5,N⟩:=s;by_cases n:0<=pg
  ·have z:=Q7h (Q85 w i h b g b2 u a x y pg h2 h3 h4 h5 N);have K:Hid (∀f t,MvT w i h b g b2 u a x y pg t f->Qzr w [p,i,h,b,g,b2,u] p (Tree.mv (.two a x y) pg) (.returned (.bool t)) f):=by
    rintro f t ⟨X,Y,Z,m,o,L,V,S,W⟩;rw[m n];simp only[QqP,QqF,QkU,QyA,QuE]at c;exact⟨rfl,⟨_,_,rfl,j.keep S O,i,h,b,g,b2,u,rfl,rfl,o,L,V,h5,N⟩,S.mono λ_ _ e=>by rcases e with rfl|rfl|rfl<;>simp,W⟩
   clear j c h2 h3 h4 h5 N l;generalize Tree.mv (.two a x y) pg=r at *;unfold inV at *;go_in
   go_wp2_with fail
   with_reducible refine z.out.mono ?_
   rintro e f ⟨t,rfl,h5⟩;have M:=Q7h (K.out f t h5);clear h5;go_wp2_with fail
   go_ret
   exact M.out
  ·have H:=Q7h (l.out (Tree.mv (.two a x y) pg) (by simp[Tree.mv,n]));clear j c l h2 h3 h4;generalize Tree.mv (.two a x y) pg=r at *;unfold inV at *;go_in
   go_wp2_with fail
   go_ret
   exact H.out
theorem Vl(w:World)(F:List Nat)(p:Nat)(T:Tree)(e:TrAt w F p T):
  C 143 #[(p,0)] w λx w'=>x= .returned (I T.high)/\Below w w w':=by
 obtain⟨F',v,rfl,c,d⟩:=e;have c0:=c.cell 0;simp at c0;have f:=O4;have j:=Qja;cases T with
 |no=>
  obtain⟨rfl,rfl⟩:=d;clear c;unfold Tree.high;go_in
  go_wp2_with fail
  go_ret
  exact⟨rfl,QqA _ _⟩
 |one x=>
  obtain⟨b,g,rfl,rfl,-⟩:=d;clear c;unfold Tree.high;unfold lfV at *;go_in
  go_wp2_with fail
  refine QoS 1 ?_;rw[QoR];go_wp2_with fail
  go_ret
  exact⟨rfl,by go_grown⟩
 |two a x y=>
  obtain⟨i,h,b,g,b2,l,rfl,rfl,h2,-⟩:=d;obtain⟨k,c1,c2,c3,c4⟩:=h2.see;clear c h2;unfold Tree.high;unfold inV lfV at *;go_in
  go_wp2_with fail
  refine QoS 2 ?_;rw[QoR];go_wp2_with fail
  rw[QoR];go_wp2_with fail
  go_ret
  exact⟨rfl,by go_grown⟩
end tr
end Go.Proofs.YtfialjmemcobjaaGreatDoor
