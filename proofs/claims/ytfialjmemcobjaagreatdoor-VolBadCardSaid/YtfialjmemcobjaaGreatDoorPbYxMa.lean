/- A part of the proof. -/
import Derived.Test.YtfialjmemcobjaaGreatDoorPbRg
import Derived.Test.YtfialjmemcobjaaGreatDoorPbYxMb
import Derived.BigRegion
import Derived.ChangeAlike
import Derived.RegionTactic
set_option maxRecDepth 100000
set_option maxHeartbeats 16000000
set_option linter.unusedVariables false
set_option linter.unusedSimpArgs false
namespace Go.Proofs.YtfialjmemcobjaaGreatDoor
namespace tr
open Go.RowKit er
theorem Qd1:(Tryz.prog.info? 255).map (λi=>(i.zero,i.size,i.bytes))=some (some (.agg #[I 0,I 0,I 0,I 0]),4,32):=J
theorem Qhs(l:List Ext)(a b:Int)(j:Nat)(e:Ext)(h:l[j]? =some e):parts (l.take (j+1)) a b=parts (l.take j) a b++(match partOf e a b with|some x=>[x]|none=>[]):=by
 have c:j<l.length:=(QqD.1 h).1;rw[QkC c,Jf];congr 1;have d:l[j]=e:=by rw[QqC c]at h;injection h
 rw[d];unfold parts;rw[List.filterMap_cons];cases partOf e a b<;>rfl
theorem Hm(l:List Ext)(v:Value)(a b:Int)(w:World)(h:ExtsAt w v l)(h1:∀e∈l,Qb e=true)(hl:l.length<=100000000)(ha:0<=a)(W:a<=16777216)(hb:0<=b)(q:b<=16777216):
  C 269 #[v,I a,I b] w λx w'=>∃v',x= .returned v'/\w'.ownsRow w.heap.size 255 4 v' (parts l a b).length (Qz (parts l a b))/\Below w w w':=by
 obtain⟨A,c,rfl,hc⟩:=h;have⟨HC,H1⟩:=Q2 hc h1;obtain⟨n,hn⟩:=Zx l.length;rw[hn]at hl;have HN:=Q7h hn;rw[hn];obtain⟨i0,X,Y,Z,aa⟩:=QzX Qd1;have⟨af,ag,ah,ai⟩:=Q4 X Y Z aa;have aj:=Q7h (λ(e:Ext) (wq:World) (he:Qb e=true)=>Qbs e a b wq he ha W hb q);clear X Y Z aa hc h1 hn ha W hb q;go_in
 go_wp2_with fail
 go_loopw [7,14] (λnv i wr=>∃(j m:Nat) (B:Option Addr) (d:Nat),j<=n/\i= I j/\nv= .slice B m d/\m<=j/\Hid ((parts (l.take j) a b).length=m)/\Hid (wr.ownsRow w.heap.size 255 4 (.slice B m d) m (Qz (parts (l.take j) a b)))/\Hid (Below w w wr)) (λ_ i _=>n-(intOf i).toNat)
 case atStart=>exact⟨0,0,none,0,QqM _,rfl,rfl,QqB _,rfl,⟨rfl,.inl ⟨rfl,rfl⟩⟩,QqA _ _⟩
 case round=>
  obtain⟨j,m,B,d,hj,rfl,rfl,au,HM,HO,V⟩:=hrel;by_cases av:j<n
  ·have aw:(j:Int)<(n:Int):=O;have ak:=HN.o;obtain⟨g,o,rfl,ab⟩:=HC.o O;obtain⟨e,hx⟩:∃e,l[j]? =some e:=⟨l[j]'O,QqC O⟩;obtain⟨c0,c1,c2,c3⟩:=(ab j e hx).below V.o;have N:=Q7h (λwq=>aj.o e wq (H1.o e (QqL hx)));have L:=Q7h (Qhs l a b j e hx);obtain⟨f,en,k,t⟩:=e;simp only[Ext.val]at N;simp only at c0 c1 c2 c3;clear ab hx ak;cases hp:partOf ⟨f,en,k,t⟩ a b with
   |none=>
    simp only[hp,QzT]at N L;have Q:Hid (Below wr wr (wr.alloc (.cells #[I f,I en,I k,I t] 255))):=B0.alloc N0 _;go_wp2_with fail
    refine(N.o _).mono ?_;rintro x w2 ⟨rfl,q⟩;have p:=Q.o.trans (q.mono Q.o.size);have⟨M,R⟩:=Q2 (V.o.trans (p.mono V.o.size)) (own_below HO.o p);clear q p hp;go_wp2_with fail
    have r:n-(intOf (I ((j:Int)+1))).toNat<n-(intOf (I (j:Int))).toNat:=by simp[intOf];omega
    refine⟨⟨j+1,m,B,d,?_,?_,rfl,?_,?_,?_,?_⟩,r⟩
    ·omega
    ·go_num
    ·omega
    ·rw[L.o];with_reducible exact HM
    ·rw[L.o];exact R.o.alloc _
    ·exact M.o.alloc M.o.size _
   |some y=>
    obtain⟨s,z,F,H⟩:=y;simp only[hp,Ext.val]at N L;have Q:Hid (Below wr wr (wr.alloc (.cells #[I f,I en,I k,I t] 255))):=B0.alloc N0 _;go_wp2_with fail
    refine(N.o _).mono ?_;rintro x w2 ⟨rfl,q⟩;have p:=Q.o.trans (q.mono Q.o.size);have⟨M,R,al⟩:=Q3 (V.o.trans (p.mono V.o.size)) (own_below HO.o p) (Whole.new w2 255 #[I s,I z,I F,I H]);have⟨am,ac⟩:=Q2 ((R.o.alloc (.cells #[I s,I z,I F,I H] 255)).alloc (.cells #[I s,I z,I F,I H] 255)) (M.o.alloc M.o.size (.cells #[I s,I z,I F,I H] 255));have an:Hid (∀(j':Nat) (u:Value),([I s,I z,I F,I H]:List Value)[j']? =some u->((w2.alloc (.cells #[I s,I z,I F,I H] 255)).alloc (.cells #[I s,I z,I F,I H] 255)).cell? (((w2.heap.size+1,0):Addr).add j')=some u):=World.news_of_block (by simpa using QzY (w2.alloc (.cells #[I s,I z,I F,I H] 255)) (.cells #[I s,I z,I F,I H] 255));have S:∀u∈([I s,I z,I F,I H]:List Value),u.oneCell'=true:=by simp[Value.oneCell']
    have ad:=Q7h S;have ao:Hid (w.heap.size<=((w2.alloc (.cells #[I s,I z,I F,I H] 255)).alloc (.cells #[I s,I z,I F,I H] 255)).heap.size):=by show _<=_;have:=M.o.size;simp only[QqW];omega
    obtain⟨⟨p0,p1,p2,p3⟩,_⟩:=K7 al.o;have ax:m<=100000000:=O;clear q p hp S;go_wp2_with (at_builtin;go_must (refine QkW _ rfl (.tmp 26) (.tmp 28) 261 rfl w.heap.size 255 i0 _ 4 32 Tryz.underlying261 af.o ag.o ah.o ai.o rfl O (.slice B m d) m (Qz (parts (l.take j) a b)) rfl am.o (w2.heap.size+1,0) 1 1 [I s,I z,I F,I H] rfl rfl an.o ad.o (by simp only[maxLen];omega) O ao.o ?_;intro v2 w5 K ae _;have⟨ap,aq⟩:=Q2 K (ac.o.trans (Qy (R.o.alloc (.cells #[I s,I z,I F,I H] 255)) ae ac.o.size));obtain⟨A2,c2,e2⟩:=Qk K;subst e2;clear K ae))
    have r:n-(intOf (I ((j:Int)+1))).toNat<n-(intOf (I (j:Int))).toNat:=by simp[intOf];omega
    have ar:Hid (Qz (parts (l.take (j+1)) a b)=Qz (parts (l.take j) a b)++[I s,I z,I F,I H]):=by
     show _=_;rw[L.o,Uh]
    refine⟨⟨j+1,m+1,A2,c2,?_,?_,rfl,?_,?_,?_,?_⟩,r⟩
    ·omega
    ·go_num
    ·omega
    ·rw[L.o,QqK,HM.o];rfl
    ·rw[ar.o];with_reducible exact ap
    ·with_reducible exact aq
  ·obtain rfl:j=n:=O;go_wp2_with fail
   go_ret
   have T:l.take j=l:=by rw[<-HN.o];exact QzU
   rw[T]at HO HM;exact⟨_,rfl,by rw[HM.o];exact HO.o,V.o⟩
theorem Qor(l:List Ext)(j:Nat)(e:Ext)(h:l[j]? =some e):tidy (l.take (j+1))=push (tidy (l.take j)) e:=by
 have a:j<l.length:=(QqD.1 h).1;have b:l[j]=e:=by rw[QqC a]at h;injection h
 rw[QkC a,b];unfold tidy;rw[List.foldl_append];rfl
theorem Qgb:∀(l out:List Ext),(∀x∈out,Qb x=true)->(∀x∈l,Qb x=true)->∀x∈l.foldl push out,Qb x=true
 |[],_,h,_=>h
 |e::l,out,h,h2=>Qgb l _ (Qvl h (h2 e U)) (λx a=>h2 x (by simp[a]))
theorem Qzu(o:List Ext)(a:Ext)(n:Int):(Qz (o++[a])).set (o.length*4+1) (I n)=Qz (o++[{a with n:=n}]):=by
 have h:=Zy o;rw[Uh,Uh,List.set_append_right _ _ O,show o.length*4+1-(Qz o).length=1 by omega];rfl
theorem Qyf(l:List Ext)(v:Value)(w:World)(h:ExtsAt w v l)(h1:∀e∈l,Qb e=true)(hl:l.length<=100000000):
  C 267 #[v] w λx w'=>∃v',x= .returned v'/\w'.ownsRow w.heap.size 255 4 v' (tidy l).length (Qz (tidy l))/\Below w w w':=by
 obtain⟨A,c,rfl,hc⟩:=h;have⟨HC,H1⟩:=Q2 hc h1;obtain⟨n,hn⟩:=Zx l.length;rw[hn]at hl;have HN:=Q7h hn;rw[hn];obtain⟨i0,ak,al,am,an⟩:=QzX Qd1;have⟨ao,ap,aq,ar⟩:=Q4 ak al am an;have aa:=Q7h (λ(a b:Ext) (N:World) (ha:Qb a=true)=>Qa8 a b N ha);have aM:=Q7h (λj=>Qgb (l.take j) [] U (λx hx=>h1 x (QjF hx)));clear ak al am an hc h1 hn;go_in
 go_wp2_with fail
 go_loopw [3,9] (λnv i wr=>∃(j m:Nat) (B:Option Addr) (d:Nat),j<=n/\i= I j/\nv= .slice B m d/\m<=j/\Hid ((tidy (l.take j)).length=m)/\Hid (wr.ownsRow w.heap.size 255 4 (.slice B m d) m (Qz (tidy (l.take j))))/\Hid (Below w w wr)) (λ_ i _=>n-(intOf i).toNat)
 case atStart=>exact⟨0,0,none,0,QqM _,rfl,rfl,QqB _,rfl,⟨rfl,.inl ⟨rfl,rfl⟩⟩,QqA _ _⟩
 case round=>
  obtain⟨j,m,B,d,hj,rfl,rfl,aX,HM,HO,HB⟩:=hrel;by_cases aY:j<n
  ·have aZ:(j:Int)<(n:Int):=O;have aN:=HN.o;obtain⟨g,o,rfl,au⟩:=HC.o O;obtain⟨e,hx⟩:∃e,l[j]? =some e:=⟨l[j]'O,QqC O⟩;obtain⟨c0,c1,c2,c3⟩:=(au j e hx).below HB.o;have⟨aQ,ab,aR⟩:=Q3 (H1.o e (QqL hx)) (Qor l j e hx) (aM.o j);obtain⟨f,r,k,t⟩:=e;simp only at c0 c1 c2 c3;clear au hx aN;have L:Hid (Below wr wr (wr.alloc (.cells #[I f,I r,I k,I t] 255))):=B0.alloc N0 _;have Q:=Q7h (Whole.new wr 255 #[I f,I r,I k,I t]);have av:(wr.alloc (.cells #[I f,I r,I k,I t] 255)).heap.size=wr.heap.size+1:=U;have aA:=Q7h av;clear av;rcases List.eq_nil_or_concat (tidy (l.take j))with W|⟨o',a,W⟩
   ·obtain rfl:m=0:=by rw[<-HM.o,W];rfl
    have H:Hid (Qz (tidy (l.take (j+1)))=Qz (tidy (l.take j))++[I f,I r,I k,I t]/\(tidy (l.take (j+1))).length=(tidy (l.take j)).length+1):=by
     show _/\_;rw[ab.o,W];exact⟨rfl,rfl⟩
    clear W;have aB:decide ((0:Int)<=-1)=false:=D;obtain⟨y0,y1,y2,y3⟩:_/\_/\_/\_:=(K7 Q.o).1;go_wp2_with fail
    go_quiet (fail)
    generalize ac:World.drewN _ _=N;have aw:Hid (Below wr wr N):=by show Below _ _ _;rw[<-ac];exact below_drewN L.o _
    have F:Hid (Below w w N):=HB.o.trans (aw.o.mono HB.o.size);have M:Hid (N.ownsRow w.heap.size 255 4 (.slice B 0 d) 0 (Qz (tidy (l.take j)))):=own_below HO.o aw.o;have ax:Whole N wr.heap.size 255 #[I f,I r,I k,I t]:=by rw[<-ac];exact Q.o
    clear ac y0 y1 y2 y3;obtain⟨y0,y1,y2,y3⟩:_/\_/\_/\_:=(K7 ax).1;clear ax;have ad:=Q7h (M.o.alloc (.cells #[I f,I r,I k,I t] 255));have ae:Hid (∀(j':Nat) (u:Value),([I f,I r,I k,I t]:List Value)[j']? =some u->((N).alloc (.cells #[I f,I r,I k,I t] 255)).cell? ((((N).heap.size,0):Addr).add j')=some u):=World.news_of_block (by simpa using QzY (N) (.cells #[I f,I r,I k,I t] 255));have q:∀u∈([I f,I r,I k,I t]:List Value),u.oneCell'=true:=by simp[Value.oneCell']
    have R:=Q7h q;have S:Hid (w.heap.size<=((N).alloc (.cells #[I f,I r,I k,I t] 255)).heap.size):=by show _<=_;have:=F.o.size;simp only[QqW];omega
    clear q;go_wp2_with (at_builtin;go_must (refine QkW _ rfl (.tmp 36) (.tmp 38) 261 rfl w.heap.size 255 i0 _ 4 32 Tryz.underlying261 ao.o ap.o aq.o ar.o rfl O (.slice B 0 d) 0 (Qz (tidy (l.take j))) rfl ad.o ((N).heap.size,0) 1 1 [I f,I r,I k,I t] rfl rfl ae.o R.o (by simp only[maxLen];omega) O S.o ?_;intro v2 w6 s T _;have⟨af,ag⟩:=Q2 s (Qy M.o T F.o.size);obtain⟨A2,c2,e2⟩:=Qk s;subst e2;clear s T))
    have y:n-(intOf (I ((j:Int)+1))).toNat<n-(intOf (I (j:Int))).toNat:=by simp[intOf];omega
    refine⟨⟨j+1,0+1,A2,c2,?_,?_,rfl,?_,?_,?_,?_⟩,y⟩
    ·omega
    ·go_num
    ·omega
    ·show _=_;rw[H.o.2,HM.o]
    ·rw[H.o.1];with_reducible exact af
    ·exact F.o.trans ag.o
   ·rw[List.concat_eq_append]at W;obtain⟨z,X⟩:=Zx o'.length;obtain rfl:m=z+1:=by rw[<-HM.o,W,<-X];simp
    have⟨HT,aS⟩:=Q2 W X;have ay:=HO.o;obtain⟨K,rfl,az,a0,a4,V,a5⟩:=Qx ay O;have aF:(o'++[a])[z]? =some a:=by rw[<-X];simp
    obtain⟨x0,x1,x2,x3⟩:=Jo _ _ _ aF
    rw[<-W]at x0 x1 x2 x3;have y0:=V _ _ x0;have y1:=V _ _ x1;have y2:=V _ _ x2;have y3:=V _ _ x3;have ah:Qb a=true:=aR.o a (by show a∈tidy (l.take j);rw[W];simp);have aH:=Q7h ah;have aK:=Q7h (λN=>aa.o a ⟨f,r,k,t⟩ N ah);obtain⟨f',n',k',t'⟩:=a;simp only[Ext.val]at aK;simp only at y0 y1 y2 y3;have a6:K≠wr.heap.size:=O;have ai:Hid (∀w',Below (wr.heap.size+1) (wr.alloc (.cells #[I f,I r,I k,I t] 255)) w'->(w'.cell? (K,z*4)=some (I f')/\w'.cell? (K,z*4+1)=some (I n')/\w'.cell? (K,z*4+2)=some (I k')/\w'.cell? (K,z*4+3)=some (I t'))/\(w'.cell? (wr,0)=some (I f)/\w'.cell? (wr,1)=some (I r)/\w'.cell? (wr,2)=some (I k)/\w'.cell? (wr,3)=some (I t))):=λw' hb=>⟨⟨(hb.cell (by show K<_;omega)).trans (Qq L.o y0),(hb.cell (by show K<_;omega)).trans (Qq L.o y1),(hb.cell (by show K<_;omega)).trans (Qq L.o y2),(hb.cell (by show K<_;omega)).trans (Qq L.o y3)⟩,⟨(hb.cell (by show wr.heap.size<_;omega)).trans (Q.o.cell 0),(hb.cell (by show wr.heap.size<_;omega)).trans (Q.o.cell 1),(hb.cell (by show wr.heap.size<_;omega)).trans (Q.o.cell 2),(hb.cell (by show wr.heap.size<_;omega)).trans (Q.o.cell 3)⟩⟩;have SA:=Q7h (ai.o _ B0);have aV:(0:Int)<=(z:Int):=O;have aW:(z:Int)<(z:Int)+1:=O;clear W X ay V aF x0 x1 x2 x3 ah;go_wp2_with fail
    go_region_held3 (λw'=>(w'.cell? (K,z*4)=some (I f')/\w'.cell? (K,z*4+1)=some (I n')/\w'.cell? (K,z*4+2)=some (I k')/\w'.cell? (K,z*4+3)=some (I t'))/\(w'.cell? (wr,0)=some (I f)/\w'.cell? (wr,1)=some (I r)/\w'.cell? (wr,2)=some (I k)/\w'.cell? (wr,3)=some (I t))) (first|with_reducible exact SA.o|exact ai.o _ (by repeat(first|with_reducible exact Y.o|with_reducible exact QqA _ _|refine QqZ ?_))) ((go_at_call 249;refine(aK.o _).mono ?_;rintro e Z ⟨rfl,aL⟩;have Y:Hid (Below (wr.heap.size+1) (wr.alloc (.cells #[I f,I r,I k,I t] 255)) Z):=QxB (QqZ B0) (aL.mono U);clear aL))
    have F:Hid (Below w w Z):=HB.o.trans (L.o.trans (Y.o.mono O) |>.mono HB.o.size);have M:Hid (Z.ownsRow w.heap.size 255 4 (.slice (some (K,0)) (z+1) d) (z+1) (Qz (tidy (l.take j)))):=own_below HO.o (L.o.trans (Y.o.mono O));obtain⟨⟨p0,p1,p2,p3⟩,⟨q0,q1,q2,q3⟩⟩:=ai.o _ Y.o;have a7:Z.frozen? (K,z*4+1)=false:=M.o.frozenAt _;clear y0 y1 y2 y3;cases htg:tog ⟨f',n',k',t'⟩ ⟨f,r,k,t⟩
    ·have aT:aa=aa:=rfl;clear aT;have H:Hid (Qz (tidy (l.take (j+1)))=Qz (tidy (l.take j))++[I f,I r,I k,I t]/\(tidy (l.take (j+1))).length=(tidy (l.take j)).length+1):=by
      show _/\_;rw[ab.o,HT.o,Gm,htg,QqE U,Uh];exact⟨rfl,U⟩
     clear htg;have⟨ad,a8⟩:=Q2 (M.o.alloc (.cells #[I f,I r,I k,I t] 255)) (F.o.alloc F.o.size (.cells #[I f,I r,I k,I t] 255));have ae:Hid (∀(j':Nat) (u:Value),([I f,I r,I k,I t]:List Value)[j']? =some u->((Z).alloc (.cells #[I f,I r,I k,I t] 255)).cell? ((((Z).heap.size,0):Addr).add j')=some u):=World.news_of_block (by simpa using QzY (Z) (.cells #[I f,I r,I k,I t] 255));have q:∀u∈([I f,I r,I k,I t]:List Value),u.oneCell'=true:=by simp[Value.oneCell']
     have R:=Q7h q;have S:Hid (w.heap.size<=((Z).alloc (.cells #[I f,I r,I k,I t] 255)).heap.size):=by show _<=_;have:=F.o.size;simp only[QqW];omega
     clear q;go_wp2_with (at_builtin;go_must (refine QkW _ rfl (.tmp 36) (.tmp 38) 261 rfl w.heap.size 255 i0 _ 4 32 Tryz.underlying261 ao.o ap.o aq.o ar.o rfl O (.slice (some (K,0)) (z+1) d) (z+1) (Qz (tidy (l.take j))) rfl ad.o ((Z).heap.size,0) 1 1 [I f,I r,I k,I t] rfl rfl ae.o R.o (by simp only[maxLen];omega) O S.o ?_;intro v2 w6 s T _;have⟨af,ag⟩:=Q2 s (Qy M.o T F.o.size);obtain⟨A2,c2,e2⟩:=Qk s;subst e2;clear s T))
     have y:n-(intOf (I ((j:Int)+1))).toNat<n-(intOf (I (j:Int))).toNat:=by simp[intOf];omega
     refine⟨⟨j+1,z+1+1,A2,c2,?_,?_,rfl,?_,?_,?_,?_⟩,y⟩
     ·omega
     ·go_num
     ·omega
     ·show _=_;rw[H.o.2,HM.o]
     ·rw[H.o.1];with_reducible exact af
     ·exact F.o.trans ag.o
    ·have q:=Qg (Qqi aH.o aQ.o htg);have hw:wrap64 (n'+r)=n'+r:=by have:=q.1;have:=q.2.1;have:=q.2.2.1;have:=(Qg aH.o).1;simp only at *;unfold wrap64;omega
     clear q;have H:Hid (Qz (tidy (l.take (j+1)))=(Qz (tidy (l.take j))).set (z*4+1) (I (n'+r))/\(tidy (l.take (j+1))).length=(tidy (l.take j)).length):=by
      show _/\_;rw[ab.o,HT.o,Gm,htg,QqH rfl,<-aS.o,Qzu];exact⟨rfl,U⟩
     clear htg;go_wp2_with fail
     go_region
     go_wp2_with fail
     have y:n-(intOf (I ((j:Int)+1))).toNat<n-(intOf (I (j:Int))).toNat:=by simp[intOf];omega
     refine⟨⟨j+1,z+1,_,d,?_,?_,rfl,?_,?_,?_,?_⟩,y⟩
     ·omega
     ·go_num
     ·omega
     ·show _=_;rw[H.o.2,HM.o]
     ·rw[H.o.1];exact(M.o.stored (z*4+1) (I (n'+r))).1.drew
     ·exact(F.o.setCell (p:=(K,z*4+1)) az _).drew
  ·obtain rfl:j=n:=O;go_wp2_with fail
   go_ret
   have aj:l.take j=l:=by rw[<-HN.o];exact QzU
   rw[aj]at HO HM;exact⟨_,rfl,by rw[HM.o];exact HO.o,HB.o⟩
theorem Qpd:∀(p r:List Ext),Xp (p++r)=true->Xp p=true
 |[],r,_=>rfl
 |[a],[],h=>h
 |[a],b::r,h=>by
  simp only[QjW,QjL,Xp,QzC]at h;exact h.1.1.1
 |a::b::p,r,h=>by
  simp only[QjW,Xp,QzC]at h ⊢;exact⟨h.1,Qpd (b::p) r h.2⟩
theorem Qfo(a e:Ext):∀(p:List Ext),Xp (p++[a]++[e])=(Xp (p++[a])&&decide (a.end_<=e.fr)&&!tog a e&&Qb e)
 |[]=>by
  show(Qb a&&decide (a.end_<=e.fr)&&!tog a e&&Qb e)=_;rfl
 |[x]=>by
  show(Qb x&&decide (x.end_<=a.fr)&&!tog x a&&(Qb a&&decide (a.end_<=e.fr)&&!tog a e&&Qb e))=(Qb x&&decide (x.end_<=a.fr)&&!tog x a&&Qb a&&decide (a.end_<=e.fr)&&!tog a e&&Qb e);simp only[Bool.and_assoc]
 |x::y::p=>by
  have b:=Qfo a e (y::p);show(Qb x&&decide (x.end_<=y.fr)&&!tog x y&&Xp (y::p++[a]++[e]))=(Qb x&&decide (x.end_<=y.fr)&&!tog x y&&Xp (y::p++[a])&&decide (a.end_<=e.fr)&&!tog a e&&Qb e);rw[b];simp only[Bool.and_assoc]
theorem Qle{l:List Ext}{j:Nat}(h:Xp (l.take j)=false):Xp l=false:=by
 cases hc:Xp l
 ·rfl
 ·have:=Qpd (l.take j) (l.drop j) (by rw[QkB];exact hc);rw[h]at this;exact this.symm
theorem Qt5(l:List Ext)(e:Ext)(h:l[0]? =some e):l.take 1=[e]:=by
 cases l with
 |nil=>simp at h
 |cons a r=>simp at h;rw[h];rfl
theorem Qt3(l:List Ext)(j:Nat)(a e:Ext)(h1:l[j]? =some a)(h2:l[j+1]? =some e):l.take (j+1)=l.take j++[a]/\l.take (j+1+1)=l.take j++[a]++[e]:=by
 obtain⟨c,d⟩:=QqD.1 h1;obtain⟨f,g⟩:=QqD.1 h2;have b:l.take (j+1)=l.take j++[a]:=by rw[QkC c,d]
 refine⟨b,?_⟩;rw[QkC f,g,b]
theorem Qjm{l:List Ext}{j:Nat}{a:Ext}(h:Xp (l.take (j+1))=true)(ha:l[j]? =some a):Qb a=true:=by
 have b:=Og _ h;refine b.one a ?_;obtain⟨c,d⟩:=QqD.1 ha;rw[QkC c,d];simp
theorem Y0(l:List Ext)(v:Value)(w:World)(h:ExtsAt w v l)(hl:l.length<=100000000):
  C 197 #[v] w λx w'=>x= .returned (.bool (Xp l))/\Below w w w':=by
 obtain⟨A,c,rfl,hc⟩:=h;have HC:=Q7h hc;obtain⟨n,hn⟩:=Zx l.length;rw[hn]at hl;have HN:=Q7h hn;rw[hn];have aj:=Q7h (λ(a b:Ext) (F:World) (ha:Qb a=true)=>Qa8 a b F ha);have ak:=Q7h (λ(a:Ext) (F:World)=>Sj a F);have al:=Q7h (λ(a:Ext) (F:World) (ha:Qb a=true)=>Qzo a F ha);clear hc hn;go_in
 go_wp2_with fail
 go_loopw [7] (λi wr=>∃(j:Nat),j<=n/\i= I j/\Hid (Xp (l.take j)=true)/\Hid (Below w w wr)) (λi _=>n-(intOf i).toNat)
 case atStart=>exact⟨0,QqM _,rfl,rfl,QqA _ _⟩
 case round=>
  obtain⟨j,hj,rfl,HM,HB⟩:=hrel;by_cases aq:j<n
  ·have ar:(j:Int)<(n:Int):=O;have X:=HN.o;obtain⟨g,o,rfl,Y⟩:=HC.o O;have am:=Q7h Y;obtain⟨e,hx⟩:∃e,l[j]? =some e:=⟨l[j]'O,QqC O⟩;obtain⟨c0,c1,c2,c3⟩:=(Y j e hx).below HB.o;have HX:=Q7h hx;obtain⟨f,r,k,t⟩:=e;simp only at c0 c1 c2 c3;clear Y hx;have H:Hid (Below wr.heap.size wr (wr.alloc (.cells #[I f,I r,I k,I t] 255))):=(QqA _ _).alloc (QqB _) _;have R:=Q7h (Whole.new wr 255 #[I f,I r,I k,I t]);have L:Hid (∀w',Below (wr.heap.size+1) (wr.alloc (.cells #[I f,I r,I k,I t] 255)) w'->(w'.cell? (wr,0)=some (I f)/\w'.cell? (wr,1)=some (I r)/\w'.cell? (wr,2)=some (I k)/\w'.cell? (wr,3)=some (I t))):=λw' hb=>⟨(hb.cell (by show wr.heap.size<_;omega)).trans (R.o.cell 0),(hb.cell (by show wr.heap.size<_;omega)).trans (R.o.cell 1),(hb.cell (by show wr.heap.size<_;omega)).trans (R.o.cell 2),(hb.cell (by show wr.heap.size<_;omega)).trans (R.o.cell 3)⟩;have M:=Q7h (λF=>ak.o ⟨f,r,k,t⟩ F);simp only[Ext.val]at M;have u:Hid (∀w',Below (wr.heap.size+1) (wr.alloc (.cells #[I f,I r,I k,I t] 255)) w'->Below w w w'):=λw' hb=>HB.o.trans ((H.o.trans (hb.mono O)).mono HB.o.size);have N:n-(intOf (I ((j:Int)+1))).toNat<n-(intOf (I (j:Int))).toNat:=by simp[intOf];omega
   have ac:=Q7h N;clear N X;cases ht:Qb ⟨f,r,k,t⟩
   ·have Z:=Q7h ht;have HF:Hid (Xp l=false):=by
     show _=_;refine Qle (j:=j+1) ?_;cases hc:Xp (l.take (j+1))
     ·rfl
     ·rw[Qjm hc HX.o]at ht;exact ht
    clear ht;go_wp2_with fail
    refine rg.rgB (λw'=>(w'.cell? (wr,0)=some (I f)/\w'.cell? (wr,1)=some (I r)/\w'.cell? (wr,2)=some (I k)/\w'.cell? (wr,3)=some (I t))) (L.o _ (QqZ B0)) (λd=>?_);iterate 1 refine rg.Ta ?_
    refine rg.rgC (λK s=>?_);rw[QqH (by rfl)];go_simp
    go_at_call 223;refine(M.o _).mono ?_;rw[Z.o];rintro e B ⟨rfl,q⟩;have p:Hid (Below (wr.heap.size+1) (wr.alloc (.cells #[I f,I r,I k,I t] 255)) B):=QxB (QqZ (QqA _ _)) (q.mono U);clear q
    refine s.out _ _ (L.out _ p.out) (λd=>?_);clear s K;try simp only[Go.Act.put,rg.qa,rg.qb,rg.qc]
    iterate 2 refine rg.Ta ?_
    iterate 22 refine rg.Sa ?_
    iterate 1 refine rg.Ta ?_
    refine rg.rgD ?_;go_wp2_with fail
    go_ret
    exact⟨by rw[HF.o];rfl,u.o _ p.o⟩
   ·have Z:=Q7h ht;clear ht;rcases QyJ j with ad|ad
    ·subst ad;simp only[Nat.zero_mul,Nat.add_zero]at c0 c1 c2 c3;have an:Hid (Xp (l.take (0+1))=true):=by show _=_;rw[show 0+1=1 from rfl,Qt5 l _ HX.o];exact Z.o
     go_wp2_with fail
     refine rg.rgB (λw'=>(w'.cell? (wr,0)=some (I f)/\w'.cell? (wr,1)=some (I r)/\w'.cell? (wr,2)=some (I k)/\w'.cell? (wr,3)=some (I t))) (L.o _ (QqZ B0)) (λd=>?_);iterate 1 refine rg.Ta ?_
     refine rg.rgC (λK s=>?_);rw[QqH (by rfl)];go_simp
     go_at_call 223;refine(M.o _).mono ?_;rw[Z.o];rintro e B ⟨rfl,q⟩;have p:Hid (Below (wr.heap.size+1) (wr.alloc (.cells #[I f,I r,I k,I t] 255)) B):=QxB (QqZ (QqA _ _)) (q.mono U);clear q
     refine s.out _ _ (L.out _ p.out) (λd=>?_);clear s K;try simp only[Go.Act.put,rg.qa,rg.qb,rg.qc]
     iterate 5 refine rg.Ta ?_
     iterate 18 refine rg.Sa ?_
     iterate 2 refine rg.Ta ?_
     refine rg.rgD ?_;go_wp2_with fail
     refine⟨⟨0+1,?_,?_,?_,?_⟩,ac.o⟩
     ·omega
     ·first|rfl|go_num
     ·with_reducible exact an
     ·exact u.o _ p.o
    ·obtain⟨m,rfl⟩:∃m,j=m+1:=⟨j-1,O⟩;have X:=HN.o;obtain⟨a,ha⟩:∃a,l[m]? =some a:=⟨l[m]'O,QqC O⟩;obtain⟨y0,y1,y2,y3⟩:=(am.o m a ha).below HB.o;have⟨ae,af⟩:=Q2 (Qjm HM.o ha) (Qt3 l m a _ ha HX.o);have S:=Q7h (λF=>al.o a F ae.o);have ag:=Q7h (λF=>aj.o a ⟨f,r,k,t⟩ F ae.o);have T:Hid (Xp (l.take (m+1+1))=(decide (a.end_<=f)&&!tog a ⟨f,r,k,t⟩)):=by
      show _=_;have h1:=HM.o;rw[af.out.1]at h1;rw[af.out.2,Qfo,h1,Z.out];simp
     have au:g<wr.heap.size:=QjA _ _ y0;obtain⟨f',n',k',t'⟩:=a;simp only[Ext.val]at S ag;simp only at y0 y1 y2 y3;have y:Hid (∀w',Below (wr.heap.size+1) (wr.alloc (.cells #[I f,I r,I k,I t] 255)) w'->(w'.cell? ⟨g,o+m*4,none⟩=some (I f')/\w'.cell? ⟨g,o+m*4+1,none⟩=some (I n')/\w'.cell? ⟨g,o+m*4+2,none⟩=some (I k')/\w'.cell? ⟨g,o+m*4+3,none⟩=some (I t'))/\(w'.cell? ⟨wr.heap.size,0,none⟩=some (I f)/\w'.cell? ⟨wr.heap.size,1,none⟩=some (I r)/\w'.cell? ⟨wr.heap.size,2,none⟩=some (I k)/\w'.cell? ⟨wr.heap.size,3,none⟩=some (I t))):=λw' hb=>⟨⟨(hb.cell (by show g<_;omega)).trans (Qq H.out y0),(hb.cell (by show g<_;omega)).trans (Qq H.out y1),(hb.cell (by show g<_;omega)).trans (Qq H.out y2),(hb.cell (by show g<_;omega)).trans (Qq H.out y3)⟩,L.out w' hb⟩;have av:IntKind.i64.wrap ((m:Int)+1-1)=(m:Int):=by rw[QqN];omega
     have ap:IntKind.i64.wrap (m:Int)=(m:Int):=by rw[QqN];omega
     have aw:(0:Int)<=(m:Int):=O;have ax:(m:Int)<(n:Int):=O;obtain⟨V,W⟩:=Zx (Ext.end_ ⟨f',n',k',t'⟩);simp only[W]at S T;clear ha W X;by_cases ah:f<V
     ·have hd:decide (f<V)=true:=by simpa using ah
      have HF:Hid (Xp l=false):=by show _=_;refine Qle (j:=m+1+1) ?_;rw[T.o];have:decide (V<=f)=false:=by {simp;omega};rw[this];rfl
      go_wp2_with fail
      refine rg.rgE (λw'=>(w'.cell? (g,o+m*4)=some (I f')/\w'.cell? (g,o+m*4+1)=some (I n')/\w'.cell? (g,o+m*4+2)=some (I k')/\w'.cell? (g,o+m*4+3)=some (I t'))/\(w'.cell? (wr,0)=some (I f)/\w'.cell? (wr,1)=some (I r)/\w'.cell? (wr,2)=some (I k)/\w'.cell? (wr,3)=some (I t))) (y.o _ (QqZ B0)) (λd=>?_);refine rg.Ua 0 ?_;refine rg.Wa 1 ?_;intro K s;go_at_call 223;refine(M.o _).mono ?_;rw[Z.o];rintro e B ⟨rfl,q⟩;have p:Hid (Below (wr.heap.size+1) (wr.alloc (.cells #[I f,I r,I k,I t] 255)) B):=QxB (QqZ (QqA _ _)) (q.mono U);clear q
      refine s.out _ _ (y.out _ p.out) (λd=>?_);clear s K;try simp only[Go.Act.put,rg.qa,rg.qb,rg.qc]
      refine rg.Ua 2 ?_;refine rg.Ua 3 ?_;refine rg.Ua 4 ?_;refine rg.Ua 5 ?_;refine rg.Ua 6 ?_;refine rg.Ua 7 ?_;refine rg.Ua 8 ?_;refine rg.Ua 9 ?_;refine rg.Ua 10 ?_;refine rg.Ua 11 ?_;refine rg.Ua 13 ?_;refine rg.Ua 14 ?_;refine rg.Wa 12 ?_;intro K s;go_at_call 248;refine(S.o _).mono ?_;rintro e w6 ⟨rfl,Q⟩;have z:=Q7h (p.o.trans (Q.mono (by have:=p.o.size;simp at this;omega)));clear Q
      refine s.out _ _ (y.out _ z.out) (λd=>?_);clear s K;try simp only[Go.Act.put,rg.qa,rg.qb,rg.qc]
      refine rg.Ua 15 ?_;refine rg.Ua 16 ?_;refine rg.Va 17 ?_;refine rg.Va 18 ?_;refine rg.Va 19 ?_;refine rg.Va 20 ?_;refine rg.Va 21 ?_;refine rg.Va 22 ?_;refine rg.Va 23 ?_;refine rg.Ua 24 ?_;refine rg.Ua 25 ?_;refine rg.Ua 26 ?_;refine rg.rgF ?_;go_wp2_with fail
      go_ret
      exact⟨by rw[HF.o];rfl,u.o _ z.o⟩
     ·have hd:decide (f<V)=false:=by simpa using ah
      go_wp2_with fail
      refine rg.rgE (λw'=>(w'.cell? (g,o+m*4)=some (I f')/\w'.cell? (g,o+m*4+1)=some (I n')/\w'.cell? (g,o+m*4+2)=some (I k')/\w'.cell? (g,o+m*4+3)=some (I t'))/\(w'.cell? (wr,0)=some (I f)/\w'.cell? (wr,1)=some (I r)/\w'.cell? (wr,2)=some (I k)/\w'.cell? (wr,3)=some (I t))) (y.o _ (QqZ B0)) (λd=>?_);refine rg.Ua 0 ?_;refine rg.Wa 1 ?_;intro K s;go_at_call 223;refine(M.o _).mono ?_;rw[Z.o];rintro e B ⟨rfl,q⟩;have p:Hid (Below (wr.heap.size+1) (wr.alloc (.cells #[I f,I r,I k,I t] 255)) B):=QxB (QqZ (QqA _ _)) (q.mono U);clear q
      refine s.out _ _ (y.out _ p.out) (λd=>?_);clear s K;try simp only[Go.Act.put,rg.qa,rg.qb,rg.qc]
      refine rg.Ua 2 ?_;refine rg.Ua 3 ?_;refine rg.Ua 4 ?_;refine rg.Ua 5 ?_;refine rg.Ua 6 ?_;refine rg.Ua 7 ?_;refine rg.Ua 8 ?_;refine rg.Ua 9 ?_;refine rg.Ua 10 ?_;refine rg.Ua 11 ?_;refine rg.Ua 13 ?_;refine rg.Ua 14 ?_;refine rg.Wa 12 ?_;intro K s;go_at_call 248;refine(S.o _).mono ?_;rintro e w6 ⟨rfl,Q⟩;have z:=Q7h (p.o.trans (Q.mono (by have:=p.o.size;simp at this;omega)));clear Q
      refine s.out _ _ (y.out _ z.out) (λd=>?_);clear s K;try simp only[Go.Act.put,rg.qa,rg.qb,rg.qc]
      refine rg.Ua 15 ?_;refine rg.Ua 16 ?_;refine rg.Ua 17 ?_;refine rg.Ua 18 ?_;refine rg.Ua 19 ?_;refine rg.Ua 20 ?_;refine rg.Ua 21 ?_;refine rg.Ua 22 ?_;refine rg.Wa 23 ?_;intro K s;go_at_call 249;refine(ag.o _).mono ?_;rintro e w7 ⟨rfl,ai⟩;have aa:=Q7h (z.o.trans (ai.mono (by have:=z.o.size;simp at this;omega)));clear ai
      refine s.out _ _ (y.out _ aa.out) (λd=>?_);clear s K;try simp only[Go.Act.put,rg.qa,rg.qb,rg.qc]
      refine rg.Ua 24 ?_;refine rg.Ua 25 ?_;refine rg.Ua 26 ?_;refine rg.rgF ?_;cases htg:tog ⟨f',n',k',t'⟩ ⟨f,r,k,t⟩
      ·have ao:Hid (Xp (l.take (m+1+1))=true):=by show _=_;rw[T.o,htg];simp;omega
       clear htg;go_wp2_with fail
       refine⟨⟨m+1+1,?_,?_,?_,?_⟩,ac.o⟩
       ·omega
       ·first|rfl|go_num
       ·with_reducible exact ao
       ·exact u.o _ aa.o
      ·have HF:Hid (Xp l=false):=by show _=_;refine Qle (j:=m+1+1) ?_;rw[T.o,htg];simp
       clear htg;go_wp2_with fail
       go_ret
       exact⟨by rw[HF.o];rfl,u.o _ aa.o⟩
  ·obtain rfl:j=n:=O;go_wp2_with fail
   go_ret
   have ab:l.take j=l:=by rw[<-HN.o];exact QzU
   rw[ab]at HM;exact⟨by rw[HM.o];rfl,HB.o⟩
end tr
end Go.Proofs.YtfialjmemcobjaaGreatDoor
