/- A part of the proof. -/
import Derived.Test.YtfialjmemcobjaaGreatDoorPbVmE
import Derived.Test.YtfialjmemcobjaaGreatDoorPbVoA
set_option maxRecDepth 100000
set_option maxHeartbeats 16000000
set_option linter.unusedVariables false
set_option linter.unusedSimpArgs false
namespace Go.Proofs.YtfialjmemcobjaaGreatDoor
namespace vo
open Go.RowKit Go.Maps er st tr
def Ik(T:Tree):List Int:=sorted T.nfs++Zo T.flat
def Yq(X:XL):List Int:=X.flatMap λx=>Ik x.1.tr
def Small(T:Tree):Prop:=T.flat.length<=4096/\(Ik T).length<=100000
def Ej(X:XL):Prop:=X.length<=8/\∀x∈X,Small x.1.tr
theorem Xd(l:List Int):(sorted l).length=l.length:=by unfold sorted;simp
def Ul(X:XL)(x:Int):XL:=X.filter λy=>decide (y.1.id≠x)
theorem F7(X:XL)(x:Int):Vb (Z7 X) x=Z7 (Ul X x):=by
 unfold Vb Z7 Ul;rw[QxF];rfl
theorem Qz2{y:Sp×Bl}:∀{X:XL},(Z7 X).Pairwise (λx y=>x.1<y.1)->y∈X->X.Perm (y::Ul X y.1.id)
 |[],_,h=>by simp at h
 |z::r,hp,h=>by
  obtain⟨h1,h2⟩:=QzS.1 (show List.Pairwise _ ((z.1.id,z.2.p)::Z7 r)from hp);rcases QqF.1 h with rfl|h
  ·have:Ul (y::r) y.1.id=r:=by
    show List.filter _ _=_;rw[QjH U];rw[QjD];intro a ha;have:=h1 (a.1.id,a.2.p) (QqS.2 ⟨a,ha,rfl⟩);simp only at this;simp;omega
   rw[this]
  ·have b:=h1 (y.1.id,y.2.p) (QqS.2 ⟨y,h,rfl⟩);simp only at b;have:Ul (z::r) y.1.id=z::Ul r y.1.id:=by
    show List.filter _ _=_;rw[QxN (by simp;omega)];rfl
   rw[this];exact((Qz2 h2 h).cons z).trans (List.Perm.swap _ _ _)
theorem Qih{X Y:XL}(h:X.Perm Y):(Yq X).Perm (Yq Y):=h.flatMap_right _
theorem Pb{X:XL}(h:∀x∈X,(Ik x.1.tr).length<=100000):(Yq X).length<=100000*X.length:=by
 induction X with
 |nil=>simp[Yq]
 |cons x r ih=>
  have h1:=h x U;have h2:=ih λy a=>h y (by simp[a]);show(Ik x.1.tr++Yq r).length<=_;rw[QqK,QzN];omega
theorem Qu9{w w':World}{B r:Nat}(h:Keep (λk=>k=r) w w')(a:B<=r)(b:B<=w.heap.size):Below B w w':=⟨h.os,h.tape,h.output,h.size,λi hi=>h.block i O O⟩
theorem Bv(l:List Int):∀u∈ints l,u.oneCell'=true:=λu a=>by obtain⟨x,_,rfl⟩:=QqS.1 a;rfl
theorem Oa(w:World)(v:Nat)(c:Pt)(X:XL)(V:Vo)(h:VoIn w v c X V)(hs:Ej X):
  C 86 #[(v,0)] w λx w'=>∃Z L,x= .returned Z/\L.Perm (Yq X)/\w'.ownsRow w.heap.size 3 1 Z L.length (ints L)/\Below w w w':=by
 have c2:=h.obj.cell 2;simp[Qe]at c2;have hv:v≠0:=λe=>(h.far v (by simp[Dl])).2 e;obtain⟨w1,bH,aK,aL,a8⟩:=RngAt.start h.trs Tryz.underlying113;have⟨H,a9⟩:=Q2 h aL;have ba:Hid (∀x∈X,(Ik x.1.tr).length<=100000):=λx hx=>(hs.2 x hx).2;have bb:Hid (∀Y:XL,(∀y∈Y,y∈X)->Y.length<=8->(Yq Y).length<=800000):=λY hY h8=>QqR (Pb λy hy=>ba.o y (hY y hy)) O;have ad:=Q7h hs;have bc:Hid ((Z7 X).Pairwise λx y=>x.1<y.1):=h.trs.2;obtain⟨i0,aM,aN,aQ,aR⟩:=QzX Ex;have aS:=Q7h (λ(wq:World) (v:Value) (n:Nat) (xs:List Value) (aT:wq.ownsRow (w.heap.size+1) 3 1 v n xs) (y:Value) (m:Nat) (q:List Value) (hq:SlAt wq y m 1 q) (h1:∀u∈q,u.oneCell'=true) (be:n+m<=100000000) (hb:w.heap.size+1<=wq.heap.size) (ty:TypeId)=>Cm (P:=Tryz.prog) wq (w.heap.size+1) 39 ty 3 i0 _ 1 8 Tryz.underlying39 aM aN aQ aR rfl O v n xs aT y m q hq h1 be O hb);have bf:=Q7h aK;clear h hs aL aK aM aN aQ aR;go_in
 go_wp2_with fail
 go_loopw [3,5] (λov _ wr=>∃(a:XL) (A:Option Addr) (m d:Nat) (L:List Int),ov= .slice A m d/\Hid ((∀y∈a,y∈X)/\a.length<=8/\(Z7 a).Pairwise λx y=>x.1<y.1)/\Hid (RngAt wr c.tb w.heap.size (Z7 X) (Z7 a))/\Hid (L.length=m)/\Hid ((L++Yq a).Perm (Yq X))/\Hid (wr.ownsRow (w.heap.size+1) 3 1 (.slice A m d) m (ints L))/\Hid (Below w w wr)/\Hid (w.heap.size+1<=wr.heap.size)) (λ_ _ wr=>wr.rangeLeft c.tb w.heap.size)
 case atStart=>exact⟨X,none,0,0,[],rfl,⟨λy hy=>hy,ad.o.1,bc.o⟩,bf.o,rfl,List.Perm.refl _,⟨rfl,.inl ⟨rfl,rfl⟩⟩,a9.o,QyV a8.symm⟩
 case round=>
  obtain⟨a,A,m,d,L,rfl,i,HR,HM,HP,HO,HB,HZ⟩:=hrel;rcases HR.o.next with⟨aa,hn⟩|⟨x,p,w2,ab,hx,hn,ae,af,bg,bK,aV⟩
  ·obtain rfl:a=[]:=by simpa[Z7]using aa
   have bh:=hn 0;clear hn aa;go_wp2_with fail
   go_ret
   have hp:=HP.o;simp only[Yq,QyK,QzT]at hp;refine⟨_,L,rfl,hp,?_,HB.o⟩;rw[HM.o];exact Qr HO.o O
  ·obtain⟨y,hy,ag⟩:=QqS.1 ab;have ah:=i.o.1 y hy;have ai:y.1.id=x:=congrArg Prod.fst ag;have aW:y.2.p=p:=congrArg Prod.snd ag;have r:Hid (Below w w w2):=HB.o.trans (Qu9 af N0 HB.o.size);have aj:=Q7h (Qz2 i.o.2.2 hy);have l:=aj.o.length_eq;rw[QzN]at l;rw[F7]at ae;obtain⟨ak,al,M⟩:=H.o.tre y ah;have am:=ad.o.2 y ah;have bh:=hn 0;have an:Hid ((∀z∈Ul a x,z∈X)/\(Ul a x).length<=8/\(Z7 (Ul a x)).Pairwise λx y=>x.1<y.1):=⟨λz hz=>i.o.1 z (QzZ.1 hz).1,QqR (QkE _ _) i.o.2.1,by rw[<-F7];exact i.o.2.2.filter _⟩;have ao:Hid ((L++(Ik y.1.tr++Yq (Ul a x))).Perm (Yq X)):=by
    refine List.Perm.trans (List.Perm.append_left _ ?_) HP.o;rw[<-ai];exact(Qih aj.o).symm
   have ac:=ao.o.length_eq;have b:=bb.o X (λy hy=>hy) ad.o.1;rw[<-ac]at b;simp only[QqK]at b;rw[HM.o]at b;have aX:(Ik y.1.tr).length=(sorted y.1.tr.nfs).length+(Zo y.1.tr.flat).length:=by unfold Ik;rw[QqK]
   have ap:Hid (Ik y.1.tr=sorted y.1.tr.nfs++Zo y.1.tr.flat):=rfl;rw[aX]at b;clear hn ab ag ah aj l aX ac;obtain⟨⟨id,size,used,T⟩,⟨ya,yp,F⟩⟩:=y;simp only at ai aW ak al M am b ao ap;subst ai aW;have s:∀W,Below w w W->TrAt W F yp T:=λW hb=>TrAt.keep ak (Keep.below (F:=λ_=>False) hb) (λ_ _ h=>h);have bi:Hid (∀W,Below w w W->C 163 #[(yp,0)] W (Qzn W T.nfs)):=λW hb=>Qil W F yp T (s W hb);have bj:Hid (∀W,Below w w W->C 165 #[(yp,0)] W λx w'=>∃Z,x= .returned Z/\w'.ownsRow W.heap.size 255 4 Z T.flat.length (Qz T.flat)/\Below W W w'):=λW hb=>Qzl W F yp T (s W hb) al M;have aY:Hid (∀W v B,W.ownsRow B 255 4 v T.flat.length (Qz T.flat)->C 164 #[v] W λx w'=>∃Z,x= .returned Z/\w'.ownsRow W.heap.size 3 1 Z (Zo T.flat).length ((Zo T.flat).map (Value.int .i64))/\Below W W w'):=λW v B h=>Vs T.flat v W (SlAt.exts (SlAt.own h)).1 M am.1;have aZ:=Q7h ae;have bl:Hid (w2.ownsRow (w.heap.size+1) 3 1 (.slice A m d) m (ints L)):=Qa HO.o af (λg hg e=>by have:=HO.o.lt g hg;omega);have N:Hid (w.heap.size+1<=w2.heap.size):=by show _<=_;rw[bg];exact HZ.o
   have bm:=Q7h aV;obtain⟨NF,Q⟩:=Zx (sorted T.nfs);obtain⟨EP,aq⟩:=Zx (Zo T.flat);have bn:Hid (NF.length=T.nfs.length):=by show _=_;rw[<-Q,Xd]
   rw[Q,aq]at b ap;have ar:=Q7h Q;rw[aq]at aY;clear Q aq ak al M am ae aV af;go_wp2_with fail
   clear s;with_reducible refine(bi.o _ r.o).mono ?_
   rintro e w3 ⟨A3,c3,rfl,au,R⟩;rw[<-bn.o]at au ⊢;have bo:Hid (Keep (λk=>w.heap.size+1<=k) w2 w3):=Keep.below R;have⟨aA,aB⟩:=Q2 (own_below bl.o R) (SlAt.own au);have bp:Hid (w.heap.size+1<=w3.heap.size):=QqR N.o R.size;have bq:=ar.o;obtain⟨v4,w4,t,f,a0⟩:=aS.o w3 _ _ _ aA.o _ _ _ aB.o (by rw[ar.o];exact Bv NF) O bp.o 39;rw[ar.o]at f;have av:Hid (Keep (λk=>w.heap.size+1<=k) w2 w4):=bo.o.grown a0 (λg hg=>.inl (aA.o.lt g hg).1);have aw:=Q7h t;obtain⟨A4,c4,e4⟩:=Qk f;subst e4;have br:=Q7h f;have bs:Hid (Below w w w4):=r.o.trans (av.o.toBelow r.o.size (λk hk=>O));have bL:Hid (w.heap.size+1<=w4.heap.size):=QqR N.o av.o.size;clear au R t f a0 bq;go_wp2_with (at_builtin;refine Lib.wpList_append_run _ rfl _ _ _ _ rfl _ _ rfl rfl _ _ aw.o ?_)
   with_reducible refine(bj.o _ bs.o).mono ?_
   rintro e w5 ⟨v5,rfl,ax,ay⟩;have bu:Hid (Keep (λk=>w.heap.size+1<=k) w2 w5):=av.o.transBelow ay;have⟨bv,bx⟩:=Q2 (own_below br.o ay) (aY.o w5 _ _ ax);obtain⟨A5,c5,e5⟩:=Qk ax;subst e5;clear ax ay;go_wp2_with fail
   with_reducible refine bx.o.mono ?_
   rintro e w6 ⟨v6,rfl,az,aF⟩;have a4:Hid (Keep (λk=>w.heap.size+1<=k) w2 w6):=bu.o.transBelow aF;have⟨a5,a6⟩:=Q2 (own_below bv.o aF) (SlAt.own az);have bz:Hid (w.heap.size+1<=w6.heap.size):=QqR N.o a4.o.size;obtain⟨A6,c6,e6⟩:=Qk az;subst e6;obtain⟨v7,w7,K,j,a7⟩:=aS.o w6 _ _ _ a5.o _ _ _ a6.o (Bv EP) O bz.o 39;have S:Hid (Keep (λk=>w.heap.size+1<=k) w2 w7):=a4.o.grown a7 (λg hg=>.inl (a5.o.lt g hg).1);have aH:=Q7h K;obtain⟨A7,c7,e7⟩:=Qk j;subst e7;have bF:=Q7h j;clear az aF K j a7;go_wp2_with (at_builtin;refine Lib.wpList_append_run _ rfl _ _ _ _ rfl _ _ rfl rfl _ _ aH.o ?_)
   have bM:c.tb<w.heap.size:=H.o.trs.lt;have hL:=aZ.o.left_keep S.o O O;refine⟨⟨Ul a id,A7,m+NF.length+EP.length,c7,L++NF++EP,rfl,an.o,aZ.o.keep S.o O O,?_,?_,?_,r.o.trans (S.o.toBelow r.o.size (λk hk=>O)),QqR N.o S.o.size⟩,?_⟩
   ·show _=_;simp only[QqK,HM.o]
   ·show List.Perm _ _;have:=ao.o;rw[ap.o]at this;simpa[QqU]using this
   ·show World.ownsRow _ _ _ _ _ _ _;have:=bF.o;simpa[ints]using this
   ·rw[hL];exact bm.o
theorem sorted_perm{l m:List Int}(h:l.Perm m):sorted l=sorted m:=by
 unfold sorted;refine List.Perm.eq_of_pairwise (le:=λx y=>x<=y) (λa b _ _ h1 h2=>O) ?_ ?_ ((List.mergeSort_perm _ _).trans (h.trans (List.mergeSort_perm _ _).symm));all_goals
  refine(List.pairwise_mergeSort (λa b c h1 h2=>?_) (λa b=>?_) _).imp (λh=>by simpa using h)
  ·simp at h1 h2 ⊢;omega
  ·simp;omega
def O5(r:Int):List Int:=if 0<=r then[r]else[]
def Dh(X:XL)(V:Vo):List Int:=Lib.compact (sorted (Yq X++V.last++O5 V.root))
def Gb(X:XL)(V:Vo):Prop:=Ej X/\V.last.length<=100000
theorem Cg(p:Nat)(w:World):(binOp .eql 24 (p,0) (.pointer none)).run Tryz.prog w= .ok (.bool false) w:=J
def Ia(w:World)(l:List Int)(x:Ending)(w':World):Prop:=∃A c,x= .returned (.slice A l.length c)/\w'.ownsRow w.heap.size 3 1 (.slice A l.length c) l.length (ints l)/\Below w w w'
theorem Qx7(w:World)(A B:Option Addr)(n m c d:Nat)(k l:List Int)(b1 b2:Nat)(h1:w.ownsRow b1 3 1 (.slice A n c) n (ints k))(h2:w.ownsRow b2 3 1 (.slice B m d) m (ints l))(h:n+m<=100000000):
  C 85 #[.slice (some (w,0)) 2 2] (w.alloc (.cells #[.slice A n c,.slice B m d] 39)) λe w'=>∃b,e= .returned b/\w'.ownsRow w.heap.size 3 1 b (n+m) (ints (k++l))/\Below w w w':=by
 have hb:Below w w (w.alloc (.cells #[.slice A n c,.slice B m d] 39)):=B0.alloc N0 _;have g:=Whole.new w 39 #[.slice A n c,.slice B m d];refine(Q24 [(.slice A n c,n,ints k),(.slice B m d,m,ints l)] w.heap.size 2 _ (λj y a=>?_) (by simpa using h) U U).mono ?_
 ·match j,a with
  |0,a=>
   obtain rfl:_=y:=by simpa using a
   exact⟨g.cell 0,(SlAt.own h1).below hb,Bv _⟩
  |1,a=>
   obtain rfl:_=y:=by simpa using a
   exact⟨g.cell 1,(SlAt.own h2).below hb,Bv _⟩
 ·rintro e w' ⟨b,rfl,i,f⟩;refine⟨b,rfl,Qr (by simpa[ints]using i) U,hb.trans (f.mono U)⟩
theorem Qu0(w:World)(v:Nat)(c:Pt)(X:XL)(V:Vo)(h:VoIn w v c X V)(hs:Gb X V):
  C 32 #[(v,0)] w (Ia w (Dh X V)):=by
 have aR:=Cg v;have c4:=h.obj.cell 4;have c5:=h.obj.cell 5;simp[Qe]at c4 c5;obtain⟨LA,lc,Q⟩:=Qk h.lst;rw[Q]at c5;have a:=h.lst;rw[Q]at a;have HP:Hid (∀W,Below w w W->C 86 #[(v,0)] W λx w'=>∃v' L,x= .returned v'/\L.Perm (Yq X)/\w'.ownsRow W.heap.size 3 1 v' L.length (ints L)/\Below W W w'):=λW hb=>Oa W v c X V (h.below hb) hs.1;have aq:Hid ((Yq X).length<=800000):=QqR (Pb λy hy=>(hs.1.2 y hy).2) (by have:=hs.1.1;omega);obtain⟨i0,ab,ac,ad,ae⟩:=QzX Ex;have⟨ar,au,av,aw⟩:=Q4 ab ac ad ae;obtain⟨R,H⟩:=Zx V.last;have HN:Hid (Dh X V=Lib.compact (sorted (Yq X++R++O5 V.root))):=by show _=_;rw[<-H];rfl
 rw[H]at a c5;have ax:R.length<=100000:=by rw[<-H];exact hs.2
 obtain⟨rt,af⟩:=Zx V.root;rw[af]at c4 HN;obtain⟨ln,S⟩:=Zx R.length;rw[S]at c5 a ax;have⟨ay,ag⟩:=Q2 S a;have az:Hid (∀W,Below w w W->W.cell? (v,4)=some (I rt)):=λW hb=>Qq hb c4;have K:Hid (∀W,Below w w W->W.cell? (v,5)=some (.slice LA ln lc)):=λW hb=>Qq hb c5;rw[show Ia w (Dh X V)=Ia w (Lib.compact (sorted (Yq X++R++O5 rt))) by rw[HN.o]];clear h hs Q a ab ac ad ae H af S c4 HN;go_in
 go_wp2_with fail
 go_region_held3 (λw'=>w'.cell? (v,5)=some (.slice LA ln lc)) (first|exact K.o _ n.o|exact K.o _ f.o|exact K.o _ (f.o.alloc f.o.size _)|exact K.o _ P) (first|(go_at_call 86;refine(HP.o _ P).mono ?_;rintro e w2 ⟨v2,L,rfl,g,i,ah⟩;have⟨aF,aH⟩:=Q2 g i;have f:Hid (Below w w w2):=(QxB P ah);have T:Hid (L.length<=800000):=(by show _<=_;rw[g.length_eq];exact aq.o);obtain⟨A2,c2,e2⟩:=Qk i;subst e2;clear g i ah)|(go_at_call 85;refine(Qx7 _ _ _ _ _ _ _ _ _ _ _ aH.o (own_below ag.o (f.o.mono N0)) (by have:=T.o;omega)).mono ?_;rintro e w3 ⟨v3,rfl,j,ai⟩;have Y:=Q7h (Qr j f.o.size);have n:Hid (Below w w w3):=f.o.trans (ai.mono f.o.size);obtain⟨A3,c3,e3⟩:=Qk j;subst e3;clear j ai))
 obtain⟨M,hM⟩:=Zx (L++R++O5 rt);have N:Hid (sorted (Yq X++R++O5 rt)=sorted M):=by
  show _=_;rw[<-hM];exact sorted_perm ((aF.o.symm.append_right _).append_right _)
 have aj:=Q7h hM;have aS:M.length<=1000000:=by
  have h2:=T.o;have h3:=ay.o;have h4:(O5 rt).length<=1:=by unfold O5;split<;>simp
  rw[<-hM,QqK,QqK];omega
 have aQ:=T.o;have ak:Hid (∀W A m d,W.ownsRow w.heap.size 3 1 (.slice A m d) m (ints M)->C 87 #[.slice A m d] W λe w'=>e= .returned (.tuple #[])/\w'.ownsRow w.heap.size 3 1 (.slice A m d) m (ints (sorted M))/\W.grownBy w' (Value.slice A m d).ownBlock):=λW A m d h=>by
  have hm:M.length=m:=by have:=h.1;simpa[ints]using this
  subst hm;exact Qyw M _ _ W h O
 have al:Hid (∀W A m d,W.ownsRow w.heap.size 3 1 (.slice A m d) m (ints (sorted M))->C 88 #[.slice A m d] W λe w'=>∃A' c',e= .returned (.slice A' (Lib.compact (sorted M)).length c')/\w'.ownsRow w.heap.size 3 1 (.slice A' (Lib.compact (sorted M)).length c') (Lib.compact (sorted M)).length (ints (Lib.compact (sorted M)))/\W.grownBy w' (Value.slice A m d).ownBlock):=λW A m d h=>by
  have hm:(sorted M).length=m:=by have:=h.1;simpa[ints]using this
  subst hm;exact Qj8 (sorted M) _ _ W h (by rw[Xd];omega)
 have am:=Q7h n.o.size;have v4:=az.o _ n.o;clear hM c5;by_cases hr:0<=rt
 ·have aK:=Q7h (Y.o.alloc (.cells #[I rt] 3));have aL:Hid (w.heap.size<=(w3.alloc (.cells #[I rt] 3)).heap.size):=by show _<=_;simp only[QqW];exact Nat.le_succ_of_le am.o
  have an:Hid (∀u∈([I rt]:List Value),u.oneCell'=true):=by show ∀_,_;simp[Value.oneCell']
  go_wp2_with (at_builtin;go_must (refine QkW _ rfl (.tmp 19) (.tmp 24) 39 rfl w.heap.size 3 i0 _ 1 8 Tryz.underlying39 ar.o au.o av.o aw.o rfl O (.slice A3 (L.length+ln) c3) (L.length+ln) (ints (L++R)) rfl aK.o (w3,0) 1 1 [I rt] rfl rfl (Z4 _ _ _) an.o (by simp only[maxLen];omega) O aL.o ?_;intro v2 w6 l ao _;have⟨aM,ap⟩:=Q2 l (n.o.trans (Qy Y.o ao am.o));obtain⟨A6,aN,e6⟩:=Qk l;subst e6;clear l ao))
  have p:Hid (w6.ownsRow w.heap.size 3 1 (.slice A6 (L.length+ln+1) aN) (L.length+ln+1) (ints M)):=by
   have:=aM.o;show World.ownsRow _ _ _ _ _ _ _;rw[<-aj.o];simpa[ints,O5,hr]using this
  with_reducible refine(ak.o _ _ _ _ p.o).mono ?_
  rintro e w7 ⟨rfl,q,r⟩;have s:=Q7h q;have t:=Q7h (ap.o.grown r ap.o.size (λk Z=>(p.o.lt k Z).1));clear q r;go_wp2_with fail
  with_reducible refine(al.o _ _ _ _ s.o).mono ?_
  rintro e w8 ⟨A8,c8,rfl,z,F⟩;have B:=Q7h z;have aa:=Q7h (t.o.grown F t.o.size (λk Z=>(s.o.lt k Z).1));clear z F;go_wp2_with fail
  go_ret
  have b:Ia w (Lib.compact (sorted M)) (.returned (.slice A8 (Lib.compact (sorted M)).length c8)) w8:=⟨A8,c8,rfl,B.o,aa.o⟩;rw[<-N.o]at b;rw[<-N.o];exact b
 ·have aT:rt<0:=O;have p:Hid (w3.ownsRow w.heap.size 3 1 (.slice A3 (L.length+ln) c3) (L.length+ln) (ints M)):=by
   have:=Y.o;show World.ownsRow _ _ _ _ _ _ _;rw[<-aj.o];simpa[ints,O5,hr]using this
  go_wp2_with fail
  with_reducible refine(ak.o _ _ _ _ p.o).mono ?_
  rintro e w7 ⟨rfl,q,r⟩;have s:=Q7h q;have t:=Q7h (n.o.grown r n.o.size (λk Z=>(p.o.lt k Z).1));clear q r;go_wp2_with fail
  with_reducible refine(al.o _ _ _ _ s.o).mono ?_
  rintro e w8 ⟨A8,c8,rfl,z,F⟩;have B:=Q7h z;have aa:=Q7h (t.o.grown F t.o.size (λk Z=>(s.o.lt k Z).1));clear z F;go_wp2_with fail
  go_ret
  have b:Ia w (Lib.compact (sorted M)) (.returned (.slice A8 (Lib.compact (sorted M)).length c8)) w8:=⟨A8,c8,rfl,B.o,aa.o⟩;rw[<-N.o]at b;rw[<-N.o];exact b
end vo
namespace vo
open Go.RowKit Go.Maps er st tr
section
variable {w w':World} {v:Nat} {c:Pt} {X:XL} {V V':Vo}
theorem VoIn.setV(h:VoIn w v c X V)(a:Keep (λk=>k=v) w w')(p:Whole w' v 115 (Qe c V'))(i:V'.s=V.s)(j:V'.cap=V.cap)(m:V'.l=V.l)(n:V'.last=V.last):VoIn w' v c X V':=by
 have q:=h.nd;have d:∀k∈c.lb::c.mb::c.tb::(Xt c.lv++K6 X),k≠v:=λk a e=>(QqP.1 q).1 (e▸a);have f:∀k,stF c k->k≠v:=λk r e=>(h.far v (by simp[Dl])).1 (e▸r);obtain⟨s',o,l',L,r',t,u⟩:=V';simp only at i j m n;subst i j m n;refine⟨p,h.sto.keep a f,h.led.keep a (λk z e=>?_),h.trs.keep a (d _ U),λx b=>⟨TrAt.keep (h.tre x b).1 a (λk F=>d k ?_),(h.tre x b).2⟩,Qa h.lst a (λg H=>d g ?_),h.spl,h.nd,h.far,h.zero,a.cell h.laid (λe=>(h.far v (by simp[Dl])).2 e.symm)⟩
 ·have:k∈c.lb::c.mb::c.tb::(Xt c.lv++K6 X):=by
   rcases z with rfl|rfl|⟨y,K,rfl⟩
   ·simp
   ·simp
   ·obtain⟨x,b,rfl⟩:=QqS.1 K;simp only[QqF,QqJ];exact .inr (.inr (.inr (.inr (QqX.2 ⟨x,b,U⟩))))
  exact d k this e
 ·simp only[QqF,QqJ];exact .inr (.inr (.inr (.inr (QqX.2 ⟨x,b,by simp[F]⟩))))
 ·simp only[QqF,QqJ];exact .inr (.inr (.inr (.inl (Uy.2 H))))
end
theorem Qr4{X:XL}{V:Vo}(a:Gb X V):(Dh X V).length<=1000000:=by
 have h1:=Qg2 (sorted (Yq X++V.last++O5 V.root));have h2:=Pb λy b=>(a.1.2 y b).2;have h3:=a.1.1;have h4:=a.2;have h5:(O5 V.root).length<=1:=by unfold O5;split<;>simp
 unfold Dh;rw[Xd]at h1;simp only[QqK]at h1;omega
def Vo.kept(V:Vo)(X:XL):Vo:={V with s:=V.s.need (Dh X V)}
theorem Iw(w:World)(v:Nat)(c:Pt)(X:XL)(V:Vo)(h:VoIn w v c X V)(y:Gb X V):
  C 64 #[(v,0)] w λx w'=>x= .returned (.tuple #[])/\VoIn w' v c X (V.kept X)/\Keep (stF c) w w':=by
 have c0:=h.obj.cell 0;simp[Qe]at c0;have f:Hid (∀W,Below w w W->W.cell? (v,0)=some (c.q,0)):=λW hb=>Qq hb c0;have R:Hid (∀W,Below w w W->C 32 #[(v,0)] W (Ia W (Dh X V))):=λW hb=>Qu0 W v c X V (h.below hb) y;have b:=Qr4 y;have S:Hid (∀W A d,Below w w W->W.ownsRow w.heap.size 3 1 (.slice A (Dh X V).length d) (Dh X V).length (ints (Dh X V))->C 135 #[(c.q,0),.slice A (Dh X V).length d] W λe w'=>e= .returned (.tuple #[])/\w'.cell? (v,0)=some (c.q,0)/\VoIn w' v c X (V.kept X)/\Keep (stF c) w w'):=by
  intro W A d hb B;have T:=h.below hb;refine(Qv9 W c.q c.p c.sv c.vv c.N V.s A _ d (Dh X V) rfl b T.sto ?_).mono ?_
  ·rcases QyJ (Dh X V).length with z|z
   ·exact .inl (QjS z)
   ·obtain⟨g,rfl,aa,_,_,F,_⟩:=Qx B z;refine .inr ⟨g,0,rfl,λhf=>by have:=h.sto.lt g hf;omega,λj x hj=>?_⟩;have:=F j (I x) (by simp[ints,hj]);simpa using this
  ·rintro e w' ⟨rfl,H,Y⟩;have i:=T.stored H Y;exact⟨rfl,i.obj.cell 0,i,(Keep.below hb).trans Y.keep (λk hk=>.inl hk)⟩
 obtain⟨l,Z⟩:=Zx (Dh X V);rw[Z]at R S b;clear h y Z;go_in
 go_wp2_with fail
 go_region_held3 (λw'=>w'.cell? (v,0)=some (c.q,0)) (first|with_reducible exact K.o|with_reducible exact f.o _ m.o|with_reducible exact f.o _ B0|with_reducible exact f.o _ B0.drew) (first|(go_at_call 32;refine(R.o _ P).mono ?_;rintro e w2 ⟨A2,d2,rfl,a,n⟩;have L:=Q7h (Qr a (QqB w.heap.size));have m:Hid (Below w w w2):=(QxB P n);clear a n)|(go_at_call 135;refine(S.o _ _ _ m.o L.o).mono ?_;rintro e w3 ⟨rfl,r,t,u⟩;have⟨K,M,Q⟩:=Q3 r t u;clear r t u))
 go_wp2_with fail
 go_end0
 exact⟨rfl,M.o,Q.o⟩
theorem VoIn.unsure{w:World}{v:Nat}{c:Pt}{X:XL}{V:Vo}(h:VoIn w v c X V)(b:Bool):VoIn (w.setCell (v,6) (.bool b)) v c X {V with sure:=b}:=
 h.setV (Keep.set1 w v 6 (.bool b)) (by simpa[Qe]using h.obj.set 6 (.bool b)) rfl rfl rfl rfl
theorem Nz(w:World)(v:Nat)(c:Pt)(X:XL)(V:Vo)(op:ByteArray)(id:Int)(h:VoIn w v c X V)(g:Gb X V):
  C 72 #[(v,0),.string op,I id,.nilIface] w λx w'=>x= .returned .nilIface/\VoIn w' v c X (({V with sure:=false}:Vo).kept X)/\Keep (vF v c X) w w':=by
 have i:=h.obj.cell 6;have f6:=h.obj.fz 6;have⟨j,l⟩:=Q2 (Iw _ v c X _ (h.unsure false) g) (Keep.set1 w v 6 (.bool false));simp[Qe]at i;clear h g;go_in
 go_wp2_with fail
 with_reducible refine j.o.mono ?_
 rintro e w2 ⟨rfl,a,b⟩;have⟨d,f⟩:=Q2 a b;clear a b;go_wp2_with fail
 go_ret
 exact⟨rfl,d.o,(l.o.mono (G:=vF v c X) (λk _ e=>by subst e;exact .inr (by simp[Dl]))).trans f.o (λk m=>.inl (.inl m))⟩
theorem C8(w:World)(v:Value)(op:ByteArray)(id:Int)(t:TypeId)(y:Value):
  C 72 #[v,.string op,I id,.iface t y] w λx w'=>x= .returned (.iface 183 (w,0))/\w.alloc (.cells #[.string op,I id,.iface t y] 187)=w':=by
 have a:=Q7h (Dx op id t y w);go_in
 go_wp2_with fail
 with_reducible refine a.o.mono ?_
 rintro e w2 ⟨rfl,rfl⟩;go_wp2_with fail
 go_ret
 exact⟨rfl,rfl⟩
end vo
namespace vo
open Go.RowKit Go.Maps er st tr
def Gt(size f n:Int)(m:Bool):Int:=if m=false\/n<1 then 1 else if f<0\/f>size\/n>size-f then 82 else 0
theorem Yx{X:XL}{x:Sp×Bl}(b:x∈X):((⟨x.1.id,x.1.size,x.1.used⟩:Acc),x.2.a)∈Zq X:=QqS.2 ⟨x,b,rfl⟩
theorem VoIn.acc{w:World}{v:Nat}{c:Pt}{X:XL}{V:Vo}(h:VoIn w v c X V){x:Sp×Bl}(a:x∈X):1<=x.1.id/\x.1.id<=65535/\0<=x.1.size/\x.1.size<=16777216/\0<=x.1.used:=by
 have:=h.led.ok.ids ⟨x.1.id,x.1.size,x.1.used⟩ (QqS.2 ⟨_,Yx a,rfl⟩);exact this
theorem Kj(w:World)(v:Nat)(c:Pt)(X:XL)(V:Vo)(x:Sp×Bl)(f n:Int)(m:Bool)(h:VoIn w v c X V)(i:x∈X)(l:I64 f)(p:I64 n):
  C 74 #[(v,0),I x.1.id,I f,I n,.bool m] w λe w'=>e= .returned (Ig (Gt x.1.size f n m))/\Below w w w':=by
 have q:=Cg v;have c1:=h.obj.cell 1;simp[Qe]at c1;have k:=Q7h (Qqv w _ _ _ _ _ h.led (Yx i));have ha:=h.acc i;obtain⟨⟨id,size,used,T⟩,bl⟩:=x;simp only at k ha ⊢;obtain⟨a1,a2,a3,F,H⟩:=ha;unfold I64 at l p;have b:Hid (∀e,Gt size f n m=e->Ig (Gt size f n m)=Ig e):=λe s=>by rw[s]
 have d:Hid (Gt size f n m=if m=false\/n<1 then 1 else if f<0\/f>size\/n>size-f then 82 else 0):=rfl;obtain⟨r,j⟩:=Zx (Ig (Gt size f n m));rw[j]at b;simp only[j];clear h i j;go_in
 go_wp2_with fail
 with_reducible refine k.o.mono ?_
 rintro e w1 ⟨rfl,g⟩;have a:=Q7h g;clear g;cases m with
 |false=>
  go_wp2_with fail
  go_ret
  exact⟨by rw[b.o 1 (by rw[d.o];simp)];rfl,a.o⟩
 |true=>
  by_cases h1:n<1
  ·go_wp2_with fail
   go_ret
   exact⟨by rw[b.o 1 (by rw[d.o];simp[h1])];rfl,a.o⟩
  ·have t:1<=n:=O;by_cases h2:f<0
   ·go_wp2_with fail
    go_ret
    exact⟨by rw[b.o 82 (by rw[d.o];simp[h1,h2])];rfl,a.o⟩
   ·have u:0<=f:=O;by_cases h3:size<f
    ·go_wp2_with fail
     go_ret
     exact⟨by rw[b.o 82 (by rw[d.o];simp[h1,h3])];rfl,a.o⟩
    ·have y:f<=size:=O;by_cases h4:size-f<n
     ·go_wp2_with fail
      go_ret
      exact⟨by rw[b.o 82 (by rw[d.o];simp[h1,h4])];rfl,a.o⟩
     ·have z:n<=size-f:=O;go_wp2_with fail
      go_ret
      exact⟨by rw[b.o 0 (by rw[d.o,QqE (by simp;omega),QqE O])];rfl,a.o⟩
theorem Qrq(w:World)(v:Nat)(c:Pt)(X:XL)(V:Vo)(id f n:Int)(m:Bool)(h:VoIn w v c X V)(hi:I64 id)(a:Xx (key (Zq X)) id=none):
  C 74 #[(v,0),I id,I f,I n,.bool m] w λe w'=>e= .returned (Ig 4)/\Below w w w':=by
 have g:=Cg v;have c1:=h.obj.cell 1;simp[Qe]at c1;have i:=Q7h (Q4n w _ _ _ _ id h.led hi a);clear h a;go_in
 go_wp2_with fail
 with_reducible refine i.o.mono ?_
 rintro e w1 ⟨rfl,b⟩;have d:=Q7h b;clear b;go_wp2_with fail
 go_ret
 exact⟨rfl,d.o⟩
def Ib(w:World)(op:ByteArray)(id e:Int)(x:Ending)(w':World):Prop:=∃b,x= .returned (.iface 183 (b,0))/\Whole w' b 187 #[.string op,I id,.iface 28 (I e)]/\Below w w w'
abbrev Qxe:ByteArray:=⟨#[99,114,101,97,116,101]⟩
theorem Vq(w:World)(v:Nat)(c:Pt)(X:XL)(V:Vo)(id size e:Int)(h:VoIn w v c X V)(d:e≠0)(f:C 70 #[(c.lb,0),I id,I size] w λx w'=>x= .returned (I e)/\Below w w w'):
  C 22 #[(v,0),I id,I size] w (Ib w Qxe id e):=by
 have g:=Cg v;have c1:=h.obj.cell 1;simp[Qe]at c1;have i:=Q7h f;have j:(e==0)=false:=by simpa using d
 have k:Hid (∀W,C 69 #[I e] W λx w'=>x= .returned (.iface 28 (I e))/\W=w'):=λW=>by
  have:=Jj e W;rw[show Ig e= .iface 28 (I e)from QqE d]at this;exact this
 clear h f d;go_in
 go_wp2_with fail
 with_reducible refine i.o.mono ?_
 rintro x w1 ⟨rfl,a⟩;have b:=Q7h a;clear a;go_wp2_with fail
 with_reducible refine(k.o _).mono ?_
 rintro x w2 ⟨rfl,rfl⟩;go_wp2_with fail
 with_reducible refine(C8 _ _ _ _ _ _).mono ?_
 rintro x w2 ⟨rfl,rfl⟩;go_wp2_with fail
 go_ret
 exact⟨_,rfl,Whole.new _ _ _,b.o.alloc b.o.size _⟩
def Yy(X:XL)(y:Sp×Bl):XL:=X.filter (λz=>decide (z.1.id<y.1.id))++y::X.filter λz=>decide (y.1.id<z.1.id)
theorem Qoz(X:XL)(y:Sp×Bl):Zq (Yy X y)=J6 (Zq X) (⟨y.1.id,y.1.size,y.1.used⟩,y.2.a):=by
 simp[Zq,Yy,J6,QxF,QyP]
theorem Qz8(X:XL)(y:Sp×Bl):Z7 (Yy X y)=Td (Z7 X) y.1.id y.2.p:=by
 simp[Z7,Yy,Td,QxF,QyP]
theorem Rf{X:XL}{y:Sp×Bl}(b:∀z∈X,z.1.id≠y.1.id):(Yy X y).Perm (y::X):=by
 unfold Yy;refine List.perm_middle.trans (List.Perm.cons y ?_);have h1:X.filter (λz=>decide (y.1.id<z.1.id))=X.filter (λz=>!decide (z.1.id<y.1.id)):=by
  refine QgN λz hz=>?_;have:=b z hz;by_cases a:z.1.id<y.1.id
  ·simp[a];omega
  ·simp[a];omega
 rw[h1];exact QgB _ _
theorem Nv{X:XL}{y z:Sp×Bl}(h:z∈Yy X y):z=y\/z∈X:=by
 unfold Yy at h;simp only[QqJ,QqF,QzZ]at h;rcases h with h|h|h
 ·exact .inr h.1
 ·exact .inl h
 ·exact .inr h.1
theorem Qat{X Y:XL}(h:X.Perm Y):(K6 X).Perm (K6 Y):=h.flatMap_right _
theorem Qgs {v:Nat} {c:Pt} {X:XL} {s:Sp} {ab p:Nat} (a:∀z∈X,z.1.id≠s.id):(Dl v c (Yy X (s,⟨ab,p,[p]⟩))).Perm (ab::p::Dl v c X):=by
 have h1:(K6 (Yy X (s,⟨ab,p,[p]⟩))).Perm (ab::p::K6 X):=Qat (Rf a)
 exact (h1.append_left ([v,c.lb,c.mb,c.tb]++Xt c.lv)).trans (List.perm_middle.trans (List.perm_middle.cons ab))
theorem VoIn.created{w m:World}{v:Nat}{c:Pt}{X:XL}{V:Vo}{id size:Int}{ab p:Nat}(h:VoIn w v c X V)(z:∀x∈X,x.1.id≠id)(a:Keep (λk=>k=c.mb\/k=c.tb) w m)(F:LedIn m c.lb c.mb V.cap (J6 (Zq X) (⟨id,size,0⟩,ab)))(H:MapAt m c.tb (Td (Z7 X) id p))(K:Whole m p 228 #[.nilIface])(L:w.heap.size<=ab)(M:w.heap.size<=p)(q:ab≠p):
  VoIn m v c (Yy X (⟨id,size,0,.no⟩,⟨ab,p,[p]⟩)) {V with l:=(Yy X (⟨id,size,0,.no⟩,⟨ab,p,[p]⟩)).map (·.1)}:=by
 have i:=h.nd;have N:∀k,stF c k->¬(k=c.mb\/k=c.tb):=λk j e=>by
  rcases e with rfl|rfl
  ·exact(h.far c.mb (by simp[Dl])).1 j
  ·exact(h.far c.tb (by simp[Dl])).1 j
 have b:∀k∈v::(Xt c.lv++K6 X),¬(k=c.mb\/k=c.tb):=λk a e=>by
  unfold Dl at i;simp only[QqP,QqF,QqJ,QuE]at i;obtain⟨⟨n1,n2,Q,Y,Z⟩,⟨n6,n7,A,B⟩,⟨R,r,t⟩,⟨u,y⟩,S⟩:=i;simp only[QqF,QqJ]at a;rcases e with rfl|rfl
  ·rcases a with e|a|a
   ·exact n2 e.symm
   ·exact r a
   ·exact t a
  ·rcases a with e|a|a
   ·exact Q e.symm
   ·exact u a
   ·exact y a
 have d:=Qgs (v:=v) (c:=c) (s:=(⟨id,size,0,.no⟩:Sp)) (ab:=ab) (p:=p) z;have f:=h.lt;have h0:=h.laid.lt;refine⟨h.obj.keep a (b _ U),h.sto.keep a N,by rw[Qoz];exact F,by rw[Qz8];exact H,λx n=>?_,Qa h.lst a (λg T=>b g ?_),rfl,?_,λk a=>?_,h.zero,a.cell h.laid (λe=>?_)⟩
 ·rcases Nv n with rfl|n
  ·exact⟨⟨[],_,rfl,K,rfl,rfl⟩,trivial,Dk⟩
  ·refine⟨TrAt.keep (h.tre x n).1 a (λk W=>b k ?_),(h.tre x n).2⟩;simp only[QqF,QqJ];exact .inr (.inr (QqX.2 ⟨x,n,by simp[W]⟩))
 ·simp only[QqF,QqJ];exact .inr (.inl (Uy.2 T))
 ·rw[d.nodup_iff,QqP,QqP];refine⟨λo=>?_,λo=>?_,h.nd⟩
  ·rcases QqF.1 o with e|o
   ·exact q e
   ·have:=f ab (.inr o);omega
  ·have:=f p (.inr o);omega
 ·have:=d.mem_iff.1 a;simp only[QqF]at this;rcases this with rfl|rfl|a
  ·exact⟨λj=>by have:=f k (.inl j);omega,O⟩
  ·exact⟨λj=>by have:=f k (.inl j);omega,O⟩
  ·exact h.far k a
 ·rcases e with e|e
  ·exact(h.far c.mb (by simp[Dl])).2 e.symm
  ·exact(h.far c.tb (by simp[Dl])).2 e.symm
theorem Pj:Small .no:=by
 refine⟨by simp[Tree.flat],?_⟩;have h1:(sorted (Tree.nfs .no)).length=0:=by rw[Xd];rfl
 unfold Ik;rw[QqK,h1];simp[Zo,Tree.flat]
def Vo.made(V:Vo)(X:XL):Vo:={V with l:=X.map (·.1),sure:=false}
theorem Tw(w:World)(v:Nat)(c:Pt)(X:XL)(V:Vo)(id size:Int)(h:VoIn w v c X V)(hs:Gb X V)(hi:1<=id/\id<=65535)(A:∀x∈X,x.1.id≠id)(hf:Xx (key (Zq X)) id=none)(hz:0<=size/\size<=16777216)(B:X.length<8):
  C 22 #[(v,0),I id,I size] w λx w'=>x= .returned .nilIface/\∃ab p,VoIn w' v c (Yy X (⟨id,size,0,.no⟩,⟨ab,p,[p]⟩)) ((V.made (Yy X (⟨id,size,0,.no⟩,⟨ab,p,[p]⟩))).kept (Yy X (⟨id,size,0,.no⟩,⟨ab,p,[p]⟩)))/\Mv (vF v c X) w (vF v c (Yy X (⟨id,size,0,.no⟩,⟨ab,p,[p]⟩))) w'/\w.heap.size<=ab/\w.heap.size<=p:=by
 have al:=Cg v;have c1:=h.obj.cell 1;have c2:=h.obj.cell 2;simp[Qe]at c1 c2;have HO:=Q7h (Qqt w _ _ _ _ id size h.led hi (λy F=>by obtain⟨x,m,rfl⟩:=QqS.1 F;exact A x m) hf hz (by simpa[Zq]using B));have b:=h.nd;unfold Dl at b;simp only[QqP,QqF,QqJ,QuE]at b;have aa:v≠c.mb:=b.1.2.1;have K:c.mb≠c.tb:=b.2.2.1.1;have am:v≠c.tb:=b.1.2.2.1;clear b;have⟨H,L⟩:=Q2 h hs;have HP:Hid (∀W,C 69 #[I 0] W λx w'=>x= .returned .nilIface/\W=w'):=λW=>Jj 0 W;have n:=Q7h A;have M:I64 id:=by unfold I64;omega
 have ac:(Z7 X).length<=1000000:=by simp[Z7];omega
 have H8:=Q7h B;clear h hs hi A hf hz B;go_in
 go_wp2_with fail
 with_reducible refine HO.o.mono ?_
 rintro x w1 ⟨ab,rfl,q,r,d⟩;have d2:w1.cell? (v,2)=some (.map (some c.tb)):=d.cell c2 aa;have HK:Hid (∀W,Below w1 w1 W->W.cell? (v,2)=some (.map (some c.tb))):=λW hb=>Qq hb d2;have g:Below w1 w1 (w1.alloc (.cells #[.nilIface] 228)).drew:=(B0.alloc N0 _).drew;have i:MapAt w1 c.tb (Z7 X):=H.o.trs.keep d (λe=>K e.symm);obtain⟨w3,an,N,j,ad⟩:=(i.below g).store Tryz.underlying113 ac M w1.heap.size;have Q:ab<w1.heap.size:=(r.acc (⟨id,size,0⟩,ab) (by simp[J6])).lt;have t:=d.size;have f:Keep (λk=>k=c.mb\/k=c.tb) w w3:=((d.mono (G:=λk=>k=c.mb\/k=c.tb) (λk _ e=>.inl e)).transBelow g).trans j (λk e=>.inl (.inr e));have R:¬c.tb=w1.heap.size:=by have:=i.lt;omega
 have S:Hid (VoIn w3 v c (Yy X (⟨id,size,0,.no⟩,⟨ab,w1.heap.size,[w1.heap.size]⟩)) {V with l:=(Yy X (⟨id,size,0,.no⟩,⟨ab,w1.heap.size,[w1.heap.size]⟩)).map (·.1)}):=by
  have ae:=r.below g;have ak:c.tb∈Dl v c X:=by simp[Dl]
  refine H.o.created n.o f (ae.keep j (λk u e=>?_)) N (Whole.keep (show Whole (w1.alloc (.cells #[.nilIface] 228)).drew w1.heap.size 228 #[.nilIface]from Whole.new w1 _ _) j (λe=>R e.symm)) q t O;subst e;have b:=H.o.nd;unfold Dl at b;simp only[QqP,QqF,QqJ,QuE]at b;rcases u with e|e|⟨y,F,e⟩
  ·exact b.2.1.2.1 e.symm
  ·exact K e.symm
  ·rcases Ep F with rfl|F
   ·have:=i.lt;have e':ab=c.tb:=e;have:=H.o.trs.lt;omega
   ·obtain⟨x,m,rfl⟩:=QqS.1 F;refine b.2.2.2.1.2 (QqX.2 ⟨x,m,?_⟩);have e':x.2.a=c.tb:=e;simp[e']
 have af:=Q7h f;have HX:=Q7h (Rf (y:=(⟨id,size,0,.no⟩,⟨ab,w1.heap.size,[w1.heap.size]⟩)) n.o);have ag:Hid (∀V':Vo,V'.last=V.last->Gb (Yy X (⟨id,size,0,.no⟩,⟨ab,w1.heap.size,[w1.heap.size]⟩)) V'):=λV' hl=>by
  refine⟨⟨by rw[HX.o.length_eq];have:=H8.o;simp;omega,λx m=>?_⟩,by rw[hl];exact L.o.2⟩;rcases Nv m with rfl|m
  ·exact Pj
  ·exact L.o.1.2 x m
 have z:Hid (w.heap.size<=ab/\w.heap.size<=w1.heap.size):=⟨q,t⟩;have ah:=Q7h (Nz w3 v c _ _ Qxe id S.o (ag.o _ rfl));clear r d N j ad f i g q Q t;go_wp2_with fail
 go_region_held3 (λw'=>w'.cell? (v,2)=some (.map (some c.tb))) (first|with_reducible exact HK.o _ B0|with_reducible exact HK.o _ B0.drew|exact S.o.obj.cell 2|exact HK.o _ ((B0.drew).alloc U _)) (first|(go_at_call 71;refine(Qqc _).mono ?_;rintro e w2 ⟨rfl,rfl⟩))
 go_wp2_with fail
 with_reducible refine(HP.o _).mono ?_
 rintro x w4 ⟨rfl,rfl⟩;go_wp2_with fail
 with_reducible refine ah.o.mono ?_
 rintro x w5 ⟨rfl,T,Y⟩;have⟨ai,aj⟩:=Q2 T Y;clear T Y;go_wp2_with fail
 go_ret
 have Z:∀k,vF v c (Yy X (⟨id,size,0,.no⟩,⟨ab,w1.heap.size,[w1.heap.size]⟩)) k->vF v c X k\/w.heap.size<=k:=by
  rintro k (u|u)
  ·exact .inl (.inl u)
  ·have:=(Qgs (v:=v) (c:=c) (s:=(⟨id,size,0,.no⟩:Sp)) (ab:=ab) (p:=w1.heap.size) n.o).mem_iff.1 u;simp only[QqF]at this;rcases this with rfl|rfl|u
   ·exact .inr z.o.1
   ·exact .inr z.o.2
   ·exact .inl (.inr u)
 exact⟨rfl,ab,w1.heap.size,ai.o,⟨(af.o.mono (G:=vF v c X) (λk _ e=>by rcases e with rfl|rfl<;>exact .inr (by simp[Dl]))).trans aj.o Z,Z⟩,z.o⟩
theorem Qz4(w:World)(v:Nat)(c:Pt)(X:XL)(V:Vo)(h:VoIn w v c X V):C 16 #[(v,0)] w λe w'=>e= .returned (.bool V.sure)/\w=w':=by
 have a:∀w,(binOp .neq 24 (v,0) (.pointer none)).run Tryz.prog w= .ok (.bool true) w:=λw=>J;have b:=h.obj.cell 6;simp[Qe]at b;clear h;go_in
 go_wp2_with fail
 go_ret
 exact⟨rfl,rfl⟩
theorem Qev(w:World)(v:Nat)(c:Pt)(X:XL)(V:Vo)(h:VoIn w v c X V):C 21 #[(v,0)] w λe w'=>e= .returned (I V.gen)/\w=w':=by
 have a:=Cg v;have c3:=h.obj.cell 3;simp[Qe]at c3;clear h;go_in
 go_wp2_with fail
 go_ret
 exact⟨rfl,rfl⟩
theorem Qya(w:World)(v:Nat)(c:Pt)(X:XL)(V:Vo)(h:VoIn w v c X V):C 19 #[(v,0)] w λe w'=>e= .returned (c.q,0)/\w=w':=by
 have a:=Cg v;have c0:=h.obj.cell 0;simp[Qe]at c0;clear h;go_in
 go_wp2_with fail
 go_ret
 exact⟨rfl,rfl⟩
theorem Qoh(w:World)(v:Nat)(c:Pt)(X:XL)(V:Vo)(h:VoIn w v c X V):C 15 #[(v,0)] w λe w'=>e= .returned (I (V.cap-tot (Zd (Zq X))))/\Below w w w':=by
 have d:=Cg v;have c1:=h.obj.cell 1;simp[Qe]at c1;have f:=Q7h (Si w _ _ _ _ h.led);clear h;go_in
 go_wp2_with fail
 with_reducible refine f.o.mono ?_
 rintro e w1 ⟨rfl,a⟩;have b:=Q7h a;clear a;go_wp2_with fail
 go_ret
 exact⟨rfl,b.o⟩
theorem V9(w:World)(v:Nat)(c:Pt)(X:XL)(V:Vo)(x:Sp×Bl)(h:VoIn w v c X V)(f:x∈X):C 18 #[(v,0),I x.1.id] w λe w'=>e= .returned (.tuple #[I x.1.size,I x.1.used,.nilIface])/\Below w w w':=by
 have i:=Cg v;have c1:=h.obj.cell 1;simp[Qe]at c1;have g:=Q7h (Qqv w _ _ _ _ _ h.led (Yx f));clear h f;obtain⟨⟨id,size,used,T⟩,bl⟩:=x;simp only at g ⊢;go_in
 go_wp2_with fail
 with_reducible refine g.o.mono ?_
 rintro e w1 ⟨rfl,a⟩;have b:=Q7h a;clear a;go_wp2_with fail
 with_reducible refine(Jj _ _).mono ?_
 rintro e w2 ⟨rfl,rfl⟩;have d:Hid (Ig 0= .nilIface):=rfl;rw[d.o];go_wp2_with fail
 with_reducible refine(Ij _ _ _).mono ?_
 rintro e w2 ⟨rfl,rfl⟩;go_wp2_with fail
 go_returns;exact⟨rfl,b.o⟩
theorem Qju(w:World)(v:Nat)(c:Pt)(X:XL)(V:Vo)(h:VoIn w v c X V):C 17 #[(v,0)] w λe w'=>∃a,e= .returned a/\w'.ownsRow w.heap.size 3 1 a X.length (ints (X.map (·.1.id)))/\Below w w w':=by
 have p:=Cg v;have c1:=h.obj.cell 1;simp[Qe]at c1;have j:X.length<=8:=by have:=h.led.ok.len;simpa[Zd,Zq]using this
 have q:Hid (C 67 #[(c.lb,0)] w λe w'=>∃v,e= .returned v/\w'.ownsRow w.heap.size 3 1 v X.length (ints (X.map (·.1.id)))/\Below w w w'):=by
  have:=Qq4 w _ _ _ _ h.led;rw[show(Zq X).length=X.length by simp[Zq],show(Zq X).map (λy=>Value.int .i64 y.1.id)=ints (X.map (·.1.id)) by simp[Zq,ints,QyP]]at this;exact this
 have r:Hid (∀W a n,W.ownsRow w.heap.size 3 1 a n (ints (X.map (·.1.id)))->n<=8->C 66 #[a] W λe w'=>∃a,e= .returned a/\w'.ownsRow W.heap.size 3 1 a n (ints (X.map (·.1.id)))/\Below W W w'):=λW a n s u=>Q44 n a _ W (SlAt.own s) O (Bv _);clear h;go_in
 go_wp2_with fail
 refine q.o.mono ?_;rintro e w1 ⟨v1,rfl,b,f⟩;have⟨d,k⟩:=Q2 f (r.o w1 v1 _ b j);obtain⟨x,z,t⟩:=Qk b;subst t;clear b f;go_wp2_with fail
 with_reducible refine k.o.mono ?_
 rintro e w2 ⟨v2,rfl,g,i⟩;have⟨l,m⟩:=Q2 (Qr g d.o.size) (d.o.trans (i.mono d.o.size));clear g i;go_wp2_with fail
 go_ret
 exact⟨_,rfl,l.o,m.o⟩
theorem Q11{e x:Ext}{a b:Int}(h:partOf e a b=some x):a<=x.fr/\x.end_<=b:=by
 unfold partOf at h;by_cases hq:min e.end_ b<=max e.fr a
 ·rw[QqH hq]at h;cases h
 ·rw[QqE hq]at h;injection h with h;subst h;show a<=max e.fr a/\max e.fr a+(min e.end_ b-max e.fr a)<=b;omega
theorem Qt7:∀(l:List Ext) (a b:Int),Chk l->a<=b->(∀e∈l,a<=e.fr/\e.end_<=b)->0<=Zql l/\Zql l<=b-a
 |[],a,b,_,h1,_=>by simp[Zql];omega
 |e::l,a,b,hc,h1,hl=>by
  have f:=Qg (hc.one e U);have d:=QzS.1 hc.ord;have g:e.end_=e.fr+e.n:=rfl;have h2:=hl e U;have:=Qt7 l e.end_ b hc.tail O (λx c=>⟨(d.1 x c).1,(hl x (by simp[c])).2⟩);simp only[Zql,QzE,QxX]at this ⊢;omega
def Qp(T:Tree)(f n:Int):Int:=n-Zql (parts T.flat f (f+n))
theorem Li{T:Tree}{f n:Int}(a:Chk T.flat)(b:0<=f)(h1:0<=n)(h2:f+n<=16777216):0<=Qp T f n/\Qp T f n<=n:=by
 have:=Qt7 (parts T.flat f (f+n)) f (f+n) (R9 a b h2) O (λe c=>by
  obtain⟨x,_,d⟩:=Js c;exact Q11 d)
 unfold Qp;omega
def Gf(X:XL)(id:Int)(f:Sp->Sp):XL:=X.map λy=>if y.1.id=id then(f y.1,y.2)else y
theorem Qtu(w:World):(zeroValue 123).run Tryz.prog w= .ok (.pointer none) w:=J
theorem VoIn.find{w:World}{v:Nat}{c:Pt}{X:XL}{V:Vo}(h:VoIn w v c X V){x:Sp×Bl}(a:x∈X):Xx (Z7 X) x.1.id=some x.2.p:=Qqm h.trs.2 (QqS.2 ⟨x,a,rfl⟩)
theorem VoIn.lookT{w:World}{v:Nat}{c:Pt}{X:XL}{V:Vo}(h:VoIn w v c X V){x:Sp×Bl}(a:x∈X):(Instr.lookup 113 (.map (some c.tb)) (I x.1.id) false).run Tryz.prog w= .ok (x.2.p,0) w:=
 (h.trs.look Tryz.underlying113 Qtu (by have:=h.acc a;unfold I64;omega) (h.find a)).1
theorem Q04(X:XL)(id d:Int):Zq (Gf X id λs=>{s with used:=s.used+d})=Y1 (Zq X) id λa=>{a with used:=a.used+d}:=by
 unfold Zq Gf Y1;rw[QzR,QzR];refine QkF λy b=>?_;show _=if y.1.id=id then _ else _;by_cases h:y.1.id=id
 ·simp[h]
 ·simp[h]
theorem Qrg(X:XL)(id:Int)(f:Sp->Sp)(a:∀s,(f s).id=s.id):Z7 (Gf X id f)=Z7 X:=by
 unfold Z7 Gf;rw[QzR];refine QkF λy b=>?_;show(((if y.1.id=id then(f y.1,y.2)else y):Sp×Bl).1.id,((if y.1.id=id then(f y.1,y.2)else y):Sp×Bl).2.p)=_;by_cases h:y.1.id=id
 ·rw[QqH h];simp[a]
 ·rw[QqE h]
theorem Q0p(X:XL)(id:Int)(f:Sp->Sp):K6 (Gf X id f)=K6 X:=by
 unfold K6 Gf;rw[QjB];congr 1;funext y;by_cases h:y.1.id=id
 ·simp[h]
 ·simp[h]
theorem Nc(v:Nat)(c:Pt)(X:XL)(id:Int)(f:Sp->Sp):Dl v c (Gf X id f)=Dl v c X:=by unfold Dl;rw[Q0p]
theorem Qto{X:XL}{id:Int}{f:Sp->Sp}{z:Sp×Bl}(h:z∈Gf X id f):∃y∈X,z.2=y.2/\(z.1=y.1\/z.1=f y.1):=by
 obtain⟨y,a,rfl⟩:=QqS.1 h;refine⟨y,a,?_⟩;split
 ·exact⟨rfl,.inr rfl⟩
 ·exact⟨rfl,.inl rfl⟩
theorem VoIn.acct{w u:World}{v:Nat}{c:Pt}{X:XL}{V:Vo}{x:Sp×Bl}{f:Sp->Sp}{g:Acc->Acc}(H:∀s,(f s).id=s.id)(K:∀s,(f s).tr=s.tr)(L:Zq (Gf X x.1.id f)=Y1 (Zq X) x.1.id g)(h:VoIn w v c X V)(t:x∈X)(b:Keep (λk=>k=x.2.a) w u)(Z:LedIn u c.lb c.mb V.cap (Y1 (Zq X) x.1.id g)):
  VoIn u v c (Gf X x.1.id f) {V with l:=(Gf X x.1.id f).map (·.1)}:=by
 have d:=h.nd;have q:x.2.a∈Dl v c X:=by
  simp only[Dl,QqF,QqJ];exact .inr (.inr (.inr (.inr (.inr (QqX.2 ⟨x,t,U⟩)))))
 have m:x.2.a∈K6 X:=QqX.2 ⟨x,t,U⟩;have A:∀k,stF c k->k≠x.2.a:=λk B e=>(h.far _ q).1 (e▸B);unfold Dl at d;simp only[QqP,QqF,QqJ,QuE]at d;obtain⟨⟨n1,n2,n3,n4,n5⟩,⟨n6,n7,n8,n9⟩,⟨aa,ab,ac⟩,⟨ad,M⟩,N⟩:=d;obtain⟨m1,T,m3⟩:=QzP.1 N;have Q:∀y∈X,∀k∈y.2.F,k≠x.2.a:=by
  intro y r k b e;subst e;obtain⟨i,hi,n⟩:=QxC t;obtain⟨j,W,o⟩:=QxC r;unfold K6 at T;obtain⟨p1,p2⟩:=QgU.1 T;by_cases R:i=j
  ·subst R;have:x=y:=by rw[<-n,<-o]
   subst this;exact(QqP.1 (p1 x t)).1 b
  ·have Y:=QkZ.1 p2;rcases QyH i j with S|ae
   ·have:=Y i j hi W S;rw[n,o]at this;exact this x.2.a U x.2.a (by simp[b]) rfl
   ·have:=Y j i W hi O;rw[n,o]at this;exact this x.2.a (by simp[b]) x.2.a U rfl
 have p:∀k,(k=v\/k=c.tb\/k∈Xt c.lv)->k≠x.2.a:=by
  intro k b e;rcases b with b|b|b
  ·exact n5 (by rw[<-b,e];exact m)
  ·exact M (by rw[<-b,e];exact m)
  ·exact m3 _ b _ m e
 refine⟨h.obj.keep b (p _ (.inl rfl)),h.sto.keep b A,by rw[L];exact Z,by rw[Qrg _ _ f H];exact h.trs.keep b (p _ (.inr (.inl rfl))),λz hz=>?_,Qa h.lst b (λg hg=>p g (.inr (.inr (Uy.2 hg)))),rfl,by rw[Nc];exact h.nd,by rw[Nc];exact h.far,h.zero,b.cell h.laid (λe=>(h.far _ q).2 e.symm)⟩;obtain⟨y,r,e1,e2⟩:=Qto hz;have ht:z.1.tr=y.1.tr:=e2.elim (λe=>by rw[e]) (λe=>by rw[e,K]);rw[e1,ht];exact⟨TrAt.keep (h.tre y r).1 b (λk hf=>Q y r k hf),(h.tre y r).2⟩
theorem VoIn.charged{w b:World}{v:Nat}{c:Pt}{X:XL}{V:Vo}{x:Sp×Bl}{d:Int}(h:VoIn w v c X V)(e:x∈X)(f:Keep (λk=>k=x.2.a) w b)(g:LedIn b c.lb c.mb V.cap (Y1 (Zq X) x.1.id λa=>{a with used:=a.used+d})):
  VoIn b v c (Gf X x.1.id λs=>{s with used:=s.used+d}) {V with l:=(Gf X x.1.id λs=>{s with used:=s.used+d}).map (·.1)}:=
 VoIn.acct (λ_=>rfl) (λ_=>rfl) (Q04 X x.1.id d) h e f g
end vo
namespace vo
open Go.RowKit Go.Maps er st tr nd pg
theorem Qug(w:World)(v:Nat)(id:Int):
  C 142 #[(v,0),I id] w λe w'=>e= .returned (.func (.func 205) #[] #[(w,0),(w.heap.size+1,0)])/\Whole w' w.heap.size 24 #[(v,0)]/\Whole w' (w.heap.size+1) 3 #[I id]/\Below w w w':=by
 go_in
 go_wp2_with fail
 go_ret
 exact⟨rfl,(Whole.new w _ _).alloc _,Whole.new' _ _ _ _ U,(B0.alloc N0 _).alloc U _⟩
def Q5z(w:World)(v:Nat)(c:Pt)(X:XL)(V:Vo)(key:Int)(r:Sto×Int×Int)(e:Ending)(w':World):Prop:=
 ∃u N',e= .returned (.tuple #[I r.2.1,u])/\VoIn w' v {c with N:=N'} X {V with s:=r.1}/\Moved w c.q c.sv c.vv c.N w' N'/\Cu w' (stF {c with N:=N'}) [(Tj,key)] r.2.2 u
theorem Ad(w:World)(v:Nat)(c:Pt)(X:XL)(V:Vo)(pg:Page)(f:Nat)(r:Sto×Int×Int)(h:VoIn w v c X V)(b:Xv f V.s pg=some r)(d:V.s.n.ops+f<=1000000000000000000)(hq:V.s.seq<=281474976710655):
  C 145 #[(c.q,0),pg.val] w (Q5z w v c X V pg.key r):=by
 refine(Qog w c.q c.p c.sv c.vv c.N V.s pg f r h.sto h.laid h.zero b d hq).mono ?_;rintro e w' ⟨u,N',rfl,g,a,i⟩;exact⟨u,N',rfl,h.stored g a,a,i⟩
end vo
namespace vo
open Go.RowKit Go.Maps er st tr
def Qt(X:XL)(id d:Int):XL:=Gf X id λs=>{s with used:=s.used+d}
def Vo.re(V:Vo)(X:XL):Vo:={V with l:=X.map (·.1)}
theorem Qx9{w d:World}{v:Nat}{c:Pt}{X:XL}{x:Sp×Bl}{f:Sp->Sp}(g:x∈X)(b:Keep (λk=>k=x.2.a) w d):Mv (vF v c X) w (vF v c (Gf X x.1.id f)) d:=by
 refine⟨b.mono (λk _ e=>?_),λk b=>.inl ?_⟩
 ·subst e;exact .inr (by simp only[Dl,QqF,QqJ];exact .inr (.inr (.inr (.inr (.inr (QqX.2 ⟨x,g,U⟩))))))
 ·rcases b with b|b
  ·exact .inl b
  ·exact .inr (by rw[Nc]at b;exact b)
def Qlp(w:World)(v:Nat)(c:Pt)(X:XL)(V:Vo)(x:Sp×Bl)(d:Int)(e:Ending)(w':World):Prop:=
 (e= .returned (.tuple #[I d,.nilIface])/\d<=V.cap-tot (Zd (Zq X))/\VoIn w' v c (Qt X x.1.id d) (V.re (Qt X x.1.id d))/\Mv (vF v c X) w (vF v c (Qt X x.1.id d)) w')\/
 (e= .returned (.tuple #[I d,Ig 71])/\V.cap-tot (Zd (Zq X))<d/\Below w w w')
theorem Nu(w:World)(v:Nat)(c:Pt)(X:XL)(V:Vo)(x:Sp×Bl)(f n:Int)(h:VoIn w v c X V)(g:x∈X)(h0:0<=f)(h1:1<=n)(h2:f+n<=16777216):
  C 156 #[(v,0),I x.1.id,I f,I n] w (Qlp w v c X V x (Qp x.1.tr f n)):=by
 have c1:=h.obj.cell 1;have c2:=h.obj.cell 2;simp[Qe]at c1 c2;obtain⟨t1,t2,K⟩:=h.tre x g;have k:=R9 K h0 O;have l:=Li (T:=x.1.tr) (f:=f) (n:=n) K h0 O O;have HC:=Q7h (Qos w x.2.F x.2.p x.1.tr f n t1 t2 K (by unfold Yp;simp;omega));have HN:Hid (∀W L,W.ownsRow w.heap.size 255 4 L (parts x.1.tr.flat f (f+n)).length (Qz (parts x.1.tr.flat f (f+n)))->C 178 #[L] W λy w'=>y= .returned (I (Zql (parts x.1.tr.flat f (f+n))))/\Below W W w'):=λW L ho=>Ae _ L W (SlAt.exts (SlAt.own ho)).1 k;have aa:=h.lookT g;have b:n-Zql (parts x.1.tr.flat f (f+n))=Qp x.1.tr f n:=rfl;obtain⟨S,hS⟩:=Zx (Zql (parts x.1.tr.flat f (f+n)));rw[hS]at b HN;obtain⟨d,m⟩:=Zx (Qp x.1.tr f n);rw[m]at l b ⊢;have M:Hid (∀W,Below w w W->C 106 #[(c.lb,0),I x.1.id,I d] W λe w'=>(e= .returned (I 0)/\d<=V.cap-tot (Zd (Zq X))/\VoIn w' v c (Qt X x.1.id d) (V.re (Qt X x.1.id d))/\Mv (vF v c X) w (vF v c (Qt X x.1.id d)) w')\/(e= .returned (I 71)/\V.cap-tot (Zd (Zq X))<d/\Below w w w')):=by
  intro W hb;have N:=h.below hb;by_cases m:d<=V.cap-tot (Zd (Zq X))
  ·refine(Mr W _ _ _ _ _ d N.led (Yx g) l.1 m).mono ?_;rintro e w' ⟨rfl,hl,hk⟩;exact .inl ⟨rfl,m,N.charged g hk hl,(Mv.below hb).trans (Qx9 g hk)⟩
  ·refine(Ms W _ _ _ _ _ d N.led (Yx g) O).mono ?_;rintro e w' ⟨rfl,Q⟩;exact .inr ⟨rfl,O,hb.trans (Q.mono hb.size)⟩
 have HP:Hid (∀e W,C 69 #[I e] W λx w'=>x= .returned (Ig e)/\W=w'):=λe W=>Jj e W;have R:Hid (∀W,Below w w W->W.cell? (v,1)=some (c.lb,0)):=λW hb=>Qq hb c1;clear h g t1 t2 K k hS m;go_in
 go_wp2_with fail
 with_reducible refine HC.o.mono ?_
 rintro e w1 ⟨v1,rfl,i,q⟩;have⟨Y,r⟩:=Q2 (HN.o w1 v1 i) q;obtain⟨A1,d1,e1⟩:=Qk i;subst e1;clear i q;go_wp2_with fail
 with_reducible refine Y.o.mono ?_
 rintro e w2 ⟨rfl,s⟩;have t:=Q7h (r.o.trans (s.mono r.o.size));clear s;have ab:=R.o _ t.o;go_wp2_with fail
 with_reducible refine(M.o _ t.o).mono ?_
 rintro e w3 (⟨rfl,a,u,z⟩|⟨rfl,a,H⟩)
 ·have⟨Z,A,j⟩:=Q3 u z a;clear u z a;go_wp2_with fail
  with_reducible refine(HP.o _ _).mono ?_
  rintro e w4 ⟨rfl,rfl⟩;go_wp2_with fail
  refine QqG (v:= .tuple #[I d,.nilIface]) (by simp[results,Tryz.results156,go_sem,Ig]) rfl (.inl ⟨rfl,j.o,Z.o,A.o⟩)
 ·have⟨B,j⟩:=Q2 H a;clear H a;go_wp2_with fail
  with_reducible refine(HP.o _ _).mono ?_
  rintro e w4 ⟨rfl,rfl⟩;go_wp2_with fail
  go_returns;exact(.inr ⟨rfl,j.o,B.o⟩)
end vo
namespace vo
open Go.RowKit Go.Maps er st tr nd pg
def Bg(n:Nand)(id sec a:Int):Bool:=decide ((Qj n a).2=0)&&decide ((Qj n a).1.kind=1)&&decide ((Qj n a).1.space=id)&&decide ((Qj n a).1.key=sec)&&(((Qj n a).1.body.size:Int)==32)
theorem Qd3{w:World}{l:List (ByteArray×Int)}{e:Int}{u:Value}(h:Cu w (λ_=>False) l e u)(c:e≠0):∃t y,u= .iface t y:=by
 rcases h with⟨h,_⟩|⟨_,a,ha,_⟩
 ·exact absurd h c
 ·match a,l,ha with
  |[],[],h=>exact⟨_,_,h⟩
  |b::a,s::l,h=>exact⟨_,_,h.1⟩
  |[],_::_,h=>exact h.elim
  |_::_,[],h=>exact h.elim
theorem Qys(w:World)(v:Nat)(c:Pt)(X:XL)(V:Vo)(id b a:Int)(h:VoIn w v c X V)(p:(V.s.n.read a).2.size<=70368744177664):
  C 199 #[(v,0),I id,I b,I a] w λe w'=>e= .returned (.bool (Bg V.s.n id b a))/\Below w w w':=by
 have c0:=h.obj.cell 0;simp[Qe]at c0;have j:=Q7h (Lp w _ _ _ _ _ _ a h.sto h.laid p);have f:Hid (Bg V.s.n id b a=(decide ((Qj V.s.n a).2=0)&&decide ((Qj V.s.n a).1.kind=1)&&decide ((Qj V.s.n a).1.space=id)&&decide ((Qj V.s.n a).1.key=b)&&(((Qj V.s.n a).1.body.size:Int)==32))):=rfl;obtain⟨⟨pg,z⟩,g⟩:∃F,Qj V.s.n a=F:=⟨_,rfl⟩;rw[g]at j f;simp only at j f;obtain⟨p0,p1,p2,q,r⟩:=pg;have l:Hid (Page.val ⟨p0,p1,p2,q,r⟩= .agg #[I p0,I p1,I p2,I q,.string r]):=rfl;simp only at f;rw[l.o]at j;obtain⟨R,x⟩:=Zx (Bg V.s.n id b a);rw[x]at f ⊢;clear h x g p;go_in
 go_wp2_with fail
 refine j.o.mono ?_;rintro e w1 ⟨u,rfl,i,k⟩;have d:=Q7h i;clear i;by_cases m:z=0
 ·obtain rfl:u= .nilIface:=k.elim (λh=>h.2) (λh=>absurd m h.1);clear k;go_wp2_with fail
  all_goals
   go_ret
   refine⟨?_,d.o.alloc d.o.size _⟩;rw[f.o];simp_all
 ·obtain⟨t,y,rfl⟩:=Qd3 k m;clear k;go_wp2_with fail
  all_goals
   go_ret
   refine⟨?_,d.o.alloc d.o.size _⟩;rw[f.o];simp[m]
def Yd(n:Nand)(id a:Int):Option (Int×ByteArray):=if(Qj n a).2=0/\(Qj n a).1.space=id then some ((Qj n a).1.kind,(Qj n a).1.body)else none
theorem Qjv(w:World)(v:Nat)(c:Pt)(X:XL)(V:Vo)(id a:Int)(b1 b2:Nat)(h:VoIn w v c X V)(h1:Whole w b1 24 #[(v,0)])(h2:Whole w b2 3 #[I id])(p:Int×ByteArray)(f:Yd V.s.n id a=some p)(r:(V.s.n.read a).2.size<=70368744177664):
  C 198 #[I a,(b1,0),(b2,0)] w λx w'=>x= .returned (.tuple #[I p.1,.string p.2,.nilIface])/\Below w w w':=by
 unfold Yd at f;split at f;case isFalse=>cases f
 rename_i b;injection f with f;subst f;have c0:=h.obj.cell 0;have y:=h1.cell 0;simp[Qe]at c0 y;have k:Hid (∀W,Below w w W->W.cell? (b2,0)=some (I id)):=λW hb=>Qq hb (h2.cell 0);have j:=Q7h (Lp w _ _ _ _ _ _ a h.sto h.laid r);obtain⟨⟨pg,F⟩,g⟩:∃z,Qj V.s.n a=z:=⟨_,rfl⟩;rw[g]at j b ⊢;simp only at j b ⊢;obtain⟨p0,p1,p2,l,m⟩:=pg;have q:Hid (Page.val ⟨p0,p1,p2,l,m⟩= .agg #[I p0,I p1,I p2,I l,.string m]):=rfl;simp only at b ⊢;rw[q.o]at j;obtain⟨rfl,rfl⟩:=b;clear h h1 h2 g r;go_in
 go_wp2_with fail
 refine j.o.mono ?_;rintro e w1 ⟨u,rfl,d,t⟩;have i:Hid (∀o,Below w w (w1.alloc o)):=λo=>d.alloc d.size o;clear d;obtain rfl:u= .nilIface:=t.elim (λh=>h.2) (λh=>absurd rfl h.1);clear t;have H:=k.o _ (i.o (.cells #[I p0,I p1,I p2,I l,.string m] 32));go_wp2_with fail
 go_quiet (fail)
 go_wp2_with fail
 go_returns;exact⟨rfl,below_drewN (i.o _) _⟩
theorem Qgg(w:World)(v:Nat)(id:Int):
  C 133 #[(v,0),I id] w λe w'=>e= .returned (.func (.func 198) #[] #[(w,0),(w.heap.size+1,0)])/\Whole w' w.heap.size 24 #[(v,0)]/\Whole w' (w.heap.size+1) 3 #[I id]/\Below w w w':=by
 go_in
 go_wp2_with fail
 go_ret
 exact⟨rfl,(Whole.new w _ _).alloc _,Whole.new' _ _ _ _ U,(B0.alloc N0 _).alloc U _⟩
def Q68(v:Nat)(c:Pt)(X:XL)(V:Vo)(id:Int)(b1 b2:Nat)(ht:∀a,(V.s.n.read a).2.size<=70368744177664):Gtr where
 g:=198
 lb:=#[.pointer (some ⟨b1,0,none⟩),.pointer (some ⟨b2,0,none⟩)]
 B:=Yd V.s.n id
 inv:=λW=>VoIn W v c X V/\Whole W b1 24 #[.pointer (some ⟨v,0,none⟩)]/\Whole W b2 3 #[I id]
 below:=λh hb=>⟨h.1.below hb,h.2.1.below hb h.2.1.lt,h.2.2.below hb h.2.2.lt⟩
 eg:=λ_ _=>J
 get:=λw a p h hp _ _=>Qjv w v c X V id a b1 b2 h.1 h.2.1 h.2.2 p hp (ht a)
def Gx(n:Nand)(id:Int)(e:Ext)(k:Nat):Bool:=(List.range k).all λ(i:Nat)=>Bg n id (e.fr+i) (e.at_+i)
def O9(n:Nand)(id size:Int)(e:Ext):Bool:=decide (e.end_<=size)&&(decide (e.kind≠2) || Gx n id e e.n.toNat)
def Z8(n:Nand)(id size:Int)(l:List Ext):Bool:=l.all (O9 n id size)
theorem Qy8(n:Nand)(id:Int)(e:Ext)(k:Nat):Gx n id e (k+1)=(Gx n id e k&&Bg n id (e.fr+k) (e.at_+k)):=by
 unfold Gx;rw[QyS,QgH];simp
theorem Mk(n:Nand)(id:Int)(e:Ext){k m:Nat}(h:Gx n id e m=true)(a:k<m):Bg n id (e.fr+k) (e.at_+k)=true:=by
 unfold Gx at h;exact QxK.1 h k (QuX.2 a)
theorem Qgu{n:Nand}{id size:Int}{l:List Ext}{j:Nat}{e:Ext}(h:l[j]? =some e):Z8 n id size (l.take (j+1))=(Z8 n id size (l.take j)&&O9 n id size e):=by
 unfold Z8;rw[QzW,h,QgH];simp
theorem Qau{n:Nand}{id size:Int}{l:List Ext}{e:Ext}(h:e∈l)(a:O9 n id size e=false):Z8 n id size l=false:=by
 cases hh:Z8 n id size l with
 |false=>rfl
 |true=>rw[QxK.1 hh e h]at a;cases a
theorem Qkt(w:World)(v:Nat)(c:Pt)(X:XL)(V:Vo)(id size top high:Int)(F:List Nat)(p:Nat)(T:Tree)(h:VoIn w v c X V)(ah:TrAt w F p T)(ai:T.Ok)(hc:Chk T.flat)(ay:I64 size)(ht:∀a,(V.s.n.read a).2.size<=70368744177664):
  C 134 #[(v,0),.agg #[I id,I size,I top,I high],(p,0)] w λe w'=>e= .returned (.bool (Z8 V.s.n id size T.flat))/\Below w w w':=by
 have HA:Hid (∀W,Below w w W->C 165 #[(p,0)] W λx w'=>∃v',x= .returned v'/\w'.ownsRow W.heap.size 255 4 v' T.flat.length (Qz T.flat)/\Below W W w'):=λW hb=>Qzl W F p T (TrAt.keep ah (Keep.below (F:=λ_=>False) hb) (λ_ _ h=>h)) ai hc;have aj:Hid (∀W s a,Below w w W->C 199 #[(v,0),I id,I s,I a] W λe w'=>e= .returned (.bool (Bg V.s.n id s a))/\Below W W w'):=λW s a hb=>Qys W v c X V id s a (h.below hb) (ht a);have H1:=Q7h hc.one;have Q:=Xi hc;obtain⟨l,hl⟩:=Zx T.flat
 rw[hl]at HA H1 Q ⊢;obtain⟨n,hn⟩:=Zx l.length;rw[hn]at HA Q;have HN:=Q7h hn;have aT:(n:Int)<=16777216:=O;obtain⟨G,hG⟩:=Zx V.s.n;rw[hG]at aj ⊢;obtain⟨R,hR⟩:=Zx (Z8 G id size l);have HR:=Q7h hR;rw[hR];unfold I64 at ay;clear h ah ai hc hl hn hG ht hR;obtain⟨bx,aV⟩:∃bx,bx=w.heap.size:=⟨_,rfl⟩;go_in
 go_wp2_with fail
 have L:Below w w (w.alloc (.cells #[I id,I size,I top,I high] 206)):=B0.alloc N0 _;have Z:=Whole.new w 206 #[I id,I size,I top,I high];refine(HA.o _ L).mono ?_;rintro e w1 ⟨v1,rfl,M,A⟩;have⟨m,B⟩:=Q2 (L.trans (A.mono L.size)) (Z.below A Z.lt);obtain⟨A1,d1,e1⟩:=Qk M;subst e1;have aW:=Q7h M;obtain⟨A',c',az,ak⟩:=(SlAt.exts (SlAt.own M)).1;injection az with e1 e2 e3;subst e1;have HC:=Q7h ak;clear M A L Z ak e2 e3;go_wp2_with fail
 go_loopw [8,9,13] (λ_ _ i wr=>∃j:Nat,j<=n/\i= I j/\Hid (Z8 G id size (l.take j)=true)/\Hid (Below w1 w1 wr)) (λ_ _ i _=>n-(intOf i).toNat)
 case atStart=>exact⟨0,QqM _,rfl,rfl,QqA _ _⟩
 case round=>
  obtain⟨j,hj,rfl,HH,HB⟩:=hrel;by_cases aF:j<n
  ·have aX:(j:Int)<(n:Int):=O;obtain⟨gr,og,rfl,u⟩:=HC.o (by rw[HN.o];omega);obtain⟨e,hf⟩:∃e,l[j]? =some e:=⟨_,QqC (by rw[HN.o];exact aF)⟩;obtain⟨c0,c1,c2,c3⟩:=(u j e hf).below HB.o;have HT:Hid (Z8 G id size (l.take (j+1))=O9 G id size e):=by
    show _=_;rw[Qgu hf,HH.o,Bool.true_and]
   have aa:Hid (O9 G id size e=false->R=false):=λhe=>by rw[<-HR.o];exact Qau (QqL hf) he
   have b:=H1.o e (QqL hf);obtain⟨N,hN⟩:∃N:Nat,e.n=(N:Int):=⟨e.n.toNat,by unfold Qb Yp at b;simp at b;omega⟩;have al:e.n.toNat=N:=O;have S:e.kind=2->0<=e.at_/\e.at_+N<=2048:=λK=>by unfold Qb at b;simp[K]at b;omega
   have am:0<=e.fr/\e.fr+N<=16777216:=by unfold Qb Yp at b;simp at b;omega
   have HE:Hid (O9 G id size e=(decide (e.fr+N<=size)&&(decide (e.kind≠2) || Gx G id e N))):=by
    show _=_;unfold O9 Ext.end_;rw[al,hN]
   have ab:Hid (∀q,Gx G id e (q+1)=(Gx G id e q&&Bg G id (e.fr+q) (e.at_+q))):=λq=>Qy8 G id e q;have ac:Hid (∀q,q<N->Bg G id (e.fr+q) (e.at_+q)=false->Gx G id e N=false):=λq hq hs=>by
    cases hh:Gx G id e N with
    |false=>rfl
    |true=>rw[Mk G id e hh hq]at hs;cases hs
   have an:Hid (Gx G id e 0=true):=rfl;obtain⟨rk,ao⟩:=Zx (Gx G id e);rw[ao]at HE ab ac an;obtain⟨ek,r⟩:=Zx (O9 G id size e);rw[r]at HE aa HT;obtain⟨f,en,k,t⟩:=e;simp only at c0 c1 c2 c3 hN S am HE ab ac;subst hN;clear hf u b ao al r;obtain⟨qb,aH⟩:=Zx wr.heap.size;obtain⟨y,ad⟩:∃y,y=wr.alloc (.cells #[I f,I (N:Int),I k,I t] 255):=⟨_,rfl⟩;have g:Hid (Whole y qb 255 #[I f,I (N:Int),I k,I t]/\Below w1 w1 y):=by
    show _/\_;rw[ad,<-aH];exact⟨Whole.new _ _ _,HB.o.alloc HB.o.size _⟩
   have ap:Hid (∀W,Below y y W->Whole W qb 255 #[I f,I (N:Int),I k,I t]/\Whole W w.heap.size 206 #[I id,I size,I top,I high]/\Below w w W):=λW hb=>⟨g.o.1.below hb g.o.1.lt,(B.o.below g.o.2 B.o.lt).below hb (QzB B.o.lt g.o.2.size),m.o.trans ((g.o.2.trans (hb.mono g.o.2.size)).mono m.o.size)⟩;have aK:Hid (∀W,Below y y W->Below w1 w1 W):=λW hb=>g.o.2.trans (hb.mono g.o.2.size);have s1:(wr.alloc (.cells #[I f,I (N:Int),I k,I t] 255)).cell? (w,1)=some (I size):=by
    rw[<-ad];exact(ap.o y B0).2.1.cell 1
   have d:n-(intOf (I ((j:Int)+1))).toNat<n-(intOf (I (j:Int))).toNat:=by simp[intOf];omega
   have aL:=Q7h d;clear d;obtain⟨aY,aZ⟩:=am;by_cases aA:size<f+N
   ·have r:ek=false:=by rw[HE.o,QyF O,Bool.false_and]
    have⟨ae,aM⟩:=Q2 (aa.o r) (m.o.trans ((HB.o.alloc HB.o.size (.cells #[I f,I (N:Int),I k,I t] 255)).mono m.o.size));go_wp2_with fail
    go_ret
    exact⟨by rw[ae.o];rfl,aM.o⟩
   ·have aB:f+N<=size:=O;go_wp2_with fail
    rw[<-ad];clear c0 c1 c2 c3 s1;go_loopw [9,27] (λ_ i wr=>∃q:Nat,q<=N/\i= I q/\Hid (k=2->rk q=true)/\Hid (Below y y wr)) (λ_ i _=>N-(intOf i).toNat)
    case atStart=>exact⟨0,QqM _,rfl,λ_=>an.o,QqA _ _⟩
    case round=>
     obtain⟨q,hq,rfl,HQ,z⟩:=hrel;by_cases aN:q<N
     ·have a0:(q:Int)<(N:Int):=O;have a4:(0:Int)<=(q:Int):=QkD _;obtain⟨X1,X2,Y⟩:=ap.o wr z.o;have x0:=X1.cell 0;have x2:=X1.cell 2;have x3:=X1.cell 3;have z0:=X2.cell 0;simp at x0 x2 x3 z0;have H:=Q7h Y;clear X1 X2 Y;have d:N-(intOf (I ((q:Int)+1))).toNat<N-(intOf (I (q:Int))).toNat:=by simp[intOf];omega
      by_cases K:k=2
      ·obtain⟨a5,a6⟩:=S K;have⟨aQ,aq,ar,au⟩:=Q4 (HQ.o K) (ab.o q) (ac.o q aN) HE;subst K;have av:=Q7h (aj.o wr (f+q) (t+q) H.o);obtain⟨sb,aw⟩:=Zx (Bg G id (f+q) (t+q));rw[aw]at aq ar av;clear aw;go_wp2_with fail
       with_reducible refine av.o.mono ?_
       rintro e w2 ⟨rfl,af⟩;have⟨ax,aR⟩:=Q2 (z.o.trans (af.mono z.o.size)) (H.o.trans (af.mono H.o.size));clear af;cases sb with
       |true=>
        go_wp2_with fail
        refine⟨⟨q+1,?_,?_,?_,ax.o⟩,d⟩
        ·omega
        ·go_num
        ·exact λ_=>by rw[aq.o,aQ.o];rfl
       |false=>
        have r:ek=false:=by rw[au.o,ar.o rfl];simp
        have ae:=Q7h (aa.o r);go_wp2_with fail
        go_ret
        exact⟨by rw[ae.o];rfl,aR.o⟩
      ·have a7:(k==2)=false:=by simpa using K
       go_wp2_with fail
       refine⟨⟨q+1,?_,?_,?_,z.o⟩,d⟩
       ·omega
       ·go_num
       ·exact λh=>absurd h K
     ·obtain rfl:q=N:=O;have aS:Hid (ek=true):=by
       show _=_;rw[HE.o,QxA O,Bool.true_and];by_cases K:k=2
       ·rw[HQ.o K,Bool.or_true]
       ·rw[QxA K,Bool.true_or]
      go_wp2_with fail
      refine⟨⟨j+1,?_,?_,?_,aK.o _ z.o⟩,aL.o⟩
      ·omega
      ·go_num
      ·show _=_;rw[HT.o,aS.o]
  ·obtain rfl:j=n:=O;have ag:l.take j=l:=by rw[<-HN.o];exact QzU
   rw[ag]at HH;go_wp2_with fail
   go_ret
   exact⟨by rw[<-HR.o,HH.o];rfl,m.o.trans (HB.o.mono m.o.size)⟩
end vo
namespace vo
open Go.RowKit Go.Maps er st tr
def Qo(X:XL)(id:Int)(T:Tree)(F:List Nat):XL:=X.map λy=>if y.1.id=id then({y.1 with tr:=T},{y.2 with F:=F})else y
theorem Fa:∀{X:XL},(X.Pairwise λa b=>a.1.id<b.1.id)->∀{a b:Sp×Bl},a∈X->b∈X->a.1.id=b.1.id->a=b
 |[],_,a,b,ha,_,_=>by simp at ha
 |z::r,hp,a,b,ha,hb,he=>by
  obtain⟨h1,h2⟩:=QzS.1 hp;rcases QqF.1 ha with f|d
  ·rcases QqF.1 hb with e|c
   ·rw[f,e]
   ·have:=h1 b c;rw[f]at he;omega
  ·rcases QqF.1 hb with e|c
   ·have:=h1 a d;rw[e]at he;omega
   ·exact Fa h2 d c he
theorem VoIn.up{w:World}{v:Nat}{c:Pt}{X:XL}{V:Vo}(h:VoIn w v c X V):X.Pairwise λa b=>a.1.id<b.1.id:=by
 have:=h.trs.2;unfold Z7 at this;exact(QjP.1 this).imp (λh=>h)
theorem Qaw(X:XL)(id:Int)(T:Tree)(F:List Nat):Zq (Qo X id T F)=Zq X:=by
 unfold Zq Qo;rw[QzR];refine QkF λy b=>?_;show((⟨((if y.1.id=id then({y.1 with tr:=T},{y.2 with F:=F})else y):Sp×Bl).1.id,((if y.1.id=id then({y.1 with tr:=T},{y.2 with F:=F})else y):Sp×Bl).1.size,((if y.1.id=id then({y.1 with tr:=T},{y.2 with F:=F})else y):Sp×Bl).1.used⟩:Acc),((if y.1.id=id then({y.1 with tr:=T},{y.2 with F:=F})else y):Sp×Bl).2.a)=_;by_cases h:y.1.id=id
 ·rw[QqH h]
 ·rw[QqE h]
theorem Lt(X:XL)(id:Int)(T:Tree)(F:List Nat):Z7 (Qo X id T F)=Z7 X:=by
 unfold Z7 Qo;rw[QzR];refine QkF λy a=>?_;show(((if y.1.id=id then({y.1 with tr:=T},{y.2 with F:=F})else y):Sp×Bl).1.id,((if y.1.id=id then({y.1 with tr:=T},{y.2 with F:=F})else y):Sp×Bl).2.p)=_;by_cases h:y.1.id=id
 ·rw[QqH h]
 ·rw[QqE h]
theorem Fv{X:XL}{id:Int}{T:Tree}{F:List Nat}{z:Sp×Bl}(h:z∈Qo X id T F):∃y∈X,(y.1.id=id/\z=({y.1 with tr:=T},{y.2 with F:=F}))\/(y.1.id≠id/\z=y):=by
 obtain⟨y,a,rfl⟩:=QqS.1 h;refine⟨y,a,?_⟩;by_cases h:y.1.id=id
 ·exact .inl ⟨h,by rw[QqH h]⟩
 ·exact .inr ⟨h,by rw[QqE h]⟩
theorem Qe4{w:World}{F:List Nat}{p:Nat}{T:Tree}(h:TrAt w F p T):F.Nodup:=h.fine.2.1
theorem VoIn.grown{w w3:World}{v:Nat}{c:Pt}{X:XL}{V:Vo}{x:Sp×Bl}{T:Tree}{F:List Nat}(h:VoIn w v c X V)(L:x∈X)(ht:TrAt w3 F x.2.p T)(s:Mv (λk=>k∈x.2.F) w (λk=>k∈F) w3)(af:T.Ok)(hc:Chk T.flat):
  VoIn w3 v c (Qo X x.1.id T F) (V.re (Qo X x.1.id T F)):=by
 have t:=h.up;have u:=h.nd;have S:∀k∈x.2.F,k∈Dl v c X:=λk d=>Lj L d;have hS:∀k,stF c k->¬k∈x.2.F:=λk hs e=>(h.far _ (S k e)).1 hs;have W:∀k∈x.2.F,k∈K6 X:=λk d=>QqX.2 ⟨x,L,by simp[d]⟩;have M:=h.lt;have h0:=h.laid.lt;have Y:=u;unfold Dl at u;simp only[QqP,QqF,QqJ,QuE]at u;obtain⟨⟨n1,n2,n3,n4,n5⟩,⟨n6,n7,n8,n9⟩,⟨an,ao,Z⟩,⟨ap,A⟩,ag⟩:=u;obtain⟨m1,m2,m3⟩:=QzP.1 ag;unfold K6 at m2;obtain⟨p1,p2⟩:=QgU.1 m2;have B:∀y∈X,¬y.2.a∈x.2.F:=by
  intro y f d;by_cases l:y.1.id=x.1.id
  ·obtain rfl:=Fa t f L l;exact(QqP.1 (p1 y f)).1 d
  ·obtain⟨i,hi,n⟩:=QxC L;obtain⟨j,hj,o⟩:=QxC f;have hp:=QkZ.1 p2;have ah:i≠j:=λe=>by subst e;exact l (by rw[<-n,<-o])
   rcases QyH i j with hl|hg
   ·have:=hp i j hi hj hl;rw[n,o]at this;exact this y.2.a (by simp[d]) y.2.a U rfl
   ·have:=hp j i hj hi O;rw[n,o]at this;exact this y.2.a U y.2.a (by simp[d]) rfl
 have ai:∀y∈X,y.1.id≠x.1.id->∀k∈y.2.F,¬k∈x.2.F:=by
  intro y f l k d aa;obtain⟨i,hi,n⟩:=QxC L;obtain⟨j,hj,o⟩:=QxC f;have hp:=QkZ.1 p2;have ah:i≠j:=λe=>by subst e;exact l (by rw[<-n,<-o])
  rcases QyH i j with hl|hg
  ·have:=hp i j hi hj hl;rw[n,o]at this;exact this k (by simp[aa]) k (by simp[d]) rfl
  ·have:=hp j i hj hi O;rw[n,o]at this;exact this k (by simp[d]) k (by simp[aa]) rfl
 have q:∀k,(k=v\/k=c.lb\/k=c.mb\/k=c.tb\/k∈Xt c.lv)->¬k∈x.2.F:=by
  intro k d e;have hb:=W k e;rcases d with rfl|rfl|rfl|rfl|d
  ·exact n5 hb
  ·exact n9 hb
  ·exact Z hb
  ·exact A hb
  ·exact m3 _ d _ hb rfl
 have aj:∀k∈F,k∈K6 X\/w.heap.size<=k:=λk d=>(s.sub k d).imp (W k) id;have K:∀k∈K6 (Qo X x.1.id T F),k∈K6 X\/w.heap.size<=k:=by
  intro k d;obtain⟨z,hz,d⟩:=QqX.1 d;obtain⟨y,f,⟨l,rfl⟩|⟨l,rfl⟩⟩:=Fv hz
  ·rcases QqF.1 d with rfl|d
   ·exact .inl (QqX.2 ⟨y,f,U⟩)
   ·exact aj k d
  ·exact .inl (QqX.2 ⟨z,f,d⟩)
 have N:∀k∈K6 X,k<w.heap.size:=λk d=>M k (.inr (by simp only[Dl,QqF,QqJ];exact .inr (.inr (.inr (.inr (.inr d))))));have ab:LedIn w3 c.lb c.mb V.cap (Zq (Qo X x.1.id T F)):=by
  rw[Qaw];refine h.led.keep s.keep (λk d=>?_);rcases d with rfl|rfl|⟨y,f,rfl⟩
  ·exact q _ (.inr (.inl rfl))
  ·exact q _ (.inr (.inr (.inl rfl)))
  ·obtain⟨z,hz,rfl⟩:=QqS.1 f;exact B z hz
 have ak:(K6 (Qo X x.1.id T F)).Nodup:=by
  unfold K6 Qo;rw[QjB];have Q:∀y∈X,∀k,k∈(((if y.1.id=x.1.id then({y.1 with tr:=T},{y.2 with F:=F})else y):Sp×Bl).2.a::((if y.1.id=x.1.id then({y.1 with tr:=T},{y.2 with F:=F})else y):Sp×Bl).2.F)->k∈y.2.a::y.2.F\/(y=x/\w.heap.size<=k):=by
   intro y f k d;by_cases l:y.1.id=x.1.id
   ·rw[QqH l]at d;obtain rfl:=Fa t f L l;rcases QqF.1 d with e|d
    ·exact .inl (by rw[e];simp)
    ·rcases s.sub k d with h1|h1
     ·exact .inl (QzA _ h1)
     ·exact .inr ⟨rfl,h1⟩
   ·rw[QqE l]at d;exact .inl d
  refine QgU.2 ⟨λy f=>?_,?_⟩
  ·by_cases l:y.1.id=x.1.id
   ·rw[QqH l];refine QqP.2 ⟨λd=>?_,Qe4 ht⟩;rcases s.sub _ d with h1|h1
    ·exact B y f h1
    ·have:=N y.2.a (QqX.2 ⟨y,f,U⟩);have aq:w.heap.size<=y.2.a:=h1;omega
   ·rw[QqE l];exact p1 y f
  ·refine List.Pairwise.imp_of_mem (R:=λa b=>(∀k∈a.2.a::a.2.F,∀m∈b.2.a::b.2.F,k≠m)/\a.1.id<b.1.id) (λ{a b} ha hb ac k d m ad e=>?_) (p2.and t);subst e;rcases Q a ha k d with h1|⟨h1,h2⟩
   ·rcases Q b hb k ad with h3|⟨h3,h4⟩
    ·exact ac.1 k h1 k h3 rfl
    ·have:=N k (QqX.2 ⟨a,ha,h1⟩);omega
   ·rcases Q b hb k ad with h3|⟨h3,h4⟩
    ·have:=N k (QqX.2 ⟨b,hb,h3⟩);omega
    ·have:=ac.2;rw[h1,h3]at this;omega
 refine⟨h.obj.keep s.keep (q _ (.inl rfl)),h.sto.keep s.keep hS,ab,by rw[Lt];exact h.trs.keep s.keep (q _ (.inr (.inr (.inr (.inl rfl))))),λz hz=>?_,Qa h.lst s.keep (λg hg=>q g (.inr (.inr (.inr (.inr (Uy.2 hg)))))),rfl,?_,λk d=>?_,h.zero,s.keep.cell h.laid (λe=>(h.far _ (S _ e)).2 rfl)⟩
 ·obtain⟨y,f,⟨l,rfl⟩|⟨l,rfl⟩⟩:=Fv hz
  ·obtain rfl:=Fa t f L l;exact⟨ht,af,hc⟩
  ·exact⟨TrAt.keep (h.tre z f).1 s.keep (ai z f l),(h.tre z f).2⟩
 ·have hd:∀k∈[v,c.lb,c.mb,c.tb]++Xt c.lv,∀m∈K6 (Qo X x.1.id T F),k≠m:=by
   intro k d m al e;subst e;have am:k∈Dl v c X:=by
    simp only[QqJ,QqF,QkU,QyA]at d;simp only[Dl,QqF,QqJ];rcases d with(d|d|d|d)|d
    ·exact .inl d
    ·exact .inr (.inl d)
    ·exact .inr (.inr (.inl d))
    ·exact .inr (.inr (.inr (.inl d)))
    ·exact .inr (.inr (.inr (.inr (.inl d))))
   have ar:=M k (.inr am);rcases K k al with h1|h1
   ·simp only[QqJ,QqF,QkU,QyA]at d;rcases d with(rfl|rfl|rfl|rfl)|d
    ·exact n5 h1
    ·exact n9 h1
    ·exact Z h1
    ·exact A h1
    ·exact m3 _ d _ h1 rfl
   ·omega
  have ae:([v,c.lb,c.mb,c.tb]++Xt c.lv).Nodup:=by
   have:(([v,c.lb,c.mb,c.tb]++Xt c.lv)++K6 X).Nodup:=Y;exact(QzP.1 this).1
  show(([v,c.lb,c.mb,c.tb]++Xt c.lv)++K6 (Qo X x.1.id T F)).Nodup;exact QzP.2 ⟨ae,ak,hd⟩
 ·have H:k∈Dl v c X\/w.heap.size<=k:=by
   have r:k∈([v,c.lb,c.mb,c.tb]++Xt c.lv)++K6 (Qo X x.1.id T F):=d;rcases QqJ.1 r with r|r
   ·exact .inl (show k∈([v,c.lb,c.mb,c.tb]++Xt c.lv)++K6 X from QqJ.2 (.inl r))
   ·exact(K k r).imp (λh1=>show k∈([v,c.lb,c.mb,c.tb]++Xt c.lv)++K6 X from QqJ.2 (.inr h1)) id
  rcases H with H|H
  ·exact h.far k H
  ·exact⟨λhs=>by have:=M k (.inl hs);omega,O⟩
theorem Q41 {v:Nat} {c:Pt} {X Y:XL} {n:Nat} (h:∀k∈K6 Y,k∈K6 X∨n≤k):∀k,vF v c Y k→vF v c X k∨n≤k:=by
 rintro k (b|b)
 ·exact .inl (.inl b)
 ·have a:k∈([v,c.lb,c.mb,c.tb]++Xt c.lv)++K6 Y:=b
  rcases List.mem_append.1 a with a|a
  ·exact .inl (.inr (show k∈([v,c.lb,c.mb,c.tb]++Xt c.lv)++K6 X from List.mem_append.2 (.inl a)))
  ·exact (h k a).imp (fun h1=>.inr (show k∈([v,c.lb,c.mb,c.tb]++Xt c.lv)++K6 X from List.mem_append.2 (.inr h1))) id
theorem Qfa{X:XL}{x:Sp×Bl}{T:Tree}{F:List Nat}{n:Nat}(h:X.Pairwise λa b=>a.1.id<b.1.id)(i:x∈X)(j:∀k∈F,k∈x.2.F\/n<=k):∀k∈K6 (Qo X x.1.id T F),k∈K6 X\/n<=k:=by
 intro k l;obtain⟨z,hz,c⟩:=QqX.1 l;obtain⟨y,g,⟨m,d⟩|⟨m,d⟩⟩:=Fv hz
 ·rw[d]at c;rcases QqF.1 c with e|f
  ·exact .inl (QqX.2 ⟨y,g,by rw[e];simp⟩)
  ·exact(j k f).imp (λh1=>QqX.2 ⟨x,i,by simp[h1]⟩) id
 ·rw[d]at c;exact .inl (QqX.2 ⟨y,g,c⟩)
theorem Cq{w b:World}{v:Nat}{c:Pt}{X:XL}{V:Vo}{x:Sp×Bl}{T:Tree}{F:List Nat}(h:VoIn w v c X V)(d:x∈X)(e:Mv (λk=>k∈x.2.F) w (λk=>k∈F) b):Mv (vF v c X) w (vF v c (Qo X x.1.id T F)) b:=
 ⟨e.keep.mono (λk _ a=>.inr (Lj d a)),Q41 (Qfa h.up d (λk a=>e.sub k a))⟩
theorem Nt{X:XL}{x:Sp×Bl}{T:Tree}{F:List Nat}(a:x∈X):(({x.1 with tr:=T},{x.2 with F:=F}):Sp×Bl)∈Qo X x.1.id T F:=QqS.2 ⟨x,a,by rw[QqH rfl]⟩
def Jv(X:XL)(id:Int)(T:Tree)(F:List Nat)(d:Int):XL:=Qt (Qo X id T F) id (-d)
theorem Qcm(w:World)(v:Nat)(c:Pt)(X:XL)(V:Vo)(x:Sp×Bl)(f n:Int)(h:VoIn w v c X V)(i:x∈X)(hs:Yp f n=true)(r:(Eb x.1.tr.flat f n).length<=10)(h0:0<=Zql x.1.tr.flat-Zql (x.1.tr.cut f n).flat)(h1:Zql x.1.tr.flat-Zql (x.1.tr.cut f n).flat<=x.1.used)(b:(x.1.tr.cut f n).Ok)(t:Chk (x.1.tr.cut f n).flat):
  C 80 #[(v,0),I x.1.id,I f,I n] w λe w'=>e= .returned (.tuple #[])/\∃F,VoIn w' v c (Jv X x.1.id (x.1.tr.cut f n) F (Zql x.1.tr.flat-Zql (x.1.tr.cut f n).flat)) (V.re (Jv X x.1.id (x.1.tr.cut f n) F (Zql x.1.tr.flat-Zql (x.1.tr.cut f n).flat)))/\Mv (vF v c X) w (vF v c (Jv X x.1.id (x.1.tr.cut f n) F (Zql x.1.tr.flat-Zql (x.1.tr.cut f n).flat))) w':=by
 have c2:=h.obj.cell 2;simp[Qe]at c2;obtain⟨t1,t2,t3⟩:=h.tre x i;have aa:=h.lookT i;have HC:=Q7h (I1 w x.2.F x.2.p x.1.tr t1 t2 t3);have HU:Hid (∀W,Below w w W->C 154 #[(x.2.p,0),I f,I n] W λy w'=>y= .returned (I 0)/\∃F,TrAt w' F x.2.p (x.1.tr.cut f n)/\VoIn w' v c (Qo X x.1.id (x.1.tr.cut f n) F) (V.re (Qo X x.1.id (x.1.tr.cut f n) F))/\Mv (vF v c X) w (vF v c (Qo X x.1.id (x.1.tr.cut f n) F)) w'):=by
  intro W hb;have m:=h.below hb;refine(Qt1 W x.2.F x.2.p x.1.tr f n (m.tre x i).1 t2 t3 hs r).mono ?_;rintro y w' ⟨rfl,F,u,hm⟩;exact⟨rfl,F,u,m.grown i u hm b t,(Mv.below hb).trans (Cq m i hm)⟩
 obtain⟨T',z⟩:=Zx (x.1.tr.cut f n);rw[z]at HU h0 h1 b t ⊢;have H:Hid (∀W F,TrAt W F x.2.p T'->C 107 #[(x.2.p,0)] W λy w'=>y= .returned (I (Zql T'.flat))/\Below W W w'):=λW F ht=>I1 W F x.2.p T' ht b t;have ab:=Ch t3;have ac:=Ch t;obtain⟨S,hS⟩:=Zx (Zql x.1.tr.flat);obtain⟨S',j⟩:=Zx (Zql T'.flat);rw[hS]at HC ab;rw[j]at H ac;rw[hS,j]at h0 h1 ⊢;have K:Hid (∀W F,VoIn W v c (Qo X x.1.id T' F) (V.re (Qo X x.1.id T' F))->Mv (vF v c X) w (vF v c (Qo X x.1.id T' F)) W->C 155 #[(c.lb,0),I x.1.id,I (S-S')] W λe w'=>e= .returned (I 0)/\VoIn w' v c (Jv X x.1.id T' F (S-S')) (V.re (Jv X x.1.id T' F (S-S')))/\Mv (vF v c X) w (vF v c (Jv X x.1.id T' F (S-S'))) w'):=by
  intro W F m hK;have k:=Nt (T:=T') (F:=F) i;refine(Qu5 W _ _ _ _ _ (S-S') m.led (Yx k) h0 h1).mono ?_;rintro e w' ⟨rfl,hl,hk⟩;have L:(λa:Acc=>({a with used:=a.used-(S-S')}:Acc))=λa=>{a with used:=a.used+ -(S-S')}:=by funext a;congr 1
  rw[L]at hl;have q:=VoIn.charged (d:= -(S-S')) m k hk hl;have q2:=Qx9 (v:=v) (c:=c) (f:=λs=>{s with used:=s.used+ -(S-S')}) k hk;exact⟨rfl,q,hK.trans q2⟩
 obtain⟨id,M⟩:=Zx x.1.id;rw[M]at aa HU K ⊢;clear h i hs r h0 h1 b t t1 t2 t3 z hS j M;go_in
 go_wp2_with fail
 with_reducible refine HC.o.mono ?_
 rintro e w1 ⟨rfl,g⟩;have ad:=Q7h (HU.o w1 g);clear g;go_wp2_with fail
 refine ad.o.mono ?_;rintro e w2 ⟨rfl,F,u,hV,hK⟩;have⟨ae,af,ag⟩:=Q3 u hV hK;have d1:=hV.obj.cell 1;have l:Hid (∀W,Below w2 w2 W->W.cell? (v,1)=some (c.lb,0)):=λW hb=>Qq hb d1;have N:Hid (∀W,Below w2 w2 W->C 107 #[(x.2.p,0)] W λy w'=>y= .returned (I S')/\Below w2 w2 w'):=λW hb=>(H.o W F (TrAt.keep ae.o (Keep.below (F:=λ_=>False) hb) (λ_ _ h=>h))).mono (λy w' ⟨h1,h2⟩=>⟨h1,hb.trans (h2.mono hb.size)⟩);have Q:Hid (∀W,Below w2 w2 W->C 155 #[(c.lb,0),I id,I (S-S')] W λe w'=>e= .returned (I 0)/\w'.cell? (v,1)=some (c.lb,0)/\VoIn w' v c (Jv X id T' F (S-S')) (V.re (Jv X id T' F (S-S')))/\Mv (vF v c X) w (vF v c (Jv X id T' F (S-S'))) w'):=λW hb=>(K.o W F (af.o.below hb) (ag.o.trans (Mv.below hb))).mono (λe w' ⟨h1,h2,h3⟩=>⟨h1,h2.obj.cell 1,h2,h3⟩);clear u hV hK;go_wp2_with fail
 have ak:IntKind.i64.wrap (S-S')=S-S':=by rw[QqN];omega
 go_region_held3 (λw'=>w'.cell? (v,1)=some (c.lb,0)) (first|with_reducible exact ah.o|with_reducible exact l.o _ R.o|with_reducible exact l.o _ B0|with_reducible exact l.o _ B0.drew) (first|(go_at_call 107;refine(N.o _ B0.drew).mono ?_;rintro e w3 ⟨rfl,Y⟩;have R:=Q7h Y;clear Y)|(go_at_call 155;refine(Q.o _ R.o).mono ?_;rintro e w4 ⟨rfl,Z,A,B⟩;have⟨ah,ai,aj⟩:=Q3 Z A B;clear Z A B))
 go_wp2_with fail
 go_end0
 exact⟨rfl,F,ai.o,aj.o⟩
def Ca(X:XL)(x:Sp×Bl)(y:Ext)(F:List Nat)(d:Int):XL:=Qo (Qt X x.1.id d) x.1.id (x.1.tr.over y) F
def Qyz(w:World)(v:Nat)(c:Pt)(X:XL)(V:Vo)(x:Sp×Bl)(y:Ext)(d:Int)(e:Ending)(w':World):Prop:=
 (e= .returned .nilIface/\d<=V.cap-tot (Zd (Zq X))/\∃F,VoIn w' v c (Ca X x y F d) (V.re (Ca X x y F d))/\Mv (vF v c X) w (vF v c (Ca X x y F d)) w')\/
 (e= .returned (.iface 28 (I 71))/\V.cap-tot (Zd (Zq X))<d/\Below w w w')
theorem Y5{X:XL}{x:Sp×Bl}{d:Int}(a:x∈X):(({x.1 with used:=x.1.used+d},x.2):Sp×Bl)∈Qt X x.1.id d:=QqS.2 ⟨x,a,by rw[QqH rfl]⟩
theorem Qty(w:World)(v:Nat)(c:Pt)(X:XL)(V:Vo)(x:Sp×Bl)(f n:Int)(h:VoIn w v c X V)(k:x∈X)(A:0<=f)(h1:1<=n)(h2:f+n<=x.1.size)(a:Qp x.1.tr f n<=V.cap-tot (Zd (Zq X))->(Gw x.1.tr.flat ⟨f,n,1,0⟩).length<=10/\(x.1.tr.over ⟨f,n,1,0⟩).Ok/\Chk (x.1.tr.over ⟨f,n,1,0⟩).flat):
  C 83 #[(v,0),I x.1.id,I f,I n] w (Qyz w v c X V x ⟨f,n,1,0⟩ (Qp x.1.tr f n)):=by
 have ha:=h.acc k;have HW:Hid (C 74 #[(v,0),I x.1.id,I f,I n,.bool true] w λe w'=>e= .returned .nilIface/\Below w w w'):=by
  have:=Kj w v c X V x f n true h k (by unfold I64;omega) (by unfold I64;omega);rw[show Gt x.1.size f n true=0 by unfold Gt;rw[QqE (by simp;omega),QqE O]]at this;exact this
 have m:Hid (∀W,Below w w W->C 156 #[(v,0),I x.1.id,I f,I n] W λe w'=>(e= .returned (.tuple #[I (Qp x.1.tr f n),.nilIface])/\Qp x.1.tr f n<=V.cap-tot (Zd (Zq X))/\VoIn w' v c (Qt X x.1.id (Qp x.1.tr f n)) (V.re (Qt X x.1.id (Qp x.1.tr f n)))/\Mv (vF v c X) w (vF v c (Qt X x.1.id (Qp x.1.tr f n))) w')\/(e= .returned (.tuple #[I (Qp x.1.tr f n),.iface 28 (I 71)])/\V.cap-tot (Zd (Zq X))<Qp x.1.tr f n/\Below w w w')):=λW hb=>(Nu W v c X V x f n (h.below hb) k A h1 O).mono (λe w' hq=>by
  rcases hq with⟨q1,i,H,q4⟩|⟨q1,i,H⟩
  ·exact .inl ⟨q1,i,H,(Mv.below hb).trans q4⟩
  ·exact .inr ⟨q1,i,hb.trans (H.mono hb.size)⟩)
 obtain⟨d,B⟩:=Zx (Qp x.1.tr f n);rw[B]at m a ⊢;have r:Hid (∀W,d<=V.cap-tot (Zd (Zq X))->VoIn W v c (Qt X x.1.id d) (V.re (Qt X x.1.id d))->Mv (vF v c X) w (vF v c (Qt X x.1.id d)) W->C 158 #[(x.2.p,0),.agg #[I f,I n,I 1,I 0]] W λe w'=>e= .returned (I 0)/\Qyz w v c X V x ⟨f,n,1,0⟩ d (.returned .nilIface) w'):=by
  intro W b l z;obtain⟨a,K,hc⟩:=a b;have j:=Y5 (d:=d) k;obtain⟨t1,t2,t3⟩:=l.tre _ j;refine(Eh W x.2.F x.2.p x.1.tr ⟨f,n,1,0⟩ t1 t2 t3 (by unfold Qb Yp;simp;omega) a).mono ?_;rintro e w' ⟨rfl,F,hF,hm⟩;have q:=VoIn.grown l j hF hm K hc;have i:=Cq (T:=x.1.tr.over ⟨f,n,1,0⟩) l j hm;exact⟨rfl,.inl ⟨rfl,b,F,q,z.trans i⟩⟩
 have L:Hid (∀W,VoIn W v c (Qt X x.1.id d) (V.re (Qt X x.1.id d))->(Instr.lookup 113 (.map (some c.tb)) (I x.1.id) false).run Tryz.prog W= .ok (x.2.p,0) W/\W.cell? (v,2)=some (.map (some c.tb))):=λW l=>by
  have q:=VoIn.lookT l (Y5 (d:=d) k);exact⟨q,l.obj.cell 2⟩
 have s:Hid (∀w',V.cap-tot (Zd (Zq X))<d->Below w w w'->Qyz w v c X V x ⟨f,n,1,0⟩ d (.returned (.iface 28 (I 71))) w'):=λw' q1 i=>.inr ⟨rfl,q1,i⟩;obtain⟨P,hP⟩:=Zx (Qyz w v c X V x ⟨f,n,1,0⟩ d);rw[hP]at r s ⊢;have M:Hid (∀W,C 69 #[I 0] W λx w'=>x= .returned .nilIface/\W=w'):=λW=>Jj 0 W;clear h k A h1 h2 a hP B ha;go_in
 go_wp2_with fail
 with_reducible refine HW.o.mono ?_
 rintro e w1 ⟨rfl,t⟩;have N:=Q7h (m.o w1 t);clear t;go_wp2_with fail
 refine N.o.mono ?_;rintro e w2 (⟨rfl,b,Q,z⟩|⟨rfl,g,u⟩)
 ·obtain⟨R,c2⟩:=L.o w2 Q;have S:=Q7h (r.o w2 b Q z);clear Q z b;go_wp2_with fail
  refine S.o.mono ?_;rintro e w3 ⟨rfl,y⟩;have Y:=Q7h y;clear y R c2;go_wp2_with fail
  with_reducible refine(M.o _).mono ?_
  rintro e w4 ⟨rfl,rfl⟩;go_wp2_with fail
  exact Y.o
 ·have Z:=Q7h (s.o w2 g u);clear g u;go_wp2_with fail
  exact Z.o
def Vo.unsure(V:Vo):Vo:={V with sure:=false}
theorem Qtl(w:World)(v:Nat)(c:Pt)(X:XL)(V:Vo)(x:Sp×Bl)(f n:Int)(h:VoIn w v c X V)(t:x∈X)(R:0<=f)(h1:1<=n)(h2:f+n<=x.1.size)(b:(Eb x.1.tr.flat f n).length<=10)(g:0<=Zql x.1.tr.flat-Zql (x.1.tr.cut f n).flat)(i:Zql x.1.tr.flat-Zql (x.1.tr.cut f n).flat<=x.1.used)(j:(x.1.tr.cut f n).Ok)(K:Chk (x.1.tr.cut f n).flat)
  (a:∀F d,Gb (Jv X x.1.id (x.1.tr.cut f n) F d) (V.re (Jv X x.1.id (x.1.tr.cut f n) F d))):
  C 30 #[(v,0),I x.1.id,I f,I n] w λe w'=>e= .returned .nilIface/\∃F,VoIn w' v c (Jv X x.1.id (x.1.tr.cut f n) F (Zql x.1.tr.flat-Zql (x.1.tr.cut f n).flat)) ((V.re (Jv X x.1.id (x.1.tr.cut f n) F (Zql x.1.tr.flat-Zql (x.1.tr.cut f n).flat))).unsure.kept (Jv X x.1.id (x.1.tr.cut f n) F (Zql x.1.tr.flat-Zql (x.1.tr.cut f n).flat)))/\Mv (vF v c X) w (vF v c (Jv X x.1.id (x.1.tr.cut f n) F (Zql x.1.tr.flat-Zql (x.1.tr.cut f n).flat))) w':=by
 have ha:=h.acc t;have L:Hid (C 74 #[(v,0),I x.1.id,I f,I n,.bool true] w λe w'=>e= .returned .nilIface/\Below w w w'):=by
  have:=Kj w v c X V x f n true h t (by unfold I64;omega) (by unfold I64;omega);rw[show Gt x.1.size f n true=0 by unfold Gt;rw[QqE (by simp;omega),QqE O]]at this;exact this
 have u:Hid (∀W,Below w w W->C 80 #[(v,0),I x.1.id,I f,I n] W λe w'=>e= .returned (.tuple #[])/\∃F,VoIn w' v c (Jv X x.1.id (x.1.tr.cut f n) F (Zql x.1.tr.flat-Zql (x.1.tr.cut f n).flat)) (V.re (Jv X x.1.id (x.1.tr.cut f n) F (Zql x.1.tr.flat-Zql (x.1.tr.cut f n).flat)))/\Mv (vF v c X) w (vF v c (Jv X x.1.id (x.1.tr.cut f n) F (Zql x.1.tr.flat-Zql (x.1.tr.cut f n).flat))) w'):=λW hb=>(Qcm W v c X V x f n (h.below hb) t (by unfold Yp;simp;omega) b g i j K).mono (λe w' ⟨q1,F,S,T⟩=>⟨q1,F,S,(Mv.below hb).trans T⟩);obtain⟨d,M⟩:=Zx (Zql x.1.tr.flat-Zql (x.1.tr.cut f n).flat);rw[M]at u ⊢;obtain⟨T',l⟩:=Zx (x.1.tr.cut f n);rw[l]at u a ⊢;have m:=Q7h a;obtain⟨id,p⟩:=Zx x.1.id;rw[p]at L u m ⊢;clear h t R h1 h2 b g i j K a ha M l p;go_in
 go_wp2_with fail
 with_reducible refine L.o.mono ?_
 rintro e w1 ⟨rfl,q⟩;have y:=Q7h (u.o w1 q);clear q;go_wp2_with fail
 refine y.o.mono ?_;rintro e w2 ⟨rfl,F,N,Q⟩;have⟨Y,Z⟩:=Q2 Q (Nz w2 v c _ _ ⟨#[116,114,105,109]⟩ id N (m.o F d));clear N Q;go_wp2_with fail
 with_reducible refine Z.o.mono ?_
 rintro e B ⟨rfl,r,s⟩;have⟨z,H⟩:=Q2 r s;clear r s;go_wp2_with fail
 go_ret
 exact⟨rfl,F,z.o,Y.o.trans ⟨H.o,λk A=>.inl A⟩⟩
theorem Qrk(w:World)(v:Nat)(c:Pt)(X:XL)(V:Vo)(x:Sp×Bl)(f n:Int)(h:VoIn w v c X V)(u:x∈X)(z:0<=f)(h1:1<=n)(h2:f+n<=x.1.size)(g:Qp x.1.tr f n<=V.cap-tot (Zd (Zq X))->(Gw x.1.tr.flat ⟨f,n,1,0⟩).length<=10/\(x.1.tr.over ⟨f,n,1,0⟩).Ok/\Chk (x.1.tr.over ⟨f,n,1,0⟩).flat)
  (b:Qp x.1.tr f n<=V.cap-tot (Zd (Zq X))->∀F,Gb (Ca X x ⟨f,n,1,0⟩ F (Qp x.1.tr f n)) (V.re (Ca X x ⟨f,n,1,0⟩ F (Qp x.1.tr f n)))):
  C 29 #[(v,0),I x.1.id,I f,I n] w λe w'=>
   (e= .returned .nilIface/\∃F,VoIn w' v c (Ca X x ⟨f,n,1,0⟩ F (Qp x.1.tr f n)) ((V.re (Ca X x ⟨f,n,1,0⟩ F (Qp x.1.tr f n))).unsure.kept (Ca X x ⟨f,n,1,0⟩ F (Qp x.1.tr f n)))/\Mv (vF v c X) w (vF v c (Ca X x ⟨f,n,1,0⟩ F (Qp x.1.tr f n))) w')\/
   (V.cap-tot (Zd (Zq X))<Qp x.1.tr f n/\Ib w ⟨#[122,101,114,111]⟩ x.1.id 71 e w'):=by
 have r:=Q7h (Qty w v c X V x f n h u z h1 h2 g);obtain⟨d,H⟩:=Zx (Qp x.1.tr f n);rw[H]at r b ⊢;have i:=Q7h b;obtain⟨y,K⟩:∃y:Ext,⟨f,n,1,0⟩=y:=⟨_,rfl⟩;rw[K]at r i ⊢;obtain⟨id,j⟩:=Zx x.1.id;rw[j]at r ⊢;clear h u z h1 h2 g b H K j;go_in
 go_wp2_with fail
 with_reducible refine r.o.mono ?_
 rintro e w1 (⟨rfl,l,F,L,M⟩|⟨rfl,a,m⟩)
 ·have⟨Q,R⟩:=Q2 (Nz w1 v c _ _ ⟨#[122,101,114,111]⟩ id L (i.o l F)) M;clear L M l;go_wp2_with fail
  with_reducible refine Q.o.mono ?_
  rintro e S ⟨rfl,p,q⟩;have⟨s,t⟩:=Q2 p q;clear p q;go_wp2_with fail
  go_ret
  exact .inl ⟨rfl,F,s.o,R.o.trans ⟨t.o,λk T=>.inl T⟩⟩
 ·have⟨W,N⟩:=Q2 a m;clear a m;go_wp2_with fail
  with_reducible refine(C8 _ _ _ _ _ _).mono ?_
  rintro e S ⟨rfl,rfl⟩;go_wp2_with fail
  go_ret
  exact .inr ⟨W.o,_,rfl,Whole.new _ _ _,N.o.alloc N.o.size _⟩
def Um(X:XL)(id n:Int):XL:=Gf X id λs=>{s with size:=n}
theorem Qtk(X:XL)(id n:Int):Zq (Um X id n)=Y1 (Zq X) id λa=>{a with size:=n}:=by
 unfold Zq Um Gf Y1;rw[QzR,QzR];refine QkF λy b=>?_;show _=if y.1.id=id then _ else _;by_cases h:y.1.id=id
 ·simp[h]
 ·simp[h]
theorem Qtg{X:XL}{x:Sp×Bl}{n:Int}(a:x∈X):(({x.1 with size:=n},x.2):Sp×Bl)∈Um X x.1.id n:=QqS.2 ⟨x,a,by rw[QqH rfl]⟩
theorem Qf3(w:World)(v:Nat)(c:Pt)(X:XL)(V:Vo)(x:Sp×Bl)(n:Int)(h:VoIn w v c X V)(b:x∈X)(Q:0<=n/\n<=16777216)(f:(Eb x.1.tr.flat n (16777216-n)).length<=10)(g:0<=Zql x.1.tr.flat-Zql (x.1.tr.cut n (16777216-n)).flat)(i:Zql x.1.tr.flat-Zql (x.1.tr.cut n (16777216-n)).flat<=x.1.used)(j:(x.1.tr.cut n (16777216-n)).Ok)(R:Chk (x.1.tr.cut n (16777216-n)).flat)
  (l:∀F d,Gb (Jv (Um X x.1.id n) x.1.id (x.1.tr.cut n (16777216-n)) F d) (V.re (Jv (Um X x.1.id n) x.1.id (x.1.tr.cut n (16777216-n)) F d))):
  C 26 #[(v,0),I x.1.id,I n] w λe w'=>e= .returned .nilIface/\∃F d,d=Zql x.1.tr.flat-Zql (x.1.tr.cut n (16777216-n)).flat/\VoIn w' v c (Jv (Um X x.1.id n) x.1.id (x.1.tr.cut n (16777216-n)) F d) ((V.re (Jv (Um X x.1.id n) x.1.id (x.1.tr.cut n (16777216-n)) F d)).unsure.kept (Jv (Um X x.1.id n) x.1.id (x.1.tr.cut n (16777216-n)) F d))/\Mv (vF v c X) w (vF v c (Jv (Um X x.1.id n) x.1.id (x.1.tr.cut n (16777216-n)) F d)) w':=by
 have Z:=Cg v;have c1:=h.obj.cell 1;simp[Qe]at c1;have S:Hid (C 79 #[(c.lb,0),I x.1.id,I n] w λe w'=>e= .returned (I 0)/\VoIn w' v c (Um X x.1.id n) (V.re (Um X x.1.id n))/\Mv (vF v c X) w (vF v c (Um X x.1.id n)) w'):=by
  refine(Qh3 w _ _ _ _ _ n h.led (Yx b) Q).mono ?_;rintro e w' ⟨rfl,A,y⟩;exact⟨rfl,VoIn.acct (λ_=>rfl) (λ_=>rfl) (Qtk X x.1.id n) h b y A,Qx9 b y⟩
 have z:Hid (∀W,VoIn W v c (Um X x.1.id n) (V.re (Um X x.1.id n))->Mv (vF v c X) w (vF v c (Um X x.1.id n)) W->C 80 #[(v,0),I x.1.id,I n,I (16777216-n)] W λe w'=>e= .returned (.tuple #[])/\∃F d,d=Zql x.1.tr.flat-Zql (x.1.tr.cut n (16777216-n)).flat/\VoIn w' v c (Jv (Um X x.1.id n) x.1.id (x.1.tr.cut n (16777216-n)) F d) (V.re (Jv (Um X x.1.id n) x.1.id (x.1.tr.cut n (16777216-n)) F d))/\Mv (vF v c X) w (vF v c (Jv (Um X x.1.id n) x.1.id (x.1.tr.cut n (16777216-n)) F d)) w'):=by
  intro W B H;have q:=Qcm W v c _ _ _ n (16777216-n) B (Qtg (n:=n) b) (by unfold Yp;simp;omega) f g i j R;exact q.mono (λe w' ⟨q1,F,q2,q3⟩=>⟨q1,F,_,rfl,q2,H.trans q3⟩)
 have a:=Q7h l;obtain⟨D,T⟩:=Zx (Zql x.1.tr.flat-Zql (x.1.tr.cut n (16777216-n)).flat);rw[T]at z ⊢;obtain⟨T',m⟩:=Zx (x.1.tr.cut n (16777216-n));rw[m]at z a ⊢;obtain⟨id,p⟩:=Zx x.1.id;rw[p]at S z a ⊢;obtain⟨aa,ab⟩:=Q;clear h b f g i j R l T m p;go_in
 go_wp2_with fail
 with_reducible refine S.o.mono ?_
 rintro e w1 ⟨rfl,r,s⟩;have K:=Q7h (z.o w1 r s);clear r s;go_wp2_with fail
 refine K.o.mono ?_;rintro e w2 ⟨rfl,F,d,rfl,Y,H⟩;have⟨HM,HD⟩:=Q2 H (Nz w2 v c _ _ ⟨#[114,101,115,105,122,101]⟩ id Y (a.o F _));have L:Hid (∀W,C 69 #[I 0] W λx w'=>x= .returned .nilIface/\W=w'):=λW=>Jj 0 W;clear Y H;go_wp2_with fail
 with_reducible refine(L.o _).mono ?_
 rintro e w3 ⟨rfl,rfl⟩;go_wp2_with fail
 with_reducible refine HD.o.mono ?_
 rintro e w3 ⟨rfl,t,u⟩;have⟨M,N⟩:=Q2 t u;clear t u;go_wp2_with fail
 go_ret
 exact⟨rfl,F,_,rfl,M.o,HM.o.trans ⟨N.o,λk y=>.inl y⟩⟩
theorem Q05(X:XL)(id:Int):Zq (Ul X id)=Qzt (Zq X) id:=by
 simp[Zq,Ul,Qzt,QxF,QyP]
theorem Q0r(X:XL)(id:Int):(K6 (Ul X id)).Sublist (K6 X):=by
 unfold K6 Ul;induction X with
 |nil=>simp
 |cons x r ih=>
  by_cases h:x.1.id=id
  ·rw[QjH (by simp[h])];exact ih.trans (List.sublist_append_right _ _)
  ·rw[QxN (by simp[h])];exact List.Sublist.append (List.Sublist.refl _) ih
theorem Qln(v:Nat)(c:Pt)(X:XL)(id:Int):(Dl v c (Ul X id)).Sublist (Dl v c X):=
 show(([v,c.lb,c.mb,c.tb]++Xt c.lv)++K6 (Ul X id)).Sublist (([v,c.lb,c.mb,c.tb]++Xt c.lv)++K6 X)from List.Sublist.append (List.Sublist.refl _) (Q0r X id)
theorem VoIn.deleted{w i:World}{v:Nat}{c:Pt}{X:XL}{V:Vo}{id:Int}(h:VoIn w v c X V)(a:Keep (λk=>k=c.mb\/k=c.tb) w i)(p:LedIn i c.lb c.mb V.cap (Qzt (Zq X) id))(q:MapAt i c.tb (Vb (Z7 X) id)):VoIn i v c (Ul X id) (V.re (Ul X id)):=by
 have d:=h.nd;have r:∀k,stF c k->¬(k=c.mb\/k=c.tb):=λk o e=>by
  rcases e with rfl|rfl
  ·exact(h.far c.mb (by simp[Dl])).1 o
  ·exact(h.far c.tb (by simp[Dl])).1 o
 have b:∀k∈v::(Xt c.lv++K6 X),¬(k=c.mb\/k=c.tb):=λk a e=>by
  unfold Dl at d;simp only[QqP,QqF,QqJ,QuE]at d;obtain⟨⟨n1,n2,s,H,K⟩,⟨n6,n7,L,M⟩,⟨t,j,l⟩,⟨m,n⟩,u⟩:=d;simp only[QqF,QqJ]at a;rcases e with rfl|rfl
  ·rcases a with e|a|a
   ·exact n2 e.symm
   ·exact j a
   ·exact l a
  ·rcases a with e|a|a
   ·exact s e.symm
   ·exact m a
   ·exact n a
 refine⟨h.obj.keep a (b _ U),h.sto.keep a r,by rw[Q05];exact p,by rw[<-F7];exact q,λx y=>?_,Qa h.lst a (λg z=>b g ?_),rfl,(Qln v c X id).nodup h.nd,λk a=>h.far k ((Qln v c X id).subset a),h.zero,a.cell h.laid (λe=>?_)⟩
 ·have f:=(QzZ.1 y).1;refine⟨TrAt.keep (h.tre x f).1 a (λk F=>b k ?_),(h.tre x f).2⟩;simp only[QqF,QqJ];exact .inr (.inr (QqX.2 ⟨x,f,by simp[F]⟩))
 ·simp only[QqF,QqJ];exact .inr (.inl (Uy.2 z))
 ·rcases e with e|e
  ·exact(h.far c.mb (by simp[Dl])).2 e.symm
  ·exact(h.far c.tb (by simp[Dl])).2 e.symm
theorem Qf4(w:World)(v:Nat)(c:Pt)(X:XL)(V:Vo)(x:Sp×Bl)(h:VoIn w v c X V)(F:x∈X)(u:Gb X V):
  C 27 #[(v,0),I x.1.id] w λe w'=>e= .returned .nilIface/\VoIn w' v c (Ul X x.1.id) ((V.re (Ul X x.1.id)).unsure.kept (Ul X x.1.id))/\Mv (vF v c X) w (vF v c (Ul X x.1.id)) w':=by
 have A:=Cg v;have c1:=h.obj.cell 1;have c2:=h.obj.cell 2;simp[Qe]at c1 c2;have hi:=h.acc F;have g:I64 x.1.id:=by unfold I64;omega
 have b:=h.nd;unfold Dl at b;simp only[QqP,QqF,QqJ,QuE]at b;have K:v≠c.mb:=b.1.2.1;have i:c.mb≠c.tb:=b.2.2.1.1;have j:c.lb≠c.tb:=b.2.1.2.1;have L:c.tb∉K6 X:=b.2.2.2.1.2;have⟨Z,H⟩:=Q2 (Qsx w _ _ _ _ _ h.led (Yx F)) h;have l:Hid (∀M:Vo,M.last=V.last->Gb (Ul X x.1.id) M):=λM B=>⟨⟨QqR (QkE _ _) u.1.1,λz hz=>u.1.2 z (QzZ.1 hz).1⟩,by rw[B];exact u.2⟩;have N:Hid (∀W,C 69 #[I 0] W λx w'=>x= .returned .nilIface/\W=w'):=λW=>Jj 0 W;obtain⟨id,m⟩:=Zx x.1.id;obtain⟨us,n⟩:=Zx x.1.used;simp only[m,n]at Z l g ⊢;clear h u b F hi m n;go_in
 go_wp2_with fail
 with_reducible refine Z.o.mono ?_
 rintro e w1 ⟨rfl,p,d⟩;have d2:w1.cell? (v,2)=some (.map (some c.tb)):=d.cell c2 K;obtain⟨Q,aa,q,f,_⟩:=(H.o.trs.keep d (λe=>i e.symm)).drop Tryz.underlying113 g 0;have R:Hid (VoIn Q v c (Ul X id) (V.re (Ul X id))):=by
  refine H.o.deleted ((d.mono (G:=λk=>k=c.mb\/k=c.tb) (λk _ e=>.inl e)).trans f (λk e=>.inl (.inr e))) (p.keep f (λk r e=>?_)) q;subst e;rcases r with e|e|⟨y,hy,e⟩
  ·exact j e.symm
  ·exact i e.symm
  ·have S:=(QzZ.1 hy).1;obtain⟨z,hz,rfl⟩:=QqS.1 S;have e':z.2.a=c.tb:=e;exact L (QqX.2 ⟨z,hz,by rw[e'];simp⟩)
 have HM:Hid (Mv (vF v c X) w (vF v c (Ul X id)) Q):=⟨(d.mono (G:=vF v c X) (λk _ e=>.inr (by subst e;simp[Dl]))).trans f (λk e=>.inl (.inr (by subst e;simp[Dl]))),λk r=>.inl (r.imp (λh=>h) λh=>(Qln v c X id).subset h)⟩;have HD:=Q7h (Nz Q v c _ _ ⟨#[100,101,108,101,116,101]⟩ id R.o (l.o _ rfl));clear p d q f;go_wp2_with fail
 with_reducible refine(N.o _).mono ?_
 rintro e w4 ⟨rfl,rfl⟩;go_wp2_with fail
 with_reducible refine HD.o.mono ?_
 rintro e w5 ⟨rfl,s,t⟩;have⟨T,Y⟩:=Q2 s t;clear s t;go_wp2_with fail
 go_ret
 exact⟨rfl,T.o,HM.o.trans ⟨Y.o,λk r=>.inl r⟩⟩
end vo
end Go.Proofs.YtfialjmemcobjaaGreatDoor
