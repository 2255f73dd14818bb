/- A part of the proof. -/
import Derived.Test.YtfialjmemcobjaaGreatDoorPbFwB
import Derived.Test.YtfialjmemcobjaaGreatDoorPbYvC
set_option maxRecDepth 100000
set_option maxHeartbeats 16000000
set_option linter.unusedVariables false
set_option linter.unusedSimpArgs false
namespace Go.Proofs.YtfialjmemcobjaaGreatDoor
namespace tr
open Go.RowKit er
abbrev byL(l:List UInt8):ByteArray:=⟨l.toArray⟩
theorem Q98{l:List UInt8}{i:Nat}{x:UInt8}(h:l[i]? =some x):Za (byL l) i=(x.toNat:Int):=by
 obtain⟨hi,rfl⟩:=QqD.1 h;have a:i<(byL l).size:=by show i<l.toArray.size;simpa using hi
 unfold Za;rw[dif_pos a];show((l.toArray[i]'(by simpa using hi)).toNat:Int)=_;simp
theorem Zqk{P R:List UInt8}{k:Nat}{n:Int}(a:0<=n)(h1:n<256^k)(b:k<=6):leN (byL (P++((bytesOf k n).map λx=>UInt8.ofNat x.toNat)++R)) P.length k=n:=by
 refine Br _ _ _ _ a h1 O λi hi=>?_;have e:(P++((bytesOf k n).map λx=>UInt8.ofNat x.toNat)++R)[P.length+i]? =some (UInt8.ofNat (n/256^i%256).toNat):=by
  rw[QqU,QzH O,QiB,QzM (by simp[bytesOf_length];exact hi),QzF];simp[bytesOf,hi]
 rw[Q98 e,Qzb _ O O]
theorem Q8r{ps:List (Nat×Int)}(c:Qee ps)(R:List UInt8):∀j,j<=ps.length->Uv (byL (Jc ps++R)) (ps.map (·.1)) j=(ps.take j).map (λp=>Value.int .u64 p.2)/\Ht (ps.map (·.1)) j=(Jc (ps.take j)).length
 |0,_=>by simp[Uv,Ht,Jc]
 |j+1,h=>by
  obtain⟨d,b⟩:=Q8r c R j O;have a:ps[j]? =some ps[j]:=QqC O;generalize ps[j]=p at a;have f:=QqL a;have g:(ps.map (·.1))[j]? =some p.1:=by rw[QzF,a];rfl
  have e:Jc ps++R=Jc (ps.take j)++((bytesOf p.1 p.2).map λx=>UInt8.ofNat x.toNat)++(Jc (ps.drop (j+1))++R):=by
   rw[<-Qrl a];conv=>lhs;rw[<-QkB (j+1) ps]
   unfold Jc;rw[List.flatMap_append,QqU]
  refine⟨?_,?_⟩
  ·rw[Qus g,d,b,e,Zqk (c.ps p f) (c.up p f) (c.hi p f),QzW,a];simp
  ·rw[Qkd g,b,Qrl a,QqK];simp[bytesOf_length]
theorem Q8k{ps:List (Nat×Int)}(d:Qee ps)(R:List UInt8)(n gw:Nat)(g:ps.length=n)(r:R.length<=1000)(w:World)(m:WidAt w gw ps):C 104 #[.string (byL (Jc ps++R)),.slice (some (gw,0)) n n] w λx w'=>∃A c,x= .returned (.tuple #[.slice A n c,.string (byL R),I 0])/\w'.ownsRow w.heap.size 98 1 (.slice A n c) n (ps.map λp=>.int .u64 p.2)/\Below w w w':=by
 have b:(Jc ps).length=(ps.map (·.1)).sum:=by
  have:=(Q8r d R ps.length N0).2;rw[QzU]at this;rw[<-this,<-Qqa (ps.map (·.1)) ps.length U]
 have f:(byL (Jc ps++R)).size=(Jc ps).length+R.length:=by show(Jc ps++R).toArray.size=_;simp
 have o:=Qmi ps d.hi;have s:=d.len;have H:=Ud (byL (Jc ps++R)) (ps.map (·.1)) gw n w (λj p a=>by
  rw[QzR,QzF]at a;cases hq:ps[j]? with
  |none=>rw[hq]at a;cases a
  |some q=>rw[hq]at a;simp at a;subst a;exact m j q hq) (λk i=>by obtain⟨p,a,rfl⟩:=QqS.1 i;exact d.lo p a) (λk i=>by obtain⟨p,a,rfl⟩:=QqS.1 i;exact d.hi p a) (by simpa using d.len) O
 simp only[QqT,g]at H;refine H.mono ?_;rintro x w' (⟨_,A,c,rfl,h1,h2⟩|⟨h,_⟩)
 ·have e:=(Q8r d R n O).1;simp only[QqT,g]at h1;rw[e,QkT O]at h1;refine⟨A,c,?_,h1,h2⟩;have l:(byL (Jc ps++R)).extract (ps.map (·.1)).sum (byL (Jc ps++R)).size=byL R:=by
   rw[<-b,f];apply QyW;simp[QiE]
  simp only[QqT,g]at l ⊢;rw[l]
 ·rw[f,<-b]at h;omega
theorem Q78{w:World}{b:Nat}{t:TypeId}{cs:Array Value}(h:Whole w b t cs):Whole w.drew b t cs:=h
theorem Qlo(g c:Nat)(x:Ext)(w:World)(l:Qb x=true)(h:∀j v,((Ke x).map λp=>Value.int .u64 p.2)[j]? =some v->w.cell? ⟨g,j,none⟩=some v):
  C 289 #[.slice (some (g,0)) 4 c] w λe w'=>e= .returned x.val/\Below w w w':=by
 obtain⟨o1,o2,m,y⟩:=Qg l;have n:0<=x.kind/\x.kind<=2:=O;have q:0<=x.at_/\x.at_<=2048:=O;obtain⟨x0,x1,i,x3⟩:=x;simp only at o1 o2 m n q;obtain⟨w2,d⟩:=Zx (w.alloc (.cells #[I 0,I 0,I 0,I 0] 255));have a:Below w w w2:=by rw[<-d];exact B0.alloc N0 _
 have b:Hid (Whole w2 w.heap.size 255 #[I 0,I 0,I 0,I 0]):=by show Whole _ _ _ _;rw[<-d];exact(Whole.new w _ _)
 have c0:=Qq a (h 0 _ rfl);have c1:=Qq a (h 1 _ rfl);have c2:=Qq a (h 2 _ rfl);have c3:=Qq a (h 3 _ rfl);have z:=b.o.cell 0;have F:=b.o.cell 1;have H:=b.o.cell 2;have K:=b.o.cell 3;have L:=b.o.fz 0;have M:=b.o.fz 1;have N:=b.o.fz 2;have Q:=b.o.fz 3;have R:IntKind.i64.wrap x0=x0:=by rw[QqN];omega
 have v1:IntKind.i64.wrap x1=x1:=by rw[QqN];omega
 have v2:IntKind.i64.wrap i=i:=by rw[QqN];omega
 have S:IntKind.i64.wrap x3=x3:=by rw[QqN];omega
 have f:=Q7h a;unfold Ext.val;simp only;clear l h o1 o2 m y n q a;go_in
 go_wp2_with fail
 go_still_tail 17,J
 go_wp2_with fail
 have k:=Q78 ((((b.o.set 0 (I x0)).set 1 (I x1)).set 2 (I i)).set 3 (I x3));have r:=k.cell 0;have s:=k.cell 1;have t:=k.cell 2;have u:=k.cell 3;simp at r s t u;refine QqG (v:= .agg #[I x0,I x1,I i,I x3]) (by simp[results,Tryz.results289,go_sem,r,s,t,u]) rfl ⟨rfl,?_⟩;have:=f.o.size;repeat(first|with_reducible exact f.o|refine QqZ ?_|refine QxY ?_ E _)
theorem Dr{s:ByteArray}(h:s.size≠0):s.toList.isEmpty=false:=by
 rw[ByteArray.toList_eq];cases hl:s.data.toList with
 |nil=>
  exfalso;apply h;have:=congrArg List.length hl;simpa using this
 |cons _ _=>rfl
theorem Qxl{s:ByteArray}(h:s.size≠0):s≠⟨#[]⟩:=λe=>h (by rw[e];rfl)
theorem Q3w:(Tryz.prog.info? 255).map (λi=>(i.zero,i.size,i.bytes))=some (some (.agg #[I 0,I 0,I 0,I 0]),4,32):=J
theorem Q9j{l:List Ext}(a:l.length<=8):(byL (Kc l)).size≠0/\(byL (Kc l)).size<=1000/\(∀h:0<(byL (Kc l)).size,((byL (Kc l))[0]'h).toNat=l.length)/\(byL (Kc l)).extract 1 (byL (Kc l)).size=byL (l.flatMap Kv):=by
 have e:(byL (Kc l)).size=1+(l.flatMap Kv).length:=by show(Kc l).toArray.size=_;unfold Kc;simp;omega
 have b:=Qy9 l;refine⟨O,O,λh=>?_,?_⟩
 ·rw[show((byL (Kc l))[0]'h)=UInt8.ofNat l.length from rfl,UInt8.toNat_ofNat'];omega
 ·rw[e];apply QyW;simp[QiE,Kc,-List.length_flatMap]
theorem Qym{l:List Ext}{j:Nat}{e:Ext}(h:l[j]? =some e):Qz (l.take (j+1))=Qz (l.take j)++[I e.fr,I e.n,I e.kind,I e.at_]:=by
 rw[QzW,h];simp[Qz,Ext.cells]
theorem Q8o(l:List Ext)(w:World)(hc:Chk l)(h1:1<=l.length)(h8:l.length<=8):C 245 #[.string (byL (Kc l))] w λx w'=>∃A c,x= .returned (.tuple #[.slice A l.length c,I 0])/\w'.ownsRow w.heap.size 255 4 (.slice A l.length c) l.length (Qz l)/\Below w.heap.size w w':=by
 obtain⟨h0,hs,hb,he⟩:=Q9j h8;have HX:=Q7h (Qc2 w);have HO:=Q7h hc.one;obtain⟨n,hn⟩:∃n,l.length=n:=⟨_,rfl⟩;have y:=Q7h hn;have ab:Hid (∀B wr A c,wr.ownsRow B 255 4 (.slice A n c) n (Qz l)->C 288 #[.slice A n c] wr λx w'=>x= .returned (.bool true)/\Below wr.heap.size wr w'):=λB wr A c ho=>Q8b l _ wr (ExtsAt.own ho).1 hc h1 h8;rw[hn]at h1 h8 hb ⊢;generalize byL (Kc l)=s at *;have aq:=Qxl h0;have ar:=Dr h0;have ac:0<s.size:=O;have au:(0:Int)<(s.size:Int):=O;have av:(s.size:Int)<=1000:=O;have aw:=hb ac;have ax:¬(8:Int)<(n:Int):=O;have ay:¬8<n:=O;have az:(n:Int)<=8:=O;obtain⟨i0,z,F,H,K⟩:=QzX Q3w;have HI:=Q7h (⟨z,F,H,K⟩:_/\_/\_/\_);clear z F H K hn hc h1 h8 hb;go_in
 go_wp2_with fail
 with_reducible refine HX.out.mono ?_
 rintro e w1 ⟨rfl,hw,i⟩;have L:=Q7h i;have HW:=Q7h hw;clear hw i;go_wp2
 go_loopw [10,11,12,13,14,26] (λad ae aF aH aK m wr=>∃(j:Nat) (A:Option Addr) (c:Nat),j<=n/\ad= .slice A j c/\ae= .string (byL ((l.drop j).flatMap Kv))/\m= .int .u8 j/\Hid (wr.ownsRow w1.heap.size 255 4 (.slice A j c) j (Qz (l.take j)))/\Hid (Below w1.heap.size w1 wr)) (λ_ _ _ _ _ m _=>n-(intOf m).toNat)
 case atStart=>exact⟨0,none,0,QqM _,rfl,rfl,rfl,⟨rfl,.inl ⟨rfl,rfl⟩⟩,QqA _ _⟩
 case round=>
  obtain⟨j,A,c,hj,rfl,rfl,rfl,HR,HB⟩:=hrel;by_cases M:j<n
  ·have aL:(j:Int)<(n:Int):=O;have N:l[j]? =some (l[j]'(by rw[y.out];exact M)):=QqC _;generalize(l[j]'(by rw[y.out];exact M))=x at N;have o:=HO.out x (QqL N);have e1:(l.drop j).flatMap Kv=Jc (Ke x)++(l.drop (j+1)).flatMap Kv:=by
    obtain⟨h,e⟩:=QqD.1 N;rw[QkM h,e];rfl
   have af:=Q7h (Q8k (Qd0 o) ((l.drop (j+1)).flatMap Kv) 4 w.heap.size rfl (by rw[Qy9,QkJ,y.out];omega) wr ((HW.out x).below HB.out));rw[e1];have ag:=Q7h (Qym N);have ah:Hid (∀g c wr,(∀k v,((Ke x).map λp=>Value.int .u64 p.2)[k]? =some v->wr.cell? ⟨g,k,none⟩=some v)->C 289 #[.slice (some ⟨g,0,none⟩) 4 c] wr λe w'=>e= .returned x.val/\Below wr.heap.size wr w'):=λg c wr h=>Qlo g c x wr o h;generalize byL (Jc (Ke x)++(l.drop (j+1)).flatMap Kv)=S at *;clear e1 N o;go_wp2_with fail
   with_reducible refine af.out.mono ?_
   rintro e w5 ⟨A5,c5,rfl,Q,a⟩;obtain⟨g5,rfl,_,_,_,R,_⟩:=Qx Q D;have T:=Q7h (ah.out g5 c5 w5 R);have ai:=Q7h (Qu HB.out a);have aj:=Q7h (own_below HR.out a);obtain⟨x0,x1,q,x3⟩:=x;simp only[Ext.val]at T;clear Q a R;go_wp2_with fail
   with_reducible refine T.out.mono ?_
   rintro e t ⟨rfl,r⟩;have V:=Q7h (Qu ai.out r);have W:=Q7h (own_below aj.out r);have X:=V.out.size;have ak:=Q7h (W.out.alloc (.cells #[I x0,I x1,I q,I x3] 255));have al:Hid (∀(j':Nat) (u:Value),([I x0,I x1,I q,I x3]:List Value)[j']? =some u->(t.alloc (.cells #[I x0,I x1,I q,I x3] 255)).cell? ((⟨t.heap.size,0,none⟩:Addr).add j')=some u):=World.news_of_block (by simpa using QzY t (.cells #[I x0,I x1,I q,I x3] 255));have Y:Hid (∀u∈([I x0,I x1,I q,I x3]:List Value),u.oneCell'=true):=by show ∀_,_;simp[Value.oneCell']
   have Z:Hid (w1.heap.size<=(t.alloc (.cells #[I x0,I x1,I q,I x3] 255)).heap.size/\w1.heap.size<=t.heap.size):=by show _/\_;simp only[QqW];omega
   clear r X;go_wp2_with (at_builtin;go_must (refine QkW _ rfl (.tmp 37) (.tmp 41) 261 rfl w1.heap.size 255 i0 _ 4 32 Tryz.underlying261 HI.out.1 HI.out.2.1 HI.out.2.2.1 HI.out.2.2.2 rfl O (.slice A j c) j (Qz (l.take j)) rfl ak.out ⟨t.heap.size,0,none⟩ 1 1 [I x0,I x1,I q,I x3] rfl rfl al.out Y.out (by simp only[maxLen];omega) O Z.out.1 ?_;intro v2 w7 b aa _;have am:=Q7h b;have an:=Q7h (Qy W.out aa Z.out.2);obtain⟨A2,ao,e2⟩:=Qk b;subst e2;clear b aa))
   go_roundw
   case rel=>exact⟨j+1,A2,ao,O,rfl,rfl,by go_num,by rw[ag.out];with_reducible exact am,V.out.trans an.out⟩
   case measure=>simp[intOf];omega
  ·obtain rfl:j=n:=O;have d:l.take j=l:=by rw[<-y.out];exact QzU
   have f:byL ((l.drop j).flatMap Kv)=⟨#[]⟩:=by rw[<-y.out,List.drop_length];rfl
   rw[d]at HR;rw[f];have ap:=Q7h (ab.out _ _ _ _ HR.out);clear d f;go_wp2_with fail
   with_reducible refine ap.out.mono ?_
   rintro e w5 ⟨rfl,a⟩;have HQ:Hid (w5.ownsRow w.heap.size 255 4 (.slice A j c) j (Qz l)/\Below w.heap.size w w5):=⟨Qr (own_below HR.out a) L.out.size,Qu L.out (Qu HB.out a)⟩;clear a;go_wp2_with fail
   refine QqG (v:= .tuple #[.slice A j c,I 0]) (by simp[results,Tryz.results245,go_sem]) rfl ⟨A,c,rfl,HQ.out⟩
theorem Qh6(g c:Nat)(x:Kid)(w:World)(q:Fg x)(h:∀j v,((K8 x).map λp=>Value.int .u64 p.2)[j]? =some v->w.cell? ⟨g,j,none⟩=some v):
  C 293 #[.slice (some (g,0)) 2 c] w λe w'=>e= .returned x.val/\Below w w w':=by
 obtain⟨⟨o1,o2⟩,i,k⟩:=q;obtain⟨x0,x1⟩:=x;simp only at o1 o2 i k;obtain⟨w2,b⟩:=Zx (w.alloc (.cells #[I 0,I 0] 355));have a:Below w w w2:=by rw[<-b];exact B0.alloc N0 _
 have d:Hid (Whole w2 w.heap.size 355 #[I 0,I 0]):=by show Whole _ _ _ _;rw[<-b];exact(Whole.new w _ _)
 have c0:=Qq a (h 0 _ rfl);have c1:=Qq a (h 1 _ rfl);have r:=d.o.cell 0;have s:=d.o.cell 1;have t:=d.o.fz 0;have u:=d.o.fz 1;have y:IntKind.i64.wrap x0=x0:=by rw[QqN];omega
 have v1:IntKind.i64.wrap x1=x1:=by rw[QqN];omega
 have f:=Q7h a;unfold Kid.val;simp only;clear h o1 o2 i k a;go_in
 go_wp2_with fail
 go_still_tail 9,J
 go_wp2_with fail
 have l:=Q78 ((d.o.set 0 (I x0)).set 1 (I x1));have m:=l.cell 0;have n:=l.cell 1;simp at m n;refine QqG (v:= .agg #[I x0,I x1]) (by simp[results,Tryz.results293,go_sem,m,n]) rfl ⟨rfl,?_⟩;have:=f.o.size;repeat(first|with_reducible exact f.o|refine QqZ ?_|refine QxY ?_ E _)
theorem Q86(k l:Kid):(byL (Jk [k,l])).size≠0/\(byL (Jk [k,l])).size<=1000/\(∀h:0<(byL (Jk [k,l])).size,((byL (Jk [k,l]))[0]'h).toNat=2)/\(byL (Jk [k,l])).extract 1 (byL (Jk [k,l])).size=byL (Jc (K8 k)++(Jc (K8 l)++[])):=by
 have e:(byL (Jk [k,l])).size=11:=by show(Jk [k,l]).toArray.size=_;simp[Jk,Vh]
 refine⟨O,O,λh=>rfl,?_⟩;rw[e];apply QyW;simp[QiE,Jk,Jz];exact QkT (by have h1:=Vh k;have h2:=Vh l;unfold Jz at h1 h2;rw[QqK,h1,h2];omega)
theorem Q9c(w:World)(e:Kid):WidAt (w.alloc (.cells #[I 3,I 2] 3)) w.heap.size (K8 e):=by
 intro j p a;rw[(Whole.new w 3 #[I 3,I 2]).cell j];match j,a with
 |0,a=>simp[K8]at a;subst a;rfl
 |1,a=>simp[K8]at a;subst a;rfl
 |j+2,a=>simp[K8]at a
theorem Q8x(k l:Kid)(w:World)(L:K2 k l):C 247 #[.string (byL (Jk [k,l]))] w λx w'=>∃g c,x= .returned (.tuple #[.slice (some ⟨g,0,none⟩) 2 c,I 0])/\K2At w' g k l/\Below w.heap.size w w':=by
 obtain⟨h0,hs,hb,he⟩:=Q86 k l;generalize byL (Jk [k,l])=s at *;have aj:=Qxl h0;have ak:=Dr h0;have aa:0<s.size:=O;have al:(0:Int)<(s.size:Int):=O;have am:(s.size:Int)<=1000:=O;have an:=hb aa;have ab:=Q7h λw g hw=>Q8k (w:=w) (gw:=g) (Qna L.1) (Jc (K8 l)++[]) 2 rfl (by have:=Vh l;unfold Jz at this;simp[this]) hw;have ac:=Q7h λw g hw=>Q8k (w:=w) (gw:=g) (Qna L.2.1) [] 2 rfl U hw;have Q:=Q7h λg c wr h=>Qh6 g c k wr L.1 h;have R:=Q7h λg c wr h=>Qh6 g c l wr L.2.1 h;have ad:=Q7h λg c w h y=>Q8t k l g c w h L y;have ae:Hid (∀(B:Nat) (w:World),w.ownsRow B 355 2 (.slice none 0 0) 0 []):=λ_ _=>⟨rfl,.inl ⟨rfl,rfl⟩⟩;obtain⟨i0,S,T,V,W⟩:=QzX Q52;have u:=Q7h (⟨S,T,V,W⟩:_/\_/\_/\_);generalize byL (Jc (K8 k)++(Jc (K8 l)++[]))=S1 at *;generalize byL (Jc (K8 l)++[])=S2 at *;clear S T V W L hb;have z:=Q7h (Q9c w);have j:Below w.heap.size w (w.alloc (.cells #[I 3,I 2] 3)):=(QqA _ _).alloc (QqB _) _;obtain⟨w1,af⟩:∃w1,w.alloc (.cells #[I 3,I 2] 3)=w1:=⟨_,rfl⟩;rw[af]at z j;have ag:=Q7h j;clear j;obtain⟨M,N⟩:=k;obtain⟨A,la⟩:=l;simp only[Kid.val]at Q R;go_in
 go_wp2
 refine QoS 3 ?_;rw[QoR];go_wp2_with fail
 with_reducible refine(ab.out w1 w.heap.size (z.out _)).mono ?_
 rintro e X ⟨A5,c5,rfl,m,d⟩;obtain⟨g5,rfl,_,_,_,n,_⟩:=Qx m D;have F:=Q7h (Q.out g5 c5 X n);have H:Hid (Below w1.heap.size w1 X):=d
 
 clear m d n;go_wp2_with fail
 with_reducible refine F.out.mono ?_
 rintro e Y ⟨rfl,f⟩;have b:=Q7h (Qu H.out f);have o:Hid (Y.ownsRow w1.heap.size 355 2 (.slice none 0 0) 0 []):=ae.out _ _;have q:=Q7h (Q8d M N o.out b.out);clear f;go_wp2_with (at_builtin;go_must (refine QkW _ rfl (.tmp 37) (.tmp 41) 351 rfl w1.heap.size 355 i0 _ 2 16 Tryz.underlying351 u.out.1 u.out.2.1 u.out.2.2.1 u.out.2.2.2 rfl O (.slice none 0 0) 0 [] rfl q.out.1 ⟨Y.heap.size,0,none⟩ 1 1 [I M,I N] rfl rfl q.out.2.1 q.out.2.2.1 (by simp only[maxLen];omega) O q.out.2.2.2 ?_;intro v2 w7 a p _;have r:=Q7h a;have t:=Q7h (b.out.trans (Qy o.out p b.out.size));obtain⟨A2,i,e2⟩:=Qk a;subst e2;clear a p))
 rw[QoR];go_wp2_with fail
 with_reducible refine(ac.out w7 w.heap.size ((z.out _).below t.out)).mono ?_
 rintro e X ⟨A5,c5,rfl,m,d⟩;obtain⟨g5,rfl,_,_,_,n,_⟩:=Qx m D;have F:=Q7h (R.out g5 c5 X n);have H:Hid (Below w1.heap.size w1 X):=Qu t.out d;have ah:=Q7h (own_below r.out d);clear m d n;go_wp2_with fail
 with_reducible refine F.out.mono ?_
 rintro e Y ⟨rfl,f⟩;have b:=Q7h (Qu H.out f);have o:Hid (Y.ownsRow w1.heap.size 355 2 (.slice A2 1 i) 1 [I M,I N]):=own_below ah.out f;have q:=Q7h (Q8d A la o.out b.out);clear f;go_wp2_with (at_builtin;go_must (refine QkW _ rfl (.tmp 37) (.tmp 41) 351 rfl w1.heap.size 355 i0 _ 2 16 Tryz.underlying351 u.out.1 u.out.2.1 u.out.2.2.1 u.out.2.2.2 rfl O (.slice A2 1 i) 1 [I M,I N] rfl q.out.1 ⟨Y.heap.size,0,none⟩ 1 1 [I A,I la] rfl rfl q.out.2.1 q.out.2.2.1 (by simp only[maxLen];omega) O q.out.2.2.2 ?_;intro v2 w7 a p _;have r:=Q7h a;have t:=Q7h (b.out.trans (Qy o.out p b.out.size));obtain⟨A2,i,e2⟩:=Qk a;subst e2;clear a p))
 have Z:=Sz r.out;obtain⟨g,rfl,_,_,_,y,_⟩:=Qx r.out D;have HX:Hid (K2At w7 g ⟨M,N⟩ ⟨A,la⟩):=⟨⟨y 0 _ rfl,y 1 _ rfl⟩,y 2 _ rfl,y 3 _ rfl⟩;have ai:=Q7h (ad.out g i w7 HX.out ⟨O,O⟩);clear y Z;rw[QoR];go_wp2_with fail
 with_reducible refine ai.out.mono ?_
 rintro e w8 ⟨rfl,K⟩;have HQ:Hid (K2At w8 g ⟨M,N⟩ ⟨A,la⟩/\Below w.heap.size w w8):=⟨HX.out.below K,Qu ag.out (Qu t.out K)⟩;clear K;go_wp2_with fail
 refine QqG (v:= .tuple #[.slice (some ⟨g,0,none⟩) 2 i,I 0]) (by simp[results,Tryz.results247,go_sem]) rfl ⟨g,i,rfl,HQ.out⟩
structure Gtr where
 g:Nat
 lb:Array Value
 B:Int->Option (Int×ByteArray)
 inv:World->Prop
 below:∀{w w':World},inv w->Below w w w'->inv w'
 eg:∀args w,(callFunc g args).run Tryz.prog w= .ok (.enter g args) w
 get:∀w pg p,inv w->B pg=some p->0<=pg->pg<2048->C g (#[I pg]++lb) w λx w'=>x= .returned (.tuple #[I p.1,.string p.2,.nilIface])/\Below w w w'
def RdAt(K:Gtr)(w:World)(r:Nat)(top:Int):Prop:=K.inv w/\w.cell? (r,0)=some (.func (.func K.g) #[] K.lb)/\w.cell? (r,1)=some (I top)
theorem RdAt.below{K:Gtr}{w w':World}{r:Nat}{top:Int}(h:RdAt K w r top)(hb:Below w w w'):RdAt K w' r top:=⟨K.below h.1 hb,Qq hb h.2.1,Qq hb h.2.2⟩
theorem Qmm(K:Gtr)(w:World)(r:Nat)(top pg:Int)(l:List Ext)(h:RdAt K w r top)(y:K.B pg=some (2,byL (Kc l)))(Q:0<=pg)(h1:pg<2048)(z:Chk l)(v:1<=l.length)(F:l.length<=8)(h4:pg=top\/4<=l.length):
  C 196 #[(r,0),I pg,I 1] w λe w'=>∃b g,e= .returned (.tuple #[lfV b,.nilIface])/\LfAt w' b g ⟨pg,l⟩/\w.heap.size<=b/\w.heap.size<=g/\Below w w w':=by
 have H:=Q7h (K.get w pg _ h.1 y Q h1);have L:=Q7h λw=>Q8o l w z v F;have R:=Q7h λw' hb=>h.below (w':=w') hb;obtain⟨_,c0,c1⟩:=h;have eg:=K.eg;have M:Hid (∀(d w':World) A c,d.ownsRow w.heap.size 255 4 (.slice A l.length c) l.length (Qz l)->w.heap.size<=d.heap.size->d.alloc (.cells #[I pg,.slice A l.length c] 350)=w'->∃g,LfAt w' d.heap.size g ⟨pg,l⟩/\w.heap.size<=g):=by
  rintro d w' A c q hs rfl;obtain⟨g,c',e,T,s⟩:=Row.own q v;injection e with V e2 W;subst V W;exact⟨g,⟨_,Whole.new d _ _,T.keep ((Keep.refl (λ_=>False) _).alloc _) id⟩,s⟩
 obtain⟨n,s⟩:=Zx l.length;rw[s]at L M v h4;generalize byL (Kc l)=S at *;simp only at H;have X:(1:Int)<=n:=O;have Y:¬(n:Int)<1:=O;clear y z s F;unfold lfV;go_in
 go_wp2_with fail
 with_reducible refine H.o.mono ?_
 rintro e d ⟨rfl,i⟩;have j:=Q7h i;clear i;go_wp2_with fail
 go_in
 go_wp2_with fail
 with_reducible refine(L.o _).mono ?_
 rintro e t ⟨A,c,rfl,q,k⟩;have f:Below w w (d.alloc (.cells #[.string ⟨#[114,101,97,100]⟩,I pg,.iface 28 (I 3)] 187)):=j.o.alloc j.o.size _;have a:=Q7h (Qu f k);obtain⟨_,_,d1⟩:=R.o _ a.o;obtain⟨u,m,p⟩:=M.o _ _ _ _ (Qr q f.size) a.o.size rfl;have N:Hid (LfAt (t.alloc (.cells #[I pg,.slice A n c] 350)) t.heap.size u ⟨pg,l⟩/\w.heap.size<=t.heap.size/\w.heap.size<=u/\Below w w (t.alloc (.cells #[I pg,.slice A n c] 350))):=⟨m,a.o.size,p,a.o.alloc a.o.size _⟩;clear q k f m p;by_cases x:pg=top
 ·subst x;go_wp2
  go_returns;exact⟨_,u,rfl,N.o⟩
 ·have Z:(pg != top)=true:=by simpa using x
  have aa:(pg==top)=false:=by simpa using x
  have ab:¬(n:Int)<4:=O;go_wp2
  go_returns;exact⟨_,u,rfl,N.o⟩
theorem Qu9{F:Nat->Prop}{w w':World}{n:Nat}(h:Keep F w w')(a:∀k,F k->n<=k)(b:n<=w.heap.size):Below n w w':=⟨h.os,h.tape,h.output,h.size,λk c=>h.block k O λe=>by have:=a k e;omega⟩
theorem Q8p{B:Nat}{wr:World}{i j:Nat}{a:Int}{v u:Value}{xs:List Value}(hb:Whole wr i 300 #[I a,v])(h:wr.ownsRow B 226 1 v j xs)(v2:Value)(d:World)(q1:d.ownsRow B 226 1 v2 (j+1) (xs++[u]))(n:(wr.alloc (.cells #[u] 226)).grownBy d v.ownBlock):
  (d.cell? (i,1)=some v/\d.frozen? (i,1)=false)/\Whole (d.setCell (i,1) v2) i 300 #[I a,v2]/\(d.setCell (i,1) v2).ownsRow B 226 1 v2 (j+1) (xs++[u])/\Keep (λk=>k=i\/v.ownBlock=some k) wr (d.setCell (i,1) v2)/\∀b g x,LfAt wr b g x->LfAt (d.setCell (i,1) v2) b g x:=by
 have f:=(hb.alloc (.cells #[u] 226)).grown n (own_ne h hb D);have o:Keep (λk=>k=i\/v.ownBlock=some k) wr (d.setCell (i,1) v2):=(((Keep.refl _ _).alloc _).grown n (λj l=>.inl (.inr l))).setCell (p:=(i,1)) (.inl (.inl rfl)) _;refine⟨⟨f.cell 1,f.fz 1⟩,by simpa using f.set 1 v2,Qa q1 (Keep.set1 d i 1 _) (λj l e=>own_ne q1 f D (by rw[l,e])),o,?_⟩;rintro b g x ⟨c,x1,m⟩;obtain⟨cs,x3,_⟩:=m.blk;refine LfAt.keep ⟨c,x1,m⟩ o (λe=>?_) (λe=>?_)
 ·rcases e with e|e
  ·exact O3 x1 hb D e
  ·exact own_ne h x1 D e.symm
 ·rcases e with e|e
  ·exact m.ne hb D e.symm
  ·exact own_ne h x3 D e.symm
theorem Q9w(K:Gtr)(w:World)(r:Nat)(a:Int)(x y:Lf)(h:RdAt K w r a)(hB:K.B a=some (3,byL (Jk (Q8u x y))))(ah:K.B x.a=some (2,byL (Kc x.l)))(ai:K.B y.a=some (2,byL (Kc y.l)))(h0:0<=a/\a<2048)(T:K2 ⟨Sm x.l,x.a⟩ ⟨Sm y.l,y.a⟩)(aj:Chk x.l)(ak:Chk y.l)(hx:4<=x.l.length/\x.l.length<=8)(hy:4<=y.l.length/\y.l.length<=8):
  C 196 #[.pointer (some ⟨r,0,none⟩),I a,I 2] w λe w'=>∃F v,e= .returned (.tuple #[v,.nilIface])/\NsAt w' F v (.two a x y)/\(∀k∈F,w.heap.size<=k)/\Below w.heap.size w w':=by
 have HG:=Q7h (K.get w a _ h.1 hB h0.1 h0.2)
 have HR:=Q7h λw=>Q8x _ _ w T
 have al:=Q7h λwq hb=>Qmm K wq r a x.a x.l (h.below hb) ah T.1.2.1 T.1.2.2 aj O hx.2 (.inr hx.1)
 have am:=Q7h λwq hb=>Qmm K wq r a y.a y.l (h.below hb) ai T.2.1.2.1 T.2.1.2.2 ak O hy.2 (.inr hy.1)
 have aa:=Q7h λwq b g h=>(Wn wq b g ⟨x.a,x.l⟩ h (by show 1<=x.l.length;omega)).mono λ_ _ h=>(⟨h.1,h.2.symm⟩:_/\_)
 have ab:=Q7h λwq b g h=>(Wn wq b g ⟨y.a,y.l⟩ h (by show 1<=y.l.length;omega)).mono λ_ _ h=>(⟨h.1,h.2.symm⟩:_/\_)
 obtain⟨_,c0,c1⟩:=h
 have HD:Hid (w.cell? ⟨r,1,none⟩=some (I a)):=c1
 have eg:=K.eg
 have mf:=λb w=>Qb6 (.pointer (some ⟨b,0,none⟩)) w true
 have ef:=λb w=>Qc5 #[.pointer (some ⟨b,0,none⟩)] w true
 simp only[ndT,fiF]at mf ef aa ab
 obtain⟨i0,an,ao,ap,aq⟩:=QzX Bw
 have Y:=Q7h (⟨an,ao,ap,aq⟩:_/\_/\_/\_)
 obtain⟨ax,lx⟩:=x
 obtain⟨ay,ly⟩:=y
 unfold Q8u at HG
 simp only at HG HR al am aa ab
 generalize byL (Jk [⟨Sm lx,ax⟩,⟨Sm ly,ay⟩])=S at *
 generalize Sm lx=kx at *
 generalize Sm ly=ky at *
 clear an ao ap aq hB ah ai T aj ak hx hy c1 h0
 unfold lfV at *
 go_in
 go_wp2_with fail
 with_reducible refine HG.out.mono ?_
 rintro e w5 ⟨rfl,ar⟩
 have au:=Q7h ar
 clear ar
 go_wp2_with fail
 go_in
 go_wp2_with fail
 with_reducible refine(HR.out _).mono ?_
 rintro e j ⟨gk,c,rfl,ac,av⟩
 have aw:Below w.heap.size w (w5.alloc (.cells #[.string ⟨#[114,101,97,100]⟩,I a,.iface 28 (I 3)] 187)):=au.out.alloc au.out.size _
 have z:=Q7h (Qu aw av)
 have d1:=Qq z.out HD.out
 obtain⟨i,hi⟩:∃i,j.heap.size=i:=⟨_,rfl⟩
 have s:Hid (Whole (j.alloc (.cells #[I a,.slice none 0 0] 300)) i 300 #[I a,.slice none 0 0]/\K2At (j.alloc (.cells #[I a,.slice none 0 0] 300)) gk ⟨kx,ax⟩ ⟨ky,ay⟩/\Below j.heap.size j (j.alloc (.cells #[I a,.slice none 0 0] 300))):=by
  subst hi
  exact⟨Whole.new _ _ _,ac.below ((QqA _ _).alloc (QqB _) _),(QqA _ _).alloc (QqB _) _⟩
 obtain⟨Z,aR⟩:∃Z,j.alloc (.cells #[I a,.slice none 0 0] 300)=Z:=⟨_,rfl⟩
 rw[aR]at s
 have az:=Q7h (Qu z.out s.out.2.2)
 obtain⟨⟨m0,m1⟩,_,_⟩:=s.out.2.1
 have aF:=Q7h ac
 clear ac av aw
 go_wp2
 refine QoS 3 ?_
 rw[QoR]
 go_wp2_with fail
 have t:Below w.heap.size w (Z.alloc (.cells #[I kx,I ax] 355)):=az.out.alloc az.out.size _
 have n:Below Z.heap.size Z (Z.alloc (.cells #[I kx,I ax] 355)):=(QqA _ _).alloc (QqB _) _
 have H:=Whole.new Z 355 #[I kx,I ax]
 with_reducible refine(al.out _ t).mono ?_
 rintro e L ⟨b,g,rfl,ad,aS,aT,ae⟩
 have q0:L.cell? ⟨Z.heap.size,0,none⟩=some (I kx):=Qq ae (H.cell 0)
 have af:=Q7h (Qu n ae)
 have aV:=Q7h (aa.out L.drew b g (ad.keep ((Keep.refl (λ_=>False) _).drew) id id))
 have aW:=Q7h ad
 have e9:(kx != kx)=false:=U
 have aX:Hid (w.heap.size<=b/\w.heap.size<=g):=⟨QqR t.size aS,QqR t.size aT⟩
 clear H t n ae ad
 have aH:=Q7h (Q78 (s.out.1.below af.out s.out.1.lt))
 have b1:L.cell? ⟨i,1,none⟩=some (.slice none 0 0):=aH.out.cell 1
 have aK:Hid (L.drew.ownsRow j.heap.size 226 1 (.slice none 0 0) 0 []):=⟨rfl,.inl ⟨rfl,rfl⟩⟩
 have aY:=Q7h (Q8p (u:= .iface 348 (.pointer (some ⟨b,0,none⟩))) aH.out aK.out)
 have V:Hid ((L.drew.alloc (.cells #[.iface 348 (.pointer (some ⟨b,0,none⟩))] 226)).ownsRow j.heap.size 226 1 (.slice none 0 0) 0 []/\(∀(j':Nat) (u:Value),([.iface 348 (.pointer (some ⟨b,0,none⟩))]:List Value)[j']? =some u->(L.drew.alloc (.cells #[.iface 348 (.pointer (some ⟨b,0,none⟩))] 226)).cell? ((⟨L.drew.heap.size,0,none⟩:Addr).add j')=some u)/\(∀u∈([.iface 348 (.pointer (some ⟨b,0,none⟩))]:List Value),u.oneCell'=true)/\j.heap.size<=(L.drew.alloc (.cells #[.iface 348 (.pointer (some ⟨b,0,none⟩))] 226)).heap.size):=⟨aK.out.alloc _,Z4 _ _ _,by simp[Value.oneCell'],QqR (show j.heap.size<=L.drew.heap.size from(Qu s.out.2.2 af.out).size) (by simp only[QqW];omega)⟩
 go_wp2_with fail
 go_still_tail 4,J
 still_call aV.out
 repeat still_step
 refine QoU ?_
 go_wp2_with (at_builtin;go_must (refine QkW _ rfl (.tmp 115) (.tmp 117) 291 rfl j.heap.size 226 i0 _ 1 16 Tryz.underlying291 Y.out.1 Y.out.2.1 Y.out.2.2.1 Y.out.2.2.2 rfl O (.slice none 0 0) 0 [] rfl V.out.1 ⟨L.heap.size,0,none⟩ 1 1 [.iface 348 (.pointer (some ⟨b,0,none⟩))] rfl rfl V.out.2.1 V.out.2.2.1 (by simp only[maxLen];omega) O V.out.2.2.2 ?_;intro v2 w6 d M _;obtain⟨⟨z0,z1⟩,p⟩:=aY.out v2 w6 d M;have f:=Q7h p;obtain⟨A1,N,e2⟩:=Qk d;subst e2;clear d M p))
 generalize w6.setCell ⟨i,1,none⟩ (.slice A1 1 N)=w11 at *
 have o:Hid (Below j.heap.size j w11):=by
  obtain⟨_,_,f3,_⟩:=f.out
  have h9:Below j.heap.size j L.drew:=(Qu s.out.2.2 af.out).drew
  exact h9.trans (Qu9 f3 (λk T=>T.elim (λe=>O) (λe=>by cases e)) h9.size)
 have W:=Q7h (Qu z.out o.out)
 have m2:=Qq o.out aF.out.2.1
 have m3:=Qq o.out aF.out.2.2
 simp only at m2 m3
 have A:=Q7h (f.out.2.2.2 b g ⟨ax,lx⟩ (aW.out.keep ((Keep.refl (λ_=>False) _).drew) id id))
 have t:Below w.heap.size w (w11.alloc (.cells #[I ky,I ay] 355)):=W.out.alloc W.out.size _
 have n:Below w11.heap.size w11 (w11.alloc (.cells #[I ky,I ay] 355)):=(QqA _ _).alloc (QqB _) _
 have H:=Whole.new w11 355 #[I ky,I ay]
 clear m0 m1 q0 b1 z0 z1 e9
 rw[QoR]
 go_wp2_with fail
 with_reducible refine(am.out _ t).mono ?_
 rintro e m ⟨b2,g2,rfl,Q,a4,a5,R⟩
 have q0:m.cell? ⟨w11.heap.size,0,none⟩=some (I ky):=Qq R (H.cell 0)
 have q:=Q7h (Qu n R)
 have aZ:=Q7h (ab.out m.drew b2 g2 (Q.keep ((Keep.refl (λ_=>False) _).drew) id id))
 have aL:=Q7h Q
 have aA:Hid (b≠b2/\g≠g2/\w.heap.size<=b2/\w.heap.size<=g2):=by
  obtain⟨n1,n2,_⟩:=A.out.lt
  have:=n.size
  exact⟨O,O,by have:=W.out.size;omega,by have:=W.out.size;omega⟩
 have e9:(ky != ky)=false:=U
 clear H t n R Q m2 m3
 have aM:=Q7h (Q78 (f.out.1.below q.out f.out.1.lt))
 have a6:m.cell? ⟨i,1,none⟩=some (.slice A1 1 N):=aM.out.cell 1
 have aN:Hid (m.drew.ownsRow j.heap.size 226 1 (.slice A1 1 N) 1 [.iface 348 (.pointer (some ⟨b,0,none⟩))]):=own_below f.out.2.1 q.out.drew
 have aB:=Q7h (Q8p (u:= .iface 348 (.pointer (some ⟨b2,0,none⟩))) aM.out aN.out)
 have X:Hid ((m.drew.alloc (.cells #[.iface 348 (.pointer (some ⟨b2,0,none⟩))] 226)).ownsRow j.heap.size 226 1 (.slice A1 1 N) 1 [.iface 348 (.pointer (some ⟨b,0,none⟩))]/\(∀(j':Nat) (u:Value),([.iface 348 (.pointer (some ⟨b2,0,none⟩))]:List Value)[j']? =some u->(m.drew.alloc (.cells #[.iface 348 (.pointer (some ⟨b2,0,none⟩))] 226)).cell? ((⟨m.drew.heap.size,0,none⟩:Addr).add j')=some u)/\(∀u∈([.iface 348 (.pointer (some ⟨b2,0,none⟩))]:List Value),u.oneCell'=true)/\j.heap.size<=(m.drew.alloc (.cells #[.iface 348 (.pointer (some ⟨b2,0,none⟩))] 226)).heap.size):=⟨aN.out.alloc _,Z4 _ _ _,by simp[Value.oneCell'],QqR (show j.heap.size<=m.drew.heap.size from QqR o.out.size q.out.size) (by simp only[QqW];omega)⟩
 go_wp2_with fail
 go_still_tail 4,J
 still_call aZ.out
 repeat still_step
 refine QoU ?_
 go_wp2_with (at_builtin;go_must (refine QkW _ rfl (.tmp 115) (.tmp 117) 291 rfl j.heap.size 226 i0 _ 1 16 Tryz.underlying291 Y.out.1 Y.out.2.1 Y.out.2.2.1 Y.out.2.2.2 rfl O (.slice A1 1 N) 1 [.iface 348 (.pointer (some ⟨b,0,none⟩))] rfl X.out.1 ⟨m.heap.size,0,none⟩ 1 1 [.iface 348 (.pointer (some ⟨b2,0,none⟩))] rfl rfl X.out.2.1 X.out.2.2.1 (by simp only[maxLen];omega) O X.out.2.2.2 ?_;intro v2 w6 d M _;obtain⟨⟨z0,z1⟩,p⟩:=aB.out v2 w6 d M;have ag:=Q7h p;obtain⟨A2,a0,e2⟩:=Qk d;subst e2;clear d M p))
 generalize w6.setCell ⟨i,1,none⟩ (.slice A2 2 a0)=w14 at *
 have HQ:Hid (∃F,NsAt w14 F (inV i) (.two a ⟨ax,lx⟩ ⟨ay,ly⟩)/\(∀k∈F,w.heap.size<=k)/\Below w.heap.size w w14):=by
  obtain⟨f1,f2,f3,f4⟩:=ag.out
  obtain⟨n1,n2,n3,n4⟩:=aA.out
  obtain⟨n5,n6⟩:=aX.out
  have h7:=z.out.size
  have aQ:Below j.heap.size j m.drew:=o.out.trans (q.out.drew.mono o.out.size)
  have hb:Below j.heap.size j w14:=aQ.trans (Qu9 f3 (λk T=>T.elim (λe=>O) (λe=>(f.out.2.1.lt k e).1)) aQ.size)
  obtain⟨h,c',e,hr,hh⟩:=Row.own f2 O
  injection e with e1 e2 e3
  subst e1 e3
  exact⟨[i,h,b,g,b2,g2],⟨i,h,b,g,b2,g2,rfl,rfl,⟨_,f1,hr⟩,f4 b g _ (A.out.keep (Keep.below (F:=λ_=>False) q.out.drew) id id),f4 b2 g2 _ (aL.out.keep ((Keep.refl (λ_=>False) _).drew) id id),n1,n2⟩,by simp only[QqF,QkU,QyA,QoT,QoW];omega,Qu z.out hb⟩
 rw[QoR]
 go_wp2_with fail
 obtain⟨F,h1,h2⟩:=HQ.out
 refine QqG (v:= .tuple #[.iface 297 (.pointer (some ⟨i,0,none⟩)),.nilIface]) (by simp[results,Tryz.results196,go_sem]) rfl ⟨F,_,rfl,h1,h2⟩
theorem Qqc(w:World):C 71 #[] w λx w'=>x= .returned (w,0)/\w'=w.alloc (.cells #[.nilIface] 228):=by
 go_in
 go_wp2
 go_ret
 exact⟨rfl,rfl⟩
def Ab(T:Tree)(w:World)(x:Ending)(w':World):Prop:=∃p F,x= .returned (.tuple #[(p,0),.nilIface])/\TrAt w' F p T/\(∀k∈F,w.heap.size<=k)/\Below w w w'
def Lie(B:Int->Option (Int×ByteArray))(T:Tree):Prop:=(∀a∈T.ats,0<=a/\a<2048)/\T.ats.Nodup/\Gd (λa pg=>B a=some (I7 pg,Pf pg)) T
theorem Q90(K:Gtr)(w:World)(r:Nat)(T:Tree)(h:RdAt K w r (Qxi T))(q:Lie K.B T)(c:T.Ok)(d:Chk T.flat)(s:T.high≠0):
  C 196 #[(r,0),I (Qxi T),I T.high] w λe w'=>∃F v,e= .returned (.tuple #[v,.nilIface])/\NsAt w' F v T/\(∀k∈F,w.heap.size<=k)/\Below w w w':=by
 obtain⟨h1,h2,h3⟩:=q;cases T with
 |no=>exact absurd rfl s
 |one x=>
  obtain⟨q1,t⟩:=h1 x.a (by simp[Tree.ats]);refine(Qmm K w r x.a x.a x.l h (h3 O) q1 t d c.1 c.2 (.inl rfl)).mono ?_;rintro e w' ⟨b,g,rfl,f,o,p,u⟩;exact⟨[b,g],_,rfl,⟨b,g,rfl,rfl,f⟩,by simp;omega,u⟩
 |two a x y=>
  have z:=h1 x.a (by simp[Tree.ats]);have H:=h1 y.a (by simp[Tree.ats]);have qa:=h1 a (by simp[Tree.ats]);obtain⟨f,o,p⟩:=h3;obtain⟨o1,o2,L⟩:=c;have i:x.a≠y.a:=by simp[Tree.ats]at h2;exact h2.1.1
  have j:Chk x.l:=⟨λe m=>d.one e (by simp[Tree.flat,m]),(QkA.1 d.ord).1⟩;have n:Chk y.l:=⟨λe m=>d.one e (by simp[Tree.flat,m]),(QkA.1 d.ord).2.1⟩;exact Q9w K w r a x y h (p O).2 (f O) (o O) qa (Q93 d O O z H i) j n ⟨O,O⟩ ⟨O,O⟩
theorem NsAt.iface{w:World}{F:List Nat}{v:Value}{T:Tree}(h:NsAt w F v T)(c:T.high≠0):∃t q,v= .iface t q:=by
 cases T with
 |no=>exact absurd rfl c
 |one x=>obtain⟨b,g,_,e,_⟩:=h;exact⟨_,_,e⟩
 |two a x y=>obtain⟨i,j,b,g,b2,d,_,e,_⟩:=h;exact⟨_,_,e⟩
theorem Q82(K:Gtr)(w:World)(T:Tree)(h:K.inv w)(L:Lie K.B T)(c:T.Ok)(q:Chk T.flat):
  C 132 #[I (Qxi T),I T.high,.func (.func K.g) #[] K.lb] w (Ab T w):=by
 have i:=Q7h λf r h=>Q90 K f r T h L c q;have V:=Q7h λf F p h=>Qzl f F p T h c q;have W:=Q7h λf hb=>K.below (w':=f) h hb;have X:=Q7h λf v B (hv:World.ownsRow f B 255 4 v T.flat.length (Qz T.flat))=>Y0 _ v f (ExtsAt.own hv).1 (by have:=Xi q;omega);have Y:Hid (Xp T.flat=true):=Uo _ q;have eg:=K.eg;by_cases s:T.high=0
 ·obtain rfl:T= .no:=by cases T<;>simp[Tree.high]at s ⊢
  have HW:=Q7h (Whole.new w 228 #[.nilIface]);clear L c q h s;unfold Qxi Tree.high;go_in
  go_wp2
  go_returns;exact⟨w.heap.size,[w.heap.size],rfl,⟨[],_,rfl,HW.o,rfl,rfl⟩,U,by go_grown⟩
 ·obtain⟨H,hH⟩:∃H:Int,(T.high:Int)=H:=⟨_,rfl⟩;obtain⟨top,b⟩:=Zx (Qxi T);have Z:=(Q8g T).2.2;have ah:(top == -1)=false:=by
   have h1:=L.1;rw[<-b];cases T with
   |no=>exact absurd rfl s
   |one x=>have:=h1 x.a (by simp[Tree.ats]);simp[Qxi];omega
   |two a x y=>have:=h1 a (by simp[Tree.ats]);simp[Qxi];omega
  have ai:(H==0)=false:=by simp;omega
  have aj:decide (H<0)=false:=by simp;omega
  have ak:decide (6<H)=false:=by simp;omega
  rw[hH,b]at i ⊢;obtain⟨w2,j⟩:=Zx ((w.alloc (.cells #[.nilIface] 228)).alloc (.cells #[.func (.func K.g) #[] K.lb,I top] 287));have hb:Below w w w2:=by rw[<-j];exact(B0.alloc N0 _).alloc U _
  have hp:Whole w2 w.heap.size 228 #[.nilIface]:=by rw[<-j];exact(Whole.new w _ _).alloc _
  have M:=Whole.new' (w.alloc (.cells #[.nilIface] 228)) 287 #[.func (.func K.g) #[] K.lb,I top] (w.heap.size+1) U;rw[j]at M;have⟨A,N,HN⟩:=Q3 (i.o w2 (w.heap.size+1) ⟨W.o _ hb,M.cell 0,M.cell 1⟩ s) (⟨hp,hb⟩:_/\_) s;clear L c q h s hb hp M hH b Z i;go_in
  go_wp2_with fail
  go_in
  go_wp2_with fail
  with_reducible refine A.o.mono ?_
  rintro e Q ⟨F,v,rfl,h1,h2,h3⟩;obtain⟨R,S,rfl⟩:=h1.iface HN.o;have d:=N.o.1.below h3 N.o.1.lt;have z0:=d.cell 0;have z1:=d.fz 0;simp at z0;have aa:=N.o.1.lt;have t:w.heap.size∉F:=λhm=>by have:=h2 _ hm;omega
  have u:Hid (TrAt (Q.setCell (w,0) (.iface R S)) (w.heap.size::F) w.heap.size T):=⟨F,_,rfl,by simpa using d.set 0 (.iface R S),h1.keep (Keep.set1 Q w.heap.size 0 _) λk z e=>t (e▸z)⟩;have ab:Hid (∀k∈w.heap.size::F,w.heap.size<=k):=by
   show ∀k∈_,_;intro k z;rcases QqF.1 z with rfl|z
   ·exact QqB _
   ·have:=h2 k z;omega
  have ac:Hid (Below w w (Q.setCell (w,0) (.iface R S))):=QxY (Qu N.o.2 h3) N0 _;have ad:=Q7h (V.o _ _ _ u.o);clear d aa t h1 h2 h3;go_wp2_with fail
  generalize Q.setCell (w,0) (.iface R S)=w4 at *;with_reducible refine ad.o.mono ?_
  rintro e w5 ⟨v',rfl,ho,l⟩;have ae:=Q7h (Qu ac.o l);have m:=X.o w5 v' _ ho;rw[Y.o]at m;have af:=Q7h m;have ag:=Q7h (u.o.keep (Keep.below (F:=λ_=>False) l) λ_ _ h=>h);clear ho l m;go_wp2_with fail
  with_reducible refine af.o.mono ?_
  rintro e w6 ⟨rfl,n⟩;have HQ:Hid (Ab T w (.returned (.tuple #[(w,0),.nilIface])) w6):=⟨_,_,rfl,ag.o.keep (Keep.below (F:=λ_=>False) n) λ_ _ h=>h,ab.o,Qu ae.o n⟩;clear n;go_wp2_with fail
  go_returns;exact HQ.o
end tr
end Go.Proofs.YtfialjmemcobjaaGreatDoor
