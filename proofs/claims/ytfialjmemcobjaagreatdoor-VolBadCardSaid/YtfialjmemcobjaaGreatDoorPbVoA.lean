/- A part of the proof. -/
import Derived.Test.YtfialjmemcobjaaGreatDoorPbLgC
import Derived.Test.YtfialjmemcobjaaGreatDoorPbStR
import Derived.Test.YtfialjmemcobjaaGreatDoorPbYuA
set_option maxRecDepth 100000
set_option maxHeartbeats 16000000
set_option linter.unusedVariables false
set_option linter.unusedSimpArgs false
namespace Go.Proofs.YtfialjmemcobjaaGreatDoor
namespace vo
open Go.RowKit Go.Maps er st tr
structure Sp where
 id:Int
 size:Int
 used:Int
 tr:Tree
structure Bl where
 a:Nat
 p:Nat
 F:List Nat
abbrev XL:=List (Sp×Bl)
structure Vo where
 s:Sto
 cap:Int
 l:List Sp
 gen:Int
 root:Int
 last:List Int
 sure:Bool
structure Pt where
 q:Nat
 p:Nat
 lb:Nat
 mb:Nat
 tb:Nat
 sv:Value
 vv:Value
 lv:Value
 N:Nat->Prop
def Zq(X:XL):LL:=X.map λx=>(⟨x.1.id,x.1.size,x.1.used⟩,x.2.a)
def Z7(X:XL):List (Int×Nat):=X.map λx=>(x.1.id,x.2.p)
def Xt(v:Value):List Nat:=v.ownBlock.toList
def K6(X:XL):List Nat:=X.flatMap λx=>x.2.a::x.2.F
def Dl(v:Nat)(c:Pt)(X:XL):List Nat:=v::c.lb::c.mb::c.tb::(Xt c.lv++K6 X)
def stF(c:Pt):Nat->Prop:=foot c.q c.sv c.vv c.N
def Qe(c:Pt)(V:Vo):Array Value:=#[(c.q,0),(c.lb,0),.map (some c.tb),I V.gen,I V.root,c.lv,.bool V.sure]
structure VoIn(w:World)(v:Nat)(c:Pt)(X:XL)(V:Vo):Prop where
 obj:Whole w v 115 (Qe c V)
 sto:StoIn w c.q c.p c.sv c.vv c.N V.s
 led:LedIn w c.lb c.mb V.cap (Zq X)
 trs:MapAt w c.tb (Z7 X)
 tre:∀x∈X,TrAt w x.2.F x.2.p x.1.tr/\x.1.tr.Ok/\Chk x.1.tr.flat
 lst:w.ownsRow 0 3 1 c.lv V.last.length (ints V.last)
 spl:X.map (·.1)=V.l
 nd:(Dl v c X).Nodup
 far:∀k∈Dl v c X,¬stF c k/\k≠0
 zero:¬stF c 0
 laid:LaidT w
def vF(v:Nat)(c:Pt)(X:XL):Nat->Prop:=λk=>stF c k\/k∈Dl v c X
theorem Uy{v:Value}{k:Nat}:k∈Xt v↔v.ownBlock=some k:=by simp[Xt]
section
variable {w:World} {v:Nat} {c:Pt} {X:XL} {V:Vo}
theorem Qnq{X:XL}{k:Nat}(h:Q5w c.lb c.mb (Zq X) k):k∈Dl v c X:=by
 rcases h with rfl|rfl|⟨y,a,rfl⟩
 ·simp[Dl]
 ·simp[Dl]
 ·obtain⟨x,b,rfl⟩:=QqS.1 a;simp only[Dl,QqF,QqJ];exact .inr (.inr (.inr (.inr (.inr (QqX.2 ⟨x,b,U⟩)))))
theorem Lj{X:XL}{x:Sp×Bl}(a:x∈X){k:Nat}(b:k∈x.2.F):k∈Dl v c X:=by
 simp only[Dl,QqF,QqJ];exact .inr (.inr (.inr (.inr (.inr (QqX.2 ⟨x,a,by simp[b]⟩)))))
theorem VoIn.lt(h:VoIn w v c X V):∀k,vF v c X k->k<w.heap.size:=by
 rintro k (b|b)
 ·exact h.sto.lt k b
 ·simp only[Dl,QqF,QqJ]at b;rcases b with rfl|rfl|rfl|rfl|b|b
  ·exact h.obj.lt
  ·exact h.led.obj.lt
  ·exact h.led.map.lt
  ·exact h.trs.lt
  ·exact(h.lst.lt k (Uy.1 b)).2
  ·obtain⟨x,d,b⟩:=QqX.1 b;rcases QqF.1 b with rfl|b
   ·exact(h.led.acc (_,x.2.a) (QqS.2 ⟨x,d,rfl⟩)).lt
   ·exact(h.tre x d).1.lt k b
theorem VoIn.keep{G:Nat->Prop}{w':World}(h:VoIn w v c X V)(a:Keep G w w')(d:∀k,vF v c X k\/k=0->¬G k):VoIn w' v c X V:=by
 have b:∀k∈Dl v c X,¬G k:=λk a=>d k (.inl (.inr a));refine⟨h.obj.keep a (b _ (by simp[Dl])),h.sto.keep a (λk f=>d k (.inl (.inl f))),h.led.keep a (λk i=>b k (Qnq i)),h.trs.keep a (b _ (by simp[Dl])),λx e=>⟨(h.tre x e).1.keep a (λk j=>b k (Lj e j)),(h.tre x e).2⟩,Qa h.lst a (λg l=>b g ?_),h.spl,h.nd,h.far,h.zero,?_⟩
 ·simp only[Dl,QqF,QqJ];exact .inr (.inr (.inr (.inr (.inl (Uy.2 l)))))
 ·exact Keep.cell a h.laid (d 0 (.inr rfl))
theorem VoIn.below{w':World}(h:VoIn w v c X V)(hb:Below w w w'):VoIn w' v c X V:=h.keep (G:=λ_=>False) (Keep.below hb) (λ_ _ h=>h)
theorem VoIn.stored{w':World}{N':Nat->Prop}{s':Sto}(h:VoIn w v c X V)(n:StoIn w' c.q c.p c.sv c.vv N' s')(b:Moved w c.q c.sv c.vv c.N w' N'):VoIn w' v {c with N:=N'} X {V with s:=s'}:=by
 have d:∀k∈Dl v c X,¬stF c k:=λk a=>(h.far k a).1;have i:∀k∈Dl v c X,k<w.heap.size:=λk a=>h.lt k (.inr a);have m:∀k,k<w.heap.size->¬stF c k->¬stF {c with N:=N'} k:=λk a f j=>by
  rcases j with e|e|e|e
  ·exact f (.inl e)
  ·exact f (.inr (.inl e))
  ·exact f (.inr (.inr (.inl e)))
  ·rcases b.sub k e with e|e
   ·exact f (.inr (.inr (.inr e)))
   ·omega
 have o:=h.laid.lt;refine⟨h.obj.keep b.keep (d _ (by simp[Dl])),n,h.led.keep b.keep (λk r=>d k (Qnq r)),h.trs.keep b.keep (d _ (by simp[Dl])),λx l=>⟨(h.tre x l).1.keep b.keep (λk f=>d k (Lj l f)),(h.tre x l).2⟩,Qa h.lst b.keep (λg t=>d g ?_),h.spl,h.nd,λk a=>⟨m k (i k a) (d k a),(h.far k a).2⟩,m 0 o h.zero,Keep.cell b.keep h.laid h.zero⟩;simp only[Dl,QqF,QqJ];exact .inr (.inr (.inr (.inr (.inl (Uy.2 t)))))
theorem El{w':World}{N':Nat->Prop}(b:Moved w c.q c.sv c.vv c.N w' N'):Mv (vF v c X) w (vF v {c with N:=N'} X) w':=by
 refine⟨b.keep.mono (λk _ a=>.inl a),λk a=>?_⟩;rcases a with(e|e|e|e)|e
 ·exact .inl (.inl (.inl e))
 ·exact .inl (.inl (.inr (.inl e)))
 ·exact .inl (.inl (.inr (.inr (.inl e))))
 ·exact(b.sub k e).imp (λe=>.inl (.inr (.inr (.inr e)))) id
 ·exact .inl (.inr e)
end
end vo
namespace vo
open Go.RowKit Go.Maps er st tr nd ge
def Ig(e:Int):Value:=if e=0 then .nilIface else .iface 28 (I e)
theorem Jj(e:Int)(w:World):C 69 #[I e] w λx w'=>x= .returned (Ig e)/\w=w':=by
 go_in
 by_cases h:e=0
 ·subst h;go_wp2_with fail
  go_ret
  exact⟨rfl,rfl⟩
 ·have h1:(e==0)=false:=by simpa using h
  go_wp2_with fail
  go_ret
  exact⟨by unfold Ig;rw[QqE h];rfl,rfl⟩
theorem Qq9(w:World)(q p:Nat)(sv vv:Value)(N:Nat->Prop)(s:Sto)(h:StoIn w q p sv vv N s):
  C 130 #[(q,0)] w λe w'=>e= .returned (.agg #[I s.n.blocks,I s.n.per])/\Below w w w':=by
 have c1:=h.obj.cell 1;have c2:=h.obj.cell 2;have a:=h.obj.lt;simp[Pq]at c1 c2;go_in
 go_wp2_with fail
 go_returns;refine⟨rfl,?_⟩
 exact B0.alloc N0 _
theorem Ra(w:World)(q p:Nat)(sv vv:Value)(N:Nat->Prop)(s:Sto)(h:StoIn w q p sv vv N s)(h1:16<=s.n.blocks/\s.n.blocks<=64)(h2:8<=s.n.per/\s.n.per<=32)(R:LaidT w)(hz:¬foot q sv vv N 0):
  C 62 #[(q,0)] w λx w'=>∃v c,x= .returned (v,0)/\c.q=q/\c.p=p/\c.sv=sv/\c.vv=vv/\c.N=N/\VoIn w' v c [] {s:=s,cap:=Ye s.n.blocks s.n.per,l:=[],gen:=0,root:= -1,last:=[],sure:=true}/\(∀k∈Dl v c [],w.heap.size<=k)/\Below w w w':=by
 have T:=Q7h (Qq9 w q p sv vv N s h);have u:=Qeg s.n.blocks s.n.per O O O O;have V:Hid (∀W,C 37 #[.agg #[I s.n.blocks,I s.n.per]] W λe w'=>e= .returned (.tuple #[.agg #[I (s.n.blocks*s.n.per),I (s.n.blocks/8),I (Ye s.n.blocks s.n.per),I (Dm s.n.blocks s.n.per),I (Dm s.n.blocks s.n.per+1)],I 0])/\Below W W w'):=λW=>Pe _ _ W O O O O;have X:Hid (∀W,C 131 #[I (Ye s.n.blocks s.n.per)] W λe w'=>∃lb mb,e= .returned (lb,0)/\LedIn w' lb mb (Ye s.n.blocks s.n.per) []/\W.heap.size<=lb/\W.heap.size<=mb/\lb≠mb/\Below W W w'):=λW=>Qcz _ O W;have Y:=@run_makeMap Tryz.prog;have⟨S,t,Z,HQ,A⟩:=Q5 h R hz h1 h2;clear h R hz h1 h2 u;go_in
 go_wp2_with fail
 with_reducible refine T.o.mono ?_
 rintro e w1 ⟨rfl,i⟩;have j:=Q7h i;clear i;go_wp2_with fail
 with_reducible refine(V.o w1).mono ?_
 rintro e w2 ⟨rfl,m⟩;have y:=Q7h (m.mono j.o.size);clear m;go_wp2_with fail
 obtain⟨z,r⟩:∃z,z=(Obj.cells #[I (s.n.blocks*s.n.per),I (s.n.blocks/8),I (Ye s.n.blocks s.n.per),I (Dm s.n.blocks s.n.per),I (Dm s.n.blocks s.n.per+1)] 70):=⟨_,rfl⟩;rw[<-r];have d:=Q7h (j.o.trans y.o);have F:=Q7h (d.o.alloc d.o.size z);clear r;with_reducible refine(X.o _).mono ?_
 rintro e a ⟨lb,mb,rfl,b,H,K,B,f⟩;have g:=Q7h b;have L:=f.size;have aa:=d.o.size;simp only[QqW]at H K L;have M:=Q7h (F.o.trans (f.mono (by simp only[QqW];omega)));clear f b;go_wp2_with fail
 go_ret
 have b1:Below a a (a.alloc (.map #[] 0)):=B0.alloc N0 _;have b2:∀o,Below a a ((a.alloc (.map #[] 0)).alloc o):=λo=>b1.alloc U _;have b4:∀o,Below w w ((a.alloc (.map #[] 0)).alloc o):=λo=>M.o.trans ((b2 o).mono O);have hS:∀k,foot q sv vv N k->k<w.heap.size:=S.o.lt;refine⟨a.heap.size+1,⟨q,p,lb,mb,a.heap.size,sv,vv,.slice none 0 0,N⟩,U,rfl,rfl,rfl,rfl,rfl,⟨Whole.new' _ _ _ _ U,S.o.below (b4 _),g.o.below (b2 _),(MapAt.made a).below (B0.alloc N0 _),λx hx=>by simp at hx,⟨rfl,.inl ⟨rfl,rfl⟩⟩,rfl,?_,?_,Z.o,t.o.below (b4 _) t.o.lt⟩,?_,b4 _⟩
 ·have:=g.o.obj.lt;have:=g.o.map.lt;simp[Dl,Xt,K6,Value.ownBlock];omega
 ·intro k Q;have ab:w.heap.size<=k:=by
   have h0:=t.o.lt;simp[Dl,Xt,K6,Value.ownBlock]at Q;omega
  have h0:=t.o.lt;exact⟨λhf=>by have:=hS k hf;omega,O⟩
 ·intro k Q;simp[Dl,Xt,K6,Value.ownBlock]at Q;omega
end vo
end Go.Proofs.YtfialjmemcobjaaGreatDoor
