/- A part of the proof. -/
import Derived.Test.YtfialjmemcobjaaGreatDoorPrRtD
import Derived.Test.YtfialjmemcobjaaGreatDoorPrVoP
set_option linter.unusedVariables false
set_option linter.unusedSimpArgs false
namespace Go.Proofs.YtfialjmemcobjaaGreatDoor
namespace vo
open Go.RowKit Go.Maps er st tr nd pg
set_option maxRecDepth 100000
theorem Qj2 {v:Nat} {c:Pt} {X:XL} {s:Sp} {ab p:Nat} {F:List Nat} (hn:∀z∈X,z.1.id≠s.id):(Dl v c (Xx X (s,⟨ab,p,F⟩))).Perm ((ab::F)++Dl v c X):=by
 have h1:(Zd (Xx X (s,⟨ab,p,F⟩))).Perm ((ab::F)++Zd X):=Pz (Yw hn)
 refine (h1.append_left ([v,c.lb,c.mb,c.tb]++Kh c.lv)).trans ?_
 show (([v,c.lb,c.mb,c.tb]++Kh c.lv)++((ab::F)++Zd X)).Perm ((ab::F)++(([v,c.lb,c.mb,c.tb]++Kh c.lv)++Zd X))
 rw [←List.append_assoc,←List.append_assoc (ab::F)]
 exact List.perm_append_comm.append_right _
theorem VoIn.loaded {w w3:World} {v:Nat} {c:Pt} {X:XL} {V:Vo} {id size u:Int} {T:Tree} {ab p:Nat} {F:List Nat} (h:VoIn w v c X V) (hn:∀x∈X,x.1.id≠id) (hk:Keep (fun k=>k=c.mb∨k=c.tb) w w3) (hl:LedIn w3 c.lb c.mb V.cap (Z0 (Q5 X) (⟨id,size,u⟩,ab))) (ht:MapAt w3 c.tb (Iw (Zm X) id p)) (hp:TrAt w3 F p T) (hok:T.Ok) (hc:Chk T.flat) (hab:w.heap.size≤ab) (hF:∀k∈F,w.heap.size≤k) (hne:ab∉F):
  VoIn w3 v c (Xx X (⟨id,size,u,T⟩,⟨ab,p,F⟩)) {V with l:=(Xx X (⟨id,size,u,T⟩,⟨ab,p,F⟩)).map (·.1)}:=by
 have hnd:=h.nd
 have hS:∀k,stF c k→¬(k=c.mb∨k=c.tb):=fun k hs e=>by
  rcases e with rfl|rfl
  ·exact (h.far c.mb (by simp [Dl])).1 hs
  ·exact (h.far c.tb (by simp [Dl])).1 hs
 have hsub:∀k∈v::(Kh c.lv++Zd X),¬(k=c.mb∨k=c.tb):=fun k hk e=>by
  unfold Dl at hnd
  simp only [List.nodup_cons,List.mem_cons,List.mem_append,not_or] at hnd
  obtain ⟨⟨n1,n2,n3,n4,n5⟩,⟨n6,n7,n8,n9⟩,⟨n10,n11,n12⟩,⟨n13,n14⟩,n15⟩:=hnd
  simp only [List.mem_cons,List.mem_append] at hk
  rcases e with rfl|rfl
  ·rcases hk with e|hk|hk
   ·exact n2 e.symm
   ·exact n11 hk
   ·exact n12 hk
  ·rcases hk with e|hk|hk
   ·exact n3 e.symm
   ·exact n13 hk
   ·exact n14 hk
 have hperm:=Qj2 (v:=v) (c:=c) (s:=(⟨id,size,u,T⟩:Sp)) (ab:=ab) (p:=p) (F:=F) hn
 have hlt:=h.lt
 have h0:=h.laid.lt
 have hnew:∀k∈ab::F,w.heap.size≤k:=fun k hk=>by
  rcases List.mem_cons.1 hk with rfl|hk
  ·exact hab
  ·exact hF k hk
 refine ⟨h.obj.keep hk (hsub _ (by simp)),h.sto.keep hk hS,by rw [Qqk];exact hl,by rw [L9];exact ht,fun x hx=>?_,Qj h.lst hk (fun g hg=>hsub g ?_),rfl,?_,fun k hk=>?_,h.zero,hk.cell h.laid (fun e=>?_)⟩
 ·rcases Az hx with rfl|hx
  ·exact ⟨hp,hok,hc⟩
  ·refine ⟨TrAt.keep (h.tre x hx).1 hk (fun k hf=>hsub k ?_),(h.tre x hx).2⟩
   simp only [List.mem_cons,List.mem_append]
   exact .inr (.inr (List.mem_flatMap.2 ⟨x,hx,by simp [hf]⟩))
 ·simp only [List.mem_cons,List.mem_append]
  exact .inr (.inl (Jf.2 hg))
 ·rw [hperm.nodup_iff,List.nodup_append]
  refine ⟨List.nodup_cons.2 ⟨hne,Sl hp⟩,h.nd,fun k hk m hm e=>?_⟩
  subst e
  have:=hlt k (.inr hm)
  have:=hnew k hk
  omega
 ·have:=hperm.mem_iff.1 hk
  rcases List.mem_append.1 this with hk|hk
  ·have:=hnew k hk
   exact ⟨fun hs=>by have:=hlt k (.inl hs);omega,by omega⟩
  ·exact h.far k hk
 ·rcases e with e|e
  ·exact (h.far c.mb (by simp [Dl])).2 e.symm
  ·exact (h.far c.tb (by simp [Dl])).2 e.symm
noncomputable def Ac (n:Nand) (id top:Int) (h:Nat):Option Tree:=
 match Qd (Xv n id) top h top with
 |some m=>if Ko (flat m)=true then some (.top h m) else none
 |none=>none
noncomputable def K6 (n:Nand) (x:rt.Space):Option Tree:=if x.high=0 then some .no else Ac n x.id x.top (x.high - 1).toNat
noncomputable def Yg (n:Nand) (x:rt.Space):Option Sp:=
 match K6 n x with
 |some T=>if Z5 n x.id x.size T.flat=true then some ⟨x.id,x.size,Jz T.flat,T⟩ else none
 |none=>none
def Zw (l:List Sp):Int:=(l.map (·.used)).sum
noncomputable def Ke (n:Nand) (cap:Int):List Sp→List rt.Space→Option (List Sp)
 |a,[]=>some a
 |a,x::l=>match Yg n x with
  |some p=>if p.used≤cap - Zw a then Ke n cap (a++[p]) l else none
  |none=>none
theorem Fx {n:Nand} {x:rt.Space} {T:Tree} (h:K6 n x=some T):T.Ok∧Chk T.flat:=by
 unfold K6 at h
 split at h
 ·injection h with h
  subst h
  exact ⟨trivial,Df⟩
 ·unfold Ac at h
  split at h
  ·rename_i m hm
   split at h
   ·rename_i hc
    injection h with h
    subst h
    rw [Eu] at hm
    exact ⟨Tt hm,Xj _ hc⟩
   ·cases h
  ·cases h
theorem Qyo (w:World) (v:Nat) (c:Pt) (X:XL) (V:Vo) (x:rt.Space) (b1 b2:Nat) (h:VoIn w v c X V) (h1:Whole w b1 24 #[.pointer (some ⟨v,0,none⟩)]) (h2:Whole w b2 3 #[.int .i64 x.id]) (hx:rt.spB x=true) (ht:∀a,(V.s.n.read a).2.size≤70368744177664) (hs:∀a,(Qx V.s.n a).1.body.size≤1000000):
  Calls Tryz.prog 132 #[.int .i64 x.top,.int .i64 x.high,.func (.func 198) #[] #[.pointer (some ⟨b1,0,none⟩),.pointer (some ⟨b2,0,none⟩)]] w fun e w'=>(∃T p F,K6 V.s.n x=some T∧e= .returned (.tuple #[.pointer (some ⟨p,0,none⟩),.nilIface])∧TrAt w' F p T∧(∀k∈F,w.heap.size≤k)∧Below w.heap.size w w')∨(K6 V.s.n x=none∧∃y,e= .returned (.tuple #[.pointer none,.iface 183 y])∧Below w.heap.size w w'):=by
 obtain ⟨q1,q2,q3,q4,q5,q6,q7,q8⟩:=rt.Jp hx
 unfold K6
 by_cases hh:x.high=0
 ·rw [if_pos hh,q7 hh,hh]
  refine (Qgc w _).mono ?_
  rintro e w' ⟨p,F,rfl,g1,g2,g3⟩
  exact .inl ⟨.no,p,F,rfl,rfl,g1,g2,g3⟩
 ·rw [if_neg hh]
  obtain ⟨t0,t1⟩:=q8 hh
  obtain ⟨m,hm⟩:∃m:Nat,x.high=(m:Int)+1:=⟨(x.high - 1).toNat,by omega⟩
  have hm2:(x.high - 1).toNat=m:=by omega
  rw [hm2,hm]
  refine (Qxv (Qli v c X V x.id b1 b2 ht hs) w m x.top ⟨h,h1,h2⟩ (by unfold tr.I64;omega) (by omega) (by omega)).mono ?_
  intro e w' hp
  unfold Ac
  have hp':Iz (Qd (Xv V.s.n x.id) x.top m x.top) w e w':=hp
  unfold Iz at hp'
  cases hr:Qd (Xv V.s.n x.id) x.top m x.top with
  |none=>
   rw [hr] at hp'
   obtain ⟨y,rfl,_,g⟩:=hp'
   exact .inr ⟨rfl,y,rfl,g⟩
  |some nd=>
   rw [hr] at hp'
   simp only at hp' ⊢
   by_cases hc:Ko (flat nd)=true
   ·rw [if_pos hc] at hp' ⊢
    obtain ⟨p,F,rfl,g1,g2,g3⟩:=hp'
    exact .inl ⟨_,p,F,rfl,rfl,g1,g2,g3⟩
   ·rw [if_neg hc] at hp' ⊢
    obtain ⟨y,rfl,_,g⟩:=hp'
    exact .inr ⟨rfl,y,rfl,g⟩
theorem Qxo {X:XL} {y:Sp×Bl} (h:∀z∈X,z.1.id < y.1.id):Xx X y=X++[y]:=by
 unfold Xx
 rw [List.filter_eq_self.2 (fun z hz=>by simpa using h z hz),List.filter_eq_nil_iff.2 (fun z hz=>by have:=h z hz;simp;omega)]
end vo
namespace vo
open Go.RowKit Go.Maps er st tr nd pg
set_option maxRecDepth 100000
theorem Hr {b:ByteArray} {g:Int} {l:List rt.Space} (h:rt.Xa b=some (g,l)):rt.Ox g l=true:=by
 unfold rt.Xa at h
 split at h
 ·cases h
 ·split at h
  ·cases h
  ·split at h
   ·cases h
   ·split at h
    ·rename_i hc
     rw [Bool.and_eq_true] at hc
     injection h with h
     injection h with h1 h2
     rw [←h1,←h2]
     exact hc.1
    ·cases h
theorem Qa2 {l:List rt.Space} (hu:rt.upB l=true) {j:Nat} {x:rt.Space} (hx:l[j]? =some x):∀y∈l.drop (j+1),x.id < y.id:=by
 intro y hy
 have h:=(rt.Px l).1 hu
 have key:∀(k:Nat) (z:rt.Space),l[j+1+k]? =some z→x.id < z.id:=by
  intro k
  induction k with
  |zero=>intro z hz;exact h j x z hx hz
  |succ k ih=>
   intro z hz
   obtain ⟨u,hu'⟩:∃u,l[j+1+k]? =some u:=⟨_,List.getElem?_eq_getElem (by have:=(List.getElem?_eq_some_iff.1 hz).1;omega)⟩
   have h1:=ih u hu'
   have h2:=h (j+1+k) u z hu' hz
   omega
 obtain ⟨k,hk⟩:=List.mem_iff_getElem?.1 hy
 rw [List.getElem?_drop] at hk
 exact key k y hk
theorem Vb {α:Type} {g:α→α}:∀{A:List α},(∀y∈A,g y=y)→A.map g=A
 |[],_=>rfl
 |a::A,h=>by rw [List.map_cons,h a (by simp),Vb (fun y hy=>h y (by simp [hy]))]
theorem I4 {L:LL} {y:Acc×Nat} (h:∀z∈L,z.1.id < y.1.id):Z0 L y=L++[y]:=by
 unfold Z0
 rw [List.filter_eq_self.2 (fun z hz=>by simpa using h z hz),List.filter_eq_nil_iff.2 (fun z hz=>by have:=h z hz;simp;omega)]
theorem Qy4 {L:LL} {id size n:Int} {ab:Nat} (hn:∀y∈L,y.1.id < id):Jn (Z0 L (⟨id,size,0⟩,ab)) id (fun a=>{a with used:=a.used+n})=Z0 L (⟨id,size,n⟩,ab):=by
 rw [I4 (y:=(⟨id,size,0⟩,ab)) hn,I4 (y:=(⟨id,size,n⟩,ab)) hn]
 unfold Jn
 rw [List.map_append,Vb (A:=L) (fun y hy=>if_neg (by have:=hn y hy;omega))]
 simp
theorem Qk4 {L:LL} {id size:Int} {ab:Nat} (hn:∀y∈L,y.1.id < id):tot (Zu (Z0 L (⟨id,size,0⟩,ab)))=tot (Zu L):=by
 rw [I4 (y:=(⟨id,size,0⟩,ab)) hn]
 simp [tot,Zu]
theorem Gl (X:XL):tot (Zu (Q5 X))=Zw (X.map (·.1)):=by
 unfold tot Zu Q5 Zw
 rw [List.map_map,List.map_map,List.map_map]
 rfl
theorem Qem {L:LL} {id:Int} (h:∀y∈L,y.1.id≠id):K9 (key L) id=none:=by
 cases hf:K9 (key L) id with
 |none=>rfl
 |some p=>
  obtain ⟨y,hy,e,_⟩:=Qii hf
  exact absurd e (h y hy)
theorem R3 {X:XL} {P:Int→Prop} (h:∀x∈X,P x.1.id):∀y∈Q5 X,P y.1.id:=fun y hy=>by
 obtain ⟨x,hx,rfl⟩:=List.mem_map.1 hy
 exact h x hx
theorem Qjf (W:World) (v:Nat) (c:Pt) (X:XL) (V:Vo) (x:rt.Space) (h:VoIn W v c X V) (hx:rt.spB x=true) (hn:∀z∈X,z.1.id < x.id) (h8:X.length < 8):
  Calls Tryz.prog 70 #[.pointer (some ⟨c.lb,0,none⟩),.int .i64 x.id,.int .i64 x.size] W fun e w'=>∃ab,e= .returned (.int .i64 0)∧W.heap.size≤ab∧LedIn w' c.lb c.mb V.cap (Z0 (Q5 X) (⟨x.id,x.size,0⟩,ab))∧Keep (fun k=>k=c.mb) W w':=by
 obtain ⟨q1,q2,q3,q4,_⟩:=rt.Jp hx
 have hne:∀y∈Q5 X,y.1.id≠x.id:=R3 (P:=fun i=>i≠x.id) (fun z hz=>by have:=hn z hz;omega)
 exact Vh W _ _ _ _ x.id x.size h.led ⟨q1,q2⟩ hne (Qem hne) ⟨q3,q4⟩ (by simpa [Q5] using h8)
theorem Vl {L:LL} {y:Acc×Nat}:y∈Z0 L y:=by unfold Z0;simp
theorem Qy7 (W:World) (c:Pt) (X:XL) (cap:Int) (x:rt.Space) (ab:Nat) (n:Int) (h:LedIn W c.lb c.mb cap (Z0 (Q5 X) (⟨x.id,x.size,0⟩,ab))) (hn:∀z∈X,z.1.id < x.id) (h0:0≤n) (hle:n≤cap - Zw (X.map (·.1))):
  Calls Tryz.prog 106 #[.pointer (some ⟨c.lb,0,none⟩),.int .i64 x.id,.int .i64 n] W fun e w'=>e= .returned (.int .i64 0)∧LedIn w' c.lb c.mb cap (Z0 (Q5 X) (⟨x.id,x.size,n⟩,ab))∧Keep (fun k=>k=ab) W w':=by
 have hn':∀y∈Q5 X,y.1.id < x.id:=R3 (P:=fun i=>i < x.id) hn
 have q:=Hz W c.lb c.mb cap _ (⟨x.id,x.size,0⟩,ab) n h Vl h0 (by rw [Qk4 hn',Gl];exact hle)
 refine q.mono ?_
 rintro e w' ⟨rfl,q1,q2⟩
 refine ⟨rfl,?_,q2⟩
 have e1:Jn (Z0 (Q5 X) (⟨x.id,x.size,0⟩,ab)) x.id (fun a=>{a with used:=a.used+n})=Z0 (Q5 X) (⟨x.id,x.size,n⟩,ab):=Qy4 hn'
 rw [←e1]
 exact q1
theorem Qek (W:World) (c:Pt) (X:XL) (cap:Int) (x:rt.Space) (ab:Nat) (n:Int) (h:LedIn W c.lb c.mb cap (Z0 (Q5 X) (⟨x.id,x.size,0⟩,ab))) (hn:∀z∈X,z.1.id < x.id) (hlt:cap - Zw (X.map (·.1)) < n):
  Calls Tryz.prog 106 #[.pointer (some ⟨c.lb,0,none⟩),.int .i64 x.id,.int .i64 n] W fun e w'=>e= .returned (.int .i64 71)∧Below W.heap.size W w':=by
 have hn':∀y∈Q5 X,y.1.id < x.id:=R3 (P:=fun i=>i < x.id) hn
 exact Dx W c.lb c.mb cap _ (⟨x.id,x.size,0⟩,ab) n h Vl (by rw [Qk4 hn',Gl];exact hlt)
end vo
namespace vo
open Go.RowKit er st tr nd pg
theorem Ed:∀(l:List Int) (n:Nat),l.Nodup→(∀a∈l,0≤a∧a < n)→l.length≤n
 |l,0,_,hr=>by
  cases l with
  |nil=>simp
  |cons a r=>have:=hr a (by simp);omega
 |l,n+1,hn,hr=>by
  have ih:=Ed (l.filter fun a=>decide (a≠n)) n (hn.filter _) (fun a ha=>by
   have h1:=List.mem_filter.1 ha
   have h2:=hr a h1.1
   have h3:a≠n:=by simpa using h1.2
   omega)
  have hc:l.length≤(l.filter fun a=>decide (a≠(n:Int))).length+1:=by
   clear hr ih
   induction l with
   |nil=>simp
   |cons a r ihr=>
    obtain ⟨h1,h2⟩:=List.nodup_cons.1 hn
    by_cases e:a=n
    ·have:r.filter (fun a=>decide (a≠(n:Int)))=r:=List.filter_eq_self.2 (fun x hx=>by
      have:x≠n:=fun e2=>h1 (by rw [e,←e2];exact hx)
      simpa using this)
     rw [List.filter_cons,if_neg (by simp [e]),this,List.length_cons]
     exact Nat.le_refl _
    ·have:=ihr h2
     rw [List.filter_cons,if_pos (by simpa using e),List.length_cons,List.length_cons]
     omega
  omega
section
variable {B:Int→Option (Int×ByteArray)} {top:Int}
theorem Y6:∀{h:Nat} {pg:Int} {n:Nd h},Qd B top h pg=some n→n.at_=pg∧B pg≠none
 |0,pg,n,hr=>by
  obtain ⟨p,h0,_,_,_,_,rfl⟩:=Jk.1 hr
  exact ⟨rfl,by rw [h0];simp⟩
 |h+1,pg,n,hr=>by
  obtain ⟨p,ns,h0,_,_,_,_,_,rfl⟩:=Kk.1 hr
  exact ⟨rfl,by rw [h0];simp⟩
theorem Ul {h:Nat} {pg:Int} {n:Nd (h+1)} (hr:Qd B top (h+1) pg=some n):∀k∈n.ks,Qd B top h k.at_=some k:=by
 obtain ⟨p,ns,h0,_,_,_,_,h5,rfl⟩:=Kk.1 hr
 obtain ⟨i1,i2⟩:=Jt h5
 intro k hk
 obtain ⟨j,hj,rfl⟩:=List.mem_iff_getElem.1 (show k∈ns from hk)
 obtain ⟨q,_,e2,_⟩:=i2 j _ (List.getElem?_eq_getElem hj)
 rw [(Y6 e2).1];exact e2
theorem Tn:∀{h:Nat} {pg:Int} {n:Nd h},Qd B top h pg=some n→1≤(flat n).length
 |0,pg,n,hr=>by
  obtain ⟨p,_,_,_,h3,_,rfl⟩:=Jk.1 hr
  exact (Dz h3).1
 |h+1,pg,n,hr=>by
  have hk:=Ul hr
  obtain ⟨p,ns,h0,_,_,h3,_,h5,rfl⟩:=Kk.1 hr
  obtain ⟨i1,_⟩:=Jt h5
  have h2:=h3.1
  match ns,i1,hk with
  |[],i1,_=>simp at i1;omega
  |k::r,_,hk=>
   have:=Tn (hk k (by show k∈k::r;simp))
   show 1≤(Qm (k::r)).length
   rw [Q8,List.length_append]
   omega
theorem Y5:∀{h:Nat} {pg:Int} {n:Nd h},Qd B top h pg=some n→∀a∈ats n,∃(h':Nat) (m:Nd h'),h'≤h∧Qd B top h' a=some m∧(∀e∈flat m,e∈flat n)∧(h'=h→a=pg)
 |0,pg,n,hr,a,ha=>by
  have ha:a∈[n.at_]:=ha
  rw [List.mem_singleton,(Y6 hr).1] at ha
  subst ha
  exact ⟨0,n,Nat.le_refl _,hr,fun e he=>he,fun _=>rfl⟩
 |h+1,pg,n,hr,a,ha=>by
  have ha:a∈n.ks.flatMap ats++[n.at_]:=ha
  rcases List.mem_append.1 ha with ha|ha
  ·obtain ⟨k,hk,hak⟩:=List.mem_flatMap.1 ha
   obtain ⟨h',m,p1,p2,p3,p4⟩:=Y5 (Ul hr k hk) a hak
   refine ⟨h',m,by omega,p2,fun e he=>?_,fun e=>by omega⟩
   show e∈Qm n.ks
   exact List.mem_flatMap.2 ⟨k,hk,p3 e he⟩
  ·rw [List.mem_singleton,(Y6 hr).1] at ha
   subst ha
   exact ⟨h+1,n,Nat.le_refl _,hr,fun e he=>he,fun _=>rfl⟩
theorem E9:∀{h:Nat} {pg:Int} {n:Nd h},Qd B top h pg=some n→((flat n).map (·.fr)).Nodup→(ats n).Nodup
 |0,pg,n,hr,_=>by show [n.at_].Nodup;simp
 |h+1,pg,n,hr,hp=>by
  have hk:=Ul hr
  show (n.ks.flatMap ats++[n.at_]).Nodup
  have hp':((Qm n.ks).map (·.fr)).Nodup:=hp
  have hkn:∀(l:List (Nd h)),(∀k∈l,Qd B top h k.at_=some k)→((Qm l).map (·.fr)).Nodup→(l.flatMap ats).Nodup:=by
   intro l
   induction l with
   |nil=>intro _ _;simp
   |cons k r ih=>
    intro hx hn
    rw [Q8,List.map_append] at hn
    obtain ⟨n1,n2,n3⟩:=List.nodup_append.1 hn
    rw [List.flatMap_cons]
    refine List.nodup_append.2 ⟨E9 (hx k (by simp)) n1,ih (fun z hz=>hx z (by simp [hz])) n2,fun a ha b hb e=>?_⟩
    subst e
    obtain ⟨k2,hk2,hb⟩:=List.mem_flatMap.1 hb
    obtain ⟨h1,m1,_,r1,s1,_⟩:=Y5 (hx k (by simp)) a ha
    obtain ⟨h2,m2,_,r2,s2,_⟩:=Y5 (hx k2 (by simp [hk2])) a hb
    obtain rfl:=Yj r1 r2
    rw [r1] at r2
    injection r2 with r2
    subst r2
    have hne:=Tn r1
    cases hf:flat m1 with
    |nil=>rw [hf] at hne;simp at hne
    |cons e t=>
     have he:e∈flat m1:=by rw [hf];simp
     exact n3 e.fr (List.mem_map.2 ⟨e,s1 e he,rfl⟩) e.fr (List.mem_map.2 ⟨e,List.mem_flatMap.2 ⟨k2,hk2,s2 e he⟩,rfl⟩) rfl
  refine List.nodup_append.2 ⟨hkn n.ks hk hp',by simp,fun a ha b hb e=>?_⟩
  subst e
  rw [List.mem_singleton,(Y6 hr).1] at hb
  subst hb
  obtain ⟨k,hk1,ha⟩:=List.mem_flatMap.1 ha
  obtain ⟨h',m,q1,q2,_⟩:=Y5 (hk k hk1) a ha
  have:=Yj q2 hr
  omega
theorem Mr:∀{h:Nat} {pg:Int} {n:Nd h},Qd B top h pg=some n→(flat n).length≤8 * Zc n
 |0,pg,n,hr=>by
  obtain ⟨p,_,_,_,h3,_,rfl⟩:=Jk.1 hr
  have:=(Dz h3).2
  show (Qr p.2).length≤8 * 1
  omega
 |h+1,pg,n,hr=>by
  have hk:=Ul hr
  show (Qm n.ks).length≤8 * (1+(n.ks.map Zc).sum)
  have:∀(l:List (Nd h)),(∀k∈l,Qd B top h k.at_=some k)→(Qm l).length≤8 * (l.map Zc).sum:=by
   intro l
   induction l with
   |nil=>intro _;simp
   |cons k r ih=>
    intro hx
    have h1:=Mr (hx k (by simp))
    have h2:=ih (fun z hz=>hx z (by simp [hz]))
    rw [Q8,List.length_append,List.map_cons,List.sum_cons]
    omega
  have:=this n.ks hk
  omega
end
theorem Qu1 {l:List Ext} (h:Chk l):(l.map (·.fr)).Nodup:=by
 have hp:l.Pairwise fun a b=>a.fr≠b.fr:=by
  refine List.Pairwise.imp_of_mem ?_ h.ord
  intro a b ha hb hab e
  have h1:=h.one a ha
  unfold Qf at h1
  simp only [Bool.and_eq_true,decide_eq_true_eq] at h1
  have h2:=hab.1
  unfold Ext.end_ at h2
  omega
 exact List.pairwise_map.2 hp
theorem Tf {n:Nand} {a:Int} (h:(Qx n a).2=0):0≤a∧a < (n.blocks * n.per:Nat):=by
 unfold Qx at h
 split at h
 ·rename_i hr
  unfold Nand.read at hr
  split at hr
  ·simp at hr
  ·split at hr
   ·simp at hr
   ·rename_i h2
    have h3:=Classical.not_not.1 h2
    exact ⟨h3.1,by push_cast;exact h3.2⟩
 ·rename_i hr
  exact absurd h hr
theorem Qeh {n:Nand} {id a:Int} (h:Xv n id a≠none):(Qx n a).2=0:=by
 unfold Xv at h
 split at h
 ·rename_i h2;exact h2.1
 ·exact absurd rfl h
theorem Lu {n:Nand} {id top:Int} {h:Nat} {m:Nd h} (hr:Qd (Xv n id) top h top=some m):∀a∈ats m,0≤a∧a < (n.blocks * n.per:Nat):=fun a ha=>by
 obtain ⟨_,_,_,h2,_⟩:=Y5 hr a ha
 exact Tf (Qeh (Y6 h2).2)
theorem Fy {n:Nand} {id top:Int} {h:Nat} {m:Nd h} (hr:Qd (Xv n id) top h top=some m) (hc:Chk (flat m)):(ats m).Nodup∧Zc m≤n.blocks * n.per∧(flat m).length≤8 * (n.blocks * n.per):=by
 have hn:=E9 hr (Qu1 hc)
 have hl:=Ed (ats m) (n.blocks * n.per) hn (Lu hr)
 rw [Zf] at hl
 have:=Mr hr
 exact ⟨hn,hl,by omega⟩
theorem Qjd {n:Nand} {id top:Int} {h:Nat} {m:Nd h} (hr:Qd (Xv n id) top h top=some m):nfs m=ats m∧frN m=0:=by
 have hg:=Lu hr
 constructor
 ·unfold nfs
  rw [List.filter_eq_self]
  intro a ha
  have:=hg a ha
  simp
  omega
 ·unfold frN
  rw [List.filter_eq_nil_iff.2 (fun a ha=>by have:=hg a ha;simp;omega)]
  rfl
theorem Qx3 {n:Nand} {id s a:Int} (h:Zk n id s a=true):0≤a∧a < (n.blocks * n.per:Nat)∧(Qx n a).1.key=s:=by
 unfold Zk at h
 simp only [Bool.and_eq_true,decide_eq_true_eq] at h
 obtain ⟨⟨⟨⟨h1,h2⟩,h3⟩,h4⟩,h5⟩:=h
 have:=Tf h1
 exact ⟨this.1,this.2,h4⟩
theorem Qyz {e:Ext} {q:Nat} {a:Int} (h:a∈Kv e q):e.kind=2∧∃i:Nat,i < q∧a=e.at_+i:=by
 unfold Kv at h
 split at h
 ·rename_i hk
  obtain ⟨i,hi,rfl⟩:=List.mem_map.1 h
  exact ⟨hk,i,List.mem_range.1 hi,rfl⟩
 ·simp at h
theorem Bf {n:Nand} {id size:Int}:∀{l:List Ext},Chk l→Z5 n id size l=true→(Q3 l).Nodup∧∀a∈Q3 l,(0≤a∧a < (n.blocks * n.per:Nat))∧∃e∈l,e.fr≤(Qx n a).1.key∧(Qx n a).1.key < e.end_
 |[],_,_=>by simp [Q3]
 |e::r,hc,hh=>by
  have hcr:Chk r:=⟨fun x hx=>hc.one x (by simp [hx]),(List.pairwise_cons.1 hc.ord).2⟩
  unfold Z5 at hh
  rw [List.all_cons,Bool.and_eq_true] at hh
  obtain ⟨i1,i2⟩:=Bf (n:=n) (id:=id) (size:=size) hcr hh.2
  have ho:=hc.one e (by simp)
  have hst:∀a∈Kv e e.n.toNat,∃i:Nat,i < e.n.toNat∧a=e.at_+i∧Zk n id (e.fr+i) a=true:=by
   intro a ha
   obtain ⟨hk,i,hi,rfl⟩:=Qyz ha
   refine ⟨i,hi,rfl,?_⟩
   have h1:=hh.1
   unfold Ug at h1
   simp only [Bool.and_eq_true,Bool.or_eq_true,decide_eq_true_eq] at h1
   exact Fq n id e (h1.2.resolve_left (fun h=>h hk)) hi
  have e1:Q3 (e::r)=Kv e e.n.toNat++Q3 r:=rfl
  rw [e1]
  have hin:∀a∈Kv e e.n.toNat,(0≤a∧a < (n.blocks * n.per:Nat))∧e.fr≤(Qx n a).1.key∧(Qx n a).1.key < e.end_:=by
   intro a ha
   obtain ⟨i,hi,_,hs⟩:=hst a ha
   obtain ⟨s1,s2,s3⟩:=Qx3 hs
   refine ⟨⟨s1,s2⟩,?_⟩
   unfold Ext.end_
   rw [s3];omega
  refine ⟨List.nodup_append.2 ⟨?_,i1,fun a ha b hb hab=>?_⟩,fun a ha=>?_⟩
  ·unfold Kv
   split
   ·refine List.pairwise_map.2 (List.Pairwise.imp ?_ List.nodup_range)
    intro x y hxy he
    omega
   ·simp
  ·subst hab
   obtain ⟨_,h1,h2⟩:=hin a ha
   obtain ⟨_,f,hf,h3,h4⟩:=i2 a hb
   have:=((List.pairwise_cons.1 hc.ord).1 f hf).1
   omega
  ·rcases List.mem_append.1 ha with ha|ha
   ·exact ⟨(hin a ha).1,e,by simp,(hin a ha).2⟩
   ·obtain ⟨h1,f,hf,h2⟩:=i2 a ha
    exact ⟨h1,f,by simp [hf],h2⟩
theorem Gs (l:List Int):(sorted l).length=l.length:=by unfold sorted;simp
theorem Hq {n:Nand} {x:rt.Space} {s:Sp} (hn:n.blocks * n.per≤512) (h:Yg n x=some s):Small s.tr∧(Yl s.tr).length≤1024:=by
 unfold Yg at h
 cases ht:K6 n x with
 |none=>rw [ht] at h;cases h
 |some T=>
  rw [ht] at h
  simp only at h
  split at h
  ·rename_i hh
   injection h with h
   subst h
   show Small T∧(Yl T).length≤1024
   obtain ⟨ho,hc⟩:=Fx ht
   have he:=Bf hc hh
   have hel:=Ed _ _ he.1 (fun a ha=>(he.2 a ha).1)
   cases T with
   |no=>exact ⟨⟨by show 0≤_;omega,by show 0≤_;omega,by show (sorted []++Q3 []).length≤_;rw [List.length_append,Gs];simp [Q3]⟩,by show (sorted []++Q3 []).length≤_;rw [List.length_append,Gs];simp [Q3]⟩
   |top hh2 m=>
    have hr:Qd (Xv n x.id) x.top hh2 x.top=some m:=by
     unfold K6 at ht
     split at ht
     ·cases ht
     ·unfold Ac at ht
      split at ht
      ·rename_i m2 hm2
       split at ht
       ·injection ht with ht
        injection ht with e1 e2
        subst e1
        rw [hm2]
        exact congrArg some (eq_of_heq e2)
       ·cases ht
      ·cases ht
    obtain ⟨g1,g2,g3⟩:=Fy hr hc
    have e:(Yl (.top hh2 m)).length=(nfs m).length+(Q3 (flat m)).length:=by
     show (sorted (nfs m)++Q3 (flat m)).length=_
     rw [List.length_append,Gs]
    have e2:(nfs m).length=Zc m:=by rw [(Qjd hr).1,Zf]
    have hel':(Q3 (flat m)).length≤n.blocks * n.per:=hel
    exact ⟨⟨by show Zc m≤_;omega,by show (flat m).length≤_;omega,by omega⟩,by omega⟩
  ·cases h
end vo
end Go.Proofs.YtfialjmemcobjaaGreatDoor
