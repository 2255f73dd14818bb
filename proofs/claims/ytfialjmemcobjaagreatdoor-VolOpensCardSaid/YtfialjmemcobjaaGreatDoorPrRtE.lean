/- A part of the proof. -/
import Derived.Test.YtfialjmemcobjaaGreatDoorPrRtD
import Derived.Test.YtfialjmemcobjaaGreatDoorPrStA
set_option linter.unusedVariables false
set_option linter.unusedSimpArgs false
namespace Go.Proofs.YtfialjmemcobjaaGreatDoor
namespace rt
open Go.RowKit er st pg
def Ga (f:Fnd):Int:=match Xa f.p.body with|some x=>x.1|none=>0
def newer (f g:Fnd):Prop:=Ga g < Ga f∨Ga g=Ga f∧(g.p.seq < f.p.seq∨g.p.seq=f.p.seq∧g.at_≤f.at_)
def Z4 (f:Fnd):Bool:=decide (f.p.kind=4) && decide (f.p.space=0) && decide (f.p.key=0) && (Xa f.p.body).isSome
def X3:Value:= .func (.func 127) #[] #[]
def Cg (l:List Fnd):Prop:=∀(w:World) (B:Nat) (v:Value),w.ownsRow B 109 6 v l.length (Qe l)→B≤w.heap.size→
 Calls Tryz.prog 126 #[v,X3] w fun e w'=>e= .returned (.tuple #[])∧∃l':List Fnd,l'.Perm l∧l'.Pairwise newer∧w'.ownsRow B 109 6 v l.length (Qe l')∧Below B w w'
set_option maxHeartbeats 4000000 in
theorem Qea (A:Option Addr) (n c:Nat) (hn:n≤1) (w:World):
  Calls Tryz.prog 243 #[.slice A n c,.int .i64 0,.int .i64 n,X3] w fun e w'=>e= .returned (.tuple #[])∧w=w':=by
 unfold X3
 have hni:(n:Int)≤1:=by omega
 go_enter Tryz.func243,Tryz.ntmps243
 go_wp2_with fail
 go_loopw [8,9] (fun i _ wr=>i= .int .i64 1∧w=wr) (fun _ _ _=>0)
 case atStart=>exact ⟨rfl,rfl⟩
 case round=>
  obtain ⟨rfl,rfl⟩:=hrel
  go_wp2_with fail
  go_end0
  exact ⟨rfl,rfl⟩
set_option maxHeartbeats 4000000 in
set_option maxRecDepth 100000 in
theorem Qqp (A:Option Addr) (n c:Nat) (hn:n≤1) (w:World):
  Calls Tryz.prog 194 #[.slice A n c,.int .i64 n,X3] w fun e w'=>e= .returned (.tuple #[])∧w=w':=by
 have HI:=Ql4 (Qea A n c hn w)
 unfold X3 at HI ⊢
 have hni:(n:Int)≤1:=by omega
 go_enter Tryz.func194,Tryz.ntmps194
 go_wp2_with fail
 go_loopw [7,8] (fun a b wr=>a= .int .i64 0∧b= .int .i64 20∧w=wr) (fun _ _ _=>0)
 case atStart=>exact ⟨rfl,rfl,rfl⟩
 case round=>
  obtain ⟨rfl,rfl,rfl⟩:=hrel
  go_wp2_with fail
  with_reducible refine HI.out.mono ?_
  rintro e w1 ⟨rfl,rfl⟩
  go_wp2_with fail
  go_loopw [6,7,8,9] (fun s _ _ _ wr=>s= .int .i64 20∧w=wr) (fun _ _ _ _ _=>0)
  case atStart=>exact ⟨rfl,rfl⟩
  case round=>
   obtain ⟨rfl,rfl⟩:=hrel
   go_wp2_with fail
   go_end0
   exact ⟨rfl,rfl⟩
theorem Qb9:∀{l:List Fnd},l.length≤1→l.Pairwise newer
 |[],_=>List.Pairwise.nil
 |[a],_=>List.pairwise_singleton _ _
 |a::b::r,h=>by simp at h
theorem Tz {l:List Fnd} (hl:l.length≤1):Cg l:=by
 intro w B v h hB
 obtain ⟨A,c,rfl⟩:=Qk h
 have HS:=Ql4 (Qqp A l.length c hl w)
 have HE:=Ql4 (Qb9 hl)
 have H:=Ql4 h
 obtain ⟨n,hn⟩:∃n,l.length=n:=⟨_,rfl⟩
 rw [hn] at HS H ⊢
 unfold X3 at HS ⊢
 clear h hl hn
 go_enter Tryz.func126,Tryz.ntmps126
 go_wp2_with fail
 with_reducible refine HS.out.mono ?_
 rintro e w1 ⟨rfl,rfl⟩
 go_wp2_with fail
 go_end0
 exact ⟨rfl,l,List.Perm.refl _,HE.out,H.out,Below.refl _ _⟩
theorem Ur (f:Fnd):newer f f:= .inr ⟨rfl,.inr ⟨rfl,Int.le_refl _⟩⟩
theorem Z7 {f g h:Fnd} (a:newer f g) (b:newer g h):newer f h:=by
 unfold newer at *;omega
theorem Bi (f g:Fnd):newer f g∨newer g f:=by
 unfold newer at *;omega
def fd:Fnd:=⟨0,⟨0,0,0,0,⟨#[]⟩⟩⟩
def atF (l:List Fnd) (i:Nat):Fnd:=l[i]?.getD fd
def swp (l:List Fnd) (i j:Nat):List Fnd:=(l.set i (atF l j)).set j (atF l i)
theorem Qqq {l:List Fnd} {i:Nat} (h:i < l.length):l[i]? =some (atF l i):=by
 unfold atF;rw [List.getElem?_eq_getElem h];rfl
theorem I9 {l:List Fnd} {i j:Nat} (hi:i < l.length) (hj:j < l.length) (k:Nat):atF (swp l i j) k=if k=j then atF l i else if k=i then atF l j else atF l k:=by
 unfold swp
 generalize hx:atF l i=x
 generalize hy:atF l j=y
 unfold atF
 rw [List.getElem?_set,List.getElem?_set]
 by_cases h1:j=k
 ·subst h1;simp [hj]
 ·by_cases h2:i=k
  ·subst h2
   have:¬i=j:=fun e=>h1 e.symm
   simp [h1,hi,this]
  ·have e1:¬k=j:=fun e=>h1 e.symm
   have e2:¬k=i:=fun e=>h2 e.symm
   simp [h1,h2,e1,e2]
theorem Qg1 {l:List Fnd} {i j:Nat} (hi:i < l.length) (hj:j < l.length):(swp l i j).Perm l:=by
 have h:=List.set_set_perm hi hj
 unfold swp
 have e1:atF l j=l[j]:=by unfold atF;rw [List.getElem?_eq_getElem hj];rfl
 have e2:atF l i=l[i]:=by unfold atF;rw [List.getElem?_eq_getElem hi];rfl
 rw [e1,e2];exact h
structure Sg (a b:Nat) (l l':List Fnd):Prop where
 perm:l'.Perm l
 out:∀i,i < a∨b≤i→atF l' i=atF l i
 inn:∀i,a≤i→i < b→∃j,a≤j∧j < b∧atF l' i=atF l j
theorem Sg.refl (a b:Nat) (l:List Fnd):Sg a b l l:=⟨List.Perm.refl _,fun _ _=>rfl,fun i h1 h2=>⟨i,h1,h2,rfl⟩⟩
theorem Sg.trans {a b:Nat} {l l' l'':List Fnd} (h:Sg a b l l') (g:Sg a b l' l''):Sg a b l l'' where
 perm:=g.perm.trans h.perm
 out i hi:=(g.out i hi).trans (h.out i hi)
 inn i h1 h2:=by
  obtain ⟨j,j1,j2,e⟩:=g.inn i h1 h2
  obtain ⟨k,k1,k2,f⟩:=h.inn j j1 j2
  exact ⟨k,k1,k2,e.trans f⟩
theorem Sg.mono {a b c d:Nat} {l l':List Fnd} (h:Sg c d l l') (hac:a≤c) (hdb:d≤b):Sg a b l l' where
 perm:=h.perm
 out i hi:=h.out i (by omega)
 inn i h1 h2:=by
  by_cases hc:c≤i∧i < d
  ·obtain ⟨j,j1,j2,e⟩:=h.inn i hc.1 hc.2
   exact ⟨j,by omega,by omega,e⟩
  ·exact ⟨i,h1,h2,h.out i (by omega)⟩
theorem Sg.swap {a b:Nat} {l:List Fnd} {i j:Nat} (hi:a≤i) (hib:i < b) (hj:a≤j) (hjb:j < b) (hb:b≤l.length):Sg a b l (swp l i j) where
 perm:=Qg1 (by omega) (by omega)
 out k hk:=by
  rw [I9 (by omega) (by omega),if_neg (by omega),if_neg (by omega)]
 inn k h1 h2:=by
  rw [I9 (by omega) (by omega)]
  split
  ·exact ⟨i,hi,hib,rfl⟩
  ·split
   ·exact ⟨j,hj,hjb,rfl⟩
   ·exact ⟨k,h1,h2,rfl⟩
def Srt (a b:Nat) (l:List Fnd):Prop:=∀i j,a≤i→i < j→j < b→newer (atF l i) (atF l j)
theorem Srt.pw {l:List Fnd} (h:Srt 0 l.length l):l.Pairwise newer:=by
 rw [List.pairwise_iff_getElem]
 intro i j hi hj hij
 have:=h i j (Nat.zero_le _) hij hj
 unfold atF at this
 rw [List.getElem?_eq_getElem hi,List.getElem?_eq_getElem hj] at this
 exact this
theorem Srt.keep {a b:Nat} {l l':List Fnd} (h:Srt a b l) (he:∀i,a≤i→i < b→atF l' i=atF l i):Srt a b l':=by
 intro i j h1 h2 h3
 rw [he i h1 (by omega),he j (by omega) h3]
 exact h i j h1 h2 h3
theorem Srt.le {a b c d:Nat} {l:List Fnd} (h:Srt a b l) (hac:a≤c) (hdb:d≤b):Srt c d l:=fun i j h1 h2 h3=>h i j (by omega) h2 (by omega)
theorem Srt.short {a b:Nat} (l:List Fnd) (h:b≤a+1):Srt a b l:=fun i j h1 h2 h3=>by omega
def Down (a i j:Nat) (l:List Fnd):Prop:=∀p q,a≤p→p < q→q≤i→q≠j→newer (atF l p) (atF l q)
theorem Down.start {a i:Nat} {l:List Fnd} (h:Srt a i l):Down a i i l:=fun p q h1 h2 h3 h4=>h p q h1 h2 (by omega)
theorem Down.stop {a i j:Nat} {l:List Fnd} (h:Down a i j l) (ha:a≤j) (hj:j≤i) (hn:j=a∨newer (atF l (j - 1)) (atF l j)):Srt a (i+1) l:=by
 intro p q h1 h2 h3
 by_cases hq:q=j
 ·subst hq
  rcases hn with rfl|hn
  ·omega
  ·by_cases hp:p=q - 1
   ·subst hp;exact hn
   ·exact Z7 (h p (q - 1) h1 (by omega) (by omega) (by omega)) hn
 ·exact h p q h1 h2 (by omega) hq
theorem Down.step {a i j:Nat} {l:List Fnd} (h:Down a i j l) (ha:a < j) (hj:j≤i) (hi:i < l.length) (hn:newer (atF l j) (atF l (j - 1))):Down a i (j - 1) (swp l j (j - 1)):=by
 intro p q h1 h2 h3 h4
 rw [I9 (by omega) (by omega),I9 (by omega) (by omega),if_neg (c:=q=j - 1) h4]
 by_cases hq:q=j
 ·rw [if_pos hq]
  by_cases hp:p=j - 1
  ·rw [if_pos hp];exact hn
  ·rw [if_neg hp,if_neg (by omega)];exact h p (j - 1) h1 (by omega) (by omega) (by omega)
 ·rw [if_neg hq]
  by_cases hp:p=j - 1
  ·rw [if_pos hp];exact h j q (by omega) (by omega) h3 hq
  ·rw [if_neg hp]
   by_cases hp2:p=j
   ·rw [if_pos hp2];exact h (j - 1) q (by omega) (by omega) h3 hq
   ·rw [if_neg hp2];exact h p q h1 h2 h3 hq
def Rot (a m b:Nat) (l l':List Fnd):Prop:=∀q,atF l' q=if a≤q∧q < a+(b - m) then atF l (q - a+m) else if a+(b - m)≤q∧q < b then atF l (q - (b - m)) else atF l q
def Exch (a b n:Nat) (l l':List Fnd):Prop:=∀q,atF l' q=if a≤q∧q < a+n then atF l (q - a+b) else if b≤q∧q < b+n then atF l (q - b+a) else atF l q
theorem Exch.zero (a b:Nat) (l:List Fnd):Exch a b 0 l l:=fun q=>by rw [if_neg (by omega),if_neg (by omega)]
theorem Exch.step {a b n:Nat} {l l':List Fnd} (h:Exch a b n l l') (hab:a+n < b) (hb:b+n < l'.length):Exch a b (n+1) l (swp l' (a+n) (b+n)):=by
 intro q
 rw [I9 (by omega) hb,h q,h (a+n),h (b+n)]
 by_cases h1:q=b+n
 ·subst h1
  rw [if_pos rfl,if_neg (by omega),if_neg (by omega),if_neg (by omega),if_pos (by omega)]
  congr 1;omega
 ·rw [if_neg h1]
  by_cases h2:q=a+n
  ·subst h2
   rw [if_pos rfl,if_neg (by omega),if_neg (by omega),if_pos (by omega)]
   congr 1;omega
  ·rw [if_neg h2]
   by_cases h3:a≤q∧q < a+n
   ·rw [if_pos h3,if_pos (by omega)]
   ·rw [if_neg h3,if_neg (c:=a≤q∧q < a+(n+1)) (by omega)]
    by_cases h4:b≤q∧q < b+n
    ·rw [if_pos h4,if_pos (by omega)]
    ·rw [if_neg h4,if_neg (by omega)]
def Rots (a m b i j:Nat) (l l':List Fnd):Prop:=∀l2,Rot (m - i) m (m+j) l' l2→Rot a m b l l2
theorem Rots.start {a m b:Nat} (l:List Fnd) (ha:a≤m) (hb:m≤b):Rots a m b (m - a) (b - m) l l:=by
 intro l2 h
 have e1:m - (m - a)=a:=by omega
 have e2:m+(b - m)=b:=by omega
 rw [e1,e2] at h;exact h
theorem Rots.left {a m b i j:Nat} {l l' l1:List Fnd} (h:Rots a m b i j l l') (him:i≤m) (hij:j < i) (hx:Exch (m - i) m j l' l1):Rots a m b (i - j) j l l1:=by
 intro l2 h2
 refine h l2 fun q=>?_
 rw [h2 q,hx,hx,hx]
 by_cases c1:m - (i - j)≤q∧q < m - (i - j)+(m+j - m)
 ·rw [if_pos c1,if_neg (by omega),if_pos (by omega),if_neg (c:=m - i≤q∧q < m - i+(m+j - m)) (by omega),if_pos (by omega)]
  congr 1;omega
 ·rw [if_neg c1]
  by_cases c2:m - (i - j)+(m+j - m)≤q∧q < m+j
  ·rw [if_pos c2,if_neg (by omega),if_neg (by omega),if_neg (by omega),if_pos (by omega)]
  ·rw [if_neg c2]
   by_cases c3:m - i≤q∧q < m - i+j
   ·rw [if_pos c3,if_pos (by omega)]
   ·rw [if_neg c3,if_neg (by omega),if_neg (by omega),if_neg (by omega)]
theorem Rots.right {a m b i j:Nat} {l l' l1:List Fnd} (h:Rots a m b i j l l') (him:i≤m) (hij:i < j) (hx:Exch (m - i) (m+j - i) i l' l1):Rots a m b i (j - i) l l1:=by
 intro l2 h2
 refine h l2 fun q=>?_
 rw [h2 q,hx,hx,hx]
 by_cases c1:m - i≤q∧q < m - i+(m+(j - i) - m)
 ·rw [if_pos c1]
  by_cases c2:q - (m - i)+m < m+j - i
  ·rw [if_neg (by omega),if_neg (by omega),if_pos (by omega)]
  ·omega
 ·rw [if_neg c1]
  by_cases c2:m - i+(m+(j - i) - m)≤q∧q < m+(j - i)
  ·rw [if_pos c2,if_pos (by omega),if_pos (by omega)]
   congr 1;omega
  ·rw [if_neg c2,if_neg (c:=m - i≤q∧q < m - i+i) (by omega)]
   by_cases c3:m+j - i≤q∧q < m+j - i+i
   ·rw [if_pos c3,if_neg (by omega),if_pos (by omega)]
    congr 1;omega
   ·rw [if_neg c3,if_neg (by omega),if_neg (by omega)]
theorem Rots.stop {a m b i:Nat} {l l' l1:List Fnd} (h:Rots a m b i i l l') (him:i≤m) (hx:Exch (m - i) m i l' l1):Rot a m b l l1:=by
 refine h l1 fun q=>?_
 rw [hx q]
 by_cases c1:m - i≤q∧q < m - i+i
 ·rw [if_pos c1,if_pos (by omega)]
 ·rw [if_neg c1,if_neg (c:=m - i≤q∧q < m - i+(m+i - m)) (by omega)]
  by_cases c2:m≤q∧q < m+i
  ·rw [if_pos c2,if_pos (by omega)]
   congr 1;omega
  ·rw [if_neg c2,if_neg (by omega)]
theorem cross {a m b mid st e:Nat} {l l1:List Fnd} (hL:Srt a m l) (hR:Srt m b l) (ha:a≤st) (hs:st≤m) (he:m≤e) (hb:e≤b) (hmid:mid=st+(e - m))
  (h1:a < st→e < b→newer (atF l (st - 1)) (atF l e)) (h2:st < m→m < e→newer (atF l (e - 1)) (atF l st)) (hr:Rot st m e l l1):
  ∀i j,a≤i→i < mid→mid≤j→j < b→newer (atF l1 i) (atF l1 j):=by
 have key:∀p q,(a≤p∧p < st∨m≤p∧p < e)→(st≤q∧q < m∨e≤q∧q < b)→newer (atF l p) (atF l q):=by
  intro p q hp hq
  rcases hp with hp|hp <;> rcases hq with hq|hq
  ·exact hL p q hp.1 (by omega) hq.2
  ·have x:=h1 (by omega) (by omega)
   have y:newer (atF l p) (atF l (st - 1)):=by
    by_cases z:p=st - 1
    ·rw [z];exact Ur _
    ·exact hL p (st - 1) hp.1 (by omega) (by omega)
   have z:newer (atF l e) (atF l q):=by
    by_cases z:q=e
    ·rw [z];exact Ur _
    ·exact hR e q (by omega) (by omega) hq.2
   exact Z7 y (Z7 x z)
  ·have x:=h2 (by omega) (by omega)
   have y:newer (atF l p) (atF l (e - 1)):=by
    by_cases z:p=e - 1
    ·rw [z];exact Ur _
    ·exact hR p (e - 1) hp.1 (by omega) (by omega)
   have z:newer (atF l st) (atF l q):=by
    by_cases z:q=st
    ·rw [z];exact Ur _
    ·exact hL st q (by omega) (by omega) hq.2
   exact Z7 y (Z7 x z)
  ·exact hR p q hp.1 (by omega) hq.2
 intro i j h3 h4 h5 h6
 rw [hr i,hr j]
 by_cases c1:st≤i
 ·rw [if_pos (by omega),if_neg (by omega)]
  by_cases c2:j < e
  ·rw [if_pos (by omega)];exact key _ _ (by omega) (by omega)
  ·rw [if_neg (by omega)];exact key _ _ (by omega) (by omega)
 ·rw [if_neg (by omega),if_neg (by omega),if_neg (c:=st≤j∧j < st+(e - m)) (by omega)]
  by_cases c2:j < e
  ·rw [if_pos (by omega)];exact key _ _ (by omega) (by omega)
  ·rw [if_neg (by omega)];exact key _ _ (by omega) (by omega)
theorem Rot.left {a m mid st e b:Nat} {l l1:List Fnd} (hL:Srt a m l) (hR:Srt m b l) (ha:a≤st) (hs:st≤m) (he:m≤e) (hb:e≤b) (hmid:mid=st+(e - m)) (hr:Rot st m e l l1):
  Srt a st l1∧Srt st mid l1∧Srt mid e l1∧Srt e b l1:=by
 refine ⟨fun i j h1 h2 h3=>?_,fun i j h1 h2 h3=>?_,fun i j h1 h2 h3=>?_,fun i j h1 h2 h3=>?_⟩
 ·rw [hr i,hr j,if_neg (by omega),if_neg (by omega),if_neg (by omega),if_neg (by omega)];exact hL i j h1 h2 (by omega)
 ·rw [hr i,hr j,if_pos (by omega),if_pos (by omega)];exact hR _ _ (by omega) (by omega) (by omega)
 ·rw [hr i,hr j,if_neg (by omega),if_pos (by omega),if_neg (by omega),if_pos (by omega)];exact hL _ _ (by omega) (by omega) (by omega)
 ·rw [hr i,hr j,if_neg (by omega),if_neg (by omega),if_neg (by omega),if_neg (by omega)];exact hR i j (by omega) h2 h3
theorem Qo8 {a b mid:Nat} {l1 l2 l3:List Fnd} (hc:∀i j,a≤i→i < mid→mid≤j→j < b→newer (atF l1 i) (atF l1 j)) (h2:Sg a mid l1 l2) (s2:Srt a mid l2) (h3:Sg mid b l2 l3) (s3:Srt mid b l3):Srt a b l3:=by
 intro i j h1 hij hj
 by_cases c1:j < mid
 ·rw [h3.out i (by omega),h3.out j (by omega)];exact s2 i j h1 hij c1
 ·by_cases c2:mid≤i
  ·exact s3 i j c2 hij hj
  ·obtain ⟨k,k1,k2,e⟩:=h3.inn j (by omega) hj
   obtain ⟨p,p1,p2,f⟩:=h2.inn i h1 (by omega)
   rw [h3.out i (by omega),f,e,h2.out k (by omega)]
   exact hc p k p1 p2 k1 k2
def Up (a k:Nat) (l l':List Fnd):Prop:=∀q,atF l' q=if a≤q∧q < k then atF l (q+1) else if q=k then atF l a else atF l q
theorem Up.zero (a:Nat) (l:List Fnd):Up a a l l:=fun q=>by
 rw [if_neg (by omega)];split
 ·rename_i h;rw [h]
 ·rfl
theorem Up.step {a k:Nat} {l l':List Fnd} (h:Up a k l l') (hak:a≤k) (hk:k+1 < l'.length):Up a (k+1) l (swp l' k (k+1)):=by
 intro q
 rw [I9 (by omega) hk,h q,h k,h (k+1)]
 by_cases c1:q=k+1
 ·subst c1
  rw [if_pos rfl,if_neg (by omega),if_pos rfl,if_neg (by omega),if_pos rfl]
 ·rw [if_neg c1]
  by_cases c2:q=k
  ·subst c2
   rw [if_pos rfl,if_neg (by omega),if_neg (by omega),if_pos (by omega)]
  ·rw [if_neg c2]
   by_cases c3:a≤q∧q < k
   ·rw [if_pos c3,if_pos (by omega)]
   ·rw [if_neg c3,if_neg c2,if_neg (by omega),if_neg c1]
theorem Up.sorted {a b i:Nat} {l l':List Fnd} (hR:Srt (a+1) b l) (hi:a+1≤i) (hb:i≤b) (h1:i=a+1∨newer (atF l (i - 1)) (atF l a)) (h2:i=b∨newer (atF l a) (atF l i)) (h:Up a (i - 1) l l'):Srt a b l':=by
 have ka:∀q,a+1≤q→q < i→newer (atF l q) (atF l a):=by
  intro q x y
  rcases h1 with h1|h1
  ·omega
  ·by_cases z:q=i - 1
   ·rw [z];exact h1
   ·exact Z7 (hR q (i - 1) x (by omega) (by omega)) h1
 have kb:∀q,i≤q→q < b→newer (atF l a) (atF l q):=by
  intro q x y
  rcases h2 with h2|h2
  ·omega
  ·by_cases z:q=i
   ·rw [z];exact h2
   ·exact Z7 h2 (hR i q (by omega) (by omega) y)
 intro p q hp hpq hq
 rw [h p,h q]
 by_cases c1:p < i - 1
 ·rw [if_pos (by omega)]
  by_cases c2:q < i - 1
  ·rw [if_pos (by omega)];exact hR _ _ (by omega) (by omega) (by omega)
  ·rw [if_neg (by omega)]
   by_cases c3:q=i - 1
   ·rw [if_pos c3];exact ka _ (by omega) (by omega)
   ·rw [if_neg c3];exact hR _ _ (by omega) (by omega) (by omega)
 ·rw [if_neg (by omega),if_neg (c:=a≤q∧q < i - 1) (by omega),if_neg (c:=q=i - 1) (by omega)]
  by_cases c3:p=i - 1
  ·rw [if_pos c3];exact kb _ (by omega) (by omega)
  ·rw [if_neg c3];exact hR _ _ (by omega) (by omega) (by omega)
def Dn (m k:Nat) (l l':List Fnd):Prop:=∀q,atF l' q=if k < q∧q≤m then atF l (q - 1) else if q=k then atF l m else atF l q
theorem Dn.zero (m:Nat) (l:List Fnd):Dn m m l l:=fun q=>by
 rw [if_neg (by omega)];split
 ·rename_i h;rw [h]
 ·rfl
theorem Dn.step {m k:Nat} {l l':List Fnd} (h:Dn m k l l') (hk:0 < k) (hkm:k≤m) (hm:m < l'.length):Dn m (k - 1) l (swp l' k (k - 1)):=by
 intro q
 rw [I9 (by omega) (by omega),h q,h k,h (k - 1)]
 by_cases c1:q=k - 1
 ·subst c1
  rw [if_pos rfl,if_neg (by omega),if_pos rfl,if_neg (by omega),if_pos rfl]
 ·rw [if_neg c1]
  by_cases c2:q=k
  ·subst c2
   rw [if_pos rfl,if_neg (by omega),if_neg (by omega),if_pos (by omega)]
  ·rw [if_neg c2]
   by_cases c3:k < q∧q≤m
   ·rw [if_pos c3,if_pos (by omega)]
   ·rw [if_neg c3,if_neg c2,if_neg (by omega),if_neg c1]
theorem Dn.sorted {a m i:Nat} {l l':List Fnd} (hL:Srt a m l) (hi:a≤i) (hm:i≤m) (h1:i=a∨newer (atF l (i - 1)) (atF l m)) (h2:i=m∨newer (atF l m) (atF l i)) (h:Dn m i l l'):Srt a (m+1) l':=by
 have ka:∀q,a≤q→q < i→newer (atF l q) (atF l m):=by
  intro q x y
  rcases h1 with h1|h1
  ·omega
  ·by_cases z:q=i - 1
   ·rw [z];exact h1
   ·exact Z7 (hL q (i - 1) x (by omega) (by omega)) h1
 have kb:∀q,i≤q→q < m→newer (atF l m) (atF l q):=by
  intro q x y
  rcases h2 with h2|h2
  ·omega
  ·by_cases z:q=i
   ·rw [z];exact h2
   ·exact Z7 h2 (hL i q (by omega) (by omega) y)
 intro p q hp hpq hq
 rw [h p,h q]
 by_cases c1:p < i
 ·rw [if_neg (by omega),if_neg (c:=p=i) (by omega)]
  by_cases c2:q < i
  ·rw [if_neg (by omega),if_neg (by omega)];exact hL _ _ hp hpq (by omega)
  ·by_cases c3:q=i
   ·rw [if_neg (by omega),if_pos c3];exact ka _ hp c1
   ·rw [if_pos (by omega)];exact hL _ _ hp (by omega) (by omega)
 ·by_cases c3:p=i
  ·rw [if_neg (by omega),if_pos c3,if_pos (by omega)];exact kb _ (by omega) (by omega)
  ·rw [if_pos (by omega),if_pos (by omega)];exact hL _ _ (by omega) (by omega) (by omega)
def or3 (x y z:Int):Int:=if x≠0 then x else if y≠0 then y else z
theorem Qd3 (x y z:Int) (g:Nat) (w:World) (c0:w.cell? ⟨g,0,none⟩=some (.int .i64 x)) (c1:w.cell? ⟨g,1,none⟩=some (.int .i64 y)) (c2:w.cell? ⟨g,2,none⟩=some (.int .i64 z)):
  Calls Tryz.prog 128 #[.slice (some ⟨g,0,none⟩) 3 3] w fun e w'=>e= .returned (.int .i64 (or3 x y z))∧w'=w:=by
 have HC:=Ql4 (fun (i:Nat) (hi:i < 3)=>(show w.cell? ⟨g,i,none⟩=some (.int .i64 (if i=0 then x else if i=1 then y else z)) from by
  have:i=0∨i=1∨i=2:=by omega
  rcases this with rfl|rfl|rfl
  ·exact c0
  ·exact c1
  ·exact c2))
 clear c0 c1 c2
 go_enter Tryz.func128,Tryz.ntmps128
 go_wp2_with fail
 go_loopw [5,8] (fun _ i wr=>∃(j:Nat),j≤3∧i= .int .i64 j∧Hid (∀k:Nat,k < j→(if k=0 then x else if k=1 then y else z)=0)∧wr=w) (fun _ i _=>3 - (intOf i).toNat)
 case atStart=>exact ⟨0,by omega,rfl,fun k hk=>by omega,rfl⟩
 case round=>
  obtain ⟨j,hj,rfl,HZ,rfl⟩:=hrel
  by_cases hlt:j < 3
  ·have hji:(j:Int) < 3:=by omega
   have c:=HC.out j hlt
   obtain ⟨u,hu⟩:∃u,(if j=0 then x else if j=1 then y else z)=u:=⟨_,rfl⟩
   rw [hu] at c
   have HU:=Ql4 hu
   clear hu
   by_cases h0:u=0
   ·subst h0
    go_wp2_with fail
    go_roundw
    case rel=>
     refine ⟨j+1,by omega,by go_num,?_,trivial⟩
     show ∀k:Nat,_→_
     intro k hk
     by_cases hk2:k=j
     ·subst hk2;exact HU.out
     ·exact HZ.out k (by omega)
    case measure=>simp [intOf];omega
   ·go_wp2_with fail
    have hr:or3 x y z=u:=by
     have hu:=HU.out
     have h2:j=0∨j=1∨j=2:=by omega
     unfold or3
     rcases h2 with rfl|rfl|rfl
     ·simp at hu;rw [if_pos (by rw [hu];exact h0)];exact hu
     ·have a0:=HZ.out 0 (by omega)
      simp at a0 hu
      rw [if_neg (by rw [a0];simp),if_pos (by rw [hu];exact h0)];exact hu
     ·have a0:=HZ.out 0 (by omega)
      have a1:=HZ.out 1 (by omega)
      simp at a0 a1 hu
      rw [if_neg (by rw [a0];simp),if_neg (by rw [a1];simp)];exact hu
    go_ret
    exact ⟨by rw [hr];rfl,rfl⟩
  ·obtain rfl:j=3:=by omega
   go_wp2_with fail
   have hr:or3 x y z=0:=by
    have a0:=HZ.out 0 (by omega)
    have a1:=HZ.out 1 (by omega)
    have a2:=HZ.out 2 (by omega)
    simp at a0 a1 a2
    unfold or3
    rw [if_neg (by rw [a0];simp),if_neg (by rw [a1];simp),a2]
   go_ret
   exact ⟨by rw [hr];rfl,rfl⟩
def I5 (f:Fnd):Value:= .agg #[.int .i64 f.at_,.int .i64 f.p.kind,.int .i64 f.p.space,.int .i64 f.p.key,.int .i64 f.p.seq,.string f.p.body]
def okF (f:Fnd):Prop:=(Xa f.p.body).isSome=true∧f.p.body.size≤1000000
theorem Ml (f:Fnd) (w:World) (h:okF f):Calls Tryz.prog 125 #[.string f.p.body] w fun e w'=>∃v,e= .returned (.tuple #[.int .i64 (Ga f),v,.int .i64 0])∧Below w.heap.size w w':=by
 refine (Xl f.p.body w (by have:=h.2;omega)).mono ?_
 intro e w' hr
 unfold Gy at hr
 unfold Ga
 have h1:=h.1
 revert hr h1
 cases Xa f.p.body with
 |none=>intro _ h1;simp at h1
 |some x=>intro hr _;obtain ⟨v,e1,_,hb⟩:=hr;exact ⟨v,e1,hb⟩
def Dc (f g:Fnd):Int:=or3 (Lib.compareInt (Ga g) (Ga f)) (Lib.compareInt g.p.seq f.p.seq) (Lib.compareInt g.at_ f.at_)
theorem Rm (f g:Fnd):Dc f g < 0↔¬newer g f:=by
 unfold Dc or3 Lib.compareInt newer
 rcases Int.lt_trichotomy (Ga g) (Ga f) with h1|h1|h1 <;> rcases Int.lt_trichotomy g.p.seq f.p.seq with h2|h2|h2 <;> rcases Int.lt_trichotomy g.at_ f.at_ with h3|h3|h3 <;>
  (repeat' split) <;> simp at * <;> omega
set_option maxHeartbeats 8000000 in
set_option maxRecDepth 100000 in
theorem Cy (f g:Fnd) (w:World) (hf:okF f) (hg:okF g):
  Calls Tryz.prog 127 #[I5 f,I5 g] w fun e w'=>e= .returned (.int .i64 (Dc f g))∧Below w.heap.size w w':=by
 have HA:=Ql4 (fun wq=>Ml f wq hf)
 have HG:=Ql4 (fun wq=>Ml g wq hg)
 have HCM:=Ql4 (Tryz.cmp_Compare_int)
 unfold Dc
 obtain ⟨x,hx⟩:∃x,Ga f=x:=⟨_,rfl⟩
 obtain ⟨y,hy⟩:∃y,Ga g=y:=⟨_,rfl⟩
 rw [hx] at HA ⊢
 rw [hy] at HG ⊢
 clear hf hg hx hy
 obtain ⟨a,k,sp,ky,sq,b⟩:=f
 obtain ⟨a2,k2,sp2,ky2,sq2,b2⟩:=g
 unfold I5
 simp only at HA HG ⊢
 obtain ⟨q,hq⟩:∃q,w.heap.size=q:=⟨_,rfl⟩
 obtain ⟨wx,hwx⟩:∃wx,wx=(w.alloc (.cells #[.int .i64 a,.int .i64 k,.int .i64 sp,.int .i64 ky,.int .i64 sq,.string b] 109)).alloc (.cells #[.int .i64 a2,.int .i64 k2,.int .i64 sp2,.int .i64 ky2,.int .i64 sq2,.string b2] 109):=⟨_,rfl⟩
 have HW1:Hid (Whole wx q 109 #[.int .i64 a,.int .i64 k,.int .i64 sp,.int .i64 ky,.int .i64 sq,.string b]):=by
  show Whole _ _ _ _
  rw [hwx,←hq]
  exact (Whole.new _ _ _).alloc _
 have HW2:Hid (Whole wx (q+1) 109 #[.int .i64 a2,.int .i64 k2,.int .i64 sp2,.int .i64 ky2,.int .i64 sq2,.string b2]):=by
  show Whole _ _ _ _
  rw [hwx,←hq]
  have:=Whole.new (w.alloc (.cells #[.int .i64 a,.int .i64 k,.int .i64 sp,.int .i64 ky,.int .i64 sq,.string b] 109)) 109 #[.int .i64 a2,.int .i64 k2,.int .i64 sp2,.int .i64 ky2,.int .i64 sq2,.string b2]
  simpa using this
 have HB:Hid (Below w.heap.size w wx):=by
  show Below _ _ _
  rw [hwx]
  exact ((Below.refl _ _).alloc (Nat.le_refl _) _).alloc (by simp) _
 have a0:=HW1.out.cell 0
 have a4:=HW1.out.cell 4
 have b0:=HW2.out.cell 0
 have b4:=HW2.out.cell 4
 have b5:=HW2.out.cell 5
 simp at a0 a4 b0 b4 b5
 obtain ⟨r,hr⟩:∃r,or3 (Lib.compareInt y x) (Lib.compareInt sq2 sq) (Lib.compareInt a2 a)=r:=⟨_,rfl⟩
 rw [hr]
 go_enter Tryz.func127,Tryz.ntmps127
 go_wp2_with fail
 rw [←hwx]
 clear hwx hq
 with_reducible refine (HA.out _).mono ?_
 rintro e w1 ⟨v1,rfl,hb1⟩
 have a0:=Qq hb1 a0
 have a4:=Qq hb1 a4
 have b0:=Qq hb1 b0
 have b4:=Qq hb1 b4
 have b5:=Qq hb1 b5
 have HB1:=Ql4 (HB.out.trans (hb1.mono HB.out.size))
 clear hb1
 go_wp2_with fail
 with_reducible refine (HG.out _).mono ?_
 rintro e w2 ⟨v2,rfl,hb2⟩
 have a0:=Qq hb2 a0
 have a4:=Qq hb2 a4
 have b0:=Qq hb2 b0
 have b4:=Qq hb2 b4
 have HB2:=Ql4 (HB1.out.trans (hb2.mono HB1.out.size))
 clear hb2 b5
 clear HW1 HW2 HA HG
 go_wp2_with fail
 have HK:Hid (∀w',Below w2.heap.size w2 w'→w'.cell? ⟨q,0,none⟩=some (.int .i64 a)∧w'.cell? ⟨q,4,none⟩=some (.int .i64 sq)∧w'.cell? ⟨q+1,0,none⟩=some (.int .i64 a2)∧w'.cell? ⟨q+1,4,none⟩=some (.int .i64 sq2)):=fun w' h=>⟨Qq h a0,Qq h a4,Qq h b0,Qq h b4⟩
 have HORW:Hid (Calls Tryz.prog 128 #[.slice (some ⟨w2.heap.size,0,none⟩) 3 3] (w2.alloc (.cells #[.int .i64 (Lib.compareInt y x),.int .i64 (Lib.compareInt sq2 sq),.int .i64 (Lib.compareInt a2 a)] 3)).drew fun e w'=>e= .returned (.int .i64 r)∧w'=(w2.alloc (.cells #[.int .i64 (Lib.compareInt y x),.int .i64 (Lib.compareInt sq2 sq),.int .i64 (Lib.compareInt a2 a)] 3)).drew):=by
  show Calls _ _ _ _ _
  have h:=Whole.new w2 3 #[.int .i64 (Lib.compareInt y x),.int .i64 (Lib.compareInt sq2 sq),.int .i64 (Lib.compareInt a2 a)]
  have hd:=(Below.refl (w2.alloc (.cells #[.int .i64 (Lib.compareInt y x),.int .i64 (Lib.compareInt sq2 sq),.int .i64 (Lib.compareInt a2 a)] 3)).heap.size (w2.alloc (.cells #[.int .i64 (Lib.compareInt y x),.int .i64 (Lib.compareInt sq2 sq),.int .i64 (Lib.compareInt a2 a)] 3))).drew
  rw [←hr]
  exact Qd3 _ _ _ _ _ (Qq hd (h.cell 0)) (Qq hd (h.cell 1)) (Qq hd (h.cell 2))
 have HBF:Hid (Below w.heap.size w (w2.alloc (.cells #[.int .i64 (Lib.compareInt y x),.int .i64 (Lib.compareInt sq2 sq),.int .i64 (Lib.compareInt a2 a)] 3)).drew):=(HB2.out.alloc HB2.out.size _).drew
 clear hr
 go_region_held3 (fun w'=>w'.cell? ⟨q,0,none⟩=some (.int .i64 a)∧w'.cell? ⟨q,4,none⟩=some (.int .i64 sq)∧w'.cell? ⟨q+1,0,none⟩=some (.int .i64 a2)∧w'.cell? ⟨q+1,4,none⟩=some (.int .i64 sq2)) (exact HK.out _ (by repeat (first|exact Below.refl _ _|refine Below.drew ?_|refine Below.alloc ?_ (by first|omega|(simp <;> omega)) _))) (first|(go_at_call 129;refine (HCM.out _ _ _).mono ?_;rintro e w3 ⟨rfl,rfl⟩)|(go_at_call 128;refine HORW.out.mono ?_;rintro e w3 ⟨rfl,rfl⟩))
 go_wp2_with fail
 go_ret
 exact ⟨rfl,HBF.out⟩
def Xy (l:List Fnd):List Fnd:=l.filter Z4
theorem Quf {l:List Fnd} {j:Nat} {f:Fnd} (h:l[j]? =some f):Xy (l.take (j+1))=Xy (l.take j)++if Z4 f=true then [f] else []:=by
 unfold Xy
 rw [List.take_add_one,h,List.filter_append]
 simp [List.filter_cons]
set_option maxHeartbeats 8000000 in
set_option maxRecDepth 100000 in
theorem Qyx (l:List Fnd) (v:Value) (w:World) (B0:Nat) (h:w.ownsRow B0 109 6 v l.length (Qe l)) (hl:l.length≤2048) (hsz:∀f∈l,f.p.body.size≤1000000) (hs:Cg (Xy l)):
  Calls Tryz.prog 61 #[v] w fun e w'=>∃v' l',e= .returned v'∧l'.Perm (Xy l)∧l'.Pairwise newer∧w'.ownsRow w.heap.size 109 6 v' l'.length (Qe l')∧Below w.heap.size w w':=by
 obtain ⟨A,c,rfl⟩:=Qk h
 have H:=Ql4 h
 have HZ:=Ql4 hsz
 have HSC:=Ql4 hs
 obtain ⟨n,hn⟩:∃n,l.length=n:=⟨_,rfl⟩
 rw [hn] at H hl ⊢
 have HN:=Ql4 hn
 have hli:(n:Int)≤2048:=by omega
 obtain ⟨i0,hi0,hz0,hz1,hz2⟩:=info_parts Qjr
 have HI0:=Ql4 hi0
 have HZ0:=Ql4 hz0
 have HZ1:=Ql4 hz1
 have HZ2:=Ql4 hz2
 clear h hsz hs hn hi0 hz0 hz1 hz2
 go_enter Tryz.func61,Tryz.ntmps61
 go_wp2_with fail
 go_loopw [3,5,6,7,8,11] (fun ov _ _ _ _ i wr=>∃(j m:Nat) (B:Option Addr) (d:Nat),j≤n∧i= .int .i64 j∧ov= .slice B m d∧m≤j∧Hid ((Xy (l.take j)).length=m)∧Hid (wr.ownsRow w.heap.size 109 6 (.slice B m d) m (Qe (Xy (l.take j))))∧Hid (Below w.heap.size w wr)) (fun _ _ _ _ _ i _=>n - (intOf i).toNat)
 case atStart=>exact ⟨0,0,none,0,Nat.zero_le _,rfl,rfl,Nat.le_refl _,rfl,⟨rfl,.inl ⟨rfl,rfl⟩⟩,Below.refl _ _⟩
 case round=>
  obtain ⟨j,m,B,d,hj,rfl,rfl,hmj,HM,HO,HB⟩:=hrel
  by_cases hlt:j < n
  ·have hji:(j:Int) < (n:Int):=by omega
   obtain ⟨gr,rfl,_,_,_,hc,_⟩:=Qo H.out (by omega)
   obtain ⟨f,hf⟩:∃f,l[j]? =some f:=⟨_,List.getElem?_eq_getElem (by rw [HN.out];exact hlt)⟩
   obtain ⟨p0,p1,p2,p3,p4,p5⟩:=Xm l j f hf
   have c0:=Qq HB.out (hc _ _ p0)
   have c1:=Qq HB.out (hc _ _ p1)
   have c2:=Qq HB.out (hc _ _ p2)
   have c3:=Qq HB.out (hc _ _ p3)
   have c4:=Qq HB.out (hc _ _ p4)
   have c5:=Qq HB.out (hc _ _ p5)
   have HT:=Ql4 (Quf hf)
   have HBS:=Ql4 (HZ.out f (List.mem_of_getElem? hf))
   have HSTAY:Hid (Z4 f=false→∀w',Below w.heap.size w w'→Below wr.heap.size wr w'→(Xy (l.take (j+1))).length=m∧w'.ownsRow w.heap.size 109 6 (.slice B m d) m (Qe (Xy (l.take (j+1))))):=fun hr w' hb hb2=>by
    have e:Xy (l.take (j+1))=Xy (l.take j):=by rw [HT.out,hr];simp
    rw [e]
    exact ⟨HM.out,own_below HO.out hb2⟩
   obtain ⟨a,k,sp,y,sq,b⟩:=f
   simp only at c0 c1 c2 c3 c4 c5 HBS
   clear hf p0 p1 p2 p3 p4 p5 hc
   obtain ⟨qb,hqb⟩:∃qb,wr.heap.size=qb:=⟨_,rfl⟩
   obtain ⟨wx,hwx⟩:∃wx,wx=wr.alloc (.cells #[.int .i64 a,.int .i64 k,.int .i64 sp,.int .i64 y,.int .i64 sq,.string b] 109):=⟨_,rfl⟩
   have HWX:Hid (Whole wx qb 109 #[.int .i64 a,.int .i64 k,.int .i64 sp,.int .i64 y,.int .i64 sq,.string b]∧Below wr.heap.size wr wx∧Below w.heap.size w wx):=by
    show _∧_∧_
    rw [hwx,←hqb]
    exact ⟨Whole.new _ _ _,(Below.refl _ _).alloc (Nat.le_refl _) _,HB.out.alloc HB.out.size _⟩
   have x0:=HWX.out.1.cell 0
   have x1:=HWX.out.1.cell 1
   have x2:=HWX.out.1.cell 2
   have x3:=HWX.out.1.cell 3
   have x4:=HWX.out.1.cell 4
   have x5:=HWX.out.1.cell 5
   simp at x0 x1 x2 x3 x4 x5
   have hmeas:n - (intOf (.int .i64 ((j:Int)+1))).toNat < n - (intOf (.int .i64 (j:Int))).toNat:=by simp [intOf];omega
   have HMS:=Ql4 hmeas
   clear hmeas
   by_cases h1:k=4
   ·by_cases h2:sp=0
    ·by_cases h3:y=0
     ·subst h1 h2 h3
      have HRD:=Ql4 (Xl b wx (by have:=HBS.out;omega))
      have HIR:Hid (Z4 ⟨a,⟨4,0,0,sq,b⟩⟩=(Xa b).isSome):=by show _=_;simp [Z4]
      cases hd:Xa b with
      |none=>
       have HR:Hid (Z4 ⟨a,⟨4,0,0,sq,b⟩⟩=false):=by show _=_;rw [HIR.out,hd];rfl
       unfold Gy at HRD
       rw [hd] at HRD
       go_wp2_with fail
       rw [←hwx]
       with_reducible refine HRD.out.mono ?_
       rintro e w4 ⟨rfl,hb4⟩
       have HST:=Ql4 (HSTAY.out HR.out w4 (HWX.out.2.2.trans (hb4.mono HWX.out.2.2.size)) (HWX.out.2.1.trans (hb4.mono HWX.out.2.1.size)))
       have HB4:=Ql4 (HWX.out.2.2.trans (hb4.mono HWX.out.2.2.size))
       clear hb4
       go_wp2_with fail
       go_roundw
       case rel=>exact ⟨j+1,m,B,d,by omega,by go_num,rfl,by omega,HST.out.1,HST.out.2,HB4.out⟩
       case measure=>exact HMS.out
      |some x=>
       obtain ⟨gg,ll⟩:=x
       have HR:Hid (Xy (l.take (j+1))=Xy (l.take j)++[⟨a,⟨4,0,0,sq,b⟩⟩]):=by show _=_;rw [HT.out,HIR.out,hd];rfl
       unfold Gy at HRD
       rw [hd] at HRD
       simp only at HRD
       go_wp2_with fail
       rw [←hwx]
       with_reducible refine HRD.out.mono ?_
       rintro e w4 ⟨v4,rfl,_,hb4⟩
       have HB4:=Ql4 (HWX.out.2.2.trans (hb4.mono HWX.out.2.2.size))
       have HO4:=Ql4 (own_below HO.out (HWX.out.2.1.trans (hb4.mono HWX.out.2.1.size)))
       have y0:=Qq hb4 x0
       have y1:=Qq hb4 x1
       have y2:=Qq hb4 x2
       have y3:=Qq hb4 x3
       have y4:=Qq hb4 x4
       have y5:=Qq hb4 x5
       have HOA:=Ql4 (HO4.out.alloc (.cells #[.int .i64 a,.int .i64 4,.int .i64 0,.int .i64 0,.int .i64 sq,.string b] 109))
       have HNW:Hid (∀(j':Nat) (u:Value),([.int .i64 a,.int .i64 4,.int .i64 0,.int .i64 0,.int .i64 sq,.string b]:List Value)[j']? =some u→(w4.alloc (.cells #[.int .i64 a,.int .i64 4,.int .i64 0,.int .i64 0,.int .i64 sq,.string b] 109)).cell? ((⟨w4.heap.size,0,none⟩:Addr).add j')=some u):=World.news_of_block (by simpa using heap_alloc_new w4 (.cells #[.int .i64 a,.int .i64 4,.int .i64 0,.int .i64 0,.int .i64 sq,.string b] 109))
       have hone:∀u∈([.int .i64 a,.int .i64 4,.int .i64 0,.int .i64 0,.int .i64 sq,.string b]:List Value),u.oneCell'=true:=by simp [Value.oneCell']
       have HONE:=Ql4 hone
       have HSZ:Hid (w.heap.size≤(w4.alloc (.cells #[.int .i64 a,.int .i64 4,.int .i64 0,.int .i64 0,.int .i64 sq,.string b] 109)).heap.size):=by show _≤_;have:=HB4.out.size;simp only [World.size_alloc];omega
       clear hb4 hone c0 c1 c2 c3 c4 c5 x0 x1 x2 x3 x4 x5 hwx hqb
       go_wp2_with (at_builtin;go_must (refine wpList_append_own _ rfl (.tmp 41) (.tmp 43) 104 rfl w.heap.size 109 i0 _ 6 56 Tryz.underlying104 HI0.out HZ0.out HZ1.out HZ2.out rfl (by omega) (.slice B m d) m (Qe (Xy (l.take j))) rfl HOA.out ⟨w4.heap.size,0,none⟩ 1 1 [.int .i64 a,.int .i64 4,.int .i64 0,.int .i64 0,.int .i64 sq,.string b] rfl rfl HNW.out HONE.out (by simp only [maxLen];omega) (by omega) HSZ.out ?_;intro v2 w5 hown5 hg5 _;have HO5:=Ql4 hown5;have HB5:=Ql4 (HB4.out.trans (Q4 HO4.out hg5 HB4.out.size));obtain ⟨A2,c2,e2⟩:=Qk hown5;subst e2;clear hown5 hg5))
       go_roundw
       case rel=>exact ⟨j+1,m+1,A2,c2,by omega,by go_num,rfl,by omega,by show _=_;rw [HR.out,List.length_append,HM.out];rfl,by show World.ownsRow _ _ _ _ _ _ _;rw [HR.out,Ia];exact HO5.out,HB5.out⟩
       case measure=>exact HMS.out
     ·have hy:(y == 0)=false:=by simpa using h3
      have HR:Hid (Z4 ⟨a,⟨k,sp,y,sq,b⟩⟩=false):=by show _=_;simp [Z4,h3]
      subst h1 h2
      go_wp2_with fail
      have HST:=Ql4 (HSTAY.out HR.out wx HWX.out.2.2 HWX.out.2.1)
      try rw [←hwx]
      go_roundw
      case rel=>exact ⟨j+1,m,B,d,by omega,by go_num,rfl,by omega,HST.out.1,HST.out.2,HWX.out.2.2⟩
      case measure=>exact HMS.out
    ·have hp:(sp == 0)=false:=by simpa using h2
     have HR:Hid (Z4 ⟨a,⟨k,sp,y,sq,b⟩⟩=false):=by show _=_;simp [Z4,h2]
     subst h1
     go_wp2_with fail
     have HST:=Ql4 (HSTAY.out HR.out wx HWX.out.2.2 HWX.out.2.1)
     try rw [←hwx]
     go_roundw
     case rel=>exact ⟨j+1,m,B,d,by omega,by go_num,rfl,by omega,HST.out.1,HST.out.2,HWX.out.2.2⟩
     case measure=>exact HMS.out
   ·have hk:(k == 4)=false:=by simpa using h1
    have HR:Hid (Z4 ⟨a,⟨k,sp,y,sq,b⟩⟩=false):=by show _=_;simp [Z4,h1]
    go_wp2_with fail
    have HST:=Ql4 (HSTAY.out HR.out wx HWX.out.2.2 HWX.out.2.1)
    try rw [←hwx]
    go_roundw
    case rel=>exact ⟨j+1,m,B,d,by omega,by go_num,rfl,by omega,HST.out.1,HST.out.2,HWX.out.2.2⟩
    case measure=>exact HMS.out
  ·obtain rfl:j=n:=by omega
   have hfull:l.take j=l:=by rw [←HN.out];exact List.take_length
   rw [hfull] at HM HO
   have hso:=HSC.out wr w.heap.size (.slice B m d) (by rw [HM.out];exact HO.out) HB.out.size
   unfold X3 at hso
   have HSO:=Ql4 hso
   clear hso
   go_wp2_with fail
   with_reducible refine HSO.out.mono ?_
   rintro e w4 ⟨rfl,l',hp,hpw,hro,hb4⟩
   have HEND:Hid (l'.Perm (Xy l)∧l'.Pairwise newer∧w4.ownsRow w.heap.size 109 6 (.slice B m d) l'.length (Qe l')∧Below w.heap.size w w4):=⟨hp,hpw,by rw [hp.length_eq];exact hro,HB.out.trans hb4⟩
   clear hp hpw hro hb4
   go_wp2_with fail
   go_ret
   exact ⟨_,l',rfl,HEND.out⟩
def RowF (w:World) (B:Nat) (A:Option Addr) (n c:Nat) (l:List Fnd):Prop:=l.length=n∧w.ownsRow B 109 6 (.slice A n c) n (Qe l)
structure FCells (w:World) (g j:Nat) (f:Fnd):Prop where
 c0:w.cell? ⟨g,j * 6,none⟩=some (.int .i64 f.at_)
 c1:w.cell? ⟨g,j * 6+1,none⟩=some (.int .i64 f.p.kind)
 c2:w.cell? ⟨g,j * 6+2,none⟩=some (.int .i64 f.p.space)
 c3:w.cell? ⟨g,j * 6+3,none⟩=some (.int .i64 f.p.key)
 c4:w.cell? ⟨g,j * 6+4,none⟩=some (.int .i64 f.p.seq)
 c5:w.cell? ⟨g,j * 6+5,none⟩=some (.string f.p.body)
theorem RowF.open_ {w:World} {B:Nat} {A:Option Addr} {n c:Nat} {l:List Fnd} (h:RowF w B A n c l) (hn:0 < n):∃g,A=some ⟨g,0,none⟩∧B≤g∧g < w.heap.size∧n≤c∧(∀j,j < n→FCells w g j (atF l j))∧∀j,w.frozen? ⟨g,j,none⟩=false:=by
 obtain ⟨g,hA,hB,hg,hc,hcs,hf⟩:=Qo h.2 hn
 refine ⟨g,hA,hB,hg,hc,fun j hj=>?_,hf⟩
 obtain ⟨p0,p1,p2,p3,p4,p5⟩:=Xm l j _ (Qqq (by rw [h.1];exact hj))
 exact ⟨hcs _ _ p0,hcs _ _ p1,hcs _ _ p2,hcs _ _ p3,hcs _ _ p4,hcs _ _ p5⟩
theorem RowF.below {w w':World} {B:Nat} {A:Option Addr} {n c:Nat} {l:List Fnd} (h:RowF w B A n c l) (hb:Below w.heap.size w w'):RowF w' B A n c l:=⟨h.1,own_below h.2 hb⟩
theorem Ho (f:Fnd) (l:List Fnd):Qe (f::l)= .int .i64 f.at_::.int .i64 f.p.kind::.int .i64 f.p.space::.int .i64 f.p.key::.int .i64 f.p.seq::.string f.p.body::Qe l:=by simp [Qe]
theorem Qjp:∀(l:List Fnd) (j:Nat) (f:Fnd),j < l.length→Qe (l.set j f)=((((((Qe l).set (j * 6) (.int .i64 f.at_)).set (j * 6+1) (.int .i64 f.p.kind)).set (j * 6+2) (.int .i64 f.p.space)).set (j * 6+3) (.int .i64 f.p.key)).set (j * 6+4) (.int .i64 f.p.seq)).set (j * 6+5) (.string f.p.body)
 |[],j,f,h=>by simp at h
 |x::r,0,f,h=>by simp [Ho]
 |x::r,j+1,f,h=>by
  have ih:=Qjp r j f (by simpa using h)
  rw [List.set_cons_succ,Ho,Ho,ih]
  have e (k:Nat):(j+1) * 6+k=j * 6+k+1+1+1+1+1+1:=by omega
  have e0:(j+1) * 6=j * 6+1+1+1+1+1+1:=by omega
  rw [e 1,e 2,e 3,e 4,e 5,e0]
  simp only [List.set_cons_succ]
theorem Uq {w:World} {base g c n k:Nat} {e:TypeId} {xs:List Value} (h:w.ownsRow base e k (.slice (some ⟨g,0,none⟩) n c) n xs) (i:Nat) (u:Value) (hi:i < n * k):
  (w.setCell ⟨g,i,none⟩ u).ownsRow base e k (.slice (some ⟨g,0,none⟩) n c) n (xs.set i u):=by
 refine ⟨by simpa using h.1,?_⟩
 rcases h.2 with ⟨h1,h2⟩|⟨g',cap,cur,h1,h2,h3,h4,h5,h6,h7⟩
 ·subst h2;simp at hi
 ·injection h1 with hA hl hc
  injection hA with hA
  injection hA with hA
  subst hA hc
  have hw:=Whole.set (w:=w) (g:=g) (t:=e) (cs:=cur) h3 i u
  refine .inr ⟨g,c,_,rfl,h2,hw,h4,h5,by simpa using h6,?_⟩
  rw [←h7]
  simp [List.take_set]
def Qyd (w:World) (g j:Nat) (f:Fnd):World:=(((((w.setCell ⟨g,j * 6,none⟩ (.int .i64 f.at_)).setCell ⟨g,j * 6+1,none⟩ (.int .i64 f.p.kind)).setCell ⟨g,j * 6+2,none⟩ (.int .i64 f.p.space)).setCell ⟨g,j * 6+3,none⟩ (.int .i64 f.p.key)).setCell ⟨g,j * 6+4,none⟩ (.int .i64 f.p.seq)).setCell ⟨g,j * 6+5,none⟩ (.string f.p.body)
theorem RowF.put {w:World} {B g n c:Nat} {l:List Fnd} (h:RowF w B (some ⟨g,0,none⟩) n c l) (j:Nat) (f:Fnd) (hj:j < n):RowF (Qyd w g j f) B (some ⟨g,0,none⟩) n c (l.set j f):=by
 refine ⟨by rw [List.length_set];exact h.1,?_⟩
 rw [Qjp l j f (by rw [h.1];exact hj)]
 exact Uq (Uq (Uq (Uq (Uq (Uq h.2 _ _ (by omega)) _ _ (by omega)) _ _ (by omega)) _ _ (by omega)) _ _ (by omega)) _ _ (by omega)
theorem Fu (w:World) (g j:Nat) (f:Fnd) (B:Nat) (hB:B≤g):Below B w (Qyd w g j f):=
 ((((((Below.refl B w).setCell (by exact hB) _).setCell (by exact hB) _).setCell (by exact hB) _).setCell (by exact hB) _).setCell (by exact hB) _).setCell (by exact hB) _
theorem RowF.drew {w:World} {B n c:Nat} {A:Option Addr} {l:List Fnd} (h:RowF w B A n c l):RowF w.drew B A n c l:=h.below (Below.refl _ _).drew
theorem RowF.swap {w:World} {B g n c:Nat} {l:List Fnd} (h:RowF w B (some ⟨g,0,none⟩) n c l) (hB:B≤g) {i j:Nat} (hi:i < n) (hj:j < n) {x y:Fnd} (hx:atF l i=x) (hy:atF l j=y):
  RowF (Qyd (Qyd w g i y) g j x).drew B (some ⟨g,0,none⟩) n c (swp l i j)∧Below B w (Qyd (Qyd w g i y) g j x).drew:=by
 subst hx hy
 exact ⟨((h.put i _ hi).put j _ hj).drew,((Fu _ _ _ _ _ hB).trans (Fu _ _ _ _ _ hB)).drew⟩
set_option maxHeartbeats 8000000 in
set_option maxRecDepth 100000 in
theorem Qdk (l:List Fnd) (A:Option Addr) (n c:Nat) (a b k:Nat) (w:World) (B:Nat) (h:RowF w B A n c l) (hB:B≤w.heap.size) (hab:a+k≤b) (hb:b+k≤n) (hn:n≤100000):
  Calls Tryz.prog 309 #[.slice A n c,.int .i64 a,.int .i64 b,.int .i64 k,X3] w fun e w'=>e= .returned (.tuple #[])∧∃l',Exch a b k l l'∧Sg a (b+k) l l'∧RowF w' B A n c l'∧Below B w w':=by
 have H:=Ql4 h
 have hki:(k:Int)≤100000:=by omega
 have hai:(a:Int)+k≤b:=by omega
 have hbi:(b:Int)+k≤n:=by omega
 have hni:(n:Int)≤100000:=by omega
 unfold X3
 clear h
 go_enter Tryz.func309,Tryz.ntmps309
 go_wp2_with fail
 go_loopw [10] (fun i wr=>∃(j:Nat) (l1:List Fnd),j≤k∧i= .int .i64 j∧Hid (Exch a b j l l1)∧Hid (Sg a (b+k) l l1)∧Hid (RowF wr B A n c l1)∧Hid (Below B w wr)) (fun i _=>k - (intOf i).toNat)
 case atStart=>exact ⟨0,l,Nat.zero_le _,rfl,Exch.zero _ _ _,Sg.refl _ _ _,H.out,Below.refl _ _⟩
 case round=>
  obtain ⟨j,l1,hj,rfl,HX,HS,HR,HB⟩:=hrel
  by_cases hlt:j < k
  ·have hji:(j:Int) < (k:Int):=by omega
   obtain ⟨g,rfl,hBg,hg,hc,hcs,hfz⟩:=HR.out.open_ (by omega)
   obtain ⟨x,y,hx,hy⟩:∃x y,atF l1 (a+j)=x∧atF l1 (b+j)=y:=⟨_,_,rfl,rfl⟩
   obtain ⟨a0,a1,a2,a3,a4,a5⟩:=hcs (a+j) (by omega)
   obtain ⟨b0,b1,b2,b3,b4,b5⟩:=hcs (b+j) (by omega)
   rw [hx] at a0 a1 a2 a3 a4 a5
   rw [hy] at b0 b1 b2 b3 b4 b5
   obtain ⟨xa,xk,xs,xy,xq,xb⟩:=x
   obtain ⟨ya,yk,ys,yy,yq,yb⟩:=y
   simp only at a0 a1 a2 a3 a4 a5 b0 b1 b2 b3 b4 b5
   have HW:=Ql4 (HR.out.swap hBg (i:=a+j) (j:=b+j) (by omega) (by omega) hx hy)
   have HS2:=Ql4 (HS.out.trans (Sg.swap (a:=a) (b:=b+k) (i:=a+j) (j:=b+j) (by omega) (by omega) (by omega) (by omega) (by rw [HR.out.1];omega)))
   have HX2:=Ql4 (HX.out.step (by omega) (by rw [HR.out.1];omega))
   clear hcs hx hy
   go_wp2_with fail
   go_region
   go_wp2_with fail
   go_roundw
   case rel=>exact ⟨j+1,_,by omega,by go_num,HX2.out,HS2.out,HW.out.1,HB.out.trans HW.out.2⟩
   case measure=>simp [intOf];omega
  ·obtain rfl:j=k:=by omega
   go_wp2_with fail
   go_end0
   exact ⟨rfl,l1,HX.out,HS.out,HR.out,HB.out⟩
set_option maxHeartbeats 8000000 in
set_option maxRecDepth 100000 in
theorem Qdd (l:List Fnd) (A:Option Addr) (n c:Nat) (a m b:Nat) (w:World) (B:Nat) (h:RowF w B A n c l) (hB:B≤w.heap.size) (ham:a < m) (hmb:m < b) (hb:b≤n) (hn:n≤100000):
  Calls Tryz.prog 285 #[.slice A n c,.int .i64 a,.int .i64 m,.int .i64 b,X3] w fun e w'=>e= .returned (.tuple #[])∧∃l',Rot a m b l l'∧Sg a b l l'∧RowF w' B A n c l'∧Below B w w':=by
 have H:=Ql4 h
 have HSW:=Ql4 (fun (l':List Fnd) (x y k:Nat) (wq:World) (hr:RowF wq B A n c l') (hbb:Below B w wq) (h1:x+k≤y) (h2:y+k≤n)=>Qdk l' A n c x y k wq B hr (Nat.le_trans hB hbb.size) h1 h2 hn)
 have hai:(a:Int) < m:=by omega
 have hmi:(m:Int) < b:=by omega
 have hbi:(b:Int)≤n:=by omega
 have hni:(n:Int)≤100000:=by omega
 unfold X3 at HSW ⊢
 clear h
 go_enter Tryz.func285,Tryz.ntmps285
 go_wp2_with fail
 go_loopw [10,11] (fun i j wr=>∃(p q:Nat) (l1:List Fnd),0 < p∧0 < q∧p≤m - a∧q≤b - m∧i= .int .i64 p∧j= .int .i64 q∧Hid (Rots a m b p q l l1)∧Hid (Sg a b l l1)∧Hid (RowF wr B A n c l1)∧Hid (Below B w wr)) (fun i j _=>(intOf i).toNat+(intOf j).toNat)
 case atStart=>exact ⟨m - a,b - m,l,by omega,by omega,Nat.le_refl _,Nat.le_refl _,by go_num,by go_num,Rots.start l (by omega) (by omega),Sg.refl _ _ _,H.out,Below.refl _ _⟩
 case round=>
  obtain ⟨p,q,l1,hp0,hq0,hp,hq,rfl,rfl,HX,HS,HR,HB⟩:=hrel
  have hpi:(p:Int)≤m - a:=by omega
  have hqi:(q:Int)≤b - m:=by omega
  have emp:((m:Int) - (p:Int))=((m - p:Nat):Int):=by omega
  have emq:((m:Int)+(q:Int) - (p:Int))=((m+q - p:Nat):Int):=by omega
  by_cases h1:p=q
  ·subst h1
   have HC:=Ql4 (HSW.out l1 (m - p) m p wr HR.out HB.out (by omega) (by omega))
   go_wp2_with fail
   with_reducible refine HC.out.mono ?_
   rintro e w1 ⟨rfl,l2,hx,hs,hr,hb⟩
   have HD:=Ql4 (HX.out.stop (by omega) hx)
   have HS2:=Ql4 (HS.out.trans (hs.mono (by omega) (by omega)))
   have HR2:=Ql4 hr
   have HB2:=Ql4 (HB.out.trans hb)
   clear hx hs hr hb HC HX HS HR HB
   go_wp2_with fail
   go_end0
   exact ⟨rfl,l2,HD.out,HS2.out,HR2.out,HB2.out⟩
  ·have h1i:¬(p:Int)=(q:Int):=by omega
   by_cases h2:q < p
   ·have h2i:(q:Int) < (p:Int):=by omega
    have HC:=Ql4 (HSW.out l1 (m - p) m q wr HR.out HB.out (by omega) (by omega))
    go_wp2_with fail
    with_reducible refine HC.out.mono ?_
    rintro e w1 ⟨rfl,l2,hx,hs,hr,hb⟩
    have HD:=Ql4 (HX.out.left (by omega) h2 hx)
    have HS2:=Ql4 (HS.out.trans (hs.mono (by omega) (by omega)))
    have HR2:=Ql4 hr
    have HB2:=Ql4 (HB.out.trans hb)
    clear hx hs hr hb HC HX HS HR HB
    go_wp2_with fail
    go_roundw
    case rel=>exact ⟨p - q,q,l2,by omega,hq0,by omega,hq,by go_num,rfl,HD.out,HS2.out,HR2.out,HB2.out⟩
    case measure=>simp [intOf];omega
   ·have h2i:¬(q:Int) < (p:Int):=by omega
    have HC:=Ql4 (HSW.out l1 (m - p) (m+q - p) p wr HR.out HB.out (by omega) (by omega))
    go_wp2_with fail
    with_reducible refine HC.out.mono ?_
    rintro e w1 ⟨rfl,l2,hx,hs,hr,hb⟩
    have HD:=Ql4 (HX.out.right (by omega) (by omega) hx)
    have HS2:=Ql4 (HS.out.trans (hs.mono (by omega) (by omega)))
    have HR2:=Ql4 hr
    have HB2:=Ql4 (HB.out.trans hb)
    clear hx hs hr hb HC HX HS HR HB
    go_wp2_with fail
    go_roundw
    case rel=>exact ⟨p,q - p,l2,hp0,by omega,hp,by omega,rfl,by go_num,HD.out,HS2.out,HR2.out,HB2.out⟩
    case measure=>simp [intOf];omega
def Okl (l:List Fnd):Prop:=∀f∈l,okF f
theorem Okl.sg {a b:Nat} {l l':List Fnd} (h:Okl l) (hs:Sg a b l l'):Okl l':=fun f hf=>h f (hs.perm.mem_iff.1 hf)
theorem Okl.at_ {l:List Fnd} (h:Okl l) {i:Nat} (hi:i < l.length):okF (atF l i):=h _ (List.mem_of_getElem? (Qqq hi))
theorem FCells.below {w w':World} {g j:Nat} {f:Fnd} (h:FCells w g j f) (hb:Below w.heap.size w w'):FCells w' g j f:=
 ⟨Qq hb h.c0,Qq hb h.c1,Qq hb h.c2,Qq hb h.c3,Qq hb h.c4,Qq hb h.c5⟩
set_option maxHeartbeats 8000000 in
set_option maxRecDepth 100000 in
theorem Qed (l:List Fnd) (A:Option Addr) (n c:Nat) (a b:Nat) (w:World) (B:Nat) (h:RowF w B A n c l) (hB:B≤w.heap.size) (hok:Okl l) (ha:a≤n) (hb:b≤n) (hn:n≤100000):
  Calls Tryz.prog 243 #[.slice A n c,.int .i64 a,.int .i64 b,X3] w fun e w'=>e= .returned (.tuple #[])∧∃l',Sg a b l l'∧Srt a b l'∧RowF w' B A n c l'∧Below B w w':=by
 have H:=Ql4 h
 have HOK:=Ql4 hok
 have HCM:=Ql4 Cy
 have hai:(a:Int)≤n:=by omega
 have hbi:(b:Int)≤n:=by omega
 have hni:(n:Int)≤100000:=by omega
 unfold X3
 clear h hok
 go_enter Tryz.func243,Tryz.ntmps243
 go_wp2_with fail
 go_loopw [8,9] (fun i _ wr=>∃(p:Nat) (l1:List Fnd),a+1≤p∧(p≤b∨p=a+1)∧i= .int .i64 p∧Hid (Srt a p l1)∧Hid (Sg a b l l1)∧Hid (RowF wr B A n c l1)∧Hid (Below B w wr)) (fun i _ _=>b - (intOf i).toNat)
 case atStart=>exact ⟨a+1,l,Nat.le_refl _,.inr rfl,by go_num,Srt.short l (Nat.le_refl _),Sg.refl _ _ _,H.out,Below.refl _ _⟩
 case round=>
  obtain ⟨p,l1,hp1,hp2,rfl,HT,HS,HR,HB⟩:=hrel
  by_cases hlt:p < b
  ·have hpi:(p:Int) < (b:Int):=by omega
   have hapi:(a:Int)+1≤p:=by omega
   go_wp2_with fail
   obtain ⟨wo,hwo⟩:∃wo,wo=wr:=⟨_,rfl⟩
   subst hwo
   go_loopw [9] (fun j wr2=>∃(q:Nat) (l2:List Fnd),a≤q∧q≤p∧j= .int .i64 q∧Hid (Down a p q l2)∧Hid (Sg a b l l2)∧Hid (RowF wr2 B A n c l2)∧Hid (Below B w wr2)) (fun j _=>(intOf j).toNat)
   case atStart=>exact ⟨p,l1,by omega,Nat.le_refl _,rfl,Down.start HT.out,HS.out,HR.out,HB.out⟩
   case round=>
    obtain ⟨q,l2,hq1,hq2,rfl,HD,HS2,HR2,HB2⟩:=hrel
    clear HS HR HB HT
    have hqi1:(a:Int)≤q:=by omega
    have hqi2:(q:Int)≤p:=by omega
    by_cases ha2:q=a
    ·subst ha2
     have HF:=Ql4 (HD.out.stop hq1 hq2 (.inl rfl))
     go_wp2_with fail
     refine rg.rgB (fun _=>True) trivial (fun hHeld=>?_)
     iterate 4 (refine rg.rgT ?_ ?_ ?_;rotate_left;(focus (intro wz hSw;(try dsimp only at hSw);go_simp;(try with_reducible rfl)));(try simp only [Go.Act.put,rg.qa,rg.qb,rg.qc]))
     iterate 12 (refine rg.rgS ?_;(try simp only [Go.Act.put,rg.qa,rg.qb,rg.qc]))
     iterate 1 (refine rg.rgT ?_ ?_ ?_;rotate_left;(focus (intro wz hSw;(try dsimp only at hSw);go_simp;(try with_reducible rfl)));(try simp only [Go.Act.put,rg.qa,rg.qb,rg.qc]))
     refine rg.rgD ?_
     have HBd:=Ql4 HB2.out.drew
     have HRd:=Ql4 HR2.out.drew
     go_wp2_with fail
     go_roundw
     case rel=>exact ⟨p+1,l2,by omega,by omega,by go_num,HF.out,HS2.out,HRd.out,HBd.out⟩
     case measure=>simp [intOf];omega
    ·have hqa:(a:Int) < (q:Int):=by omega
     obtain ⟨d,hd⟩:∃d,q - 1=d:=⟨_,rfl⟩
     obtain ⟨g,rfl,hBg,hg,hc,hcs,hfz⟩:=HR2.out.open_ (by omega)
     obtain ⟨x,hx⟩:∃x,atF l2 q=x:=⟨_,rfl⟩
     obtain ⟨y,hy⟩:∃y,atF l2 d=y:=⟨_,rfl⟩
     have hcx:=hcs q (by omega)
     have hcy:=hcs d (by omega)
     rw [hx] at hcx
     rw [hy] at hcy
     have HK:Hid (∀w',Below wr.heap.size wr w'→w'.cell? ⟨g,q * 6,none⟩=some (.int .i64 x.at_)∧w'.cell? ⟨g,q * 6+1,none⟩=some (.int .i64 x.p.kind)∧w'.cell? ⟨g,q * 6+2,none⟩=some (.int .i64 x.p.space)∧w'.cell? ⟨g,q * 6+3,none⟩=some (.int .i64 x.p.key)∧w'.cell? ⟨g,q * 6+4,none⟩=some (.int .i64 x.p.seq)∧w'.cell? ⟨g,q * 6+5,none⟩=some (.string x.p.body)∧w'.cell? ⟨g,d * 6,none⟩=some (.int .i64 y.at_)∧w'.cell? ⟨g,d * 6+1,none⟩=some (.int .i64 y.p.kind)∧w'.cell? ⟨g,d * 6+2,none⟩=some (.int .i64 y.p.space)∧w'.cell? ⟨g,d * 6+3,none⟩=some (.int .i64 y.p.key)∧w'.cell? ⟨g,d * 6+4,none⟩=some (.int .i64 y.p.seq)∧w'.cell? ⟨g,d * 6+5,none⟩=some (.string y.p.body)):=fun w' hb=>⟨Qq hb hcx.c0,Qq hb hcx.c1,Qq hb hcx.c2,Qq hb hcx.c3,Qq hb hcx.c4,Qq hb hcx.c5,Qq hb hcy.c0,Qq hb hcy.c1,Qq hb hcy.c2,Qq hb hcy.c3,Qq hb hcy.c4,Qq hb hcy.c5⟩
     have HCL:Hid (∀wq,Calls Tryz.prog 127 #[I5 x,I5 y] wq fun e w'=>e= .returned (.int .i64 (Dc x y))∧Below wq.heap.size wq w'):=fun wq=>HCM.out x y wq (by rw [←hx];exact (HOK.out.sg HS2.out).at_ (by rw [HR2.out.1];omega)) (by rw [←hy];exact (HOK.out.sg HS2.out).at_ (by rw [HR2.out.1];omega))
     have HLT:=Ql4 (Rm x y)
     have hqn:(q:Int) < (n:Int):=by omega
     have hqn2:(d:Int) < (n:Int):=by omega
     have hwd:IntKind.i64.wrap (d:Int)=(d:Int):=by rw [IntKind.wrap_i64];omega
     have eq1:((q:Int) - 1)=(d:Int):=by omega
     obtain ⟨r,hr⟩:∃r,Dc x y=r:=⟨_,rfl⟩
     rw [hr] at HCL HLT
     unfold I5 at HCL
     clear hcs hcx hcy hr
     by_cases hr0:r < 0
     ·have HSW:=Ql4 (fun (w':World) (hR:RowF w' B (some ⟨g,0,none⟩) n c l2)=>hR.swap hBg (i:=q) (j:=d) (by omega) (by omega) hx hy)
      have HD2:Hid (Down a p d (swp l2 q d)):=by
       show Down _ _ _ _
       rw [←hd]
       refine HD.out.step (by omega) hq2 (by rw [HR2.out.1];omega) ?_
       rw [hd,hx,hy]
       have:=HLT.out.1 hr0
       rcases Bi x y with h|h
       ·exact h
       ·exact absurd h this
      have HS3:=Ql4 (HS2.out.trans (Sg.swap (a:=a) (b:=b) (i:=q) (j:=d) (by omega) (by omega) (by omega) (by omega) (by rw [HR2.out.1];omega)))
      have hfd:∀w',RowF w' B (some ⟨g,0,none⟩) n c l2→∀j,w'.frozen? ⟨g,j,none⟩=false:=by
       intro w' h j
       obtain ⟨g',e,_,_,_,_,hf⟩:=h.open_ (by omega)
       injection e with e;injection e with e;subst e
       exact hf j
      have HFZ:=Ql4 hfd
      obtain ⟨xa,xk,xs,xy,xq,xb⟩:=x
      obtain ⟨ya,yk,ys,yy,yq,yb⟩:=y
      simp only at HK HCL HSW
      clear hfd hx hy hfz HLT
      go_wp2_with fail
      go_region_held3 (fun w'=>w'.cell? ⟨g,q * 6,none⟩=some (.int .i64 xa)∧w'.cell? ⟨g,q * 6+1,none⟩=some (.int .i64 xk)∧w'.cell? ⟨g,q * 6+2,none⟩=some (.int .i64 xs)∧w'.cell? ⟨g,q * 6+3,none⟩=some (.int .i64 xy)∧w'.cell? ⟨g,q * 6+4,none⟩=some (.int .i64 xq)∧w'.cell? ⟨g,q * 6+5,none⟩=some (.string xb)∧w'.cell? ⟨g,d * 6,none⟩=some (.int .i64 ya)∧w'.cell? ⟨g,d * 6+1,none⟩=some (.int .i64 yk)∧w'.cell? ⟨g,d * 6+2,none⟩=some (.int .i64 ys)∧w'.cell? ⟨g,d * 6+3,none⟩=some (.int .i64 yy)∧w'.cell? ⟨g,d * 6+4,none⟩=some (.int .i64 yq)∧w'.cell? ⟨g,d * 6+5,none⟩=some (.string yb)) (first|with_reducible exact HW3.out|exact HK.out _ (by repeat (first|exact Below.refl _ _|refine Below.drew ?_|refine Below.alloc ?_ (by first|omega|(simp <;> omega)) _))) (first|(go_at_call 127;refine (HCL.out _).mono ?_;rintro e w3 ⟨rfl,hb3⟩;have HW3:=Ql4 (HK.out _ ((Below.refl wr.heap.size wr).drew.trans hb3));have HR3:=Ql4 (HR2.out.below ((Below.refl wr.heap.size wr).drew.trans hb3));have HB3:=Ql4 (HB2.out.trans (((Below.refl wr.heap.size wr).drew.trans hb3).mono (Nat.le_trans hB HB2.out.size)));clear hb3))

      have hfz:=HFZ.out _ HR3.out
      obtain ⟨a0,a1,a2,a3,a4,a5,b0,b1,b2,b3,b4,b5⟩:=HW3.out
      have HW4:=Ql4 (HSW.out _ HR3.out)
      go_wp2_with fail
      go_region
      go_wp2_with fail
      go_roundw
      case rel=>exact ⟨d,_,by omega,by omega,by go_num,HD2.out,HS3.out,HW4.out.1,HB3.out.trans HW4.out.2⟩
      case measure=>simp [intOf];omega
     ·have HF:Hid (Srt a (p+1) l2):=by
       show Srt _ _ _
       refine HD.out.stop hq1 hq2 (.inr ?_)
       rw [hd,hx,hy]
       exact Classical.byContradiction fun h=>hr0 (HLT.out.2 h)
      obtain ⟨xa,xk,xs,xy,xq,xb⟩:=x
      obtain ⟨ya,yk,ys,yy,yq,yb⟩:=y
      simp only at HK HCL
      clear hx hy hfz HLT
      go_wp2_with fail
      go_region_held3 (fun w'=>w'.cell? ⟨g,q * 6,none⟩=some (.int .i64 xa)∧w'.cell? ⟨g,q * 6+1,none⟩=some (.int .i64 xk)∧w'.cell? ⟨g,q * 6+2,none⟩=some (.int .i64 xs)∧w'.cell? ⟨g,q * 6+3,none⟩=some (.int .i64 xy)∧w'.cell? ⟨g,q * 6+4,none⟩=some (.int .i64 xq)∧w'.cell? ⟨g,q * 6+5,none⟩=some (.string xb)∧w'.cell? ⟨g,d * 6,none⟩=some (.int .i64 ya)∧w'.cell? ⟨g,d * 6+1,none⟩=some (.int .i64 yk)∧w'.cell? ⟨g,d * 6+2,none⟩=some (.int .i64 ys)∧w'.cell? ⟨g,d * 6+3,none⟩=some (.int .i64 yy)∧w'.cell? ⟨g,d * 6+4,none⟩=some (.int .i64 yq)∧w'.cell? ⟨g,d * 6+5,none⟩=some (.string yb)) (first|with_reducible exact HW3.out|exact HK.out _ (by repeat (first|exact Below.refl _ _|refine Below.drew ?_|refine Below.alloc ?_ (by first|omega|(simp <;> omega)) _))) (first|(go_at_call 127;refine (HCL.out _).mono ?_;rintro e w3 ⟨rfl,hb3⟩;have HW3:=Ql4 (HK.out _ ((Below.refl wr.heap.size wr).drew.trans hb3));have HR3:=Ql4 (HR2.out.below ((Below.refl wr.heap.size wr).drew.trans hb3));have HB3:=Ql4 (HB2.out.trans (((Below.refl wr.heap.size wr).drew.trans hb3).mono (Nat.le_trans hB HB2.out.size)));clear hb3))

      go_wp2_with fail
      go_roundw
      case rel=>exact ⟨p+1,l2,by omega,by omega,by go_num,HF.out,HS2.out,HR3.out,HB3.out⟩
      case measure=>simp [intOf];omega
  ·go_wp2_with fail
   go_end0
   have hT:Srt a b l1:=HT.out.le (Nat.le_refl _) (by omega)
   exact ⟨rfl,l1,HS.out,hT,HR.out,HB.out⟩
theorem Rn {x y:Fnd} (h:¬Dc x y < 0):newer y x:=Classical.byContradiction fun k=>h ((Rm x y).2 k)
theorem Rl {x y:Fnd} (h:Dc x y < 0):newer x y:=(Bi x y).resolve_right ((Rm x y).1 h)
set_option maxHeartbeats 8000000 in
set_option maxRecDepth 100000 in
theorem Qdz (l:List Fnd) (A:Option Addr) (n c:Nat) (a b:Nat) (w:World) (B:Nat) (h:RowF w B A n c l) (hB:B≤w.heap.size) (hok:Okl l) (ham:a+1 < b) (hb:b≤n) (hn:n≤100000) (hsr:Srt (a+1) b l):
  Calls Tryz.prog 244 #[.slice A n c,.int .i64 a,.int .i64 ((a+1:Nat):Int),.int .i64 b,X3] w fun e w'=>e= .returned (.tuple #[])∧∃l',Sg a b l l'∧Srt a b l'∧RowF w' B A n c l'∧Below B w w':=by
 have H:=Ql4 h
 have HOK:=Ql4 hok
 have HCM:=Ql4 Cy
 have HSR:=Ql4 hsr
 obtain ⟨m,hm⟩:∃m,a+1=m:=⟨_,rfl⟩
 rw [hm] at HSR ham ⊢
 have hma:(a:Int) < (m:Int):=by omega
 have hma2:(m:Int) - (a:Int)=1:=by omega
 have hmb:(m:Int) < b:=by omega
 have hbi:(b:Int)≤n:=by omega
 have hni:(n:Int)≤100000:=by omega
 unfold X3
 clear h hok hsr
 obtain ⟨g,rfl,hBg,hg,hc,hcs,hfz⟩:=H.out.open_ (by omega)
 obtain ⟨y,hy⟩:∃y,atF l a=y:=⟨_,rfl⟩
 have hcy0:=hcs a (by omega)
 rw [hy] at hcy0
 have HCY:=Ql4 hcy0
 clear hcs hcy0 hfz
 go_enter Tryz.func244,Tryz.ntmps244
 go_wp2_with fail
 go_loopw [10,11,12] (fun s10 s11 _ wr=>∃(i j:Nat),m≤i∧i≤j∧j≤b∧s10= .int .i64 i∧s11= .int .i64 j∧Hid (i=m∨newer (atF l (i - 1)) (atF l a))∧Hid (j=b∨newer (atF l a) (atF l j))∧Hid (Below w.heap.size w wr)) (fun s10 s11 _ _=>(intOf s11).toNat - (intOf s10).toNat)
 case atStart=>exact ⟨m,b,Nat.le_refl _,by omega,Nat.le_refl _,rfl,rfl,.inl rfl,.inl rfl,Below.refl _ _⟩
 case round=>
  obtain ⟨i,j,hi,hij,hj,rfl,rfl,HL,HR,HB⟩:=hrel
  have hmi:(m:Int)≤i:=by omega
  have hiji:(i:Int)≤j:=by omega
  have hji:(j:Int)≤b:=by omega
  by_cases hlt:i < j
  ·have hlti:(i:Int) < (j:Int):=by omega
   obtain ⟨d,hd⟩:∃d,(i+j) / 2=d:=⟨_,rfl⟩
   have hd1:i≤d:=by omega
   have hd2:d < j:=by omega
   have hdd:((i:Int)+(j:Int)) / 2=(d:Int):=by omega
   have hdn:(d:Int) < (n:Int):=by omega
   have han:(a:Int) < (n:Int):=by omega
   obtain ⟨x,hx⟩:∃x,atF l d=x:=⟨_,rfl⟩
   have hcx:FCells wr g d x:=by
    obtain ⟨g',e,_,_,_,hcs,_⟩:=H.out.open_ (by omega)
    injection e with e;injection e with e;subst e
    rw [←hx]
    exact (hcs d (by omega)).below HB.out
   have hcy:=HCY.out.below HB.out
   have HCL:Hid (∀wq,Calls Tryz.prog 127 #[I5 x,I5 y] wq fun e w'=>e= .returned (.int .i64 (Dc x y))∧Below wq.heap.size wq w'):=fun wq=>HCM.out x y wq (by rw [←hx];exact HOK.out.at_ (by rw [H.out.1];omega)) (by rw [←hy];exact HOK.out.at_ (by rw [H.out.1];omega))
   have HGE:=Ql4 (@Rn x y)
   have HNE:=Ql4 (@Rl x y)
   obtain ⟨r,hr⟩:∃r,Dc x y=r:=⟨_,rfl⟩
   rw [hr] at HCL HGE HNE
   unfold I5 at HCL
   have HK:Hid (∀w',Below wr.heap.size wr w'→w'.cell? ⟨g,d * 6,none⟩=some (.int .i64 x.at_)∧w'.cell? ⟨g,d * 6+1,none⟩=some (.int .i64 x.p.kind)∧w'.cell? ⟨g,d * 6+2,none⟩=some (.int .i64 x.p.space)∧w'.cell? ⟨g,d * 6+3,none⟩=some (.int .i64 x.p.key)∧w'.cell? ⟨g,d * 6+4,none⟩=some (.int .i64 x.p.seq)∧w'.cell? ⟨g,d * 6+5,none⟩=some (.string x.p.body)∧w'.cell? ⟨g,a * 6,none⟩=some (.int .i64 y.at_)∧w'.cell? ⟨g,a * 6+1,none⟩=some (.int .i64 y.p.kind)∧w'.cell? ⟨g,a * 6+2,none⟩=some (.int .i64 y.p.space)∧w'.cell? ⟨g,a * 6+3,none⟩=some (.int .i64 y.p.key)∧w'.cell? ⟨g,a * 6+4,none⟩=some (.int .i64 y.p.seq)∧w'.cell? ⟨g,a * 6+5,none⟩=some (.string y.p.body)):=fun w' hb=>⟨Qq hb hcx.c0,Qq hb hcx.c1,Qq hb hcx.c2,Qq hb hcx.c3,Qq hb hcx.c4,Qq hb hcx.c5,Qq hb hcy.c0,Qq hb hcy.c1,Qq hb hcy.c2,Qq hb hcy.c3,Qq hb hcy.c4,Qq hb hcy.c5⟩
   clear hcx hcy hr
   by_cases hr0:r < 0
   ·have HL2:Hid (newer (atF l (d+1 - 1)) (atF l a)):=by show newer _ _;rw [Nat.add_sub_cancel,hx,hy];exact HNE.out hr0
    clear hx hy
    go_wp2_with fail
    obtain ⟨xa,xk,xs,xy,xq,xb⟩:=x
    obtain ⟨ya,yk,ys,yy,yq,yb⟩:=y
    simp only at HK HCL
    clear HGE HNE
    go_region_held3 (fun w'=>w'.cell? ⟨g,d * 6,none⟩=some (.int .i64 xa)∧w'.cell? ⟨g,d * 6+1,none⟩=some (.int .i64 xk)∧w'.cell? ⟨g,d * 6+2,none⟩=some (.int .i64 xs)∧w'.cell? ⟨g,d * 6+3,none⟩=some (.int .i64 xy)∧w'.cell? ⟨g,d * 6+4,none⟩=some (.int .i64 xq)∧w'.cell? ⟨g,d * 6+5,none⟩=some (.string xb)∧w'.cell? ⟨g,a * 6,none⟩=some (.int .i64 ya)∧w'.cell? ⟨g,a * 6+1,none⟩=some (.int .i64 yk)∧w'.cell? ⟨g,a * 6+2,none⟩=some (.int .i64 ys)∧w'.cell? ⟨g,a * 6+3,none⟩=some (.int .i64 yy)∧w'.cell? ⟨g,a * 6+4,none⟩=some (.int .i64 yq)∧w'.cell? ⟨g,a * 6+5,none⟩=some (.string yb)) (first|with_reducible exact HW3.out|exact HK.out _ (by repeat (first|exact Below.refl _ _|refine Below.drew ?_|refine Below.alloc ?_ (by first|omega|(simp <;> omega)) _))) (first|(go_at_call 127;refine (HCL.out _).mono ?_;rintro e w3 ⟨rfl,hb3⟩;have HW3:=Ql4 (HK.out _ ((Below.refl wr.heap.size wr).drew.trans hb3));have HB3:=Ql4 (HB.out.trans (((Below.refl wr.heap.size wr).drew.trans hb3).mono HB.out.size));clear hb3))
    go_wp2_with fail
    go_roundw
    case rel=>exact ⟨d+1,j,by omega,by omega,hj,by go_num,rfl,.inr HL2.out,HR.out,HB3.out⟩
    case measure=>simp [intOf];omega
   ·have HR2:Hid (newer (atF l a) (atF l d)):=by show newer _ _;rw [hx,hy];exact HGE.out hr0
    clear hx hy
    go_wp2_with fail
    obtain ⟨xa,xk,xs,xy,xq,xb⟩:=x
    obtain ⟨ya,yk,ys,yy,yq,yb⟩:=y
    simp only at HK HCL
    clear HGE HNE
    go_region_held3 (fun w'=>w'.cell? ⟨g,d * 6,none⟩=some (.int .i64 xa)∧w'.cell? ⟨g,d * 6+1,none⟩=some (.int .i64 xk)∧w'.cell? ⟨g,d * 6+2,none⟩=some (.int .i64 xs)∧w'.cell? ⟨g,d * 6+3,none⟩=some (.int .i64 xy)∧w'.cell? ⟨g,d * 6+4,none⟩=some (.int .i64 xq)∧w'.cell? ⟨g,d * 6+5,none⟩=some (.string xb)∧w'.cell? ⟨g,a * 6,none⟩=some (.int .i64 ya)∧w'.cell? ⟨g,a * 6+1,none⟩=some (.int .i64 yk)∧w'.cell? ⟨g,a * 6+2,none⟩=some (.int .i64 ys)∧w'.cell? ⟨g,a * 6+3,none⟩=some (.int .i64 yy)∧w'.cell? ⟨g,a * 6+4,none⟩=some (.int .i64 yq)∧w'.cell? ⟨g,a * 6+5,none⟩=some (.string yb)) (first|with_reducible exact HW3.out|exact HK.out _ (by repeat (first|exact Below.refl _ _|refine Below.drew ?_|refine Below.alloc ?_ (by first|omega|(simp <;> omega)) _))) (first|(go_at_call 127;refine (HCL.out _).mono ?_;rintro e w3 ⟨rfl,hb3⟩;have HW3:=Ql4 (HK.out _ ((Below.refl wr.heap.size wr).drew.trans hb3));have HB3:=Ql4 (HB.out.trans (((Below.refl wr.heap.size wr).drew.trans hb3).mono HB.out.size));clear hb3))
    go_wp2_with fail
    go_roundw
    case rel=>exact ⟨i,d,hi,hd1,by omega,rfl,rfl,HL.out,.inr HR2.out,HB3.out⟩
    case measure=>simp [intOf];omega
  ·obtain rfl:i=j:=by omega
   go_wp2_with fail
   obtain ⟨wo,hwo⟩:∃wo,wo=wr:=⟨_,rfl⟩
   have HRo:=Ql4 (H.out.below HB.out)
   have HBo:=Ql4 (HB.out.mono hB)
   subst hwo
   clear HB
   go_loopw [13] (fun s13 wr=>∃(k:Nat) (l1:List Fnd),a≤k∧k≤i - 1∧s13= .int .i64 k∧Hid (Up a k l l1)∧Hid (Sg a b l l1)∧Hid (RowF wr B (some ⟨g,0,none⟩) n c l1)∧Hid (Below B w wr)) (fun s13 _=>i - (intOf s13).toNat)
   case atStart=>exact ⟨a,l,Nat.le_refl _,by omega,rfl,Up.zero _ _,Sg.refl _ _ _,HRo.out,HBo.out⟩
   case round=>
    obtain ⟨k,l1,hk1,hk2,rfl,HU,HS,HRr,HBr⟩:=hrel
    have hki:(a:Int)≤k:=by omega
    by_cases hlk:k < i - 1
    ·have hlki:(k:Int) < (i:Int) - 1:=by omega
     obtain ⟨g',e,_,_,_,hcs,hfz⟩:=HRr.out.open_ (by omega)
     injection e with e;injection e with e;subst e
     obtain ⟨x,hx⟩:∃x,atF l1 k=x:=⟨_,rfl⟩
     obtain ⟨z,hz⟩:∃z,atF l1 (k+1)=z:=⟨_,rfl⟩
     have HSW:=Ql4 (HRr.out.swap hBg (i:=k) (j:=k+1) (by omega) (by omega) hx hz)
     obtain ⟨a0,a1,a2,a3,a4,a5⟩:=hcs k (by omega)
     obtain ⟨b0,b1,b2,b3,b4,b5⟩:=hcs (k+1) (by omega)
     rw [hx] at a0 a1 a2 a3 a4 a5
     rw [hz] at b0 b1 b2 b3 b4 b5
     have HU2:=Ql4 (HU.out.step hk1 (by rw [HRr.out.1];omega))
     have HS2:=Ql4 (HS.out.trans (Sg.swap (a:=a) (b:=b) (i:=k) (j:=k+1) (by omega) (by omega) (by omega) (by omega) (by rw [HRr.out.1];omega)))
     obtain ⟨xa,xk,xs,xy,xq,xb⟩:=x
     obtain ⟨za,zk,zs,zy,zq,zb⟩:=z
     simp only at a0 a1 a2 a3 a4 a5 b0 b1 b2 b3 b4 b5 HSW
     clear hcs hx hz
     go_wp2_with fail
     go_region
     go_wp2_with fail
     go_roundw
     case rel=>exact ⟨k+1,_,by omega,by omega,by go_num,HU2.out,HS2.out,HSW.out.1,HBr.out.trans HSW.out.2⟩
     case measure=>simp [intOf];omega
    ·obtain rfl:k=i - 1:=by omega
     have hlki:¬((i - 1:Nat):Int) < (i:Int) - 1:=by omega
     have HF:Hid (Srt a b l1):=Up.sorted (by rw [hm];exact HSR.out) (by omega) hj (by rw [hm];exact HL.out) HR.out HU.out
     go_wp2_with fail
     refine bodyPost_ret (results_none rfl _ _ _) rfl ?_
     exact ⟨rfl,l1,HS.out,HF.out,HRr.out,HBr.out⟩
set_option maxHeartbeats 8000000 in
set_option maxRecDepth 100000 in
theorem Qdq (l:List Fnd) (A:Option Addr) (n c:Nat) (a m:Nat) (w:World) (B:Nat) (h:RowF w B A n c l) (hB:B≤w.heap.size) (hok:Okl l) (ham:a+1 < m) (hb:m+1≤n) (hn:n≤100000) (hsr:Srt a m l):
  Calls Tryz.prog 244 #[.slice A n c,.int .i64 a,.int .i64 m,.int .i64 ((m+1:Nat):Int),X3] w fun e w'=>e= .returned (.tuple #[])∧∃l',Sg a (m+1) l l'∧Srt a (m+1) l'∧RowF w' B A n c l'∧Below B w w':=by
 have H:=Ql4 h
 have HOK:=Ql4 hok
 have HCM:=Ql4 Cy
 have HSR:=Ql4 hsr
 obtain ⟨b,hm⟩:∃b,m+1=b:=⟨_,rfl⟩
 rw [hm] at hb ⊢
 have hma:(a:Int) < (m:Int):=by omega
 have hma2:¬(m:Int) - (a:Int)=1:=by omega
 have hmab:((m:Int) - (a:Int) == 1)=false:=by simp;omega
 have hma3:(b:Int) - (m:Int)=1:=by omega
 have hmb:(m:Int) < b:=by omega
 have hmn:(m:Int) < n:=by omega
 have hbi:(b:Int)≤n:=by omega
 have hni:(n:Int)≤100000:=by omega
 unfold X3
 clear h hok hsr
 obtain ⟨g,rfl,hBg,hg,hc,hcs,hfz⟩:=H.out.open_ (by omega)
 obtain ⟨x,hx⟩:∃x,atF l m=x:=⟨_,rfl⟩
 have hcx0:=hcs m (by omega)
 rw [hx] at hcx0
 have HCX:=Ql4 hcx0
 clear hcs hcx0 hfz
 go_enter Tryz.func244,Tryz.ntmps244
 go_wp2_with fail
 go_loopw [14,15,16] (fun s14 s15 _ wr=>∃(i j:Nat),a≤i∧i≤j∧j≤m∧s14= .int .i64 i∧s15= .int .i64 j∧Hid (i=a∨newer (atF l (i - 1)) (atF l m))∧Hid (j=m∨newer (atF l m) (atF l j))∧Hid (Below w.heap.size w wr)) (fun s14 s15 _ _=>(intOf s15).toNat - (intOf s14).toNat)
 case atStart=>exact ⟨a,m,Nat.le_refl _,by omega,Nat.le_refl _,rfl,rfl,.inl rfl,.inl rfl,Below.refl _ _⟩
 case round=>
  obtain ⟨i,j,hi,hij,hj,rfl,rfl,HL,HR,HB⟩:=hrel
  have hmi:(a:Int)≤i:=by omega
  have hiji:(i:Int)≤j:=by omega
  have hji:(j:Int)≤m:=by omega
  by_cases hlt:i < j
  ·have hlti:(i:Int) < (j:Int):=by omega
   obtain ⟨d,hd⟩:∃d,(i+j) / 2=d:=⟨_,rfl⟩
   have hd1:i≤d:=by omega
   have hd2:d < j:=by omega
   have hdd:((i:Int)+(j:Int)) / 2=(d:Int):=by omega
   have hdn:(d:Int) < (n:Int):=by omega
   obtain ⟨y,hy⟩:∃y,atF l d=y:=⟨_,rfl⟩
   have hcy:FCells wr g d y:=by
    obtain ⟨g',e,_,_,_,hcs,_⟩:=H.out.open_ (by omega)
    injection e with e;injection e with e;subst e
    rw [←hy]
    exact (hcs d (by omega)).below HB.out
   have hcx:=HCX.out.below HB.out
   have HCL:Hid (∀wq,Calls Tryz.prog 127 #[I5 x,I5 y] wq fun e w'=>e= .returned (.int .i64 (Dc x y))∧Below wq.heap.size wq w'):=fun wq=>HCM.out x y wq (by rw [←hx];exact HOK.out.at_ (by rw [H.out.1];omega)) (by rw [←hy];exact HOK.out.at_ (by rw [H.out.1];omega))
   have HGE:=Ql4 (@Rn x y)
   have HNE:=Ql4 (@Rl x y)
   obtain ⟨r,hr⟩:∃r,Dc x y=r:=⟨_,rfl⟩
   rw [hr] at HCL HGE HNE
   unfold I5 at HCL
   have HK:Hid (∀w',Below wr.heap.size wr w'→w'.cell? ⟨g,m * 6,none⟩=some (.int .i64 x.at_)∧w'.cell? ⟨g,m * 6+1,none⟩=some (.int .i64 x.p.kind)∧w'.cell? ⟨g,m * 6+2,none⟩=some (.int .i64 x.p.space)∧w'.cell? ⟨g,m * 6+3,none⟩=some (.int .i64 x.p.key)∧w'.cell? ⟨g,m * 6+4,none⟩=some (.int .i64 x.p.seq)∧w'.cell? ⟨g,m * 6+5,none⟩=some (.string x.p.body)∧w'.cell? ⟨g,d * 6,none⟩=some (.int .i64 y.at_)∧w'.cell? ⟨g,d * 6+1,none⟩=some (.int .i64 y.p.kind)∧w'.cell? ⟨g,d * 6+2,none⟩=some (.int .i64 y.p.space)∧w'.cell? ⟨g,d * 6+3,none⟩=some (.int .i64 y.p.key)∧w'.cell? ⟨g,d * 6+4,none⟩=some (.int .i64 y.p.seq)∧w'.cell? ⟨g,d * 6+5,none⟩=some (.string y.p.body)):=fun w' hb=>⟨Qq hb hcx.c0,Qq hb hcx.c1,Qq hb hcx.c2,Qq hb hcx.c3,Qq hb hcx.c4,Qq hb hcx.c5,Qq hb hcy.c0,Qq hb hcy.c1,Qq hb hcy.c2,Qq hb hcy.c3,Qq hb hcy.c4,Qq hb hcy.c5⟩
   clear hcx hcy hr
   by_cases hr0:r < 0
   ·have hrb:decide (r < 0)=true:=decide_eq_true hr0
    have HR2:Hid (newer (atF l m) (atF l d)):=by show newer _ _;rw [hx,hy];exact HNE.out hr0
    clear hx hy
    go_wp2_with fail
    obtain ⟨xa,xk,xs,xy,xq,xb⟩:=x
    obtain ⟨ya,yk,ys,yy,yq,yb⟩:=y
    simp only at HK HCL
    clear HGE HNE
    go_region_held3 (fun w'=>w'.cell? ⟨g,m * 6,none⟩=some (.int .i64 xa)∧w'.cell? ⟨g,m * 6+1,none⟩=some (.int .i64 xk)∧w'.cell? ⟨g,m * 6+2,none⟩=some (.int .i64 xs)∧w'.cell? ⟨g,m * 6+3,none⟩=some (.int .i64 xy)∧w'.cell? ⟨g,m * 6+4,none⟩=some (.int .i64 xq)∧w'.cell? ⟨g,m * 6+5,none⟩=some (.string xb)∧w'.cell? ⟨g,d * 6,none⟩=some (.int .i64 ya)∧w'.cell? ⟨g,d * 6+1,none⟩=some (.int .i64 yk)∧w'.cell? ⟨g,d * 6+2,none⟩=some (.int .i64 ys)∧w'.cell? ⟨g,d * 6+3,none⟩=some (.int .i64 yy)∧w'.cell? ⟨g,d * 6+4,none⟩=some (.int .i64 yq)∧w'.cell? ⟨g,d * 6+5,none⟩=some (.string yb)) (first|with_reducible exact HW3.out|exact HK.out _ (by repeat (first|exact Below.refl _ _|refine Below.drew ?_|refine Below.alloc ?_ (by first|omega|(simp <;> omega)) _))) (first|(go_at_call 127;refine (HCL.out _).mono ?_;rintro e w3 ⟨rfl,hb3⟩;have HW3:=Ql4 (HK.out _ ((Below.refl wr.heap.size wr).drew.trans hb3));have HB3:=Ql4 (HB.out.trans (((Below.refl wr.heap.size wr).drew.trans hb3).mono HB.out.size));clear hb3))
    go_wp2_with fail
    go_roundw
    case rel=>exact ⟨i,d,hi,hd1,by omega,rfl,rfl,HL.out,.inr HR2.out,HB3.out⟩
    case measure=>simp [intOf];omega
   ·have hrb:decide (r < 0)=false:=decide_eq_false hr0
    have HL2:Hid (newer (atF l (d+1 - 1)) (atF l m)):=by show newer _ _;rw [Nat.add_sub_cancel,hx,hy];exact HGE.out hr0
    clear hx hy
    go_wp2_with fail
    obtain ⟨xa,xk,xs,xy,xq,xb⟩:=x
    obtain ⟨ya,yk,ys,yy,yq,yb⟩:=y
    simp only at HK HCL
    clear HGE HNE
    go_region_held3 (fun w'=>w'.cell? ⟨g,m * 6,none⟩=some (.int .i64 xa)∧w'.cell? ⟨g,m * 6+1,none⟩=some (.int .i64 xk)∧w'.cell? ⟨g,m * 6+2,none⟩=some (.int .i64 xs)∧w'.cell? ⟨g,m * 6+3,none⟩=some (.int .i64 xy)∧w'.cell? ⟨g,m * 6+4,none⟩=some (.int .i64 xq)∧w'.cell? ⟨g,m * 6+5,none⟩=some (.string xb)∧w'.cell? ⟨g,d * 6,none⟩=some (.int .i64 ya)∧w'.cell? ⟨g,d * 6+1,none⟩=some (.int .i64 yk)∧w'.cell? ⟨g,d * 6+2,none⟩=some (.int .i64 ys)∧w'.cell? ⟨g,d * 6+3,none⟩=some (.int .i64 yy)∧w'.cell? ⟨g,d * 6+4,none⟩=some (.int .i64 yq)∧w'.cell? ⟨g,d * 6+5,none⟩=some (.string yb)) (first|with_reducible exact HW3.out|exact HK.out _ (by repeat (first|exact Below.refl _ _|refine Below.drew ?_|refine Below.alloc ?_ (by first|omega|(simp <;> omega)) _))) (first|(go_at_call 127;refine (HCL.out _).mono ?_;rintro e w3 ⟨rfl,hb3⟩;have HW3:=Ql4 (HK.out _ ((Below.refl wr.heap.size wr).drew.trans hb3));have HB3:=Ql4 (HB.out.trans (((Below.refl wr.heap.size wr).drew.trans hb3).mono HB.out.size));clear hb3))
    go_wp2_with fail
    go_roundw
    case rel=>exact ⟨d+1,j,by omega,by omega,hj,by go_num,rfl,.inr HL2.out,HR.out,HB3.out⟩
    case measure=>simp [intOf];omega
  ·obtain rfl:i=j:=by omega
   go_wp2_with fail
   obtain ⟨wo,hwo⟩:∃wo,wo=wr:=⟨_,rfl⟩
   have HRo:=Ql4 (H.out.below HB.out)
   have HBo:=Ql4 (HB.out.mono hB)
   subst hwo
   clear HB
   go_loopw [17] (fun s17 wr=>∃(k:Nat) (l1:List Fnd),i≤k∧k≤m∧s17= .int .i64 k∧Hid (Dn m k l l1)∧Hid (Sg a b l l1)∧Hid (RowF wr B (some ⟨g,0,none⟩) n c l1)∧Hid (Below B w wr)) (fun s17 _=>(intOf s17).toNat)
   case atStart=>exact ⟨m,l,by omega,Nat.le_refl _,rfl,Dn.zero _ _,Sg.refl _ _ _,HRo.out,HBo.out⟩
   case round=>
    obtain ⟨k,l1,hk1,hk2,rfl,HU,HS,HRr,HBr⟩:=hrel
    have hki:(i:Int)≤k:=by omega
    by_cases hlk:i < k
    ·have hlki:(i:Int) < (k:Int):=by omega
     obtain ⟨k1,hk3⟩:∃k1,k - 1=k1:=⟨_,rfl⟩
     have hkw:IntKind.i64.wrap (k1:Int)=(k1:Int):=by rw [IntKind.wrap_i64];omega
     have hkk:(k:Int) - 1=(k1:Int):=by omega
     have hkn:(k:Int) < n:=by omega
     have hkn1:(k1:Int) < n:=by omega
     obtain ⟨g',e,_,_,_,hcs,hfz⟩:=HRr.out.open_ (by omega)
     injection e with e;injection e with e;subst e
     obtain ⟨u,hu⟩:∃u,atF l1 k=u:=⟨_,rfl⟩
     obtain ⟨z,hz⟩:∃z,atF l1 k1=z:=⟨_,rfl⟩
     have HSW:=Ql4 (HRr.out.swap hBg (i:=k) (j:=k1) (by omega) (by omega) hu hz)
     obtain ⟨a0,a1,a2,a3,a4,a5⟩:=hcs k (by omega)
     obtain ⟨b0,b1,b2,b3,b4,b5⟩:=hcs k1 (by omega)
     rw [hu] at a0 a1 a2 a3 a4 a5
     rw [hz] at b0 b1 b2 b3 b4 b5
     have HU2:Hid (Dn m k1 l (swp l1 k k1)):=by show Dn _ _ _ _;rw [←hk3];exact HU.out.step (by omega) hk2 (by rw [HRr.out.1];omega)
     have HS2:=Ql4 (HS.out.trans (Sg.swap (a:=a) (b:=b) (i:=k) (j:=k1) (by omega) (by omega) (by omega) (by omega) (by rw [HRr.out.1];omega)))
     obtain ⟨ua,uk,us,uy,uq,ub⟩:=u
     obtain ⟨za,zk,zs,zy,zq,zb⟩:=z
     simp only at a0 a1 a2 a3 a4 a5 b0 b1 b2 b3 b4 b5 HSW
     clear hcs hu hz
     go_wp2_with fail
     go_region
     go_wp2_with fail
     go_roundw
     case rel=>exact ⟨k1,_,by omega,by omega,by go_num,HU2.out,HS2.out,HSW.out.1,HBr.out.trans HSW.out.2⟩
     case measure=>simp [intOf];omega
    ·obtain rfl:i=k:=by omega
     have HF:Hid (Srt a b l1):=by show Srt _ _ _;rw [←hm];exact Dn.sorted HSR.out hi hj HL.out HR.out HU.out
     go_wp2_with fail
     refine bodyPost_ret (results_none rfl _ _ _) rfl ?_
     exact ⟨rfl,l1,HS.out,HF.out,HRr.out,HBr.out⟩
theorem Rot.same {a m b:Nat} (l:List Fnd) (ha:a≤m) (hb:m≤b) (h:a=m∨m=b):Rot a m b l l:=by
 intro q
 rcases h with h|h
 ·subst h
  by_cases c1:a≤q∧q < a+(b - a)
  ·rw [if_pos c1];congr 1;omega
  ·rw [if_neg c1,if_neg (by omega)]
 ·subst h
  rw [if_neg (by omega)]
  by_cases c1:a+(m - m)≤q∧q < m
  ·rw [if_pos c1];congr 1;omega
  ·rw [if_neg c1]
def Sea (a m b mid s0 r0:Nat):Prop:=a≤s0∧s0≤r0∧r0≤m∧r0≤mid∧mid+m≤b+s0∧(s0=a∨mid+m - s0=b)∧(r0=m∨mid+m - r0=m)
def Qc5 (n c:Nat) (A:Option Addr) (B k:Nat):Prop:=∀(l:List Fnd) (a m b:Nat) (w:World),b - a≤k→RowF w B A n c l→B≤w.heap.size→Okl l→a < m→m < b→b≤n→Srt a m l→Srt m b l→
 Calls Tryz.prog 244 #[.slice A n c,.int .i64 a,.int .i64 m,.int .i64 b,X3] w fun e w'=>e= .returned (.tuple #[])∧∃l',Sg a b l l'∧Srt a b l'∧RowF w' B A n c l'∧Below B w w'
set_option maxHeartbeats 8000000 in
set_option maxRecDepth 100000 in
theorem Qg0 (l:List Fnd) (A:Option Addr) (n c k:Nat) (a m b:Nat) (w:World) (B:Nat) (hih:Qc5 n c A B k) (h:RowF w B A n c l) (hB:B≤w.heap.size) (hok:Okl l) (hk:b - a≤k+1) (ham:a+1 < m) (hmb1:m+1 < b) (hb:b≤n) (hn:n≤100000) (hsl:Srt a m l) (hsr:Srt m b l):
  Calls Tryz.prog 244 #[.slice A n c,.int .i64 a,.int .i64 m,.int .i64 b,X3] w fun e w'=>e= .returned (.tuple #[])∧∃l',Sg a b l l'∧Srt a b l'∧RowF w' B A n c l'∧Below B w w':=by
 have H:=Ql4 h
 have HOK:=Ql4 hok
 have HCM:=Ql4 Cy
 have HSL:=Ql4 hsl
 have HSR:=Ql4 hsr
 have HIH:=Ql4 hih
 have HROT:=Ql4 (fun (l':List Fnd) (x y z:Nat) (wq:World) (hr:RowF wq B A n c l') (hbb:Below B w wq) (h1:x < y) (h2:y < z) (h3:z≤n)=>Qdd l' A n c x y z wq B hr (Nat.le_trans hB hbb.size) h1 h2 h3 hn)
 have hma:(a:Int) < (m:Int):=by omega
 have hma2:¬(m:Int) - (a:Int)=1:=by omega
 have hmab:((m:Int) - (a:Int) == 1)=false:=by simp;omega
 have hmbb:((b:Int) - (m:Int) == 1)=false:=by simp;omega
 have hmb:(m:Int) < b:=by omega
 have hbi:(b:Int)≤n:=by omega
 have hni:(n:Int)≤100000:=by omega
 obtain ⟨mid,hmid⟩:∃mid,(a+b) / 2=mid:=⟨_,rfl⟩
 have hmm:((a:Int)+(b:Int)) / 2=(mid:Int):=by omega
 have hmi:(mid:Int) < b:=by omega
 obtain ⟨N,hN⟩:∃N,mid+m=N:=⟨_,rfl⟩
 have hNi:(mid:Int)+(m:Int)=(N:Int):=by omega
 unfold X3 at HROT ⊢
 unfold Qc5 X3 at HIH
 clear h hok hsl hsr hih
 obtain ⟨g,rfl,hBg,hg,hc,hcs,hfz⟩:=H.out.open_ (by omega)
 clear hcs hfz
 go_enter Tryz.func244,Tryz.ntmps244
 go_upto_if 140 with fail
 go_cut [20,21] from 138 to 146 (fun s r wx=>∃s0 r0:Nat,s= .int .i64 s0∧r= .int .i64 r0∧Hid (Sea a m b mid s0 r0)∧w=wx)
 case first=>
  by_cases hx:mid < m
  ·have hxi:(mid:Int) < (m:Int):=by omega
   have HE:Hid (Sea a m b mid (N - b) mid):=by show Sea _ _ _ _ _ _;unfold Sea;omega
   have hge:(N:Int) - (b:Int)=((N - b:Nat):Int):=by omega
   go_wp2_with fail
   go_meet
   exact ⟨N - b,mid,by go_num,rfl,HE.out,rfl⟩
  ·have hxi:¬(mid:Int) < (m:Int):=by omega
   have HE:Hid (Sea a m b mid a m):=by show Sea _ _ _ _ _ _;unfold Sea;omega
   go_wp2_with fail
   go_meet
   exact ⟨a,m,rfl,rfl,HE.out,rfl⟩
 case rest=>
  obtain ⟨s0,r0,rfl,rfl,HSEA,rfl⟩:=hcut
  have hN1:1≤(N:Int):=by omega
  obtain ⟨P,hP⟩:∃P,N - 1=P:=⟨_,rfl⟩
  have hPi:(N:Int) - 1=(P:Int):=by omega
  have hPw:IntKind.i64.wrap (P:Int)=(P:Int):=by rw [IntKind.wrap_i64];omega
  go_wp2_with fail
  go_loopw [20,21,23] (fun s20 s21 _ wr=>∃(i j:Nat),s0≤i∧i≤j∧j≤r0∧s20= .int .i64 i∧s21= .int .i64 j∧Hid (i=s0∨newer (atF l (i - 1)) (atF l (N - i)))∧Hid (j=r0∨newer (atF l (P - j)) (atF l j))∧Hid (Below w.heap.size w wr)) (fun s20 s21 _ _=>(intOf s21).toNat - (intOf s20).toNat)
  case atStart=>exact ⟨s0,r0,Nat.le_refl _,HSEA.out.2.1,Nat.le_refl _,rfl,rfl,.inl rfl,.inl rfl,Below.refl _ _⟩
  case round=>
   obtain ⟨i,j,hi,hij,hj,rfl,rfl,HL,HR,HB⟩:=hrel
   have hsea:=HSEA.out
   unfold Sea at hsea
   have hmi1:(a:Int)≤i:=by omega
   have hiji:(i:Int)≤j:=by omega
   have hji:(j:Int)≤m:=by omega
   by_cases hlt:i < j
   ·have hlti:(i:Int) < (j:Int):=by omega
    obtain ⟨d,hd⟩:∃d,(i+j) / 2=d:=⟨_,rfl⟩
    have hd1:i≤d:=by omega
    have hd2:d < j:=by omega
    have hdd:((i:Int)+(j:Int)) / 2=(d:Int):=by omega
    have hdn:(d:Int) < (n:Int):=by omega
    obtain ⟨q,hq⟩:∃q,P - d=q:=⟨_,rfl⟩
    have hqi:(P:Int) - (d:Int)=(q:Int):=by omega
    have hqn:(q:Int) < (n:Int):=by omega
    have hqw:IntKind.i64.wrap (q:Int)=(q:Int):=by rw [IntKind.wrap_i64];omega
    obtain ⟨x,hx⟩:∃x,atF l q=x:=⟨_,rfl⟩
    obtain ⟨y,hy⟩:∃y,atF l d=y:=⟨_,rfl⟩
    obtain ⟨hcx,hcy⟩:FCells wr g q x∧FCells wr g d y:=by
     obtain ⟨g',e,_,_,_,hcs,_⟩:=H.out.open_ (by omega)
     injection e with e;injection e with e;subst e
     rw [←hy,←hx]
     exact ⟨(hcs q (by omega)).below HB.out,(hcs d (by omega)).below HB.out⟩
    have HCL:Hid (∀wq,Calls Tryz.prog 127 #[I5 x,I5 y] wq fun e w'=>e= .returned (.int .i64 (Dc x y))∧Below wq.heap.size wq w'):=fun wq=>HCM.out x y wq (by rw [←hx];exact HOK.out.at_ (by rw [H.out.1];omega)) (by rw [←hy];exact HOK.out.at_ (by rw [H.out.1];omega))
    have HGE:=Ql4 (@Rn x y)
    have HNE:=Ql4 (@Rl x y)
    clear hsea
    obtain ⟨r,hr⟩:∃r,Dc x y=r:=⟨_,rfl⟩
    rw [hr] at HCL HGE HNE
    unfold I5 at HCL
    have HK:Hid (∀w',Below wr.heap.size wr w'→w'.cell? ⟨g,q * 6,none⟩=some (.int .i64 x.at_)∧w'.cell? ⟨g,q * 6+1,none⟩=some (.int .i64 x.p.kind)∧w'.cell? ⟨g,q * 6+2,none⟩=some (.int .i64 x.p.space)∧w'.cell? ⟨g,q * 6+3,none⟩=some (.int .i64 x.p.key)∧w'.cell? ⟨g,q * 6+4,none⟩=some (.int .i64 x.p.seq)∧w'.cell? ⟨g,q * 6+5,none⟩=some (.string x.p.body)∧w'.cell? ⟨g,d * 6,none⟩=some (.int .i64 y.at_)∧w'.cell? ⟨g,d * 6+1,none⟩=some (.int .i64 y.p.kind)∧w'.cell? ⟨g,d * 6+2,none⟩=some (.int .i64 y.p.space)∧w'.cell? ⟨g,d * 6+3,none⟩=some (.int .i64 y.p.key)∧w'.cell? ⟨g,d * 6+4,none⟩=some (.int .i64 y.p.seq)∧w'.cell? ⟨g,d * 6+5,none⟩=some (.string y.p.body)):=fun w' hb=>⟨Qq hb hcx.c0,Qq hb hcx.c1,Qq hb hcx.c2,Qq hb hcx.c3,Qq hb hcx.c4,Qq hb hcx.c5,Qq hb hcy.c0,Qq hb hcy.c1,Qq hb hcy.c2,Qq hb hcy.c3,Qq hb hcy.c4,Qq hb hcy.c5⟩
    clear hcx hcy hr
    by_cases hr0:r < 0
    ·have hrb:decide (r < 0)=true:=decide_eq_true hr0
     have HR2:Hid (newer (atF l (P - d)) (atF l d)):=by show newer _ _;rw [hq,hx,hy];exact HNE.out hr0
     clear hx hy
     go_wp2_with fail
     obtain ⟨xa,xk,xs,xy,xq,xb⟩:=x
     obtain ⟨ya,yk,ys,yy,yq,yb⟩:=y
     simp only at HK HCL
     clear HGE HNE
     go_region_held3 (fun w'=>w'.cell? ⟨g,q * 6,none⟩=some (.int .i64 xa)∧w'.cell? ⟨g,q * 6+1,none⟩=some (.int .i64 xk)∧w'.cell? ⟨g,q * 6+2,none⟩=some (.int .i64 xs)∧w'.cell? ⟨g,q * 6+3,none⟩=some (.int .i64 xy)∧w'.cell? ⟨g,q * 6+4,none⟩=some (.int .i64 xq)∧w'.cell? ⟨g,q * 6+5,none⟩=some (.string xb)∧w'.cell? ⟨g,d * 6,none⟩=some (.int .i64 ya)∧w'.cell? ⟨g,d * 6+1,none⟩=some (.int .i64 yk)∧w'.cell? ⟨g,d * 6+2,none⟩=some (.int .i64 ys)∧w'.cell? ⟨g,d * 6+3,none⟩=some (.int .i64 yy)∧w'.cell? ⟨g,d * 6+4,none⟩=some (.int .i64 yq)∧w'.cell? ⟨g,d * 6+5,none⟩=some (.string yb)) (first|with_reducible exact HW3.out|exact HK.out _ (by repeat (first|exact Below.refl _ _|refine Below.drew ?_|refine Below.alloc ?_ (by first|omega|(simp <;> omega)) _))) (first|(go_at_call 127;refine (HCL.out _).mono ?_;rintro e w3 ⟨rfl,hb3⟩;have HW3:=Ql4 (HK.out _ ((Below.refl wr.heap.size wr).drew.trans hb3));have HB3:=Ql4 (HB.out.trans (((Below.refl wr.heap.size wr).drew.trans hb3).mono HB.out.size));clear hb3))
     go_wp2_with fail
     go_roundw
     case rel=>exact ⟨i,d,hi,hd1,by omega,rfl,rfl,HL.out,.inr HR2.out,HB3.out⟩
     case measure=>simp [intOf];omega
    ·have hrb:decide (r < 0)=false:=decide_eq_false hr0
     have HL2:Hid (newer (atF l (d+1 - 1)) (atF l (N - (d+1)))):=by show newer _ _;rw [Nat.add_sub_cancel,show N - (d+1)=q by omega,hx,hy];exact HGE.out hr0
     clear hx hy
     go_wp2_with fail
     obtain ⟨xa,xk,xs,xy,xq,xb⟩:=x
     obtain ⟨ya,yk,ys,yy,yq,yb⟩:=y
     simp only at HK HCL
     clear HGE HNE
     go_region_held3 (fun w'=>w'.cell? ⟨g,q * 6,none⟩=some (.int .i64 xa)∧w'.cell? ⟨g,q * 6+1,none⟩=some (.int .i64 xk)∧w'.cell? ⟨g,q * 6+2,none⟩=some (.int .i64 xs)∧w'.cell? ⟨g,q * 6+3,none⟩=some (.int .i64 xy)∧w'.cell? ⟨g,q * 6+4,none⟩=some (.int .i64 xq)∧w'.cell? ⟨g,q * 6+5,none⟩=some (.string xb)∧w'.cell? ⟨g,d * 6,none⟩=some (.int .i64 ya)∧w'.cell? ⟨g,d * 6+1,none⟩=some (.int .i64 yk)∧w'.cell? ⟨g,d * 6+2,none⟩=some (.int .i64 ys)∧w'.cell? ⟨g,d * 6+3,none⟩=some (.int .i64 yy)∧w'.cell? ⟨g,d * 6+4,none⟩=some (.int .i64 yq)∧w'.cell? ⟨g,d * 6+5,none⟩=some (.string yb)) (first|with_reducible exact HW3.out|exact HK.out _ (by repeat (first|exact Below.refl _ _|refine Below.drew ?_|refine Below.alloc ?_ (by first|omega|(simp <;> omega)) _))) (first|(go_at_call 127;refine (HCL.out _).mono ?_;rintro e w3 ⟨rfl,hb3⟩;have HW3:=Ql4 (HK.out _ ((Below.refl wr.heap.size wr).drew.trans hb3));have HB3:=Ql4 (HB.out.trans (((Below.refl wr.heap.size wr).drew.trans hb3).mono HB.out.size));clear hb3))
     go_wp2_with fail
     go_roundw
     case rel=>exact ⟨d+1,j,by omega,by omega,hj,by go_num,rfl,.inr HL2.out,HR.out,HB3.out⟩
     case measure=>simp [intOf];omega
   ·obtain rfl:i=j:=by omega
    obtain ⟨e,he⟩:∃e,N - i=e:=⟨_,rfl⟩
    have hei:(N:Int) - (i:Int)=(e:Int):=by omega
    have hew:IntKind.i64.wrap (e:Int)=(e:Int):=by rw [IntKind.wrap_i64];omega
    have hme:m≤e:=by omega
    have heb:e≤b:=by omega
    have HMD:Hid (mid=i+(e - m)):=by show _=_;omega
    have H1:Hid (a < i→e < b→newer (atF l (i - 1)) (atF l e)):=by
     show _→_→_
     intro p1 p2
     rcases HL.out with h|h
     ·omega
     ·rw [he] at h;exact h
    have H2:Hid (i < m→m < e→newer (atF l (e - 1)) (atF l i)):=by
     show _→_→_
     intro p1 p2
     rcases HR.out with h|h
     ·omega
     ·rw [show P - i=e - 1 by omega] at h;exact h
    have hai:a≤i:=by omega
    have him:i≤m:=by omega
    have hBe:=HB.out.mono hB
    have HRe:=Ql4 (H.out.below HB.out)
    have HBe:=Ql4 hBe
    clear HL HR hsea HB hBe
    go_upto_region 39 with fail
    obtain ⟨wo,hwo⟩:∃wo,wo=wr:=⟨_,rfl⟩
    subst hwo
    go_cut [185] from 178 to 184 (fun v wx=>∃t:Bool,v= .bool t∧Hid (t=true↔i < m∧m < e)∧wo=wx)
    case first=>
     by_cases h1:i < m
     ·have h1i:(i:Int) < (m:Int):=by omega
      by_cases h2:m < e
      ·have h2i:(m:Int) < (e:Int):=by omega
       go_wp2_with fail
       go_meet
       exact ⟨true,rfl,⟨fun _=>⟨h1,h2⟩,fun _=>rfl⟩,rfl⟩
      ·have h2i:¬(m:Int) < (e:Int):=by omega
       go_wp2_with fail
       go_meet
       exact ⟨false,rfl,⟨fun h=>by simp at h,fun h=>absurd h.2 h2⟩,rfl⟩
     ·have h1i:¬(i:Int) < (m:Int):=by omega
      go_wp2_with fail
      go_meet
      exact ⟨false,rfl,⟨fun h=>by simp at h,fun h=>absurd h.1 h1⟩,rfl⟩
    case rest=>
    obtain ⟨tA,rfl,HTA,rfl⟩:=hcut
    go_upto_if 185 with fail
    go_cut [] from 186 to 191 (fun wx=>∃l1,Hid (Rot i m e l l1)∧Hid (Sg i e l l1)∧Hid (RowF wx B (some ⟨g,0,none⟩) n c l1)∧Hid (Below B w wx))
    case first=>
     cases tA
     ·have HT:Hid (Rot i m e l l):=Rot.same l him hme (by
       by_cases h1:i < m
       ·have:¬m < e:=fun h=>by simpa using HTA.out.2 ⟨h1,h⟩
        omega
       ·omega)
      go_wp2_with fail
      go_meet
      exact ⟨l,HT.out,Sg.refl _ _ _,HRe.out,HBe.out⟩
     ·obtain ⟨h1,h2⟩:=HTA.out.1 rfl
      have HC:=Ql4 (HROT.out l i m e wo HRe.out HBe.out h1 h2 (by omega))
      go_wp2_with fail
      with_reducible refine HC.out.mono ?_
      rintro e w1 ⟨rfl,l1,hx,hs,hr,hb2⟩
      have HX1:=Ql4 hx
      have HS1:=Ql4 hs
      have HR1:=Ql4 hr
      have HB1:=Ql4 (HBe.out.trans hb2)
      clear hx hs hr hb2
      go_wp2_with fail
      go_meet
      exact ⟨l1,HX1.out,HS1.out,HR1.out,HB1.out⟩
    case rest=>
    obtain ⟨l1,HX1,HS1,HR1,HB1⟩:=hcut
    clear HRe HBe HTA
    have HCR:=Ql4 (cross HSL.out HSR.out hai him hme heb HMD.out H1.out H2.out HX1.out)
    have HPT:=Ql4 (Rot.left HSL.out HSR.out hai him hme heb HMD.out HX1.out)
    have HS1m:Hid (Sg a b l l1):=HS1.out.mono hai heb
    have HOK1:=Ql4 (HOK.out.sg HS1.out)
    have hsz:B≤wc.heap.size:=Nat.le_trans hB HB1.out.size
    have hdi:i≤mid:=by have:=HMD.out;omega
    have hde:mid≤e:=by have:=HMD.out;omega
    obtain ⟨wd,hwd⟩:∃wd,wd=wc:=⟨_,rfl⟩
    subst hwd
    go_upto_region 41 with fail
    go_cut [199] from 192 to 198 (fun v wx=>∃t:Bool,v= .bool t∧Hid (t=true↔a < i∧i < mid)∧wd=wx)
    case first=>
     by_cases h1:a < i
     ·have h1i:(a:Int) < (i:Int):=by omega
      by_cases h2:i < mid
      ·have h2i:(i:Int) < (mid:Int):=by omega
       go_wp2_with fail
       go_meet
       exact ⟨true,rfl,⟨fun _=>⟨h1,h2⟩,fun _=>rfl⟩,rfl⟩
      ·have h2i:¬(i:Int) < (mid:Int):=by omega
       go_wp2_with fail
       go_meet
       exact ⟨false,rfl,⟨fun h=>by simp at h,fun h=>absurd h.2 h2⟩,rfl⟩
     ·have h1i:¬(a:Int) < (i:Int):=by omega
      go_wp2_with fail
      go_meet
      exact ⟨false,rfl,⟨fun h=>by simp at h,fun h=>absurd h.1 h1⟩,rfl⟩
    case rest=>
    obtain ⟨tB,rfl,HTB,rfl⟩:=hcut
    go_upto_if 199 with fail
    go_cut [] from 200 to 205 (fun wx=>∃l2,Hid (Sg a mid l1 l2)∧Hid (Srt a mid l2)∧Hid (RowF wx B (some ⟨g,0,none⟩) n c l2)∧Hid (Below B w wx))
    case first=>
     cases tB
     ·have HT:Hid (Srt a mid l1):=by
       show Srt _ _ _
       by_cases h1:a < i
       ·have h2:¬i < mid:=fun h=>by simpa using HTB.out.2 ⟨h1,h⟩
        rw [show mid=i by omega];exact HPT.out.1
       ·rw [show a=i by omega];exact HPT.out.2.1
      go_wp2_with fail
      go_meet
      exact ⟨l1,Sg.refl _ _ _,HT.out,HR1.out,HB1.out⟩
     ·obtain ⟨h1,h2⟩:=HTB.out.1 rfl
      have HC:=Ql4 (HIH.out l1 a i mid wd (by omega) HR1.out hsz HOK1.out h1 h2 (by omega) HPT.out.1 HPT.out.2.1)
      go_wp2_with fail
      with_reducible refine HC.out.mono ?_
      rintro e w1 ⟨rfl,l2,hs,ht,hr,hb2⟩
      have HS2:=Ql4 hs
      have HT2:=Ql4 ht
      have HR2:=Ql4 hr
      have HB2:=Ql4 (HB1.out.trans hb2)
      clear ht hs hr hb2
      go_wp2_with fail
      go_meet
      exact ⟨l2,HS2.out,HT2.out,HR2.out,HB2.out⟩
    case rest=>
    obtain ⟨l2,HS2,HT2,HR2,HB2⟩:=hcut
    clear HR1 HB1 HTB hsz
    have HOK2:=Ql4 (HOK1.out.sg HS2.out)
    have HM2:Hid (Srt mid e l2∧Srt e b l2):=⟨HPT.out.2.2.1.keep fun x h1 h2=>HS2.out.out x (.inr h1),HPT.out.2.2.2.keep fun x h1 h2=>HS2.out.out x (.inr (by omega))⟩
    have hsz:B≤wc.heap.size:=Nat.le_trans hB HB2.out.size
    obtain ⟨we,hwe⟩:∃we,we=wc:=⟨_,rfl⟩
    subst hwe
    go_upto_region 43 with fail
    go_cut [213] from 206 to 212 (fun v wx=>∃t:Bool,v= .bool t∧Hid (t=true↔mid < e∧e < b)∧we=wx)
    case first=>
     by_cases h1:mid < e
     ·have h1i:(mid:Int) < (e:Int):=by omega
      by_cases h2:e < b
      ·have h2i:(e:Int) < (b:Int):=by omega
       go_wp2_with fail
       go_meet
       exact ⟨true,rfl,⟨fun _=>⟨h1,h2⟩,fun _=>rfl⟩,rfl⟩
      ·have h2i:¬(e:Int) < (b:Int):=by omega
       go_wp2_with fail
       go_meet
       exact ⟨false,rfl,⟨fun h=>by simp at h,fun h=>absurd h.2 h2⟩,rfl⟩
     ·have h1i:¬(mid:Int) < (e:Int):=by omega
      go_wp2_with fail
      go_meet
      exact ⟨false,rfl,⟨fun h=>by simp at h,fun h=>absurd h.1 h1⟩,rfl⟩
    case rest=>
    obtain ⟨tC,rfl,HTC,rfl⟩:=hcut
    cases tC
    ·have HT:Hid (Srt a b l2):=Qo8 HCR.out HS2.out HT2.out (Sg.refl _ _ _) (by
      by_cases h1:mid < e
      ·have h2:¬e < b:=fun h=>by simpa using HTC.out.2 ⟨h1,h⟩
       rw [show b=e by omega];exact HM2.out.1
      ·rw [show mid=e by omega];exact HM2.out.2)
     have HS:Hid (Sg a b l l2):=HS1m.out.trans (HS2.out.mono (Nat.le_refl _) (by omega))
     go_wp2_with fail
     go_end0
     exact ⟨rfl,l2,HS.out,HT.out,HR2.out,HB2.out⟩
    ·obtain ⟨h1,h2⟩:=HTC.out.1 rfl
     have HC:=Ql4 (HIH.out l2 mid e b we (by omega) HR2.out hsz HOK2.out h1 h2 hb HM2.out.1 HM2.out.2)
     go_wp2_with fail
     with_reducible refine HC.out.mono ?_
     rintro e w1 ⟨rfl,l3,hs,ht,hr,hb2⟩
     have HS:Hid (Sg a b l l3):=HS1m.out.trans ((HS2.out.mono (Nat.le_refl _) (by omega)).trans (hs.mono (by omega) (Nat.le_refl _)))
     have HT:Hid (Srt a b l3):=Qo8 HCR.out HS2.out HT2.out hs ht
     have HR3:=Ql4 hr
     have HB3:=Ql4 (HB2.out.trans hb2)
     clear ht hs hr hb2
     go_wp2_with fail
     go_end0
     exact ⟨rfl,l3,HS.out,HT.out,HR3.out,HB3.out⟩
theorem Qk8 (A:Option Addr) (n c B:Nat) (hn:n≤100000):∀k,Qc5 n c A B k
 |0=>fun l a m b w hk _ _ _ ham hmb _ _ _=>by omega
 |k+1=>fun l a m b w hk h hB hok ham hmb hb hsl hsr=>by
  by_cases h1:m=a+1
  ·subst h1;exact Qdz l A n c a b w B h hB hok hmb hb hn hsr
  ·by_cases h2:b=m+1
   ·subst h2;exact Qdq l A n c a m w B h hB hok (by omega) hb hn hsl
   ·exact Qg0 l A n c k a m b w B (Qk8 A n c B hn k) h hB hok hk (by omega) (by omega) hb hn hsl hsr
def Bk (z lo hi n:Nat) (l:List Fnd):Prop:=∀x,z ∣ x→lo≤x→x < hi→Srt x (min (x+z) n) l
theorem Hl {d x a:Nat} (h1:d ∣ x) (h2:d ∣ a) (h:x < a):x+d≤a:=by
 have:=Nat.le_of_dvd (by omega) (Nat.dvd_sub h2 h1)
 omega
theorem Bk.more {z a e n:Nat} {l l':List Fnd} (h:Bk z 0 a n l) (hd:z ∣ a) (hs:Sg a e l l') (hsrt:Srt a e l') (he:e=min (a+z) n):Bk z 0 (a+z) n l':=by
 intro x hx _ hlt
 by_cases c:x < a
 ·have:=Hl hx hd c
  exact (h x hx (by omega) c).keep fun i h1 h2=>hs.out i (.inl (by omega))
 ·obtain rfl:x=a:=by
   have h2:=Hl (d:=z) hd (show z ∣ a+z from Nat.dvd_add hd (Nat.dvd_refl _))
   by_cases c2:a < x
   ·have:=Hl hd hx c2;omega
   ·omega
  rw [←he];exact hsrt
theorem Bk.le {z lo hi lo' hi' n:Nat} {l:List Fnd} (h:Bk z lo hi n l) (h1:lo≤lo') (h2:hi'≤hi):Bk z lo' hi' n l:=fun x hx a b=>h x hx (by omega) (by omega)
theorem Bk.rest {z a e n:Nat} {l l':List Fnd} (h:Bk z a n n l) (hs:Sg a e l l') (he:a≤e):Bk z e n n l':=fun x hx h1 h2=>
 (h x hx (by omega) h2).keep fun i h3 h4=>hs.out i (.inr (by omega))
theorem Bk.at_ {z lo hi n:Nat} {l:List Fnd} (h:Bk z lo hi n l) {x e:Nat} (hx:z ∣ x) (h1:lo≤x) (h2:x < hi) (he:e=min (x+z) n):Srt x e l:=by rw [he];exact h x hx h1 h2
set_option maxHeartbeats 8000000 in
set_option maxRecDepth 100000 in
theorem Qqr (l:List Fnd) (A:Option Addr) (n c:Nat) (w:World) (B:Nat) (h:RowF w B A n c l) (hB:B≤w.heap.size) (hok:Okl l) (hn:n≤100000):
  Calls Tryz.prog 194 #[.slice A n c,.int .i64 n,X3] w fun e w'=>e= .returned (.tuple #[])∧∃l',Sg 0 n l l'∧Srt 0 n l'∧RowF w' B A n c l'∧Below B w w':=by
 have H:=Ql4 h
 have HINS:=Ql4 (fun (l':List Fnd) (a b:Nat) (wq:World) (hr:RowF wq B A n c l') (hbb:Below B w wq) (hs:Sg 0 n l l') (h1:a≤n) (h2:b≤n)=>Qed l' A n c a b wq B hr (Nat.le_trans hB hbb.size) (hok.sg hs) h1 h2 hn)
 have HSYM:=Ql4 (fun (l':List Fnd) (a m b:Nat) (wq:World) (hr:RowF wq B A n c l') (hbb:Below B w wq) (hs:Sg 0 n l l')=>Qk8 A n c B hn (b - a) l' a m b wq (Nat.le_refl _) hr (Nat.le_trans hB hbb.size) (hok.sg hs))
 have hni:(n:Int)≤100000:=by omega
 unfold X3 at HINS HSYM ⊢
 clear h hok
 go_enter Tryz.func194,Tryz.ntmps194
 go_wp2_with fail
 go_loopw [7,8] (fun s7 s8 wr=>∃(a b:Nat) (l1:List Fnd),a≤n∧a+20=b∧20 ∣ a∧s7= .int .i64 a∧s8= .int .i64 b∧Hid (Bk 20 0 a n l1)∧Hid (Sg 0 n l l1)∧Hid (RowF wr B A n c l1)∧Hid (Below B w wr)) (fun s7 _ _=>n - (intOf s7).toNat)
 case atStart=>exact ⟨0,20,l,Nat.zero_le _,rfl,Nat.dvd_zero _,rfl,rfl,(fun x _ _ h=>by omega),Sg.refl _ _ _,H.out,Below.refl _ _⟩
 case round=>
  obtain ⟨a,b,l1,ha,hab,hda,rfl,rfl,HK,HS,HR,HB⟩:=hrel
  have hai:(a:Int)≤n:=by omega
  have hbi:(b:Int)=(a:Int)+20:=by omega
  have hbi1:(b:Int)≤(a:Int)+20:=by omega
  have HD:=Ql4 hda
  clear hda hbi
  by_cases hlt:b≤n
  ·have hlti:(b:Int)≤(n:Int):=by omega
   have HC:=Ql4 (HINS.out l1 a b wr HR.out HB.out HS.out ha hlt)
   go_wp2_with fail
   with_reducible refine HC.out.mono ?_
   rintro e w1 ⟨rfl,l2,hs,ht,hr,hb2⟩
   have HK2:Hid (Bk 20 0 b n l2):=by show Bk _ _ _ _ _;rw [←hab];exact HK.out.more HD.out hs ht (by omega)
   have HS2:=Ql4 (HS.out.trans (hs.mono (Nat.zero_le _) hlt))
   have HR2:=Ql4 hr
   have HB2:=Ql4 (HB.out.trans hb2)
   have hdb:20 ∣ b:=by rw [←hab];exact Nat.dvd_add HD.out (Nat.dvd_refl _)
   have HDB:=Ql4 hdb
   clear hs ht hr hb2 hdb
   go_wp2_with fail
   go_roundw
   case rel=>exact ⟨b,b+20,l2,hlt,rfl,HDB.out,rfl,by go_num,HK2.out,HS2.out,HR2.out,HB2.out⟩
   case measure=>simp [intOf];omega
  ·have hlti:¬(b:Int)≤(n:Int):=by omega
   have HC:=Ql4 (HINS.out l1 a n wr HR.out HB.out HS.out ha (Nat.le_refl _))
   go_wp2_with fail
   with_reducible refine HC.out.mono ?_
   rintro e w1 ⟨rfl,l2,hs,ht,hr,hb2⟩
   have HK2:Hid (Bk 20 0 n n l2):=(HK.out.more HD.out hs ht (by omega)).le (Nat.le_refl _) (by omega)
   have HS2:=Ql4 (HS.out.trans (hs.mono (Nat.zero_le _) (Nat.le_refl _)))
   have HR2:=Ql4 hr
   have HB2:=Ql4 (HB.out.trans hb2)
   clear hs ht hr hb2 HK HS HR HB HD HC
   go_wp2_with fail
   obtain ⟨wo,hwo⟩:∃wo,wo=w1:=⟨_,rfl⟩
   subst hwo
   go_loopw [6,7,8,9] (fun s6 _ _ _ wr=>∃(z:Nat) (l1:List Fnd),0 < z∧z≤200000∧s6= .int .i64 z∧Hid (Bk z 0 n n l1)∧Hid (Sg 0 n l l1)∧Hid (RowF wr B A n c l1)∧Hid (Below B w wr)) (fun s6 _ _ _ _=>n - (intOf s6).toNat)
   case atStart=>exact ⟨20,l2,by omega,by omega,rfl,HK2.out,HS2.out,HR2.out,HB2.out⟩
   case round=>
    obtain ⟨z,l3,hz,hz2,rfl,HK3,HS3,HR3,HB3⟩:=hrel
    clear HK2 HS2 HR2 HB2
    have hzi:0 < (z:Int):=by omega
    have hzi2:(z:Int)≤200000:=by omega
    by_cases hzn:z < n
    ·have hzni:(z:Int) < (n:Int):=by omega
     obtain ⟨y,hy⟩:∃y,2 * z=y:=⟨_,rfl⟩
     have hyi:2 * (z:Int)=(y:Int):=by omega
     have hyi2:(z:Int) * 2=(y:Int):=by omega
     have hyb:(y:Int)≤200000:=by omega
     have hyw:IntKind.i64.wrap (y:Int)=(y:Int):=by rw [IntKind.wrap_i64];omega
     have HZY:Hid (z ∣ y):=by show _ ∣ _;rw [←hy];exact Nat.dvd_mul_left _ _
     go_wp2_with fail
     obtain ⟨wo2,hwo2⟩:∃wo2,wo2=wr:=⟨_,rfl⟩
     subst hwo2
     go_loopw [7,8] (fun s7 s8 wr=>∃(a b:Nat) (l1:List Fnd),a≤n∧a+y=b∧s7= .int .i64 a∧s8= .int .i64 b∧Hid (y ∣ a)∧Hid (Bk y 0 a n l1)∧Hid (Bk z a n n l1)∧Hid (Sg 0 n l l1)∧Hid (RowF wr B A n c l1)∧Hid (Below B w wr)) (fun s7 _ _=>n - (intOf s7).toNat)
     case atStart=>exact ⟨0,y,l3,Nat.zero_le _,by omega,rfl,rfl,Nat.dvd_zero _,(fun x _ _ h=>by omega),HK3.out,HS3.out,HR3.out,HB3.out⟩
     case round=>
      obtain ⟨p,q,l4,hp,hpq,rfl,rfl,HD,HKY,HKZ,HS4,HR4,HB4⟩:=hrel
      clear HK3 HS3 HR3 HB3
      have hpi:(p:Int)≤n:=by omega
      have hqi1:(q:Int)≤(p:Int)+y:=by omega
      obtain ⟨r,hr⟩:∃r,p+z=r:=⟨_,rfl⟩
      have hri:(p:Int)+(z:Int)=(r:Int):=by omega
      have hrw:IntKind.i64.wrap (r:Int)=(r:Int):=by rw [IntKind.wrap_i64];omega
      have HZP:Hid (z ∣ p):=Nat.dvd_trans HZY.out HD.out
      have HZR:Hid (z ∣ r):=by show _ ∣ _;rw [←hr];exact Nat.dvd_add HZP.out (Nat.dvd_refl _)
      by_cases hlt2:q≤n
      ·have hlti2:(q:Int)≤(n:Int):=by omega
       have HC:=Ql4 (HSYM.out l4 p r q wr HR4.out HB4.out HS4.out (by omega) (by omega) hlt2 (HKZ.out.at_ HZP.out (Nat.le_refl _) (by omega) (by omega)) (HKZ.out.at_ HZR.out (by omega) (by omega) (by omega)))
       go_wp2_with fail
       with_reducible refine HC.out.mono ?_
       rintro e w5 ⟨rfl,l5,hs,ht,hr5,hb5⟩
       have HK5:Hid (Bk y 0 q n l5):=by show Bk _ _ _ _ _;rw [←hpq];exact HKY.out.more HD.out hs ht (by omega)
       have HZ5:Hid (Bk z q n n l5):=HKZ.out.rest hs (by omega)
       have HS5:=Ql4 (HS4.out.trans (hs.mono (Nat.zero_le _) hlt2))
       have HR5:=Ql4 hr5
       have HB5:=Ql4 (HB4.out.trans hb5)
       have HDB:Hid (y ∣ q):=by show _ ∣ _;rw [←hpq];exact Nat.dvd_add HD.out (Nat.dvd_refl _)
       clear hs ht hr5 hb5
       go_wp2_with fail
       go_roundw
       case rel=>exact ⟨q,q+y,l5,hlt2,rfl,rfl,by go_num,HDB.out,HK5.out,HZ5.out,HS5.out,HR5.out,HB5.out⟩
       case measure=>simp [intOf];omega
      ·have hlti2:¬(q:Int)≤(n:Int):=by omega
       by_cases hrn:r < n
       ·have hrni:(r:Int) < (n:Int):=by omega
        have HC:=Ql4 (HSYM.out l4 p r n wr HR4.out HB4.out HS4.out (by omega) hrn (Nat.le_refl _) (HKZ.out.at_ HZP.out (Nat.le_refl _) (by omega) (by omega)) (HKZ.out.at_ HZR.out (by omega) (by omega) (by omega)))
        go_wp2_with fail
        with_reducible refine HC.out.mono ?_
        rintro e w5 ⟨rfl,l5,hs,ht,hr5,hb5⟩
        have HK5:Hid (Bk y 0 n n l5):=(HKY.out.more HD.out hs ht (by omega)).le (Nat.le_refl _) (by omega)
        have HS5:=Ql4 (HS4.out.trans (hs.mono (Nat.zero_le _) (Nat.le_refl _)))
        have HR5:=Ql4 hr5
        have HB5:=Ql4 (HB4.out.trans hb5)
        clear hs ht hr5 hb5
        go_wp2_with fail
        go_roundw
        case rel=>exact ⟨y,l5,by omega,by omega,by go_num,HK5.out,HS5.out,HR5.out,HB5.out⟩
        case measure=>simp [intOf];omega
       ·have hrni:¬(r:Int) < (n:Int):=by omega
        have HK5:Hid (Bk y 0 n n l4):=by
         show Bk _ _ _ _ _
         by_cases hpn:p < n
         ·exact (HKY.out.more HD.out (Sg.refl p n l4) (HKZ.out.at_ HZP.out (Nat.le_refl _) hpn (by omega)) (by omega)).le (Nat.le_refl _) (by omega)
         ·exact HKY.out.le (Nat.le_refl _) (by omega)
        go_wp2_with fail
        go_roundw
        case rel=>exact ⟨y,l4,by omega,by omega,by go_num,HK5.out,HS4.out,HR4.out,HB4.out⟩
        case measure=>simp [intOf];omega
    ·have hzni:¬(z:Int) < (n:Int):=by omega
     have HT:Hid (Srt 0 n l3):=by
      show Srt _ _ _
      by_cases h0:0 < n
      ·exact HK3.out.at_ (Nat.dvd_zero _) (Nat.le_refl _) h0 (by omega)
      ·exact Srt.short _ (by omega)
     go_wp2_with fail
     go_end0
     exact ⟨rfl,l3,HS3.out,HT.out,HR3.out,HB3.out⟩
theorem Qg8 {l:List Fnd} (hl:l.length≤100000) (hok:Okl l):Cg l:=by
 intro w B v h hB
 obtain ⟨A,c,rfl⟩:=Qk h
 have HS:=Ql4 (Qqr l A l.length c w B ⟨rfl,h⟩ hB hok hl)
 obtain ⟨n,hn⟩:∃n,l.length=n:=⟨_,rfl⟩
 rw [hn] at HS ⊢
 have HN:=Ql4 hn
 unfold X3 at HS ⊢
 clear h hl hn hok
 go_enter Tryz.func126,Tryz.ntmps126
 go_wp2_with fail
 with_reducible refine HS.out.mono ?_
 rintro e w1 ⟨rfl,l2,hs,ht,hr,hb⟩
 have HE:Hid (l2.Pairwise newer):=Srt.pw (by rw [hr.1];exact ht)
 have HP:=Ql4 hs.perm
 have HR:=Ql4 hr.2
 have HB:=Ql4 hb
 clear hs ht hr hb
 go_wp2_with fail
 go_end0
 exact ⟨rfl,l2,HP.out,HE.out,HR.out,HB.out⟩
end rt
end Go.Proofs.YtfialjmemcobjaaGreatDoor
