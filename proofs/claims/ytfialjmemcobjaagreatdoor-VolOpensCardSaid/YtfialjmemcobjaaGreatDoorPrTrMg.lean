/- A part of the proof. -/
import Derived.RowKit
set_option linter.unusedVariables false
set_option linter.unusedSimpArgs false
namespace Go.Proofs.YtfialjmemcobjaaGreatDoor
namespace tr
structure Ext where
 fr:Int
 n:Int
 kind:Int
 at_:Int
deriving DecidableEq
def Ext.end_ (e:Ext):Int:=e.fr+e.n
def Xf (fr n:Int):Bool:=decide (0≤fr) && decide (0≤n) && decide (fr≤16777216) && decide (n≤16777216 - fr)
def Qf (e:Ext):Bool:=Xf e.fr e.n && decide (1≤e.n) && (if e.kind=1 then decide (e.at_=0) else decide (e.kind=2) && decide (0≤e.at_) && decide (e.at_≤2048) && decide (e.n≤2048 - e.at_))
def Qzs (a:Ext) (n:Int):Ext:=⟨a.end_,n,a.kind,if a.kind=2 then a.at_+a.n else 0⟩
def tog (a b:Ext):Bool:=decide (Qzs a b.n=b)
theorem Ow (a b:Ext):tog a b=true↔b.fr=a.end_∧b.kind=a.kind∧b.at_=if a.kind=2 then a.at_+a.n else 0:=by
 obtain ⟨f,n,k,t⟩:=b
 simp only [tog,Qzs,decide_eq_true_eq,Ext.mk.injEq,true_and]
 constructor
 ·rintro ⟨h1,h2,h3⟩;exact ⟨h1.symm,h2.symm,h3.symm⟩
 ·rintro ⟨h1,h2,h3⟩;exact ⟨h1.symm,h2.symm,h3.symm⟩
def partOf (e:Ext) (a b:Int):Option Ext:=
 if min e.end_ b≤max e.fr a then none else some ⟨max e.fr a,min e.end_ b - max e.fr a,e.kind,if e.kind=2 then e.at_+max e.fr a - e.fr else 0⟩
def parts (l:List Ext) (a b:Int):List Ext:=l.filterMap fun e=>partOf e a b
def push (out:List Ext) (e:Ext):List Ext:=
 match out.getLast? with
 |some a=>if tog a e=true then out.dropLast++[{a with n:=a.n+e.n}] else out++[e]
 |none=>[e]
def tidy (l:List Ext):List Ext:=l.foldl push []
structure Chk (l:List Ext):Prop where
 one:∀e∈l,Qf e=true
 ord:l.Pairwise fun a b=>a.end_≤b.fr∧tog a b=false
def Vk (l:List Ext) (e:Ext):List Ext:=tidy (parts l 0 e.fr++[e]++parts l e.end_ 16777216)
def Qcs (l:List Ext) (fr n:Int):List Ext:=tidy (parts l 0 fr++parts l (fr+n) 16777216)
theorem Y8 (out:List Ext) (a e:Ext):push (out++[a]) e=if tog a e=true then out++[{a with n:=a.n+e.n}] else out++[a]++[e]:=by
 simp [push]
theorem Qzj (out:List Ext) (e:Ext) (h:∀a,out.getLast? =some a→tog a e=false):push out e=out++[e]:=by
 unfold push
 cases hl:out.getLast? with
 |none=>rw [List.getLast?_eq_none_iff.1 hl];rfl
 |some a=>simp [h a hl]
structure Like (a b:Ext):Prop where
 e:a.end_=b.end_
 k:a.kind=b.kind
 t:(if a.kind=2 then a.at_+a.n else 0)=(if b.kind=2 then b.at_+b.n else 0)
theorem Like.refl (a:Ext):Like a a:=⟨rfl,rfl,rfl⟩
theorem Like.tog {a b:Ext} (h:Like a b) (c:Ext):tog a c=tog b c:=by
 unfold tr.tog Qzs
 rw [h.e,h.t,h.k]
theorem Qgn {a e:Ext} (h:tog a e=true):Like {a with n:=a.n+e.n} e:=by
 obtain ⟨h1,h2,h3⟩:=(Ow a e).1 h
 have h1':e.fr=a.fr+a.n:=h1
 refine ⟨?_,h2.symm,?_⟩
 ·show a.fr+(a.n+e.n)=e.fr+e.n;omega
 ·show (if a.kind=2 then a.at_+(a.n+e.n) else 0)=(if e.kind=2 then e.at_+e.n else 0)
  rw [h2,h3]
  split <;> omega
theorem Mt (out:List Ext) (e:Ext):∃a,(push out e).getLast? =some a∧Like a e:=by
 unfold push
 split
 ·rename_i a hl
  split
  ·rename_i ht
   exact ⟨_,by simp,Qgn ht⟩
  ·exact ⟨e,by simp,Like.refl e⟩
 ·exact ⟨e,rfl,Like.refl e⟩
theorem Qjo (out:List Ext) (e:Ext):push out e≠[]:=by
 obtain ⟨a,h,_⟩:=Mt out e
 intro h2;rw [h2] at h;simp at h
theorem push_append (L out:List Ext) (e:Ext) (h:out≠[]):push (L++out) e=L++push out e:=by
 obtain ⟨o,a,rfl⟩:∃o a,out=o++[a]:=⟨out.dropLast,out.getLast h,(List.dropLast_concat_getLast h).symm⟩
 rw [←List.append_assoc,Y8,Y8]
 split <;> simp
theorem Bd (L:List Ext):∀(l out:List Ext),out≠[]→l.foldl push (L++out)=L++l.foldl push out
 |[],_,_=>rfl
 |e::l,out,h=>by
  rw [List.foldl_cons,List.foldl_cons,push_append L out e h,Bd L l _ (Qjo out e)]
theorem Qud:∀(l out:List Ext) (e:Ext),(l++[e]).foldl push out≠[]∧∃a,((l++[e]).foldl push out).getLast? =some a∧Like a e:=by
 intro l out e
 rw [List.foldl_append,List.foldl_cons,List.foldl_nil]
 exact ⟨Qjo _ _,Mt _ _⟩
theorem Gm (l r:List Ext) (h:∀a b,l.getLast? =some a→r.head? =some b→tog a b=false):tidy (l++r)=tidy l++tidy r:=by
 unfold tidy
 rw [List.foldl_append]
 cases r with
 |nil=>simp
 |cons b r=>
  rw [List.foldl_cons,List.foldl_cons]
  have h1:push (l.foldl push []) b=l.foldl push []++[b]:=by
   apply Qzj
   intro a ha
   rcases List.eq_nil_or_concat l with rfl|⟨l',c,rfl⟩
   ·simp at ha
   ·rw [List.concat_eq_append] at ha h
    obtain ⟨_,a',ha',hlk⟩:=Qud l' [] c
    rw [ha] at ha'
    injection ha' with ha'
    subst ha'
    rw [hlk.tog]
    exact h c b (by simp) rfl
  rw [h1,show push [] b=[b] from rfl]
  exact Bd _ r [b] (by simp)
theorem Qgp (e:Ext):tidy [e]=[e]:=rfl
theorem Chk.tail {a:Ext} {l:List Ext} (h:Chk (a::l)):Chk l:=⟨fun e he=>h.one e (List.mem_cons_of_mem _ he),(List.pairwise_cons.1 h.ord).2⟩
theorem Chk.left {l r:List Ext} (h:Chk (l++r)):Chk l:=⟨fun e he=>h.one e (List.mem_append_left _ he),(List.pairwise_append.1 h.ord).1⟩
theorem Chk.right {l r:List Ext} (h:Chk (l++r)):Chk r:=⟨fun e he=>h.one e (List.mem_append_right _ he),(List.pairwise_append.1 h.ord).2.1⟩
theorem Cs:∀(l:List Ext),Chk l→tidy l=l
 |[],_=>rfl
 |[e],_=>rfl
 |a::b::r,h=>by
  have:=Gm [a] (b::r) (fun x y hx hy=>by
   simp at hx hy
   subst hx hy
   exact ((List.pairwise_cons.1 h.ord).1 b (by simp)).2)
  rw [show [a]++(b::r)=a::b::r from rfl,Cs (b::r) h.tail,Qgp] at this
  exact this
theorem Qy {e:Ext} (h:Qf e=true):0≤e.fr∧1≤e.n∧e.fr+e.n≤16777216∧((e.kind=1∧e.at_=0)∨(e.kind=2∧0≤e.at_∧e.at_+e.n≤2048)):=by
 unfold Qf Xf at h
 simp only [Bool.and_eq_true,decide_eq_true_eq] at h
 obtain ⟨⟨⟨⟨⟨h1,h2⟩,h3⟩,h4⟩,h5⟩,h6⟩:=h
 split at h6
 ·rename_i hk
  simp only [decide_eq_true_eq] at h6
  exact ⟨h1,h5,by omega,.inl ⟨hk,h6⟩⟩
 ·simp only [Bool.and_eq_true,decide_eq_true_eq] at h6
  obtain ⟨⟨⟨k1,k2⟩,k3⟩,k4⟩:=h6
  exact ⟨h1,h5,by omega,.inr ⟨k1,k2,by omega⟩⟩
theorem Qov {e:Ext} (h1:0≤e.fr) (h2:1≤e.n) (h3:e.fr+e.n≤16777216) (h4:(e.kind=1∧e.at_=0)∨(e.kind=2∧0≤e.at_∧e.at_+e.n≤2048)):Qf e=true:=by
 unfold Qf Xf
 simp only [Bool.and_eq_true,decide_eq_true_eq]
 refine ⟨⟨⟨⟨⟨h1,by omega⟩,by omega⟩,by omega⟩,h2⟩,?_⟩
 rcases h4 with ⟨k,a⟩|⟨k,a,b⟩
 ·rw [if_pos k];simpa using a
 ·rw [if_neg (by omega)]
  simp only [Bool.and_eq_true,decide_eq_true_eq]
  exact ⟨⟨⟨k,a⟩,by omega⟩,by omega⟩
theorem Vx {a e:Ext} (ha:Qf a=true) (he:Qf e=true) (ht:tog a e=true):Qf {a with n:=a.n+e.n}=true:=by
 obtain ⟨a1,a2,a3,a4⟩:=Qy ha
 obtain ⟨e1,e2,e3,e4⟩:=Qy he
 obtain ⟨t1,t2,t3⟩:=(Ow a e).1 ht
 have t1':e.fr=a.fr+a.n:=t1
 refine Qov a1 (by show 1≤a.n+e.n;omega) (by show a.fr+(a.n+e.n)≤_;omega) ?_
 rcases a4 with h|⟨k,h1,h2⟩
 ·exact .inl h
 ·refine .inr ⟨k,h1,?_⟩
  rw [if_pos k] at t3
  rcases e4 with ⟨k2,_⟩|⟨_,_,h3⟩
  ·omega
  ·show a.at_+(a.n+e.n)≤2048;omega
theorem Sm {a b c:Ext} (h1:b.fr=c.fr) (h2:b.kind=c.kind) (h3:b.at_=c.at_):tog a b=tog a c:=by
 have:tog a b=true↔tog a c=true:=by rw [Ow,Ow,h1,h2,h3]
 cases h:tog a b <;> cases h':tog a c <;> simp_all
theorem Ad {a b:Ext} (h:b.fr≠a.end_):tog a b=false:=by
 cases ht:tog a b
 ·rfl
 ·exact absurd ((Ow a b).1 ht).1 h
theorem Df:Chk []:=⟨by simp,by simp⟩
theorem Ku {e x:Ext} {a b:Int} (h:partOf e a b=some x) (he:Qf e=true) (ha:0≤a) (hb:b≤16777216):Qf x=true∧x.fr=max e.fr a∧x.end_=min e.end_ b∧x.kind=e.kind∧(x.at_=if e.kind=2 then e.at_+x.fr - e.fr else 0):=by
 unfold partOf at h
 split at h
 ·exact absurd h (by simp)
 ·rename_i hlt
  injection h with h
  obtain ⟨e1,e2,e3,e4⟩:=Qy he
  have h2:e.end_=e.fr+e.n:=rfl
  subst h
  refine ⟨Qov (by show 0≤max e.fr a;omega) (by show 1≤min e.end_ b - max e.fr a;omega) (by show max e.fr a+(min e.end_ b - max e.fr a)≤_;omega) ?_,rfl,by show max e.fr a+(min e.end_ b - max e.fr a)=_;omega,rfl,rfl⟩
  rcases e4 with ⟨k,h3⟩|⟨k,h3,h4⟩
  ·exact .inl ⟨k,by show (if e.kind=2 then _ else (0:Int))=0;rw [if_neg (by omega)]⟩
  ·refine .inr ⟨k,?_,?_⟩
   ·show 0≤(if e.kind=2 then e.at_+max e.fr a - e.fr else 0);rw [if_pos k];omega
   ·show (if e.kind=2 then e.at_+max e.fr a - e.fr else 0)+(min e.end_ b - max e.fr a)≤2048;rw [if_pos k];omega
theorem Fp {e:Ext} {a b:Int} (he:Qf e=true) (ha:a≤e.fr) (hb:e.end_≤b):partOf e a b=some e:=by
 obtain ⟨e1,e2,e3,e4⟩:=Qy he
 have h2:e.end_=e.fr+e.n:=rfl
 unfold partOf
 rw [if_neg (by omega)]
 obtain ⟨f,n,k,t⟩:=e
 simp only [Option.some.injEq,Ext.mk.injEq]
 simp only at ha e4
 have hb':f+n≤b:=hb
 refine ⟨by omega,by show min (f+n) b - max f a=n;omega,trivial,?_⟩
 rcases e4 with ⟨k1,h3⟩|⟨k1,h3,h4⟩
 ·rw [if_neg (by omega)];exact h3.symm
 ·rw [if_pos k1];omega
theorem O4 {e:Ext} {a b:Int} (h:e.end_≤a∨b≤e.fr∨b≤a):partOf e a b=none:=by
 unfold partOf
 rw [if_pos (by rcases h with h|h|h <;> omega)]
theorem J4 {l:List Ext} {a b:Int} {x:Ext} (h:x∈parts l a b):∃e∈l,partOf e a b=some x:=by
 unfold parts at h
 obtain ⟨e,he,hx⟩:=List.mem_filterMap.1 h
 exact ⟨e,he,hx⟩
theorem Kc (l r:List Ext) (a b:Int):parts (l++r) a b=parts l a b++parts r a b:=by simp [parts]
theorem Nj {l:List Ext} {a b:Int} (h:∀e∈l,partOf e a b=some e):parts l a b=l:=by
 induction l with
 |nil=>rfl
 |cons e l ih=>
  unfold parts at ih ⊢
  rw [List.filterMap_cons,h e (by simp),ih (fun x hx=>h x (by simp [hx]))]
theorem Ah {l:List Ext} {a b:Int} (h:∀e∈l,partOf e a b=none):parts l a b=[]:=by
 induction l with
 |nil=>rfl
 |cons e l ih=>
  unfold parts at ih ⊢
  rw [List.filterMap_cons,h e (by simp),ih (fun x hx=>h x (by simp [hx]))]
theorem Qfk {l:List Ext} {a b:Int} (h:Chk l) (ha:0≤a) (hb:b≤16777216):(parts l a b).Pairwise fun x y=>x.end_≤y.fr:=by
 unfold parts
 refine List.Pairwise.filterMap _ ?_ (List.Pairwise.and_mem.1 h.ord)
 intro x y ⟨hx,hy,ho,_⟩ x' hx' y' hy'
 have k1:=Ku hx' (h.one x hx) ha hb
 have k2:=Ku hy' (h.one y hy) ha hb
 omega
def Kg (lo hi:Int) (x:Ext):Bool:=decide (x.fr≤hi) && decide (lo≤x.end_)
def Jj (l:List Ext) (lo hi:Int):List Ext:=l.filter (Kg lo hi)
def Vn (l:List Ext) (lo:Int):List Ext:=l.filter fun x=>decide (x.end_ < lo)
def Fj (l:List Ext) (hi:Int):List Ext:=l.filter fun x=>decide (hi < x.fr)
theorem Qaq {l:List Ext} (h:Chk l):l.Pairwise fun a b=>a.fr < b.fr:=by
 refine List.Pairwise.imp ?_ (List.Pairwise.and_mem.1 h.ord)
 intro a b ⟨ha,_,ho,_⟩
 have:=(Qy (h.one a ha)).2.1
 have h2:a.end_=a.fr+a.n:=rfl
 omega
theorem N7 {p:Ext→Bool} {l:List Ext} (h:∀x∈l,p x=false):l.filter p=[]:=by
 rw [List.filter_eq_nil_iff]
 intro x hx
 rw [h x hx]
 decide
theorem three:∀{l:List Ext} {lo hi:Int},Chk l→lo≤hi→l=Vn l lo++Jj l lo hi++Fj l hi
 |[],_,_,_,_=>rfl
 |a::l,lo,hi,h,hh=>by
  have ih:=three (lo:=lo) (hi:=hi) h.tail hh
  have hp:=(List.pairwise_cons.1 h.ord).1
  have hn:=(Qy (h.one a (by simp))).2.1
  have he:a.end_=a.fr+a.n:=rfl
  have hlt:∀x∈l,x.fr < x.end_:=fun x hx=>by
   have:=(Qy (h.one x (by simp [hx]))).2.1
   have h2:x.end_=x.fr+x.n:=rfl
   omega
  unfold Vn Jj Fj at ih ⊢
  by_cases h1:a.end_ < lo
  ·have e1:decide (a.end_ < lo)=true:=by simpa using h1
   have e2:Kg lo hi a=false:=by unfold Kg;simp;omega
   have e3:decide (hi < a.fr)=false:=by simp;omega
   simp only [List.filter_cons,e1,e2,e3,Bool.false_eq_true,if_true,if_false,List.cons_append]
   rw [←ih]
  ·have hL:l.filter (fun x=>decide (x.end_ < lo))=[]:=N7 (fun x hx=>by
    have:=(hp x hx).1
    have:=hlt x hx
    simp;omega)
   have e1:decide (a.end_ < lo)=false:=by simpa using h1
   by_cases h2:a.fr≤hi
   ·have e2:Kg lo hi a=true:=by unfold Kg;simp;omega
    have e3:decide (hi < a.fr)=false:=by simp;omega
    simp only [List.filter_cons,e1,e2,e3,Bool.false_eq_true,if_true,if_false]
    rw [hL] at ih ⊢
    simp only [List.nil_append,List.cons_append] at ih ⊢
    rw [←ih]
   ·have e2:Kg lo hi a=false:=by unfold Kg;simp;omega
    have e3:decide (hi < a.fr)=true:=by simp;omega
    have hN:l.filter (Kg lo hi)=[]:=N7 (fun x hx=>by
     have:=(hp x hx).1
     unfold Kg;simp;omega)
    simp only [List.filter_cons,e1,e2,e3,Bool.false_eq_true,if_true,if_false]
    rw [hL,hN] at ih ⊢
    simp only [List.nil_append] at ih ⊢
    rw [←ih]
theorem Dh {l:List Ext} (h:Chk l) {x:Ext} (hx:x∈l):0≤x.fr∧x.fr < x.end_∧x.end_≤16777216:=by
 have:=Qy (h.one x hx)
 have h2:x.end_=x.fr+x.n:=rfl
 omega
theorem Qfj {l:List Ext} {lo hi:Int} (h:Chk l) (h0:0≤lo) (hh:lo≤hi) (hm:hi≤16777216) (e:List Ext) (he:∀x∈e,Qf x=true∧x.fr=lo∧x.end_=hi):
  tidy (parts l 0 lo++e++parts l hi 16777216)=Vn l lo++tidy (parts (Jj l lo hi) 0 lo++e++parts (Jj l lo hi) hi 16777216)++Fj l hi:=by
 have h3:=three h hh
 obtain ⟨L,hL⟩:∃L,Vn l lo=L:=⟨_,rfl⟩
 obtain ⟨N,hN⟩:∃N,Jj l lo hi=N:=⟨_,rfl⟩
 obtain ⟨R,hR⟩:∃R,Fj l hi=R:=⟨_,rfl⟩
 rw [hL,hN,hR] at h3 ⊢
 have hl1:∀x∈L,x.end_ < lo:=fun x hx=>by
  rw [←hL] at hx
  simpa using (List.mem_filter.1 hx).2
 have hr1:∀x∈R,hi < x.fr:=fun x hx=>by
  rw [←hR] at hx
  simpa using (List.mem_filter.1 hx).2
 have hl:=h
 rw [h3] at hl
 have hC:=hl
 have hCL:=hl.left.left
 have hCN:=hl.left.right
 have hCR:=hl.right
 have hord:=List.pairwise_append.1 hl.ord
 have hordL:=List.pairwise_append.1 hord.1
 have p1:parts l 0 lo=L++parts N 0 lo:=by
  rw [h3,Kc,Kc,Nj (l:=L) (fun x hx=>Fp (hCL.one x hx) (Dh hCL hx).1 (by have:=hl1 x hx;omega)),Ah (l:=R) (fun x hx=>O4 (by have:=hr1 x hx;omega)),List.append_nil]
 have p2:parts l hi 16777216=parts N hi 16777216++R:=by
  rw [h3,Kc,Kc,Ah (l:=L) (fun x hx=>O4 (by have:=hl1 x hx;omega)),Nj (l:=R) (fun x hx=>Fp (hCR.one x hx) (by have:=hr1 x hx;omega) (Dh hCR hx).2.2),List.nil_append]
 rw [p1,p2]
 have hX1:∀y∈parts N 0 lo,∃x∈N,y.fr=x.fr∧y.kind=x.kind∧y.at_=x.at_∧y.end_≤lo:=fun y hy=>by
  obtain ⟨x,hx,hp⟩:=J4 hy
  have k:=Ku hp (hCN.one x hx) (Int.le_refl 0) (by omega)
  have k1:=Qy (hCN.one x hx)
  refine ⟨x,hx,by omega,k.2.2.2.1,?_,by omega⟩
  rw [k.2.2.2.2]
  rcases k1.2.2.2 with ⟨q,q2⟩|⟨q,_⟩
  ·rw [if_neg (by omega)];exact q2.symm
  ·rw [if_pos q];omega
 have hX2:∀y∈parts N hi 16777216,hi≤y.fr∧∃x∈N,Like y x:=fun y hy=>by
  obtain ⟨x,hx,hp⟩:=J4 hy
  have k:=Ku hp (hCN.one x hx) (by omega) (Int.le_refl _)
  have k1:=Qy (hCN.one x hx)
  have k2:x.end_=x.fr+x.n:=rfl
  have k3:y.end_=y.fr+y.n:=rfl
  refine ⟨by omega,x,hx,by omega,k.2.2.2.1,?_⟩
  rw [k.2.2.2.1]
  rcases k1.2.2.2 with ⟨q,q2⟩|⟨q,_⟩
  ·rw [if_neg (by omega),if_neg (by omega)]
  ·rw [if_pos q,if_pos q,k.2.2.2.2,if_pos q];omega
 have hLX:∀a∈L,∀b∈parts N 0 lo++e++parts N hi 16777216,tog a b=false:=fun a ha b hb=>by
  simp only [List.mem_append] at hb
  rcases hb with (hb|hb)|hb
  ·obtain ⟨x,hx,q1,q2,q3,_⟩:=hX1 b hb
   rw [Sm q1 q2 q3]
   exact (hordL.2.2 a ha x hx).2
  ·exact Ad (by have:=(he b hb).2.1;have:=hl1 a ha;omega)
  ·exact Ad (by have:=(hX2 b hb).1;have:=hl1 a ha;omega)
 have hXR:∀a∈parts N 0 lo++e++parts N hi 16777216,∀b∈R,tog a b=false:=fun a ha b hb=>by
  simp only [List.mem_append] at ha
  rcases ha with (ha|ha)|ha
  ·obtain ⟨x,hx,_,_,_,q⟩:=hX1 a ha
   exact Ad (by have:=hr1 b hb;omega)
  ·exact Ad (by have:=(he a ha).2.2;have:=hr1 b hb;omega)
  ·obtain ⟨_,x,hx,q⟩:=hX2 a ha
   rw [q.tog]
   exact (hord.2.2 x (List.mem_append_right _ hx) b hb).2
 have hLR:∀a∈L,∀b∈R,tog a b=false:=fun a ha b hb=>(hord.2.2 a (List.mem_append_left _ ha) b hb).2
 obtain ⟨X,hXd⟩:∃X,parts N 0 lo++e++parts N hi 16777216=X:=⟨_,rfl⟩
 rw [hXd] at hLX hXR ⊢
 rw [show L++parts N 0 lo++e++(parts N hi 16777216++R)=L++(X++R) from by rw [←hXd];simp [List.append_assoc]]
 rw [Gm L (X++R) (fun a b ha hb=>by
  have ha':=List.mem_of_getLast? ha
  have hb':=List.mem_of_mem_head? hb
  rcases List.mem_append.1 hb' with hb'|hb'
  ·exact hLX a ha' b hb'
  ·exact hLR a ha' b hb')]
 rw [Gm X R (fun a b ha hb=>hXR a (List.mem_of_getLast? ha) b (List.mem_of_mem_head? hb)),Cs L hCL,Cs R hCR,List.append_assoc]
theorem Qo3 {l:List Ext} (h:Chk l) (lo hi:Int):Chk (Jj l lo hi):=⟨fun e he=>h.one e (List.mem_filter.1 he).1,h.ord.filter _⟩
def Inc (l:List Ext):Prop:=l.Pairwise fun a b=>a.fr < b.fr
def ins (l:List Ext) (e:Ext):List Ext:=l.filter (fun x=>decide (x.fr < e.fr))++e::l.filter (fun x=>decide (e.fr≤x.fr))
def del (l:List Ext) (s:Int):List Ext:=l.filter fun x=>decide (x.fr≠s)
def takes (l was is:List Ext):List Ext:=(was.filter fun e=>decide (e∉is)).foldl (fun l e=>del l e.fr) l
structure Lf where
 a:Int
 l:List Ext
structure In (α:Type) where
 a:Int
 ks:List α
def Nd:Nat→Type
 |0=>Lf
 |h+1=>In (Nd h)
def mkL (a:Int) (l:List Ext):Nd 0:=(⟨a,l⟩:Lf)
def mkI {h:Nat} (a:Int) (ks:List (Nd h)):Nd (h+1):=(⟨a,ks⟩:In (Nd h))
def Nd.l (n:Nd 0):List Ext:=Lf.l n
def Nd.ks {h:Nat} (n:Nd (h+1)):List (Nd h):=In.ks n
def Nd.at_:{h:Nat}→Nd h→Int
 |0,n=>Lf.a n
 |_+1,n=>In.a n
def Nd.moved:{h:Nat}→Nd h→Int→Nd h
 |0,n,a=>mkL a n.l
 |_+1,n,a=>mkI a n.ks
def dft:(h:Nat)→Nd h
 |0=>mkL 0 []
 |h+1=>mkI 0 []
@[simp] theorem Ql3 {h:Nat} (a:Int) (ks:List (Nd h)):(mkI a ks).ks=ks:=rfl
def Nd.size:{h:Nat}→Nd h→Nat
 |0,n=>n.l.length
 |_+1,n=>n.ks.length
def flat:{h:Nat}→Nd h→List Ext
 |0,n=>n.l
 |_+1,n=>n.ks.flatMap flat
def Qm {h:Nat} (ks:List (Nd h)):List Ext:=ks.flatMap flat
theorem Rj {h:Nat} (n:Nd (h+1)):flat n=Qm n.ks:=rfl
@[simp] theorem Qhi {h:Nat} (a:Int) (ks:List (Nd h)):flat (mkI a ks)=Qm ks:=rfl
@[simp] theorem Qho (a:Int) (l:List Ext):flat (mkL a l)=l:=rfl
@[simp] theorem Kq {h:Nat} (p q:List (Nd h)):Qm (p++q)=Qm p++Qm q:=by simp [Qm]
@[simp] theorem Q8 {h:Nat} (k:Nd h) (q:List (Nd h)):Qm (k::q)=flat k++Qm q:=by simp [Qm]
@[simp] theorem Qfx {h:Nat}:Qm ([]:List (Nd h))=[]:=rfl
def Qb:{h:Nat}→Nd h→Int
 |0,n=>match n.l with|[]=>0|e::_=>e.fr
 |_+1,n=>match n.ks with|[]=>0|k::_=>Qb k
def Ub {h:Nat} (ks:List (Nd h)) (s:Int):Nat→Nat
 |0=>0
 |i+1=>if Qb (ks.getD (i+1) (dft h))≤s then i+1 else Ub ks s i
def under {h:Nat} (ks:List (Nd h)) (s:Int):Nat:=Ub ks s (ks.length - 1)
def Kw:{h:Nat}→Nd h→Prop
 |0,_=>True
 |_+1,n=>∀k∈n.ks,(4≤k.size∧k.size≤8)∧Kw k
def Wf {h:Nat} (n:Nd h):Prop:=(4≤n.size∧n.size≤8)∧Kw n
def Qb1 {h:Nat} (ks:List (Nd h)):Nd (h+1)×Option (Nd (h+1)):=
 if 8 < ks.length then (mkI (-1) (ks.take (ks.length / 2)),some (mkI (-1) (ks.drop (ks.length / 2)))) else (mkI (-1) ks,none)
def Qee:{h:Nat}→Nd h→Ext→Nd h×Option (Nd h)
 |0,n,e=>if 8 < (ins n.l e).length then (mkL (-1) ((ins n.l e).take ((ins n.l e).length / 2)),some (mkL (-1) ((ins n.l e).drop ((ins n.l e).length / 2)))) else (mkL (-1) (ins n.l e),none)
 |h+1,n,e=>
  let i:=under n.ks e.fr
  let r:=Qee (n.ks.getD i (dft h)) e
  match r.2 with
  |none=>(mkI (-1) (n.ks.set i r.1),none)
  |some s=>Qb1 ((n.ks.set i r.1).take (i+1)++s::(n.ks.set i r.1).drop (i+1))
def Qb6:{h:Nat}→Nd h→Nd h→Nat→Nd h×Nd h
 |0,x,y,k=>(mkL (-1) ((x.l++y.l).take k),mkL (-1) ((x.l++y.l).drop k))
 |_+1,x,y,k=>(mkI (-1) ((x.ks++y.ks).take k),mkI (-1) ((x.ks++y.ks).drop k))
def Qq0 {h:Nat} (ks:List (Nd h)) (i k:Nat):List (Nd h):=
 let r:=Qb6 (ks.getD i (dft h)) (ks.getD (i+1) (dft h)) k
 (ks.set i r.1).set (i+1) r.2
def Qx2 {h:Nat} (ks:List (Nd h)) (i:Nat):Nat:=(ks.getD i (dft h)).size
def Qo9 {h:Nat} (ks:List (Nd h)) (i:Nat):List (Nd h):=(Qq0 ks i (Qx2 ks i+Qx2 ks (i+1))).eraseIdx (i+1)
def Qf0 {h:Nat} (ks:List (Nd h)) (i:Nat):List (Nd h):=
 if 0 < i∧4 < Qx2 ks (i - 1) then Qq0 ks (i - 1) (Qx2 ks (i - 1) - 1)
 else if i+1 < ks.length∧4 < Qx2 ks (i+1) then Qq0 ks i (Qx2 ks i+1)
 else if 0 < i then Qo9 ks (i - 1)
 else if i+1 < ks.length then Qo9 ks i
 else ks
def Qfl:{h:Nat}→Nd h→Int→Nd h
 |0,n,s=>mkL (-1) (del n.l s)
 |h+1,n,s=>
  let i:=under n.ks s
  let k:=Qfl (n.ks.getD i (dft h)) s
  if k.size < 4 then mkI (-1) (Qf0 (n.ks.set i k) i) else mkI (-1) (n.ks.set i k)
inductive Tree where
 |no
 |top (h:Nat) (n:Nd h)
def Tree.flat:Tree→List Ext
 |.no=>[]
 |.top _ n=>tr.flat n
def Tree.put:Tree→Ext→Tree
 |.no,e=>.top 0 (mkL (-1) [e])
 |.top h n,e=>match (Qee n e).2 with
  |none=>.top h (Qee n e).1
  |some s=>.top (h+1) (mkI (-1) [(Qee n e).1,s])
def Tree.low:{h:Nat}→Nd h→Tree
 |0,n=>if n.l=[] then .no else .top 0 n
 |h+1,n=>match n.ks with
  |[k]=>.top h k
  |_=>.top (h+1) n
def Tree.take:Tree→Int→Tree
 |.no,_=>.no
 |.top _ n,s=>Tree.low (Qfl n s)
def Tree.Ok:Tree→Prop
 |.no=>True
 |.top 0 n=>1≤n.size∧n.size≤8
 |.top (_+1) n=>(2≤n.size∧n.size≤8)∧Kw n
theorem Cm {h:Nat} (ks:List (Nd h)) (s:Int):∀m,Ub ks s m≤m∧(Ub ks s m=0∨Qb (ks.getD (Ub ks s m) (dft h))≤s)∧∀j,Ub ks s m < j→j≤m→s < Qb (ks.getD j (dft h))
 |0=>⟨Nat.le_refl _,.inl rfl,fun j h1 h2=>by rw [Ub] at h1;omega⟩
 |m+1=>by
  obtain ⟨k1,k2,k3⟩:=Cm ks s m
  rw [Ub]
  split
  ·rename_i hf
   exact ⟨Nat.le_refl _,.inr hf,fun j h1 h2=>by omega⟩
  ·rename_i hf
   refine ⟨by omega,k2,fun j h1 h2=>?_⟩
   by_cases hj:j≤m
   ·exact k3 j h1 hj
   ·obtain rfl:j=m+1:=by omega
    omega
theorem Kw.mem {h:Nat} {n:Nd (h+1)} (hk:Kw n) {k:Nd h} (hm:k∈n.ks):Wf k:=hk k hm
theorem Du:∀{h:Nat} (n:Nd h),Kw n→1≤n.size→∃e r,flat n=e::r∧Qb n=e.fr
 |0,n,_,hs=>by
  have hs':1≤n.l.length:=hs
  cases hl:n.l with
  |nil=>rw [hl] at hs';simp at hs'
  |cons e r=>
   refine ⟨e,r,hl,?_⟩
   unfold Qb
   rw [hl]
 |h+1,n,hk,hs=>by
  have hs':1≤n.ks.length:=hs
  cases hl:n.ks with
  |nil=>rw [hl] at hs';simp at hs'
  |cons k r=>
   have hkw:=hk.mem (show k∈n.ks by rw [hl];simp)
   obtain ⟨e,r',h1,h2⟩:=Du k hkw.2 (by have:=hkw.1.1;omega)
   refine ⟨e,r'++Qm r,?_,?_⟩
   ·rw [Rj,hl,Q8,h1];rfl
   ·unfold Qb
    rw [hl]
    exact h2
end tr
namespace tr
end tr
namespace tr
def Big:{h:Nat}→Nd h→Prop
 |0,_=>True
 |_+1,n=>2≤n.ks.length
theorem Tree.Ok.parts:∀{h:Nat} {n:Nd h},(Tree.top h n).Ok→Kw n∧Big n∧1≤n.size∧n.size≤8
 |0,n,h=>⟨trivial,trivial,h⟩
 |h+1,n,hh=>⟨hh.2,hh.1.1,by have:=hh.1.1;omega,hh.1.2⟩
def Tree.takes (t:Tree) (d:List Ext):Tree:=d.foldl (fun t e=>t.take e.fr) t
def Tree.puts (t:Tree) (d:List Ext):Tree:=d.foldl Tree.put t
def Tree.change (t:Tree) (was is:List Ext):Tree:=(t.takes (was.filter fun e=>decide (e∉is))).puts (is.filter fun e=>decide (e∉was))
def Tree.over (t:Tree) (e:Ext):Tree:=t.change (Jj t.flat e.fr e.end_) (Vk (Jj t.flat e.fr e.end_) e)
def Zc:{h:Nat}→Nd h→Nat
 |0,_=>1
 |_+1,n=>1+(n.ks.map Zc).sum
def Tree.high:Tree→Nat
 |.no=>0
 |.top h _=>h+1
def Tree.cnt:Tree→Nat
 |.no=>0
 |.top _ n=>Zc n
theorem Ep {h:Nat}:∀(ks:List (Nd h)) (a b:Nat),(∀k∈ks,a≤(flat k).length∧(flat k).length≤b)→ks.length * a≤(Qm ks).length∧(Qm ks).length≤ks.length * b
 |[],a,b,_=>by simp
 |k::r,a,b,hh=>by
  have h1:=hh k (by simp)
  have h2:=Ep r a b (fun x hx=>hh x (by simp [hx]))
  rw [Q8,List.length_append,List.length_cons,Nat.add_mul,Nat.add_mul,Nat.one_mul,Nat.one_mul]
  omega
theorem Qgx:∀{h:Nat} (n:Nd h),Wf n→4 ^ (h+1)≤(flat n).length∧(flat n).length≤8 ^ (h+1)
 |0,n,hw=>by
  have e:n.size=(flat n).length:=rfl
  have:=hw.1
  omega
 |h+1,n,hw=>by
  have hk:=Ep n.ks (4 ^ (h+1)) (8 ^ (h+1)) (fun k hm=>Qgx k (hw.2.mem hm))
  have e:n.size=n.ks.length:=rfl
  have h1:=hw.1
  rw [e] at h1
  have h2:=Nat.mul_le_mul_right (4 ^ (h+1)) h1.1
  have h3:=Nat.mul_le_mul_right (8 ^ (h+1)) h1.2
  rw [Rj,Nat.pow_succ 4,Nat.pow_succ 8,Nat.mul_comm (4 ^ (h+1)) 4,Nat.mul_comm (8 ^ (h+1)) 8]
  omega
theorem Rh {h:Nat}:∀(ks:List (Nd h)),(∀k∈ks,3 * Zc k+1≤(flat k).length)→3 * (ks.map Zc).sum+ks.length≤(Qm ks).length
 |[],_=>by simp
 |k::r,hh=>by
  have h1:=hh k (by simp)
  have h2:=Rh r (fun x hx=>hh x (by simp [hx]))
  rw [Q8,List.length_append,List.map_cons,List.sum_cons,List.length_cons]
  omega
theorem Qgy:∀{h:Nat} (n:Nd h),Wf n→3 * Zc n+1≤(flat n).length
 |0,n,hw=>by
  have e:n.size=(flat n).length:=rfl
  have:=hw.1
  show 3 * 1+1≤_
  omega
 |h+1,n,hw=>by
  have hk:=Rh n.ks (fun k hm=>Qgy k (hw.2.mem hm))
  have e:n.size=n.ks.length:=rfl
  have h1:=hw.1
  rw [Rj]
  show 3 * (1+(n.ks.map Zc).sum)+1≤_
  omega
theorem Qxs {t:Tree} (h:t.Ok):(t.flat=[]→t.high=0∧t.cnt=0)∧(t.flat≠[]→1≤t.high∧t.flat.length≤8 ^ t.high∧(t.high=1∨2 * 4 ^ (t.high - 1)≤t.flat.length)∧t.cnt≤1+t.flat.length / 3):=by
 cases t with
 |no=>exact ⟨fun _=>⟨rfl,rfl⟩,fun h=>absurd rfl h⟩
 |top hh n=>
  cases hh with
  |zero=>
   have h1:1≤n.size∧n.size≤8:=h
   have e:n.size=(Tree.flat (.top 0 n)).length:=rfl
   refine ⟨fun hf=>?_,fun _=>⟨Nat.le_refl _,?_,.inl rfl,?_⟩⟩
   ·rw [hf] at e;simp at e;omega
   ·show _≤8 ^ 1;omega
   ·show 1≤_;omega
  |succ hh=>
   have h1:(2≤n.ks.length∧n.ks.length≤8)∧Kw n:=h
   have hk:=Ep n.ks (4 ^ (hh+1)) (8 ^ (hh+1)) (fun k hm=>Qgx k (h1.2.mem hm))
   have hc:=Rh n.ks (fun k hm=>Qgy k (h1.2.mem hm))
   have h2:=Nat.mul_le_mul_right (4 ^ (hh+1)) h1.1.1
   have h3:=Nat.mul_le_mul_right (8 ^ (hh+1)) h1.1.2
   have hpos:0 < 4 ^ (hh+1):=Nat.pow_pos (by decide)
   have ef:Tree.flat (.top (hh+1) n)=Qm n.ks:=rfl
   refine ⟨fun hf=>?_,fun _=>⟨by show 1≤hh+1+1;omega,?_,.inr ?_,?_⟩⟩
   ·rw [ef] at hf
    rw [hf] at hk
    simp only [List.length_nil] at hk
    omega
   ·rw [ef];show _≤8 ^ (hh+1+1);rw [Nat.pow_succ 8 (hh+1),Nat.mul_comm];omega
   ·rw [ef];show 2 * 4 ^ (hh+1)≤_;omega
   ·rw [ef];show 1+(n.ks.map Zc).sum≤_;omega
theorem Nk {l:List Ext} {a b:Int} (h:Chk l) (ha:0≤a) (hb:b≤16777216):Chk (parts l a b):=by
 refine ⟨fun x hx=>?_,?_⟩
 ·obtain ⟨y,hy,hp⟩:=J4 hx
  exact (Ku hp (h.one y hy) ha hb).1
 ·unfold parts
  refine List.Pairwise.filterMap _ ?_ (List.Pairwise.and_mem.1 h.ord)
  intro x y ⟨hx,hy,ho,ht⟩ x' hx' y' hy'
  have k1:=Ku hx' (h.one x hx) ha hb
  have k2:=Ku hy' (h.one y hy) ha hb
  have ex:=Dh h hx
  have ey:=Dh h hy
  have e1:=Qy k1.1
  have e2:=Qy k2.1
  have q1:x'.end_=x'.fr+x'.n:=rfl
  have q2:y'.end_=y'.fr+y'.n:=rfl
  have q3:x.end_=x.fr+x.n:=rfl
  have q4:y.end_=y.fr+y.n:=rfl
  refine ⟨by omega,?_⟩
  have hlk:Like x' x:=by
   refine ⟨by omega,k1.2.2.2.1,?_⟩
   rw [k1.2.2.2.1]
   split
   ·rename_i hk
    rw [k1.2.2.2.2,if_pos hk];omega
   ·rfl
  rw [hlk.tog,←ht]
  refine Sm (by omega) k2.2.2.2.1 ?_
  rw [k2.2.2.2.2]
  rcases (Qy (h.one y hy)).2.2.2 with ⟨q,q5⟩|⟨q,_⟩
  ·rw [if_neg (by omega)];exact q5.symm
  ·rw [if_pos q];omega
theorem Quw {l:List Ext} {lo hi:Int} (h:Chk l) (hh:lo≤hi):parts (Jj l lo hi) lo hi=parts l lo hi:=by
 conv=>rhs;rw [three h hh]
 rw [Kc,Kc,Ah (l:=Vn l lo) (fun x hx=>O4 (.inl (by
  have:=(List.mem_filter.1 hx).2
  simp at this;omega))),Ah (l:=Fj l hi) (fun x hx=>O4 (.inr (.inl (by
  have:=(List.mem_filter.1 hx).2
  simp at this;omega)))),List.append_nil,List.nil_append]
theorem Qoc {out:List Ext} {e:Ext} (h:∀x∈out,Qf x=true) (he:Qf e=true):∀x∈push out e,Qf x=true:=by
 intro x hx
 rcases List.eq_nil_or_concat out with rfl|⟨o,a,rfl⟩
 ·simp [push] at hx;rw [hx];exact he
 ·rw [List.concat_eq_append] at h hx
  rw [Y8] at hx
  split at hx
  ·rename_i ht
   rcases List.mem_append.1 hx with hx|hx
   ·exact h x (by simp [hx])
   ·rw [List.mem_singleton.1 hx];exact Vx (h a (by simp)) he ht
  ·rcases List.mem_append.1 hx with hx|hx
   ·exact h x hx
   ·rw [List.mem_singleton.1 hx];exact he
def hasB (s:Int) (e:Ext):Bool:=decide (e.fr≤s) && decide (s - e.fr < e.n)
def sayOf (s:Int) (o:Option Ext):Int×Int:=
 match o with
 |some e=>(e.kind,if e.kind=2 then e.at_+s - e.fr else 0)
 |none=>(0,0)
def Zp (l:List Ext) (s:Int):Int×Int:=sayOf s (l.find? (hasB s))
theorem Qkx {l:List Ext} (h:Chk l) (s:Int):Zp l s=match l.find? (fun e=>decide (s < e.end_)) with|some e=>Zp [e] s|none=>(0,0):=by
 induction l with
 |nil=>rfl
 |cons a l ih=>
  have k:=Qy (h.one a (by simp))
  have k2:a.end_=a.fr+a.n:=rfl
  have hp:=(List.pairwise_cons.1 h.ord).1
  rw [List.find?_cons]
  by_cases h1:s < a.end_
  ·have e1:decide (s < a.end_)=true:=by simpa using h1
   rw [e1]
   simp only
   by_cases h2:a.fr≤s
   ·have e2:hasB s a=true:=by unfold hasB;simp;omega
    unfold Zp
    rw [List.find?_cons,List.find?_cons,e2]
   ·have e2:hasB s a=false:=by unfold hasB;simp;omega
    have e3:l.find? (hasB s)=none:=by
     rw [List.find?_eq_none]
     intro x hx
     have:=(hp x hx).1
     have k3:=Qy (h.one x (by simp [hx]))
     unfold hasB;simp;omega
    unfold Zp
    rw [List.find?_cons,List.find?_cons,e2]
    simp only [e3,List.find?_nil]
  ·have e1:decide (s < a.end_)=false:=by simpa using h1
   rw [e1]
   simp only
   rw [←ih h.tail]
   have e2:hasB s a=false:=by unfold hasB;simp;omega
   unfold Zp
   rw [List.find?_cons,e2]
def Ko:List Ext→Bool
 |[]=>true
 |[e]=>Qf e
 |a::b::r=>Qf a && decide (a.end_≤b.fr) && !tog a b && Ko (b::r)
theorem Xj:∀(l:List Ext),Ko l=true→Chk l
 |[],_=>Df
 |[e],h=>⟨fun x hx=>by rw [List.mem_singleton.1 hx];exact h,by simp⟩
 |a::b::r,h=>by
  simp only [Ko,Bool.and_eq_true,decide_eq_true_eq,Bool.not_eq_true'] at h
  obtain ⟨⟨⟨h1,h2⟩,h3⟩,h4⟩:=h
  have ih:=Xj (b::r) h4
  have hp:=List.pairwise_cons.1 ih.ord
  have hb:=Qy (ih.one b (by simp))
  have hbe:b.end_=b.fr+b.n:=rfl
  refine ⟨fun x hx=>?_,List.pairwise_cons.2 ⟨fun x hx=>?_,ih.ord⟩⟩
  ·rcases List.mem_cons.1 hx with rfl|hx
   ·exact h1
   ·exact ih.one x hx
  ·rcases List.mem_cons.1 hx with rfl|hx
   ·exact ⟨h2,h3⟩
   ·have:=(hp.1 x hx).1
    exact ⟨by omega,Ad (by omega)⟩
theorem Oa:∀(l:List Ext),Chk l→Ko l=true
 |[],_=>rfl
 |[e],h=>h.one e (by simp)
 |a::b::r,h=>by
  have hp:=(List.pairwise_cons.1 h.ord).1 b (by simp)
  simp only [Ko,Bool.and_eq_true,decide_eq_true_eq,Bool.not_eq_true']
  exact ⟨⟨⟨h.one a (by simp),hp.1⟩,hp.2⟩,Oa (b::r) h.tail⟩
def handed (g:Ext→Bool):List Ext→List Ext
 |[]=>[]
 |e::r=>if g e=true then e::handed g r else [e]
theorem Ut (g:Ext→Bool):∀(l r:List Ext),handed g (l++r)=if l.all g=true then l++handed g r else handed g l
 |[],r=>by simp
 |e::l,r=>by
  have ih:=Ut g l r
  have e1:∀(x:Ext) (q:List Ext),handed g (x::q)=if g x=true then x::handed g q else [x]:=fun _ _=>rfl
  rw [List.cons_append,e1,e1,List.all_cons]
  by_cases h:g e=true
  ·rw [if_pos h,ih,if_pos h,h,Bool.true_and]
   split <;> rfl
  ·rw [if_neg h,if_neg h,if_neg (by simp [h])]
theorem Yi {g:Ext→Bool}:∀{l:List Ext},l.all g=true→handed g l=l
 |[],_=>rfl
 |e::l,h=>by
  simp only [List.all_cons,Bool.and_eq_true] at h
  unfold handed
  rw [if_pos h.1,Yi h.2]
theorem Ii (g:Ext→Bool):∀(l:List Ext),(handed g l).filter g=l.takeWhile g
 |[]=>rfl
 |e::l=>by
  unfold handed
  by_cases h:g e=true
  ·rw [if_pos h,List.filter_cons,if_pos h,Ii g l,List.takeWhile_cons,if_pos h]
  ·rw [if_neg h,List.takeWhile_cons,if_neg h]
   simp [h]
theorem Au {hi:Int}:∀{l:List Ext},Inc l→l.takeWhile (fun x=>decide (x.fr≤hi))=l.filter fun x=>decide (x.fr≤hi)
 |[],_=>rfl
 |e::l,h=>by
  have hp:=List.pairwise_cons.1 h
  rw [List.takeWhile_cons,List.filter_cons]
  by_cases he:e.fr≤hi
  ·rw [if_pos (by simpa using he),if_pos (by simpa using he),Au hp.2]
  ·rw [if_neg (by simpa using he),if_neg (by simpa using he),List.filter_eq_nil_iff.2]
   intro x hx
   have:=hp.1 x hx
   simp;omega
def Qg (l:List Ext) (s:Int):List Ext:=l.filter fun e=>decide (s < e.end_)
theorem J3 (l r:List Ext) (s:Int):Qg (l++r) s=Qg l s++Qg r s:=by simp [Qg]
theorem Qol {l:List Ext} (h:Inc l) (s:Int):Inc (Qg l s):=h.filter _
theorem Qom {l:List Ext} (h:Chk l):Qg l (-1)=l:=by
 unfold Qg
 rw [List.filter_eq_self]
 intro e he
 have:=Dh h he
 simp;omega
theorem Qyc {l:List Ext} {s:Int} (h:∀x∈l,x.end_≤s):Qg l s=[]:=by
 unfold Qg
 rw [List.filter_eq_nil_iff]
 intro x hx
 have:=h x hx
 simp;omega
theorem Qyv {l:List Ext} (h:Chk l) (lo hi:Int):(handed (fun x=>decide (x.fr≤hi)) (Qg l (lo - 1))).filter (fun x=>decide (x.fr≤hi))=Jj l lo hi:=by
 rw [Ii,Au (Qol (Qaq h) _)]
 unfold Qg Jj Kg
 rw [List.filter_filter]
 refine List.filter_congr fun x _=>?_
 congr 1
 exact decide_eq_decide.2 (by omega)
theorem Qzi {h:Nat} {ks:List (Nd h)} {s:Int} (hk:∀k∈ks,Wf k) (hc:Chk (Qm ks)):Qg (Qm ks) s=Qg (Qm (ks.drop (under ks s))) s:=by
 obtain ⟨k1,k2,k3⟩:=Cm ks s (ks.length - 1)
 have hu:under ks s=Ub ks s (ks.length - 1):=rfl
 rw [hu]
 obtain ⟨u,hu2⟩:∃u,Ub ks s (ks.length - 1)=u:=⟨_,rfl⟩
 rw [hu2] at k1 k2 k3 ⊢
 clear hu hu2
 rcases k2 with rfl|k2
 ·rfl
 ·by_cases h0:ks=[]
  ·subst h0;simp
  ·have hul:u < ks.length:=by
    have:0 < ks.length:=List.length_pos_iff.2 h0
    omega
   conv=>lhs;rw [←List.take_append_drop u ks]
   rw [Kq,J3,Qyc (l:=Qm (ks.take u)),List.nil_append]
   intro x hx
   have hd:ks.drop u=ks[u]::ks.drop (u+1):=List.drop_eq_getElem_cons hul
   have hg:ks.getD u (dft h)=ks[u]:=by simp [List.getD,hul]
   rw [hg] at k2
   have hw:Wf ks[u]:=hk _ (List.getElem_mem _)
   obtain ⟨e,r,h1,h2⟩:=Du ks[u] hw.2 (by have:=hw.1.1;omega)
   have ho:=hc.ord
   rw [←List.take_append_drop u ks,Kq,hd,Q8,h1] at ho
   have:=((List.pairwise_append.1 ho).2.2 x hx e (by simp)).1
   omega
end tr
namespace tr
end tr
end Go.Proofs.YtfialjmemcobjaaGreatDoor
