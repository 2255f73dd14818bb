/- A part of the proof. -/
import Derived.Test.YtfialjmemcobjaaGreatDoorPrFlL
import Derived.Test.YtfialjmemcobjaaGreatDoorPrTrMg
import Derived.BigQuiet
import Derived.Deep.AppendLies
import Derived.Deep.DeepCutAuto
import Derived.Deep.QuietTactic
import Derived.Deep.RegionHeld3
import Derived.Deep.RegionLaw
import Derived.Laws.IdiomCopy
import Derived.Laws.StructEq
set_option linter.unusedVariables false
set_option linter.unusedSimpArgs false
namespace Go.Proofs.YtfialjmemcobjaaGreatDoor
namespace tr
open Go.RowKit er
def Ext.cells (e:Ext):List Value:=[.int .i64 e.fr,.int .i64 e.n,.int .i64 e.kind,.int .i64 e.at_]
def Ext.val (e:Ext):Value:= .agg #[.int .i64 e.fr,.int .i64 e.n,.int .i64 e.kind,.int .i64 e.at_]
def Qz (l:List Ext):List Value:=l.flatMap Ext.cells
theorem Xw (l:List Ext):(Qz l).length=l.length * 4:=by
 induction l with
 |nil=>rfl
 |cons m r ih=>simp [Qz,List.flatMap_cons,Ext.cells] at ih ⊢;omega
theorem Jm (l:List Ext) (e:Ext):Qz (l++[e])=Qz l++[.int .i64 e.fr,.int .i64 e.n,.int .i64 e.kind,.int .i64 e.at_]:=by simp [Qz,Ext.cells]
theorem Kr (l r:List Ext):Qz (l++r)=Qz l++Qz r:=by simp [Qz]
theorem Kb:∀(l:List Ext) (j:Nat) (m:Ext),l[j]? =some m→
  (Qz l)[j * 4]? =some (.int .i64 m.fr)∧(Qz l)[j * 4+1]? =some (.int .i64 m.n)∧(Qz l)[j * 4+2]? =some (.int .i64 m.kind)∧(Qz l)[j * 4+3]? =some (.int .i64 m.at_)
 |[],_,_,h=>by simp at h
 |x::r,0,m,h=>by
  simp at h
  subst h
  simp [Qz,Ext.cells]
 |x::r,j+1,m,h=>by
  have ih:=Kb r j m (by simpa using h)
  have e:Qz (x::r)= .int .i64 x.fr::.int .i64 x.n::.int .i64 x.kind::.int .i64 x.at_::Qz r:=by simp [Qz,Ext.cells]
  rw [e,show (j+1) * 4=j * 4+4 from by omega]
  simpa using ih
def ExtAt (w:World) (g o:Nat) (e:Ext):Prop:=w.cell? ⟨g,o,none⟩=some (.int .i64 e.fr)∧w.cell? ⟨g,o+1,none⟩=some (.int .i64 e.n)∧w.cell? ⟨g,o+2,none⟩=some (.int .i64 e.kind)∧w.cell? ⟨g,o+3,none⟩=some (.int .i64 e.at_)
def ExtsAt (w:World) (v:Value) (l:List Ext):Prop:=∃A c,v= .slice A l.length c∧(0 < l.length→∃g o,A=some ⟨g,o,none⟩∧∀(j:Nat) (e:Ext),l[j]? =some e→ExtAt w g (o+j * 4) e)
theorem ExtAt.below {w w':World} {g o:Nat} {e:Ext} (h:ExtAt w g o e) (hb:Below w.heap.size w w'):ExtAt w' g o e:=⟨Qq hb h.1,Qq hb h.2.1,Qq hb h.2.2.1,Qq hb h.2.2.2⟩
theorem ExtsAt.below {w w':World} {v:Value} {l:List Ext} (h:ExtsAt w v l) (hb:Below w.heap.size w w'):ExtsAt w' v l:=by
 obtain ⟨A,c,rfl,h2⟩:=h
 refine ⟨A,c,rfl,fun h0=>?_⟩
 obtain ⟨g,o,rfl,hc⟩:=h2 h0
 exact ⟨g,o,rfl,fun j e he=>(hc j e he).below hb⟩
theorem Qor {w:World} {B n:Nat} {A:Option Addr} {cap:Nat} {e:TypeId} {k:Nat} {xs:List Value} (h:w.ownsRow B e k (.slice A n cap) n xs):xs.length=n * k:=h.1
theorem ExtsAt.own {w:World} {B n:Nat} {v:Value} {l:List Ext} (h:w.ownsRow B 255 4 v n (Qz l)):ExtsAt w v l∧l.length=n:=by
 have hn:l.length=n:=by
  have:=h.1
  rw [Xw] at this
  omega
 subst hn
 refine ⟨?_,rfl⟩
 obtain ⟨A,c,rfl⟩:=Qk h
 refine ⟨A,c,rfl,fun h0=>?_⟩
 obtain ⟨g,rfl,_,_,_,hc,_⟩:=Qo h h0
 refine ⟨g,0,rfl,fun j e he=>?_⟩
 obtain ⟨k0,k1,k2,k3⟩:=Kb l j e he
 simp only [Nat.zero_add]
 exact ⟨hc _ _ k0,hc _ _ k1,hc _ _ k2,hc _ _ k3⟩
theorem Jc (fr n:Int) (w:World):Calls Tryz.prog 266 #[.int .i64 fr,.int .i64 n] w fun e w'=>e= .returned (.bool (Xf fr n))∧w=w':=by
 have key:∀b,Xf fr n=b→Calls Tryz.prog 266 #[.int .i64 fr,.int .i64 n] w fun e w'=>e= .returned (.bool b)∧w=w':=by
  intro b hb
  unfold Xf at hb
  by_cases h1:0≤fr
  ·by_cases h2:0≤n
   ·by_cases h3:fr≤16777216
    ·have hw:wrap64 (16777216 - fr)=16777216 - fr:=by unfold wrap64;omega
     by_cases h4:n≤16777216 - fr
     ·obtain rfl:true=b:=by rw [←hb];simp [h1,h2,h3,h4]
      clear hb
      go_enter Tryz.func266,Tryz.ntmps266
      go_wp2_with fail
      go_ret
      exact ⟨rfl,rfl⟩
     ·obtain rfl:false=b:=by rw [←hb];simp [h1,h2,h3,h4]
      clear hb
      go_enter Tryz.func266,Tryz.ntmps266
      go_wp2_with fail
      go_ret
      exact ⟨rfl,rfl⟩
    ·obtain rfl:false=b:=by rw [←hb];simp [h1,h2,h3]
     clear hb
     go_enter Tryz.func266,Tryz.ntmps266
     go_wp2_with fail
     go_ret
     exact ⟨rfl,rfl⟩
   ·obtain rfl:false=b:=by rw [←hb];simp [h1,h2]
    clear hb
    go_enter Tryz.func266,Tryz.ntmps266
    go_wp2_with fail
    go_ret
    exact ⟨rfl,rfl⟩
  ·obtain rfl:false=b:=by rw [←hb];simp [h1]
   clear hb
   go_enter Tryz.func266,Tryz.ntmps266
   go_wp2_with fail
   go_ret
   exact ⟨rfl,rfl⟩
 exact key _ rfl
theorem Cx (e:Ext) (w:World) (h:Qf e=true):Calls Tryz.prog 248 #[e.val] w fun x w'=>x= .returned (.int .i64 e.end_)∧Below w.heap.size w w':=by
 obtain ⟨k1,k2,k3,k4⟩:=Qy h
 obtain ⟨f,n,k,t⟩:=e
 simp only at k1 k2 k3
 have hw:wrap64 (f+n)=f+n:=by unfold wrap64;omega
 show Calls Tryz.prog 248 #[.agg #[.int .i64 f,.int .i64 n,.int .i64 k,.int .i64 t]] w _
 have HB:=Ql4 ((Below.refl w.heap.size w).alloc (Nat.le_refl _) (.cells #[.int .i64 f,.int .i64 n,.int .i64 k,.int .i64 t] 255))
 go_enter Tryz.func248,Tryz.ntmps248
 go_wp2_with fail
 go_ret
 exact ⟨rfl,HB.out⟩
theorem Pn (e:Ext) (w:World):Calls Tryz.prog 223 #[e.val] w fun x w'=>x= .returned (.bool (Qf e))∧Below w.heap.size w w':=by
 obtain ⟨f,n,k,t⟩:=e
 show Calls Tryz.prog 223 #[.agg #[.int .i64 f,.int .i64 n,.int .i64 k,.int .i64 t]] w _
 have HB:=Ql4 ((Below.refl w.heap.size w).alloc (Nat.le_refl _) (.cells #[.int .i64 f,.int .i64 n,.int .i64 k,.int .i64 t] 255))
 cases hs:Xf f n
 ·have HS:=Ql4 hs
  have HR:Hid (Qf ⟨f,n,k,t⟩=false):=by show _=_;unfold Qf;rw [hs];rfl
  clear hs
  go_enter Tryz.func223,Tryz.ntmps223
  go_wp2_with fail
  refine (Jc _ _ _).mono ?_
  rintro e w1 ⟨rfl,rfl⟩
  rw [HS.out]
  go_wp2_with fail
  go_ret
  exact ⟨by rw [HR.out];(first|rfl|simp [*]),HB.out⟩
 ·have HS:=Ql4 hs
  by_cases h1:n < 1
  ·have HR:Hid (Qf ⟨f,n,k,t⟩=false):=by show _=_;unfold Qf;rw [hs];simp;intro h;omega
   clear hs
   go_enter Tryz.func223,Tryz.ntmps223
   go_wp2_with fail
   refine (Jc _ _ _).mono ?_
   rintro e w1 ⟨rfl,rfl⟩
   rw [HS.out]
   go_wp2_with fail
   go_ret
   exact ⟨by rw [HR.out];(first|rfl|simp [*]),HB.out⟩
  ·have h1':(1:Int)≤n:=by omega
   by_cases h2:k=1
   ·subst h2
    have HR:Hid (Qf ⟨f,n,1,t⟩=(t == 0)):=by show _=_;unfold Qf;rw [hs,if_pos rfl];simp [h1'];rfl
    clear hs
    go_enter Tryz.func223,Tryz.ntmps223
    go_wp2_with fail
    refine (Jc _ _ _).mono ?_
    rintro e w1 ⟨rfl,rfl⟩
    rw [HS.out]
    go_wp2_with fail
    go_ret
    exact ⟨by rw [HR.out];(first|rfl|simp [*]),HB.out⟩
   ·by_cases h3:k=2
    ·subst h3
     by_cases h4:0≤t
     ·by_cases h5:t≤2048
      ·have hw:wrap64 (2048 - t)=2048 - t:=by unfold wrap64;omega
       by_cases h6:n≤2048 - t
       ·have HR:Hid (Qf ⟨f,n,2,t⟩=true):=by show _=_;unfold Qf;rw [hs];simp;omega
        clear hs
        go_enter Tryz.func223,Tryz.ntmps223
        go_wp2_with fail
        refine (Jc _ _ _).mono ?_
        rintro e w1 ⟨rfl,rfl⟩
        rw [HS.out]
        go_wp2_with fail
        go_ret
        exact ⟨by rw [HR.out];(first|rfl|simp [*]),HB.out⟩
       ·have HR:Hid (Qf ⟨f,n,2,t⟩=false):=by show _=_;unfold Qf;rw [hs];simp;omega
        clear hs
        go_enter Tryz.func223,Tryz.ntmps223
        go_wp2_with fail
        refine (Jc _ _ _).mono ?_
        rintro e w1 ⟨rfl,rfl⟩
        rw [HS.out]
        go_wp2_with fail
        go_ret
        exact ⟨by rw [HR.out];(first|rfl|simp [*]),HB.out⟩
      ·have HR:Hid (Qf ⟨f,n,2,t⟩=false):=by show _=_;unfold Qf;rw [hs];simp;omega
       clear hs
       go_enter Tryz.func223,Tryz.ntmps223
       go_wp2_with fail
       refine (Jc _ _ _).mono ?_
       rintro e w1 ⟨rfl,rfl⟩
       rw [HS.out]
       go_wp2_with fail
       go_ret
       exact ⟨by rw [HR.out];(first|rfl|simp [*]),HB.out⟩
     ·have HR:Hid (Qf ⟨f,n,2,t⟩=false):=by show _=_;unfold Qf;rw [hs];simp;omega
      clear hs
      go_enter Tryz.func223,Tryz.ntmps223
      go_wp2_with fail
      refine (Jc _ _ _).mono ?_
      rintro e w1 ⟨rfl,rfl⟩
      rw [HS.out]
      go_wp2_with fail
      go_ret
      exact ⟨by rw [HR.out];(first|rfl|simp [*]),HB.out⟩
    ·have HR:Hid (Qf ⟨f,n,k,t⟩=false):=by show _=_;unfold Qf;rw [hs];simp [h2,h3]
     clear hs
     go_enter Tryz.func223,Tryz.ntmps223
     go_wp2_with fail
     refine (Jc _ _ _).mono ?_
     rintro e w1 ⟨rfl,rfl⟩
     rw [HS.out]
     go_wp2_with fail
     go_ret
     exact ⟨by rw [HR.out];(first|rfl|simp [*]),HB.out⟩
structure Row (w:World) (g c k:Nat) (t:TypeId) (xs:List Value):Prop where
 blk:∃cs,Whole w g t cs∧c * k≤cs.size∧cs.toList.take xs.length=xs
 cap:c≤maxLen
 fit:xs.length≤c * k
theorem Row.lt {w:World} {g c k:Nat} {t:TypeId} {xs:List Value} (h:Row w g c k t xs):g < w.heap.size:=by
 obtain ⟨cs,hw,_⟩:=h.blk
 exact hw.lt
theorem Row.keep {F:Nat→Prop} {w w':World} {g c k:Nat} {t:TypeId} {xs:List Value} (h:Row w g c k t xs) (hk:Keep F w w') (hF:¬F g):Row w' g c k t xs:=by
 obtain ⟨cs,hw,h1,h2⟩:=h.blk
 exact ⟨⟨cs,hw.keep hk hF,h1,h2⟩,h.cap,h.fit⟩
theorem Row.cell {w:World} {g c k:Nat} {t:TypeId} {xs:List Value} (h:Row w g c k t xs) {j:Nat} {v:Value} (hj:xs[j]? =some v):w.cell? ⟨g,j,none⟩=some v:=by
 obtain ⟨cs,hw,h1,h2⟩:=h.blk
 rw [hw.cell]
 have hl:j < xs.length:=(List.getElem?_eq_some_iff.1 hj).1
 rw [←h2] at hj
 rw [List.getElem?_take_of_lt hl] at hj
 simpa using hj
theorem Row.own {w:World} {B k n:Nat} {t:TypeId} {v:Value} {xs:List Value} (h:w.ownsRow B t k v n xs) (hn:0 < n):∃g c,v= .slice (some ⟨g,0,none⟩) n c∧Row w g c k t xs∧B≤g:=by
 obtain ⟨hl,h|⟨g,cap,cur,h1,h2,h3,h4,h5,h6,h7⟩⟩:=h
 ·omega
 ·refine ⟨g,cap,h1,⟨⟨cur,h3,by omega,by rw [hl];exact h7⟩,h5,?_⟩,h2⟩
  rw [hl]
  exact Nat.mul_le_mul_right k h4
def NdAt (w:World):{h:Nat}→List Nat→Value→Nd h→Prop
 |0,F,v,n=>∃b g c,F=[b,g]∧v= .iface 348 (.pointer (some ⟨b,0,none⟩))∧Whole w b 350 #[.int .i64 (Nd.at_ n),.slice (some ⟨g,0,none⟩) (Nd.l n).length c]∧Row w g c 4 255 (Qz (Nd.l n))
 |h+1,F,v,n=>∃b g c,∃ds:List (List Nat×Value×Nd h),F=b::g::ds.flatMap (fun d=>d.1)∧v= .iface 297 (.pointer (some ⟨b,0,none⟩))∧Whole w b 300 #[.int .i64 (Nd.at_ n),.slice (some ⟨g,0,none⟩) (Nd.ks n).length c]∧Nd.ks n=ds.map (fun d=>d.2.2)∧Row w g c 1 226 (ds.map fun d=>d.2.1)∧∀d∈ds,NdAt w d.1 d.2.1 d.2.2
theorem NdAt.keep {G:Nat→Prop} {w w':World} (hk:Keep G w w'):∀{h:Nat} {F:List Nat} {v:Value} {n:Nd h},NdAt w F v n→(∀k∈F,¬G k)→NdAt w' F v n
 |0,F,v,n,⟨b,g,c,h1,h2,h3,h4⟩,hF=>by
  subst h1
  exact ⟨b,g,c,rfl,h2,h3.keep hk (hF b (by simp)),h4.keep hk (hF g (by simp))⟩
 |h+1,F,v,n,⟨b,g,c,ds,h1,h2,h3,h4,h5,h6⟩,hF=>by
  subst h1
  exact ⟨b,g,c,ds,rfl,h2,h3.keep hk (hF b (by simp)),h4,h5.keep hk (hF g (by simp)),fun d hd=>NdAt.keep hk (h6 d hd) (fun k hm=>hF k (by
   simp only [List.mem_cons,List.mem_flatMap]
   exact .inr (.inr ⟨d,hd,hm⟩)))⟩
theorem NdAt.lt {w:World}:∀{h:Nat} {F:List Nat} {v:Value} {n:Nd h},NdAt w F v n→∀k∈F,k < w.heap.size
 |0,F,v,n,⟨b,g,c,h1,h2,h3,h4⟩,k,hk=>by
  subst h1
  simp only [List.mem_cons,List.not_mem_nil,or_false] at hk
  rcases hk with rfl|rfl
  ·exact h3.lt
  ·exact h4.lt
 |h+1,F,v,n,⟨b,g,c,ds,h1,h2,h3,h4,h5,h6⟩,k,hk=>by
  subst h1
  simp only [List.mem_cons,List.mem_flatMap] at hk
  rcases hk with rfl|rfl|⟨d,hd,hm⟩
  ·exact h3.lt
  ·exact h5.lt
  ·exact NdAt.lt (h6 d hd) k hm
structure Qc9 (w:World) {h:Nat} (F:List Nat) (v:Value) (n:Nd h):Prop where
 at_:NdAt w F v n
 nd:F.Nodup
def ndT:Nat→TypeId
 |0=>348
 |_+1=>297
def fiF:Nat→FuncId
 |0=>387
 |_+1=>373
def whF:Nat→FuncId
 |0=>389
 |_+1=>375
theorem Qy1 (v : Value) (w : World) : ∀ h, (Go.method 567 (ndT h) v "scoria/tree.first").run Tryz.prog w = .ok (fiF h, v) w
 |0=>by kernel_rfl
 |h+1=>by kernel_rfl
theorem Qcy (v : Value) (w : World) : ∀ h, (Go.method 567 (ndT h) v "scoria/tree.where").run Tryz.prog w = .ok (whF h, v) w
 |0=>by kernel_rfl
 |h+1=>by kernel_rfl
theorem Qus (args:Array Value) (w:World):∀h,(callFunc (fiF h) args).run Tryz.prog w= .ok (.enter (fiF h) args) w
 |0=>by kernel_rfl
 |h+1=>by kernel_rfl
theorem Qcm (args:Array Value) (w:World):∀h,(callFunc (whF h) args).run Tryz.prog w= .ok (.enter (whF h) args) w
 |0=>by kernel_rfl
 |h+1=>by kernel_rfl
theorem NdAt.form {w:World}:∀{h:Nat} {F:List Nat} {v:Value} {n:Nd h},NdAt w F v n→∃b F',F=b::F'∧v= .iface (ndT h) (.pointer (some ⟨b,0,none⟩))
 |0,F,v,n,⟨b,g,c,h1,h2,h3,h4⟩=>⟨b,_,h1,h2⟩
 |h+1,F,v,n,⟨b,g,c,ds,h1,h2,h3,h4,h5,h6⟩=>⟨b,_,h1,h2⟩
theorem J6 {T T':TypeId} {b b':Nat} (h:Value.iface T (.pointer (some ⟨b,0,none⟩))= .iface T' (.pointer (some ⟨b',0,none⟩))):b=b':=by
 injection h with _ h
 injection h with h
 injection h with h
 injection h
theorem D6 (w:World) (b:Nat):∀(h:Nat),Calls Tryz.prog (whF h) #[.pointer (some ⟨b,0,none⟩)] w fun e w'=>e= .returned (.pointer (some ⟨b,0,none⟩))∧w=w'
 |0=>by
  show Calls Tryz.prog 389 _ w _
  go_enter Tryz.func389,Tryz.ntmps389
  go_wp2_with fail
  go_ret
  exact ⟨rfl,rfl⟩
 |h+1=>by
  show Calls Tryz.prog 375 _ w _
  go_enter Tryz.func375,Tryz.ntmps375
  go_wp2_with fail
  go_ret
  exact ⟨rfl,rfl⟩
set_option maxHeartbeats 4000000 in
theorem Uu (w:World):∀(h:Nat) (b:Nat) (F:List Nat) (n:Nd h),NdAt w F (.iface (ndT h) (.pointer (some ⟨b,0,none⟩))) n→Kw n→1≤n.size→
  Calls Tryz.prog (fiF h) #[.pointer (some ⟨b,0,none⟩)] w fun e w'=>e= .returned (.int .i64 (Qb n))∧w=w'
 |0,b,F,n,⟨b',g,c,h1,h2,h3,h4⟩,hk,hs=>by
  obtain rfl:=J6 h2
  clear h2
  have hs':1≤(Nd.l n).length:=hs
  have HR:Hid (Qb n=match n.l with|[]=>0|e::_=>e.fr):=by show _=_;unfold Qb;rfl
  obtain ⟨e,r,hl⟩:∃e r,Nd.l n=e::r:=by
   cases hl:Nd.l n with
   |nil=>rw [hl] at hs';simp at hs'
   |cons e r=>exact ⟨e,r,rfl⟩
  rw [HR.out,hl]
  rw [hl] at h3 h4
  have c1:=h3.cell 1
  simp at c1
  have d0:=h4.cell (Kb (e::r) 0 e rfl).1
  simp at d0
  have hp:(0:Int) < ((r.length:Int)+1):=by omega
  have hp':0 < r.length+1:=by omega
  clear h1 h4 h3 hl hs' hs hk HR
  obtain ⟨m,hm⟩:∃m,r.length=m:=⟨_,rfl⟩
  rw [hm] at c1 hp hp'
  clear hm
  show Calls Tryz.prog 387 _ w _
  go_enter Tryz.func387,Tryz.ntmps387
  go_wp2_with fail
  go_ret
  exact ⟨rfl,rfl⟩
 |h+1,b,F,n,⟨b',g,c,ds,h1,h2,h3,h4,h5,h6⟩,hk,hs=>by
  obtain rfl:=J6 h2
  clear h2
  have hs':1≤(Nd.ks n).length:=hs
  cases ds with
  |nil=>rw [h4] at hs';simp at hs'
  |cons d ds=>
   have hd:=h6 d (by simp)
   have hkw:=hk.mem (show d.2.2∈n.ks by rw [h4];simp)
   obtain ⟨kb,kF,hk1,hk2⟩:=hd.form
   have hr:Qb n=Qb d.2.2:=by show (match n.ks with|[]=>(0:Int)|k::_=>Qb k)=_;rw [h4];rfl
   rw [hr]
   rw [h4] at h3
   have c1:=h3.cell 1
   simp at c1
   have d0:=h5.cell (j:=0) (v:=d.2.1) rfl
   rw [hk2] at hd d0
   have HC:=Ql4 (Uu w h kb d.1 d.2.2 hd hkw.2 (by have:=hkw.1.1;omega))
   have hme:=Qy1 (.pointer (some ⟨kb,0,none⟩)) w h
   have hen:=Qus #[.pointer (some ⟨kb,0,none⟩)] w h
   obtain ⟨x,hx⟩:∃x,Qb d.2.2=x:=⟨_,rfl⟩
   rw [hx] at HC ⊢
   have hp:(0:Int) < ((ds.length:Int)+1):=by omega
   have hp':0 < ds.length+1:=by omega
   obtain ⟨m,hm⟩:∃m,ds.length=m:=⟨_,rfl⟩
   rw [hm] at c1 hp hp'
   clear hm h1 h3 h4 h5 h6 hs' hs hk hd hkw hk1 hk2 hr hx
   show Calls Tryz.prog 373 _ w _
   go_enter Tryz.func373,Tryz.ntmps373
   go_wp2_with fail
   refine HC.out.mono ?_
   rintro e w' ⟨rfl,rfl⟩
   go_wp2_with fail
   go_ret
   exact ⟨rfl,rfl⟩
theorem Qge {h:Nat} (ks:List (Nd h)) (s:Int) (j:Nat) (k:Nd h) (hk:ks[j+1]? =some k):Ub ks s (j+1)=if Qb k≤s then j+1 else Ub ks s j:=by
 rw [Ub]
 simp [List.getD,hk]
set_option maxHeartbeats 4000000 in
set_option maxRecDepth 100000 in
theorem Qxp (w:World) (h b:Nat) (F:List Nat) (n:Nd (h+1)) (s:Int) (hn:NdAt w F (.iface (ndT (h+1)) (.pointer (some ⟨b,0,none⟩))) n) (hk:Kw n) (h1:1≤n.ks.length) (hl:n.ks.length≤100):
  Calls Tryz.prog 299 #[.pointer (some ⟨b,0,none⟩),.int .i64 s] w fun e w'=>e= .returned (.int .i64 (under n.ks s))∧w=w':=by
 obtain ⟨b',g,c,ds,e1,e2,e3,e4,e5,e6⟩:=hn
 obtain rfl:=J6 e2
 obtain ⟨m,hm⟩:∃m,n.ks.length=m+1:=⟨n.ks.length - 1,by omega⟩
 have HD:Hid (∀j,j < m+1→∃(k:Nd h) (kb:Nat) (kF:List Nat),n.ks[j]? =some k∧w.cell? ⟨g,j,none⟩=some (.iface (ndT h) (.pointer (some ⟨kb,0,none⟩)))∧NdAt w kF (.iface (ndT h) (.pointer (some ⟨kb,0,none⟩))) k∧Kw k∧1≤k.size):=by
  intro j hj
  have hj2:j < ds.length:=by rw [←hm,e4] at hj;simpa using hj
  have hd:=List.getElem?_eq_getElem hj2
  have hat:=e6 _ (List.getElem_mem hj2)
  obtain ⟨kb,kF,f1,f2⟩:=hat.form
  have hw:Wf ds[j].2.2:=hk.mem (by rw [e4];exact List.mem_map.2 ⟨_,List.getElem_mem hj2,rfl⟩)
  refine ⟨ds[j].2.2,kb,ds[j].1,by rw [e4];simp [hj2],?_,by rw [f2] at hat;exact hat,hw.2,by have:=hw.1.1;omega⟩
  exact e5.cell (by simp [hj2,f2])
 have HU:Hid (under n.ks s=Ub n.ks s m):=by show _=_;unfold under;rw [hm];rfl
 rw [hm] at hl
 rw [hm] at e3
 have c1:=e3.cell 1
 simp at c1
 obtain ⟨u,hu⟩:∃u,under n.ks s=u:=⟨_,rfl⟩
 rw [hu] at HU ⊢
 have hm0:(1:Int)≤(m:Int)+1:=by omega
 clear e1 e2 e3 e4 e5 e6 hm hu hk h1
 go_enter Tryz.func299,Tryz.ntmps299
 go_wp2_with fail
 go_loop [5] (fun i=>∃j:Nat,j≤m∧i= .int .i64 j∧Hid (u=Ub n.ks s j)) (fun i=>(intOf i).toNat)
 case atStart=>exact ⟨m,Nat.le_refl _,by go_num,HU⟩
 case round=>
  obtain ⟨j,hj,rfl,HJ⟩:=hrel
  rcases Nat.eq_zero_or_pos j with rfl|hp
  ·have HZ:Hid (u=0):=by show _=_;rw [HJ.out];rfl
   simp only [Int.natCast_zero]
   go_wp2_with fail
   go_ret
   exact ⟨by rw [HZ.out];rfl,rfl⟩
  ·obtain ⟨j,rfl⟩:∃j',j=j'+1:=⟨j - 1,by omega⟩
   obtain ⟨k,kb,kF,q1,q2,q3,q4,q5⟩:=HD.out (j+1) (by omega)
   have HS:=Ql4 (Qge n.ks s j k q1)
   have HC:=Ql4 (Uu w h kb kF k q3 q4 q5)
   have hme:=Qy1 (.pointer (some ⟨kb,0,none⟩)) w h
   have hen:=Qus #[.pointer (some ⟨kb,0,none⟩)] w h
   obtain ⟨x,hx⟩:∃x,Qb k=x:=⟨_,rfl⟩
   rw [hx] at HC HS
   have hp1:(0:Int) < (j:Int)+1:=by omega
   have hp2:(j:Int)+1 < (m:Int)+1:=by omega
   have hp3:(0:Int)≤(j:Int)+1:=by omega
   clear q1 q3 q4 q5 hx hp
   by_cases hs:s < x
   ·have HJ2:Hid (u=Ub n.ks s j):=by show _=_;rw [HJ.out,HS.out,if_neg (by omega)]
    go_wp2_with fail
    refine HC.out.mono ?_
    rintro e w' ⟨rfl,rfl⟩
    go_wp2_with fail
    go_round
    case rel=>exact ⟨j,by omega,rfl,HJ2⟩
    case measure=>simp [intOf]
   ·have HZ:Hid (u=j+1):=by show _=_;rw [HJ.out,HS.out,if_pos (by omega)]
    go_wp2_with fail
    refine HC.out.mono ?_
    rintro e w' ⟨rfl,rfl⟩
    go_wp2_with fail
    go_ret
    exact ⟨by rw [HZ.out];first|rfl|go_num,rfl⟩
theorem Qi2 (d:Nat) (f n k t f' n' k' t':Int) (w:World):(Op.equalIn (d+2) 255 (.agg #[.int .i64 f,.int .i64 n,.int .i64 k,.int .i64 t]) (.agg #[.int .i64 f',.int .i64 n',.int .i64 k',.int .i64 t'])).run Tryz.prog w= .ok (f == f' && (n == n' && (k == k' && t == t'))) w:=by
 rw [run_equalIn_agg w (d+1) 255 _ _ (by kernel_rfl) (by kernel_rfl)]
 simp only [Program.fieldsOf,Tryz.underlying255]
 go_simp
 by_cases h1:f=f' <;> by_cases h2:n=n' <;> by_cases h3:k=k' <;> by_cases h4:t=t' <;> simp [h1,h2,h3,h4]
theorem Qe7 (f n k t f' n' k' t':Int):(f == f' && (n == n' && (k == k' && t == t')))=decide ((⟨f,n,k,t⟩:Ext)=⟨f',n',k',t'⟩):=by
 by_cases h1:f=f' <;> by_cases h2:n=n' <;> by_cases h3:k=k' <;> by_cases h4:t=t' <;> simp [h1,h2,h3,h4]
theorem Qkg (f n k t f' n' k' t':Int) (w:World):(binOp .eql 255 (.agg #[.int .i64 f,.int .i64 n,.int .i64 k,.int .i64 t]) (.agg #[.int .i64 f',.int .i64 n',.int .i64 k',.int .i64 t'])).run Tryz.prog w= .ok (.bool (decide ((⟨f,n,k,t⟩:Ext)=⟨f',n',k',t'⟩))) w:=by
 have h:=Qi2 9998 f n k t f' n' k' t' w
 rw [Qe7] at h
 simp [binOp,Op.equal,Op.maxDepth,h]
theorem Je {w:World} {g:Nat} {t:TypeId} {a b c d:Value} (h:Whole w g t #[a,b,c,d]):
  (w.cell? ⟨g,0,none⟩=some a∧w.cell? ⟨g,1,none⟩=some b∧w.cell? ⟨g,2,none⟩=some c∧w.cell? ⟨g,3,none⟩=some d)∧
  w.frozen? ⟨g,0,none⟩=false∧w.frozen? ⟨g,1,none⟩=false∧w.frozen? ⟨g,2,none⟩=false∧w.frozen? ⟨g,3,none⟩=false:=
 ⟨⟨h.cell 0,h.cell 1,h.cell 2,h.cell 3⟩,h.fz 0,h.fz 1,h.fz 2,h.fz 3⟩
theorem Ot {w:World} {g:Nat} {t:TypeId} {cs:Array Value} (h:Whole w g t cs):Whole w.drew g t cs:=h
theorem Bv (a b:Ext):tog a b=(decide (a.end_=b.fr) && (decide (a.kind=b.kind) && decide ((if a.kind=2 then a.at_+a.n else 0)=b.at_))):=by
 have h:tog a b=true↔(decide (a.end_=b.fr) && (decide (a.kind=b.kind) && decide ((if a.kind=2 then a.at_+a.n else 0)=b.at_)))=true:=by
  rw [Ow]
  simp only [Bool.and_eq_true,decide_eq_true_eq]
  constructor
  ·rintro ⟨h1,h2,h3⟩;exact ⟨h1.symm,h2.symm,h3.symm⟩
  ·rintro ⟨h1,h2,h3⟩;exact ⟨h1.symm,h2.symm,h3.symm⟩
 exact Bool.eq_iff_iff.mpr h
theorem Qil:Tryz.prog.eqGuardType Tryz.prog.depth 255=false:=by kernel_rfl
set_option maxHeartbeats 4000000 in
set_option maxRecDepth 100000 in
theorem Qk6 (a b:Ext) (w:World) (h:Qf a=true):Calls Tryz.prog 249 #[a.val,b.val] w fun x w'=>x= .returned (.bool (tog a b))∧Below w.heap.size w w':=by
 obtain ⟨k1,k2,k3,k4⟩:=Qy h
 obtain ⟨f,n,k,t⟩:=a
 obtain ⟨f',n',k',t'⟩:=b
 simp only at k1 k2 k3 k4
 have HE:=Ql4 (fun wq=>Cx ⟨f,n,k,t⟩ wq h)
 have hw:k=2→wrap64 (t+n)=t+n:=by intro hk;unfold wrap64;omega
 show Calls Tryz.prog 249 #[.agg #[.int .i64 f,.int .i64 n,.int .i64 k,.int .i64 t],.agg #[.int .i64 f',.int .i64 n',.int .i64 k',.int .i64 t']] w _
 have hgt:=Qil
 have heq:=Qkg
 have HB1:=Ql4 (((Below.refl w.heap.size w).alloc (Nat.le_refl _) (.cells #[.int .i64 f,.int .i64 n,.int .i64 k,.int .i64 t] 255)).alloc (by simp) (.cells #[.int .i64 f',.int .i64 n',.int .i64 k',.int .i64 t'] 255))
 have hx0:=Whole.alloc (Whole.new w 255 #[.int .i64 f,.int .i64 n,.int .i64 k,.int .i64 t]) (.cells #[.int .i64 f',.int .i64 n',.int .i64 k',.int .i64 t'] 255)
 have hy0:=Whole.new (w.alloc (.cells #[.int .i64 f,.int .i64 n,.int .i64 k,.int .i64 t] 255)) 255 #[.int .i64 f',.int .i64 n',.int .i64 k',.int .i64 t']
 obtain ⟨w2,hw2⟩:∃w2,(w.alloc (.cells #[.int .i64 f,.int .i64 n,.int .i64 k,.int .i64 t] 255)).alloc (.cells #[.int .i64 f',.int .i64 n',.int .i64 k',.int .i64 t'] 255)=w2:=⟨_,rfl⟩
 have hsz:w2.heap.size=w.heap.size+2:=by rw [←hw2];simp
 rw [hw2] at HB1 hx0 hy0
 rw [World.size_alloc] at hy0
 have HK:Hid (∀w',Below w2.heap.size w2 w'→(w'.cell? ⟨w.heap.size,0,none⟩=some (.int .i64 f)∧w'.cell? ⟨w.heap.size,1,none⟩=some (.int .i64 n)∧w'.cell? ⟨w.heap.size,2,none⟩=some (.int .i64 k)∧w'.cell? ⟨w.heap.size,3,none⟩=some (.int .i64 t))∧(w'.cell? ⟨w.heap.size+1,0,none⟩=some (.int .i64 f')∧w'.cell? ⟨w.heap.size+1,1,none⟩=some (.int .i64 n')∧w'.cell? ⟨w.heap.size+1,2,none⟩=some (.int .i64 k')∧w'.cell? ⟨w.heap.size+1,3,none⟩=some (.int .i64 t'))):=fun w' hb=>⟨⟨Qq hb (hx0.cell 0),Qq hb (hx0.cell 1),Qq hb (hx0.cell 2),Qq hb (hx0.cell 3)⟩,⟨Qq hb (hy0.cell 0),Qq hb (hy0.cell 1),Qq hb (hy0.cell 2),Qq hb (hy0.cell 3)⟩⟩
 have SA:=Ql4 (HK.out _ (Below.refl _ _))
 have HW:=Ql4 hw
 clear h k1 k2 k3 k4 hw hx0 hy0
 go_enter Tryz.func249,Tryz.ntmps249
 go_wp2_with fail
 go_region_held3 (fun w'=>(w'.cell? ⟨w.heap.size,0,none⟩=some (.int .i64 f)∧w'.cell? ⟨w.heap.size,1,none⟩=some (.int .i64 n)∧w'.cell? ⟨w.heap.size,2,none⟩=some (.int .i64 k)∧w'.cell? ⟨w.heap.size,3,none⟩=some (.int .i64 t))∧(w'.cell? ⟨w.heap.size+1,0,none⟩=some (.int .i64 f')∧w'.cell? ⟨w.heap.size+1,1,none⟩=some (.int .i64 n')∧w'.cell? ⟨w.heap.size+1,2,none⟩=some (.int .i64 k')∧w'.cell? ⟨w.heap.size+1,3,none⟩=some (.int .i64 t'))) (first|with_reducible exact SA.out|exact HK.out _ (by repeat (first|with_reducible exact HB5.out|with_reducible exact Below.refl _ _|refine Below.drew ?_|refine Below.setCell ?_ (by first|omega|(simp <;> omega)) _|refine Below.alloc ?_ (by first|omega|(simp <;> omega)) _))) ((go_at_call 248;refine (HE.out _).mono ?_;rintro e w5 ⟨rfl,hb5⟩;have HB5:Hid (Below w2.heap.size w2 w5):=Below.trans (by repeat (first|exact Below.refl _ _|refine Below.drew ?_|refine Below.alloc ?_ (by first|omega|(simp <;> omega)) _)) (hb5.mono (by first|exact Nat.le_refl _|(simp <;> omega)));have hs5:=HB5.out.size;have HB5x:=Ql4 hb5;(try (obtain ⟨⟨z0,z1,z2,z3⟩,z4,z5,z6,z7⟩:=Je (Whole.below (Ot (Whole.new' w2 255 #[.int .i64 0,.int .i64 0,.int .i64 0,.int .i64 0] (w.heap.size+2) hsz)) hb5 (by simp <;> omega))));clear hb5))
 ·have hX:=Whole.new w5 255 #[.int .i64 (Ext.end_ ⟨f,n,k,t⟩),.int .i64 n',.int .i64 k,.int .i64 0]
  have hBX:Hid (Below w2.heap.size w2 (w5.alloc (.cells #[.int .i64 (Ext.end_ ⟨f,n,k,t⟩),.int .i64 n',.int .i64 k,.int .i64 0] 255))):=HB5.out.alloc hs5 _
  have hgx:w.heap.size+2≤w5.heap.size:=by omega
  obtain ⟨gx,hgx'⟩:∃gx,w5.heap.size=gx:=⟨_,rfl⟩
  obtain ⟨wX,hwX⟩:∃wX,w5.alloc (.cells #[.int .i64 (Ext.end_ ⟨f,n,k,t⟩),.int .i64 n',.int .i64 k,.int .i64 0] 255)=wX:=⟨_,rfl⟩
  simp only [hwX,hgx'] at hX hBX hgx ⊢
  clear hwX hgx' hs5
  obtain ⟨⟨p0,p1,p2,p3⟩,⟨q0,q1,q2,q3⟩⟩:=HK.out _ hBX.out
  obtain ⟨⟨x0,x1,x2,x3⟩,y0,y1,y2,y3⟩:=Je hX
  have HTB:Hid (Below w.heap.size w wX):=HB1.out.trans (hBX.out.mono HB1.out.size)
  by_cases hk:k=2
  ·subst hk
   have hw:=HW.out rfl
   have HT:Hid (tog ⟨f,n,2,t⟩ ⟨f',n',k',t'⟩=(decide (Ext.end_ ⟨f,n,2,t⟩=f') && (decide (2=k') && decide (t+n=t')))):=by show _=_;rw [Bv,if_pos rfl]
   go_wp2_with fail
   go_ret
   exact ⟨by rw [HT.out];rfl,HTB.out.setCell (p:=⟨gx,3,none⟩) (by show w.heap.size≤gx;omega) _⟩
  ·have hk':(k == 2)=false:=by simpa using hk
   have HT:Hid (tog ⟨f,n,k,t⟩ ⟨f',n',k',t'⟩=(decide (Ext.end_ ⟨f,n,k,t⟩=f') && (decide (k=k') && decide (0=t')))):=by show _=_;rw [Bv,if_neg hk]
   go_wp2_with fail
   go_ret
   exact ⟨by rw [HT.out];rfl,HTB.out⟩
 ·have hX:=Whole.set4 (Whole.below (Ot (Whole.new' w2 255 #[.int .i64 0,.int .i64 0,.int .i64 0,.int .i64 0] (w.heap.size+2) hsz)) HB5x.out (by simp <;> omega)) (.int .i64 (Ext.end_ ⟨f,n,k,t⟩)) (.int .i64 n') (.int .i64 k) (.int .i64 0)
  have hBX:Hid (Below w2.heap.size w2 ((((w5.setCell ⟨w.heap.size+2,0,none⟩ (.int .i64 (Ext.end_ ⟨f,n,k,t⟩))).setCell ⟨w.heap.size+2,1,none⟩ (.int .i64 n')).setCell ⟨w.heap.size+2,2,none⟩ (.int .i64 k)).setCell ⟨w.heap.size+2,3,none⟩ (.int .i64 0))):=(((HB5.out.setCell (p:=⟨w.heap.size+2,0,none⟩) (by show w2.heap.size≤w.heap.size+2;omega) _).setCell (p:=⟨w.heap.size+2,1,none⟩) (by show w2.heap.size≤w.heap.size+2;omega) _).setCell (p:=⟨w.heap.size+2,2,none⟩) (by show w2.heap.size≤w.heap.size+2;omega) _).setCell (p:=⟨w.heap.size+2,3,none⟩) (by show w2.heap.size≤w.heap.size+2;omega) _
  have hgx:w.heap.size+2≤w.heap.size+2:=Nat.le_refl _
  obtain ⟨gx,hgx'⟩:∃gx,w.heap.size+2=gx:=⟨_,rfl⟩
  obtain ⟨wX,hwX⟩:∃wX,(((w5.setCell ⟨w.heap.size+2,0,none⟩ (.int .i64 (Ext.end_ ⟨f,n,k,t⟩))).setCell ⟨w.heap.size+2,1,none⟩ (.int .i64 n')).setCell ⟨w.heap.size+2,2,none⟩ (.int .i64 k)).setCell ⟨w.heap.size+2,3,none⟩ (.int .i64 0)=wX:=⟨_,rfl⟩
  simp only [hwX] at hX hBX ⊢
  simp only [hgx'] at hX ⊢
  have hgx:w.heap.size+2≤gx:=by omega
  clear hwX hgx' hs5 z0 z1 z2 z3 z4 z5 z6 z7
  obtain ⟨⟨p0,p1,p2,p3⟩,⟨q0,q1,q2,q3⟩⟩:=HK.out _ hBX.out
  obtain ⟨⟨x0,x1,x2,x3⟩,y0,y1,y2,y3⟩:=Je hX
  have HTB:Hid (Below w.heap.size w wX):=HB1.out.trans (hBX.out.mono HB1.out.size)
  by_cases hk:k=2
  ·subst hk
   have hw:=HW.out rfl
   have HT:Hid (tog ⟨f,n,2,t⟩ ⟨f',n',k',t'⟩=(decide (Ext.end_ ⟨f,n,2,t⟩=f') && (decide (2=k') && decide (t+n=t')))):=by show _=_;rw [Bv,if_pos rfl]
   go_wp2_with fail
   go_ret
   exact ⟨by rw [HT.out];rfl,HTB.out.setCell (p:=⟨gx,3,none⟩) (by show w.heap.size≤gx;omega) _⟩
  ·have hk':(k == 2)=false:=by simpa using hk
   have HT:Hid (tog ⟨f,n,k,t⟩ ⟨f',n',k',t'⟩=(decide (Ext.end_ ⟨f,n,k,t⟩=f') && (decide (k=k') && decide (0=t')))):=by show _=_;rw [Bv,if_neg hk]
   go_wp2_with fail
   go_ret
   exact ⟨by rw [HT.out];rfl,HTB.out⟩
set_option maxHeartbeats 4000000 in
set_option maxRecDepth 100000 in
theorem Qon (e:Ext) (a b:Int) (w:World) (h:Qf e=true) (ha:0≤a) (ha2:a≤16777216) (hb:0≤b) (hb2:b≤16777216):Calls Tryz.prog 302 #[e.val,.int .i64 a,.int .i64 b] w fun x w'=>x= .returned (match partOf e a b with|some y=>.tuple #[y.val,.bool true]|none=>.tuple #[.agg #[.int .i64 0,.int .i64 0,.int .i64 0,.int .i64 0],.bool false])∧Below w.heap.size w w':=by
 obtain ⟨k1,k2,k3,k4⟩:=Qy h
 obtain ⟨f,n,k,t⟩:=e
 simp only at k1 k2 k3 k4
 have HE:=Ql4 (fun wq=>Cx ⟨f,n,k,t⟩ wq h)
 show Calls Tryz.prog 302 #[.agg #[.int .i64 f,.int .i64 n,.int .i64 k,.int .i64 t],.int .i64 a,.int .i64 b] w _
 have HB1:=Ql4 (((Below.refl w.heap.size w).alloc (Nat.le_refl _) (.cells #[.int .i64 f,.int .i64 n,.int .i64 k,.int .i64 t] 255)).alloc (by simp) (.cells #[.int .i64 0,.int .i64 0,.int .i64 0,.int .i64 0] 255))
 have hx0:=Whole.alloc (Whole.new w 255 #[.int .i64 f,.int .i64 n,.int .i64 k,.int .i64 t]) (.cells #[.int .i64 0,.int .i64 0,.int .i64 0,.int .i64 0] 255)
 have hy0:=Whole.new (w.alloc (.cells #[.int .i64 f,.int .i64 n,.int .i64 k,.int .i64 t] 255)) 255 #[.int .i64 0,.int .i64 0,.int .i64 0,.int .i64 0]
 obtain ⟨w2,hw2⟩:∃w2,(w.alloc (.cells #[.int .i64 f,.int .i64 n,.int .i64 k,.int .i64 t] 255)).alloc (.cells #[.int .i64 0,.int .i64 0,.int .i64 0,.int .i64 0] 255)=w2:=⟨_,rfl⟩
 have hsz:w2.heap.size=w.heap.size+2:=by rw [←hw2];simp
 rw [hw2] at HB1 hx0 hy0
 rw [World.size_alloc] at hy0
 have HK:Hid (∀w',Below w2.heap.size w2 w'→(w'.cell? ⟨w.heap.size,0,none⟩=some (.int .i64 f)∧w'.cell? ⟨w.heap.size,1,none⟩=some (.int .i64 n)∧w'.cell? ⟨w.heap.size,2,none⟩=some (.int .i64 k)∧w'.cell? ⟨w.heap.size,3,none⟩=some (.int .i64 t))):=fun w' hb=>⟨Qq hb (hx0.cell 0),Qq hb (hx0.cell 1),Qq hb (hx0.cell 2),Qq hb (hx0.cell 3)⟩
 have SA:=Ql4 (HK.out _ (Below.refl _ _))
 have HY:=Ql4 hy0
 obtain ⟨en,hen⟩:∃en,Ext.end_ ⟨f,n,k,t⟩=en:=⟨_,rfl⟩
 have hen2:f+n=en:=hen
 simp only [hen] at HE
 have HP:Hid (partOf ⟨f,n,k,t⟩ a b=if min en b≤max f a then none else some ⟨max f a,min en b - max f a,k,if k=2 then t+max f a - f else 0⟩):=by show _=_;unfold partOf;rw [hen]
 have K4:=Ql4 k4
 clear h k4 hx0 hy0 hen
 by_cases h1:f < a
 ·by_cases h2:b < en
  ·skip
   by_cases h3:b≤a
   ·have HPN:Hid (partOf ⟨f,n,k,t⟩ a b=none):=by show _=_;rw [HP.out,if_pos (by omega)]
    rw [HPN.out]
    go_enter Tryz.func302,Tryz.ntmps302
    go_wp2_with fail
    go_region_held3 (fun w'=>w'.cell? ⟨w.heap.size,0,none⟩=some (.int .i64 f)∧w'.cell? ⟨w.heap.size,1,none⟩=some (.int .i64 n)∧w'.cell? ⟨w.heap.size,2,none⟩=some (.int .i64 k)∧w'.cell? ⟨w.heap.size,3,none⟩=some (.int .i64 t)) (first|with_reducible exact SA.out|exact HK.out _ (by repeat (first|with_reducible exact HB5.out|with_reducible exact Below.refl _ _|refine Below.drew ?_|refine Below.setCell ?_ (by first|omega|(simp <;> omega)) _|refine Below.alloc ?_ (by first|omega|(simp <;> omega)) _))) ((go_at_call 248;refine (HE.out _).mono ?_;rintro e w5 ⟨rfl,hb5⟩;have HB5:Hid (Below w2.heap.size w2 w5):=Below.trans (by repeat (first|exact Below.refl _ _|refine Below.drew ?_|refine Below.alloc ?_ (by first|omega|(simp <;> omega)) _)) (hb5.mono (by first|exact Nat.le_refl _|(simp <;> omega)));have hs5:=HB5.out.size;clear hb5))
    all_goals (obtain ⟨p0,p1,p2,p3⟩:=HK.out _ HB5.out)
    all_goals (obtain ⟨⟨z0,z1,z2,z3⟩,z4,z5,z6,z7⟩:=Je (HY.out.below HB5.out HY.out.lt))
    all_goals go_wp2_with fail
    all_goals (obtain ⟨⟨r0,r1,r2,r3⟩,_⟩:=Je (Whole.set4 (HY.out.below HB5.out HY.out.lt) (.int .i64 0) (.int .i64 0) (.int .i64 0) (.int .i64 0));refine bodyPost_ret (v:= .tuple #[.agg #[.int .i64 0,.int .i64 0,.int .i64 0,.int .i64 0],.bool false]) (by simp [results,Tryz.results302,go_sem,r0,r1,r2,r3]) rfl ⟨rfl,?_⟩)
    all_goals (have HBW:Hid (Below w.heap.size w w5):=HB1.out.trans (HB5.out.mono HB1.out.size);have hsw:=HBW.out.size;repeat (first|with_reducible exact HBW.out|refine Below.drew ?_|refine Below.setCell ?_ (by first|omega|(simp <;> omega)) _|refine Below.alloc ?_ (by first|omega|(simp <;> omega)) _))
   ·by_cases hk:k=2
    ·have hk2:(k == 2)=true:=by simpa using hk
     have hv1:wrap64 (b - a)=b - a:=by unfold wrap64;omega
     have hv2:wrap64 (t+a)=t+a:=by have:=K4.out;unfold wrap64;omega
     have hv3:wrap64 (t+a - f)=t+a - f:=by have:=K4.out;unfold wrap64;omega
     have HPS:Hid (partOf ⟨f,n,k,t⟩ a b=some ⟨a,b - a,k,t+a - f⟩):=by show _=_;rw [HP.out,if_neg (by omega),if_pos hk,show max f a=a by omega,show min en b=b by omega]
     rw [HPS.out]
     clear hk
     go_enter Tryz.func302,Tryz.ntmps302
     go_wp2_with fail
     go_region_held3 (fun w'=>w'.cell? ⟨w.heap.size,0,none⟩=some (.int .i64 f)∧w'.cell? ⟨w.heap.size,1,none⟩=some (.int .i64 n)∧w'.cell? ⟨w.heap.size,2,none⟩=some (.int .i64 k)∧w'.cell? ⟨w.heap.size,3,none⟩=some (.int .i64 t)) (first|with_reducible exact SA.out|exact HK.out _ (by repeat (first|with_reducible exact HB5.out|with_reducible exact Below.refl _ _|refine Below.drew ?_|refine Below.setCell ?_ (by first|omega|(simp <;> omega)) _|refine Below.alloc ?_ (by first|omega|(simp <;> omega)) _))) ((go_at_call 248;refine (HE.out _).mono ?_;rintro e w5 ⟨rfl,hb5⟩;have HB5:Hid (Below w2.heap.size w2 w5):=Below.trans (by repeat (first|exact Below.refl _ _|refine Below.drew ?_|refine Below.alloc ?_ (by first|omega|(simp <;> omega)) _)) (hb5.mono (by first|exact Nat.le_refl _|(simp <;> omega)));have hs5:=HB5.out.size;clear hb5))
     all_goals (obtain ⟨p0,p1,p2,p3⟩:=HK.out _ HB5.out)
     all_goals (obtain ⟨⟨z0,z1,z2,z3⟩,z4,z5,z6,z7⟩:=Je (HY.out.below HB5.out HY.out.lt))
     all_goals (have u0:=fun o=>(HK.out (w5.alloc o) (HB5.out.alloc hs5 o)).1;have u1:=fun o=>(HK.out (w5.alloc o) (HB5.out.alloc hs5 o)).2.1;have u2:=fun o=>(HK.out (w5.alloc o) (HB5.out.alloc hs5 o)).2.2.1;have u3:=fun o=>(HK.out (w5.alloc o) (HB5.out.alloc hs5 o)).2.2.2;have y0:=fun o=>((HY.out.below HB5.out HY.out.lt).alloc o).cell 0;have y1:=fun o=>((HY.out.below HB5.out HY.out.lt).alloc o).cell 1;have y2:=fun o=>((HY.out.below HB5.out HY.out.lt).alloc o).cell 2;have y3:=fun o=>((HY.out.below HB5.out HY.out.lt).alloc o).cell 3;have x0:=fun o=>((HY.out.below HB5.out HY.out.lt).alloc o).fz 0;have x1:=fun o=>((HY.out.below HB5.out HY.out.lt).alloc o).fz 1;have x2:=fun o=>((HY.out.below HB5.out HY.out.lt).alloc o).fz 2;have x3:=fun o=>((HY.out.below HB5.out HY.out.lt).alloc o).fz 3)
     all_goals go_wp2_with fail
     all_goals (obtain ⟨⟨r0,r1,r2,r3⟩,_⟩:=Je (Whole.set4 ((HY.out.below HB5.out HY.out.lt).alloc (.cells #[.int .i64 a,.int .i64 (b - a),.int .i64 k,.int .i64 (t+a - f)] 255)) (.int .i64 a) (.int .i64 (b - a)) (.int .i64 k) (.int .i64 (t+a - f)));refine bodyPost_ret (v:= .tuple #[.agg #[.int .i64 a,.int .i64 (b - a),.int .i64 k,.int .i64 (t+a - f)],.bool true]) (by simp [results,Tryz.results302,go_sem,r0,r1,r2,r3]) rfl ⟨rfl,?_⟩)
     all_goals (have HBW:Hid (Below w.heap.size w w5):=HB1.out.trans (HB5.out.mono HB1.out.size);have hsw:=HBW.out.size;repeat (first|with_reducible exact HBW.out|refine Below.drew ?_|refine Below.setCell ?_ (by first|omega|(simp <;> omega)) _|refine Below.alloc ?_ (by first|omega|(simp <;> omega)) _))
    ·have hk2:(k == 2)=false:=by simpa using hk
     have hv1:wrap64 (b - a)=b - a:=by unfold wrap64;omega
     have HPS:Hid (partOf ⟨f,n,k,t⟩ a b=some ⟨a,b - a,k,0⟩):=by show _=_;rw [HP.out,if_neg (by omega),if_neg hk,show max f a=a by omega,show min en b=b by omega]
     rw [HPS.out]
     clear hk
     go_enter Tryz.func302,Tryz.ntmps302
     go_wp2_with fail
     go_region_held3 (fun w'=>w'.cell? ⟨w.heap.size,0,none⟩=some (.int .i64 f)∧w'.cell? ⟨w.heap.size,1,none⟩=some (.int .i64 n)∧w'.cell? ⟨w.heap.size,2,none⟩=some (.int .i64 k)∧w'.cell? ⟨w.heap.size,3,none⟩=some (.int .i64 t)) (first|with_reducible exact SA.out|exact HK.out _ (by repeat (first|with_reducible exact HB5.out|with_reducible exact Below.refl _ _|refine Below.drew ?_|refine Below.setCell ?_ (by first|omega|(simp <;> omega)) _|refine Below.alloc ?_ (by first|omega|(simp <;> omega)) _))) ((go_at_call 248;refine (HE.out _).mono ?_;rintro e w5 ⟨rfl,hb5⟩;have HB5:Hid (Below w2.heap.size w2 w5):=Below.trans (by repeat (first|exact Below.refl _ _|refine Below.drew ?_|refine Below.alloc ?_ (by first|omega|(simp <;> omega)) _)) (hb5.mono (by first|exact Nat.le_refl _|(simp <;> omega)));have hs5:=HB5.out.size;clear hb5))
     all_goals (obtain ⟨p0,p1,p2,p3⟩:=HK.out _ HB5.out)
     all_goals (obtain ⟨⟨z0,z1,z2,z3⟩,z4,z5,z6,z7⟩:=Je (HY.out.below HB5.out HY.out.lt))
     all_goals (have u0:=fun o=>(HK.out (w5.alloc o) (HB5.out.alloc hs5 o)).1;have u1:=fun o=>(HK.out (w5.alloc o) (HB5.out.alloc hs5 o)).2.1;have u2:=fun o=>(HK.out (w5.alloc o) (HB5.out.alloc hs5 o)).2.2.1;have u3:=fun o=>(HK.out (w5.alloc o) (HB5.out.alloc hs5 o)).2.2.2;have y0:=fun o=>((HY.out.below HB5.out HY.out.lt).alloc o).cell 0;have y1:=fun o=>((HY.out.below HB5.out HY.out.lt).alloc o).cell 1;have y2:=fun o=>((HY.out.below HB5.out HY.out.lt).alloc o).cell 2;have y3:=fun o=>((HY.out.below HB5.out HY.out.lt).alloc o).cell 3;have x0:=fun o=>((HY.out.below HB5.out HY.out.lt).alloc o).fz 0;have x1:=fun o=>((HY.out.below HB5.out HY.out.lt).alloc o).fz 1;have x2:=fun o=>((HY.out.below HB5.out HY.out.lt).alloc o).fz 2;have x3:=fun o=>((HY.out.below HB5.out HY.out.lt).alloc o).fz 3)
     all_goals go_wp2_with fail
     all_goals (obtain ⟨⟨r0,r1,r2,r3⟩,_⟩:=Je (Whole.set4 ((HY.out.below HB5.out HY.out.lt).alloc (.cells #[.int .i64 a,.int .i64 (b - a),.int .i64 k,.int .i64 0] 255)) (.int .i64 a) (.int .i64 (b - a)) (.int .i64 k) (.int .i64 0));refine bodyPost_ret (v:= .tuple #[.agg #[.int .i64 a,.int .i64 (b - a),.int .i64 k,.int .i64 0],.bool true]) (by simp [results,Tryz.results302,go_sem,r0,r1,r2,r3]) rfl ⟨rfl,?_⟩)
     all_goals (have HBW:Hid (Below w.heap.size w w5):=HB1.out.trans (HB5.out.mono HB1.out.size);have hsw:=HBW.out.size;repeat (first|with_reducible exact HBW.out|refine Below.drew ?_|refine Below.setCell ?_ (by first|omega|(simp <;> omega)) _|refine Below.alloc ?_ (by first|omega|(simp <;> omega)) _))
  ·skip
   by_cases h3:en≤a
   ·have HPN:Hid (partOf ⟨f,n,k,t⟩ a b=none):=by show _=_;rw [HP.out,if_pos (by omega)]
    rw [HPN.out]
    go_enter Tryz.func302,Tryz.ntmps302
    go_wp2_with fail
    go_region_held3 (fun w'=>w'.cell? ⟨w.heap.size,0,none⟩=some (.int .i64 f)∧w'.cell? ⟨w.heap.size,1,none⟩=some (.int .i64 n)∧w'.cell? ⟨w.heap.size,2,none⟩=some (.int .i64 k)∧w'.cell? ⟨w.heap.size,3,none⟩=some (.int .i64 t)) (first|with_reducible exact SA.out|exact HK.out _ (by repeat (first|with_reducible exact HB5.out|with_reducible exact Below.refl _ _|refine Below.drew ?_|refine Below.setCell ?_ (by first|omega|(simp <;> omega)) _|refine Below.alloc ?_ (by first|omega|(simp <;> omega)) _))) ((go_at_call 248;refine (HE.out _).mono ?_;rintro e w5 ⟨rfl,hb5⟩;have HB5:Hid (Below w2.heap.size w2 w5):=Below.trans (by repeat (first|exact Below.refl _ _|refine Below.drew ?_|refine Below.alloc ?_ (by first|omega|(simp <;> omega)) _)) (hb5.mono (by first|exact Nat.le_refl _|(simp <;> omega)));have hs5:=HB5.out.size;clear hb5))
    all_goals (obtain ⟨p0,p1,p2,p3⟩:=HK.out _ HB5.out)
    all_goals (obtain ⟨⟨z0,z1,z2,z3⟩,z4,z5,z6,z7⟩:=Je (HY.out.below HB5.out HY.out.lt))
    all_goals go_wp2_with fail
    all_goals (obtain ⟨⟨r0,r1,r2,r3⟩,_⟩:=Je (Whole.set4 (HY.out.below HB5.out HY.out.lt) (.int .i64 0) (.int .i64 0) (.int .i64 0) (.int .i64 0));refine bodyPost_ret (v:= .tuple #[.agg #[.int .i64 0,.int .i64 0,.int .i64 0,.int .i64 0],.bool false]) (by simp [results,Tryz.results302,go_sem,r0,r1,r2,r3]) rfl ⟨rfl,?_⟩)
    all_goals (have HBW:Hid (Below w.heap.size w w5):=HB1.out.trans (HB5.out.mono HB1.out.size);have hsw:=HBW.out.size;repeat (first|with_reducible exact HBW.out|refine Below.drew ?_|refine Below.setCell ?_ (by first|omega|(simp <;> omega)) _|refine Below.alloc ?_ (by first|omega|(simp <;> omega)) _))
   ·by_cases hk:k=2
    ·have hk2:(k == 2)=true:=by simpa using hk
     have hv1:wrap64 (en - a)=en - a:=by unfold wrap64;omega
     have hv2:wrap64 (t+a)=t+a:=by have:=K4.out;unfold wrap64;omega
     have hv3:wrap64 (t+a - f)=t+a - f:=by have:=K4.out;unfold wrap64;omega
     have HPS:Hid (partOf ⟨f,n,k,t⟩ a b=some ⟨a,en - a,k,t+a - f⟩):=by show _=_;rw [HP.out,if_neg (by omega),if_pos hk,show max f a=a by omega,show min en b=en by omega]
     rw [HPS.out]
     clear hk
     go_enter Tryz.func302,Tryz.ntmps302
     go_wp2_with fail
     go_region_held3 (fun w'=>w'.cell? ⟨w.heap.size,0,none⟩=some (.int .i64 f)∧w'.cell? ⟨w.heap.size,1,none⟩=some (.int .i64 n)∧w'.cell? ⟨w.heap.size,2,none⟩=some (.int .i64 k)∧w'.cell? ⟨w.heap.size,3,none⟩=some (.int .i64 t)) (first|with_reducible exact SA.out|exact HK.out _ (by repeat (first|with_reducible exact HB5.out|with_reducible exact Below.refl _ _|refine Below.drew ?_|refine Below.setCell ?_ (by first|omega|(simp <;> omega)) _|refine Below.alloc ?_ (by first|omega|(simp <;> omega)) _))) ((go_at_call 248;refine (HE.out _).mono ?_;rintro e w5 ⟨rfl,hb5⟩;have HB5:Hid (Below w2.heap.size w2 w5):=Below.trans (by repeat (first|exact Below.refl _ _|refine Below.drew ?_|refine Below.alloc ?_ (by first|omega|(simp <;> omega)) _)) (hb5.mono (by first|exact Nat.le_refl _|(simp <;> omega)));have hs5:=HB5.out.size;clear hb5))
     all_goals (obtain ⟨p0,p1,p2,p3⟩:=HK.out _ HB5.out)
     all_goals (obtain ⟨⟨z0,z1,z2,z3⟩,z4,z5,z6,z7⟩:=Je (HY.out.below HB5.out HY.out.lt))
     all_goals (have u0:=fun o=>(HK.out (w5.alloc o) (HB5.out.alloc hs5 o)).1;have u1:=fun o=>(HK.out (w5.alloc o) (HB5.out.alloc hs5 o)).2.1;have u2:=fun o=>(HK.out (w5.alloc o) (HB5.out.alloc hs5 o)).2.2.1;have u3:=fun o=>(HK.out (w5.alloc o) (HB5.out.alloc hs5 o)).2.2.2;have y0:=fun o=>((HY.out.below HB5.out HY.out.lt).alloc o).cell 0;have y1:=fun o=>((HY.out.below HB5.out HY.out.lt).alloc o).cell 1;have y2:=fun o=>((HY.out.below HB5.out HY.out.lt).alloc o).cell 2;have y3:=fun o=>((HY.out.below HB5.out HY.out.lt).alloc o).cell 3;have x0:=fun o=>((HY.out.below HB5.out HY.out.lt).alloc o).fz 0;have x1:=fun o=>((HY.out.below HB5.out HY.out.lt).alloc o).fz 1;have x2:=fun o=>((HY.out.below HB5.out HY.out.lt).alloc o).fz 2;have x3:=fun o=>((HY.out.below HB5.out HY.out.lt).alloc o).fz 3)
     all_goals go_wp2_with fail
     all_goals (obtain ⟨⟨r0,r1,r2,r3⟩,_⟩:=Je (Whole.set4 ((HY.out.below HB5.out HY.out.lt).alloc (.cells #[.int .i64 a,.int .i64 (en - a),.int .i64 k,.int .i64 (t+a - f)] 255)) (.int .i64 a) (.int .i64 (en - a)) (.int .i64 k) (.int .i64 (t+a - f)));refine bodyPost_ret (v:= .tuple #[.agg #[.int .i64 a,.int .i64 (en - a),.int .i64 k,.int .i64 (t+a - f)],.bool true]) (by simp [results,Tryz.results302,go_sem,r0,r1,r2,r3]) rfl ⟨rfl,?_⟩)
     all_goals (have HBW:Hid (Below w.heap.size w w5):=HB1.out.trans (HB5.out.mono HB1.out.size);have hsw:=HBW.out.size;repeat (first|with_reducible exact HBW.out|refine Below.drew ?_|refine Below.setCell ?_ (by first|omega|(simp <;> omega)) _|refine Below.alloc ?_ (by first|omega|(simp <;> omega)) _))
    ·have hk2:(k == 2)=false:=by simpa using hk
     have hv1:wrap64 (en - a)=en - a:=by unfold wrap64;omega
     have HPS:Hid (partOf ⟨f,n,k,t⟩ a b=some ⟨a,en - a,k,0⟩):=by show _=_;rw [HP.out,if_neg (by omega),if_neg hk,show max f a=a by omega,show min en b=en by omega]
     rw [HPS.out]
     clear hk
     go_enter Tryz.func302,Tryz.ntmps302
     go_wp2_with fail
     go_region_held3 (fun w'=>w'.cell? ⟨w.heap.size,0,none⟩=some (.int .i64 f)∧w'.cell? ⟨w.heap.size,1,none⟩=some (.int .i64 n)∧w'.cell? ⟨w.heap.size,2,none⟩=some (.int .i64 k)∧w'.cell? ⟨w.heap.size,3,none⟩=some (.int .i64 t)) (first|with_reducible exact SA.out|exact HK.out _ (by repeat (first|with_reducible exact HB5.out|with_reducible exact Below.refl _ _|refine Below.drew ?_|refine Below.setCell ?_ (by first|omega|(simp <;> omega)) _|refine Below.alloc ?_ (by first|omega|(simp <;> omega)) _))) ((go_at_call 248;refine (HE.out _).mono ?_;rintro e w5 ⟨rfl,hb5⟩;have HB5:Hid (Below w2.heap.size w2 w5):=Below.trans (by repeat (first|exact Below.refl _ _|refine Below.drew ?_|refine Below.alloc ?_ (by first|omega|(simp <;> omega)) _)) (hb5.mono (by first|exact Nat.le_refl _|(simp <;> omega)));have hs5:=HB5.out.size;clear hb5))
     all_goals (obtain ⟨p0,p1,p2,p3⟩:=HK.out _ HB5.out)
     all_goals (obtain ⟨⟨z0,z1,z2,z3⟩,z4,z5,z6,z7⟩:=Je (HY.out.below HB5.out HY.out.lt))
     all_goals (have u0:=fun o=>(HK.out (w5.alloc o) (HB5.out.alloc hs5 o)).1;have u1:=fun o=>(HK.out (w5.alloc o) (HB5.out.alloc hs5 o)).2.1;have u2:=fun o=>(HK.out (w5.alloc o) (HB5.out.alloc hs5 o)).2.2.1;have u3:=fun o=>(HK.out (w5.alloc o) (HB5.out.alloc hs5 o)).2.2.2;have y0:=fun o=>((HY.out.below HB5.out HY.out.lt).alloc o).cell 0;have y1:=fun o=>((HY.out.below HB5.out HY.out.lt).alloc o).cell 1;have y2:=fun o=>((HY.out.below HB5.out HY.out.lt).alloc o).cell 2;have y3:=fun o=>((HY.out.below HB5.out HY.out.lt).alloc o).cell 3;have x0:=fun o=>((HY.out.below HB5.out HY.out.lt).alloc o).fz 0;have x1:=fun o=>((HY.out.below HB5.out HY.out.lt).alloc o).fz 1;have x2:=fun o=>((HY.out.below HB5.out HY.out.lt).alloc o).fz 2;have x3:=fun o=>((HY.out.below HB5.out HY.out.lt).alloc o).fz 3)
     all_goals go_wp2_with fail
     all_goals (obtain ⟨⟨r0,r1,r2,r3⟩,_⟩:=Je (Whole.set4 ((HY.out.below HB5.out HY.out.lt).alloc (.cells #[.int .i64 a,.int .i64 (en - a),.int .i64 k,.int .i64 0] 255)) (.int .i64 a) (.int .i64 (en - a)) (.int .i64 k) (.int .i64 0));refine bodyPost_ret (v:= .tuple #[.agg #[.int .i64 a,.int .i64 (en - a),.int .i64 k,.int .i64 0],.bool true]) (by simp [results,Tryz.results302,go_sem,r0,r1,r2,r3]) rfl ⟨rfl,?_⟩)
     all_goals (have HBW:Hid (Below w.heap.size w w5):=HB1.out.trans (HB5.out.mono HB1.out.size);have hsw:=HBW.out.size;repeat (first|with_reducible exact HBW.out|refine Below.drew ?_|refine Below.setCell ?_ (by first|omega|(simp <;> omega)) _|refine Below.alloc ?_ (by first|omega|(simp <;> omega)) _))
 ·by_cases h2:b < en
  ·skip
   by_cases h3:b≤f
   ·have HPN:Hid (partOf ⟨f,n,k,t⟩ a b=none):=by show _=_;rw [HP.out,if_pos (by omega)]
    rw [HPN.out]
    go_enter Tryz.func302,Tryz.ntmps302
    go_wp2_with fail
    go_region_held3 (fun w'=>w'.cell? ⟨w.heap.size,0,none⟩=some (.int .i64 f)∧w'.cell? ⟨w.heap.size,1,none⟩=some (.int .i64 n)∧w'.cell? ⟨w.heap.size,2,none⟩=some (.int .i64 k)∧w'.cell? ⟨w.heap.size,3,none⟩=some (.int .i64 t)) (first|with_reducible exact SA.out|exact HK.out _ (by repeat (first|with_reducible exact HB5.out|with_reducible exact Below.refl _ _|refine Below.drew ?_|refine Below.setCell ?_ (by first|omega|(simp <;> omega)) _|refine Below.alloc ?_ (by first|omega|(simp <;> omega)) _))) ((go_at_call 248;refine (HE.out _).mono ?_;rintro e w5 ⟨rfl,hb5⟩;have HB5:Hid (Below w2.heap.size w2 w5):=Below.trans (by repeat (first|exact Below.refl _ _|refine Below.drew ?_|refine Below.alloc ?_ (by first|omega|(simp <;> omega)) _)) (hb5.mono (by first|exact Nat.le_refl _|(simp <;> omega)));have hs5:=HB5.out.size;clear hb5))
    all_goals (obtain ⟨p0,p1,p2,p3⟩:=HK.out _ HB5.out)
    all_goals (obtain ⟨⟨z0,z1,z2,z3⟩,z4,z5,z6,z7⟩:=Je (HY.out.below HB5.out HY.out.lt))
    all_goals go_wp2_with fail
    all_goals (obtain ⟨⟨r0,r1,r2,r3⟩,_⟩:=Je (Whole.set4 (HY.out.below HB5.out HY.out.lt) (.int .i64 0) (.int .i64 0) (.int .i64 0) (.int .i64 0));refine bodyPost_ret (v:= .tuple #[.agg #[.int .i64 0,.int .i64 0,.int .i64 0,.int .i64 0],.bool false]) (by simp [results,Tryz.results302,go_sem,r0,r1,r2,r3]) rfl ⟨rfl,?_⟩)
    all_goals (have HBW:Hid (Below w.heap.size w w5):=HB1.out.trans (HB5.out.mono HB1.out.size);have hsw:=HBW.out.size;repeat (first|with_reducible exact HBW.out|refine Below.drew ?_|refine Below.setCell ?_ (by first|omega|(simp <;> omega)) _|refine Below.alloc ?_ (by first|omega|(simp <;> omega)) _))
   ·by_cases hk:k=2
    ·have hk2:(k == 2)=true:=by simpa using hk
     have hv1:wrap64 (b - f)=b - f:=by unfold wrap64;omega
     have hv2:wrap64 (t+f)=t+f:=by have:=K4.out;unfold wrap64;omega
     have hv3:wrap64 t=t:=by have:=K4.out;unfold wrap64;omega
     have HPS:Hid (partOf ⟨f,n,k,t⟩ a b=some ⟨f,b - f,k,t⟩):=by show _=_;rw [HP.out,if_neg (by omega),if_pos hk,show max f a=f by omega,show min en b=b by omega,show t+f - f=t by omega]
     rw [HPS.out]
     clear hk
     go_enter Tryz.func302,Tryz.ntmps302
     go_wp2_with fail
     go_region_held3 (fun w'=>w'.cell? ⟨w.heap.size,0,none⟩=some (.int .i64 f)∧w'.cell? ⟨w.heap.size,1,none⟩=some (.int .i64 n)∧w'.cell? ⟨w.heap.size,2,none⟩=some (.int .i64 k)∧w'.cell? ⟨w.heap.size,3,none⟩=some (.int .i64 t)) (first|with_reducible exact SA.out|exact HK.out _ (by repeat (first|with_reducible exact HB5.out|with_reducible exact Below.refl _ _|refine Below.drew ?_|refine Below.setCell ?_ (by first|omega|(simp <;> omega)) _|refine Below.alloc ?_ (by first|omega|(simp <;> omega)) _))) ((go_at_call 248;refine (HE.out _).mono ?_;rintro e w5 ⟨rfl,hb5⟩;have HB5:Hid (Below w2.heap.size w2 w5):=Below.trans (by repeat (first|exact Below.refl _ _|refine Below.drew ?_|refine Below.alloc ?_ (by first|omega|(simp <;> omega)) _)) (hb5.mono (by first|exact Nat.le_refl _|(simp <;> omega)));have hs5:=HB5.out.size;clear hb5))
     all_goals (obtain ⟨p0,p1,p2,p3⟩:=HK.out _ HB5.out)
     all_goals (obtain ⟨⟨z0,z1,z2,z3⟩,z4,z5,z6,z7⟩:=Je (HY.out.below HB5.out HY.out.lt))
     all_goals (have u0:=fun o=>(HK.out (w5.alloc o) (HB5.out.alloc hs5 o)).1;have u1:=fun o=>(HK.out (w5.alloc o) (HB5.out.alloc hs5 o)).2.1;have u2:=fun o=>(HK.out (w5.alloc o) (HB5.out.alloc hs5 o)).2.2.1;have u3:=fun o=>(HK.out (w5.alloc o) (HB5.out.alloc hs5 o)).2.2.2;have y0:=fun o=>((HY.out.below HB5.out HY.out.lt).alloc o).cell 0;have y1:=fun o=>((HY.out.below HB5.out HY.out.lt).alloc o).cell 1;have y2:=fun o=>((HY.out.below HB5.out HY.out.lt).alloc o).cell 2;have y3:=fun o=>((HY.out.below HB5.out HY.out.lt).alloc o).cell 3;have x0:=fun o=>((HY.out.below HB5.out HY.out.lt).alloc o).fz 0;have x1:=fun o=>((HY.out.below HB5.out HY.out.lt).alloc o).fz 1;have x2:=fun o=>((HY.out.below HB5.out HY.out.lt).alloc o).fz 2;have x3:=fun o=>((HY.out.below HB5.out HY.out.lt).alloc o).fz 3)
     all_goals go_wp2_with fail
     all_goals (obtain ⟨⟨r0,r1,r2,r3⟩,_⟩:=Je (Whole.set4 ((HY.out.below HB5.out HY.out.lt).alloc (.cells #[.int .i64 f,.int .i64 (b - f),.int .i64 k,.int .i64 (t)] 255)) (.int .i64 f) (.int .i64 (b - f)) (.int .i64 k) (.int .i64 (t)));refine bodyPost_ret (v:= .tuple #[.agg #[.int .i64 f,.int .i64 (b - f),.int .i64 k,.int .i64 (t)],.bool true]) (by simp [results,Tryz.results302,go_sem,r0,r1,r2,r3]) rfl ⟨rfl,?_⟩)
     all_goals (have HBW:Hid (Below w.heap.size w w5):=HB1.out.trans (HB5.out.mono HB1.out.size);have hsw:=HBW.out.size;repeat (first|with_reducible exact HBW.out|refine Below.drew ?_|refine Below.setCell ?_ (by first|omega|(simp <;> omega)) _|refine Below.alloc ?_ (by first|omega|(simp <;> omega)) _))
    ·have hk2:(k == 2)=false:=by simpa using hk
     have hv1:wrap64 (b - f)=b - f:=by unfold wrap64;omega
     have HPS:Hid (partOf ⟨f,n,k,t⟩ a b=some ⟨f,b - f,k,0⟩):=by show _=_;rw [HP.out,if_neg (by omega),if_neg hk,show max f a=f by omega,show min en b=b by omega]
     rw [HPS.out]
     clear hk
     go_enter Tryz.func302,Tryz.ntmps302
     go_wp2_with fail
     go_region_held3 (fun w'=>w'.cell? ⟨w.heap.size,0,none⟩=some (.int .i64 f)∧w'.cell? ⟨w.heap.size,1,none⟩=some (.int .i64 n)∧w'.cell? ⟨w.heap.size,2,none⟩=some (.int .i64 k)∧w'.cell? ⟨w.heap.size,3,none⟩=some (.int .i64 t)) (first|with_reducible exact SA.out|exact HK.out _ (by repeat (first|with_reducible exact HB5.out|with_reducible exact Below.refl _ _|refine Below.drew ?_|refine Below.setCell ?_ (by first|omega|(simp <;> omega)) _|refine Below.alloc ?_ (by first|omega|(simp <;> omega)) _))) ((go_at_call 248;refine (HE.out _).mono ?_;rintro e w5 ⟨rfl,hb5⟩;have HB5:Hid (Below w2.heap.size w2 w5):=Below.trans (by repeat (first|exact Below.refl _ _|refine Below.drew ?_|refine Below.alloc ?_ (by first|omega|(simp <;> omega)) _)) (hb5.mono (by first|exact Nat.le_refl _|(simp <;> omega)));have hs5:=HB5.out.size;clear hb5))
     all_goals (obtain ⟨p0,p1,p2,p3⟩:=HK.out _ HB5.out)
     all_goals (obtain ⟨⟨z0,z1,z2,z3⟩,z4,z5,z6,z7⟩:=Je (HY.out.below HB5.out HY.out.lt))
     all_goals (have u0:=fun o=>(HK.out (w5.alloc o) (HB5.out.alloc hs5 o)).1;have u1:=fun o=>(HK.out (w5.alloc o) (HB5.out.alloc hs5 o)).2.1;have u2:=fun o=>(HK.out (w5.alloc o) (HB5.out.alloc hs5 o)).2.2.1;have u3:=fun o=>(HK.out (w5.alloc o) (HB5.out.alloc hs5 o)).2.2.2;have y0:=fun o=>((HY.out.below HB5.out HY.out.lt).alloc o).cell 0;have y1:=fun o=>((HY.out.below HB5.out HY.out.lt).alloc o).cell 1;have y2:=fun o=>((HY.out.below HB5.out HY.out.lt).alloc o).cell 2;have y3:=fun o=>((HY.out.below HB5.out HY.out.lt).alloc o).cell 3;have x0:=fun o=>((HY.out.below HB5.out HY.out.lt).alloc o).fz 0;have x1:=fun o=>((HY.out.below HB5.out HY.out.lt).alloc o).fz 1;have x2:=fun o=>((HY.out.below HB5.out HY.out.lt).alloc o).fz 2;have x3:=fun o=>((HY.out.below HB5.out HY.out.lt).alloc o).fz 3)
     all_goals go_wp2_with fail
     all_goals (obtain ⟨⟨r0,r1,r2,r3⟩,_⟩:=Je (Whole.set4 ((HY.out.below HB5.out HY.out.lt).alloc (.cells #[.int .i64 f,.int .i64 (b - f),.int .i64 k,.int .i64 0] 255)) (.int .i64 f) (.int .i64 (b - f)) (.int .i64 k) (.int .i64 0));refine bodyPost_ret (v:= .tuple #[.agg #[.int .i64 f,.int .i64 (b - f),.int .i64 k,.int .i64 0],.bool true]) (by simp [results,Tryz.results302,go_sem,r0,r1,r2,r3]) rfl ⟨rfl,?_⟩)
     all_goals (have HBW:Hid (Below w.heap.size w w5):=HB1.out.trans (HB5.out.mono HB1.out.size);have hsw:=HBW.out.size;repeat (first|with_reducible exact HBW.out|refine Below.drew ?_|refine Below.setCell ?_ (by first|omega|(simp <;> omega)) _|refine Below.alloc ?_ (by first|omega|(simp <;> omega)) _))
  ·skip
   by_cases h3:en≤f
   ·exact absurd h3 (by omega)
   ·by_cases hk:k=2
    ·have hk2:(k == 2)=true:=by simpa using hk
     have hv1:wrap64 (en - f)=en - f:=by unfold wrap64;omega
     have hv2:wrap64 (t+f)=t+f:=by have:=K4.out;unfold wrap64;omega
     have hv3:wrap64 t=t:=by have:=K4.out;unfold wrap64;omega
     have HPS:Hid (partOf ⟨f,n,k,t⟩ a b=some ⟨f,en - f,k,t⟩):=by show _=_;rw [HP.out,if_neg (by omega),if_pos hk,show max f a=f by omega,show min en b=en by omega,show t+f - f=t by omega]
     rw [HPS.out]
     clear hk
     go_enter Tryz.func302,Tryz.ntmps302
     go_wp2_with fail
     go_region_held3 (fun w'=>w'.cell? ⟨w.heap.size,0,none⟩=some (.int .i64 f)∧w'.cell? ⟨w.heap.size,1,none⟩=some (.int .i64 n)∧w'.cell? ⟨w.heap.size,2,none⟩=some (.int .i64 k)∧w'.cell? ⟨w.heap.size,3,none⟩=some (.int .i64 t)) (first|with_reducible exact SA.out|exact HK.out _ (by repeat (first|with_reducible exact HB5.out|with_reducible exact Below.refl _ _|refine Below.drew ?_|refine Below.setCell ?_ (by first|omega|(simp <;> omega)) _|refine Below.alloc ?_ (by first|omega|(simp <;> omega)) _))) ((go_at_call 248;refine (HE.out _).mono ?_;rintro e w5 ⟨rfl,hb5⟩;have HB5:Hid (Below w2.heap.size w2 w5):=Below.trans (by repeat (first|exact Below.refl _ _|refine Below.drew ?_|refine Below.alloc ?_ (by first|omega|(simp <;> omega)) _)) (hb5.mono (by first|exact Nat.le_refl _|(simp <;> omega)));have hs5:=HB5.out.size;clear hb5))
     all_goals (obtain ⟨p0,p1,p2,p3⟩:=HK.out _ HB5.out)
     all_goals (obtain ⟨⟨z0,z1,z2,z3⟩,z4,z5,z6,z7⟩:=Je (HY.out.below HB5.out HY.out.lt))
     all_goals (have u0:=fun o=>(HK.out (w5.alloc o) (HB5.out.alloc hs5 o)).1;have u1:=fun o=>(HK.out (w5.alloc o) (HB5.out.alloc hs5 o)).2.1;have u2:=fun o=>(HK.out (w5.alloc o) (HB5.out.alloc hs5 o)).2.2.1;have u3:=fun o=>(HK.out (w5.alloc o) (HB5.out.alloc hs5 o)).2.2.2;have y0:=fun o=>((HY.out.below HB5.out HY.out.lt).alloc o).cell 0;have y1:=fun o=>((HY.out.below HB5.out HY.out.lt).alloc o).cell 1;have y2:=fun o=>((HY.out.below HB5.out HY.out.lt).alloc o).cell 2;have y3:=fun o=>((HY.out.below HB5.out HY.out.lt).alloc o).cell 3;have x0:=fun o=>((HY.out.below HB5.out HY.out.lt).alloc o).fz 0;have x1:=fun o=>((HY.out.below HB5.out HY.out.lt).alloc o).fz 1;have x2:=fun o=>((HY.out.below HB5.out HY.out.lt).alloc o).fz 2;have x3:=fun o=>((HY.out.below HB5.out HY.out.lt).alloc o).fz 3)
     all_goals go_wp2_with fail
     all_goals (obtain ⟨⟨r0,r1,r2,r3⟩,_⟩:=Je (Whole.set4 ((HY.out.below HB5.out HY.out.lt).alloc (.cells #[.int .i64 f,.int .i64 (en - f),.int .i64 k,.int .i64 (t)] 255)) (.int .i64 f) (.int .i64 (en - f)) (.int .i64 k) (.int .i64 (t)));refine bodyPost_ret (v:= .tuple #[.agg #[.int .i64 f,.int .i64 (en - f),.int .i64 k,.int .i64 (t)],.bool true]) (by simp [results,Tryz.results302,go_sem,r0,r1,r2,r3]) rfl ⟨rfl,?_⟩)
     all_goals (have HBW:Hid (Below w.heap.size w w5):=HB1.out.trans (HB5.out.mono HB1.out.size);have hsw:=HBW.out.size;repeat (first|with_reducible exact HBW.out|refine Below.drew ?_|refine Below.setCell ?_ (by first|omega|(simp <;> omega)) _|refine Below.alloc ?_ (by first|omega|(simp <;> omega)) _))
    ·have hk2:(k == 2)=false:=by simpa using hk
     have hv1:wrap64 (en - f)=en - f:=by unfold wrap64;omega
     have HPS:Hid (partOf ⟨f,n,k,t⟩ a b=some ⟨f,en - f,k,0⟩):=by show _=_;rw [HP.out,if_neg (by omega),if_neg hk,show max f a=f by omega,show min en b=en by omega]
     rw [HPS.out]
     clear hk
     go_enter Tryz.func302,Tryz.ntmps302
     go_wp2_with fail
     go_region_held3 (fun w'=>w'.cell? ⟨w.heap.size,0,none⟩=some (.int .i64 f)∧w'.cell? ⟨w.heap.size,1,none⟩=some (.int .i64 n)∧w'.cell? ⟨w.heap.size,2,none⟩=some (.int .i64 k)∧w'.cell? ⟨w.heap.size,3,none⟩=some (.int .i64 t)) (first|with_reducible exact SA.out|exact HK.out _ (by repeat (first|with_reducible exact HB5.out|with_reducible exact Below.refl _ _|refine Below.drew ?_|refine Below.setCell ?_ (by first|omega|(simp <;> omega)) _|refine Below.alloc ?_ (by first|omega|(simp <;> omega)) _))) ((go_at_call 248;refine (HE.out _).mono ?_;rintro e w5 ⟨rfl,hb5⟩;have HB5:Hid (Below w2.heap.size w2 w5):=Below.trans (by repeat (first|exact Below.refl _ _|refine Below.drew ?_|refine Below.alloc ?_ (by first|omega|(simp <;> omega)) _)) (hb5.mono (by first|exact Nat.le_refl _|(simp <;> omega)));have hs5:=HB5.out.size;clear hb5))
     all_goals (obtain ⟨p0,p1,p2,p3⟩:=HK.out _ HB5.out)
     all_goals (obtain ⟨⟨z0,z1,z2,z3⟩,z4,z5,z6,z7⟩:=Je (HY.out.below HB5.out HY.out.lt))
     all_goals (have u0:=fun o=>(HK.out (w5.alloc o) (HB5.out.alloc hs5 o)).1;have u1:=fun o=>(HK.out (w5.alloc o) (HB5.out.alloc hs5 o)).2.1;have u2:=fun o=>(HK.out (w5.alloc o) (HB5.out.alloc hs5 o)).2.2.1;have u3:=fun o=>(HK.out (w5.alloc o) (HB5.out.alloc hs5 o)).2.2.2;have y0:=fun o=>((HY.out.below HB5.out HY.out.lt).alloc o).cell 0;have y1:=fun o=>((HY.out.below HB5.out HY.out.lt).alloc o).cell 1;have y2:=fun o=>((HY.out.below HB5.out HY.out.lt).alloc o).cell 2;have y3:=fun o=>((HY.out.below HB5.out HY.out.lt).alloc o).cell 3;have x0:=fun o=>((HY.out.below HB5.out HY.out.lt).alloc o).fz 0;have x1:=fun o=>((HY.out.below HB5.out HY.out.lt).alloc o).fz 1;have x2:=fun o=>((HY.out.below HB5.out HY.out.lt).alloc o).fz 2;have x3:=fun o=>((HY.out.below HB5.out HY.out.lt).alloc o).fz 3)
     all_goals go_wp2_with fail
     all_goals (obtain ⟨⟨r0,r1,r2,r3⟩,_⟩:=Je (Whole.set4 ((HY.out.below HB5.out HY.out.lt).alloc (.cells #[.int .i64 f,.int .i64 (en - f),.int .i64 k,.int .i64 0] 255)) (.int .i64 f) (.int .i64 (en - f)) (.int .i64 k) (.int .i64 0));refine bodyPost_ret (v:= .tuple #[.agg #[.int .i64 f,.int .i64 (en - f),.int .i64 k,.int .i64 0],.bool true]) (by simp [results,Tryz.results302,go_sem,r0,r1,r2,r3]) rfl ⟨rfl,?_⟩)
     all_goals (have HBW:Hid (Below w.heap.size w w5):=HB1.out.trans (HB5.out.mono HB1.out.size);have hsw:=HBW.out.size;repeat (first|with_reducible exact HBW.out|refine Below.drew ?_|refine Below.setCell ?_ (by first|omega|(simp <;> omega)) _|refine Below.alloc ?_ (by first|omega|(simp <;> omega)) _))
end tr
end Go.Proofs.YtfialjmemcobjaaGreatDoor
