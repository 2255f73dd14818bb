/- A part of the proof. -/
import Derived.Test.YtfialjmemcobjaaGreatDoorPrFwA
import Derived.Test.YtfialjmemcobjaaGreatDoorPrTzH
import Derived.Laws.BytesArg
import Derived.Laws.Closers25b
set_option linter.unusedVariables false
set_option linter.unusedSimpArgs false
namespace Go.Proofs.YtfialjmemcobjaaGreatDoor
namespace tr
open Go.RowKit er
end tr
namespace tr
open Go.RowKit er
def Lr (l:List Ext):Bool:=decide (1≤l.length) && decide (l.length≤8) && Ko l
theorem Qd7 {e:Ext} (h:Qf e=true):decide (2048≤e.at_)=false:=by
 obtain ⟨h1,h2,h3,h4⟩:=Qy h
 simp;omega
theorem Qbk {l:List Ext} (h:∀e∈l,Qf e=true):l.any (fun e=>decide (2048≤e.at_))=false:=by
 rw [List.any_eq_false]
 intro e he
 rw [Qd7 (h e he)];simp
set_option maxHeartbeats 4000000 in
set_option maxRecDepth 100000 in
theorem Bb (l:List Ext) (v:Value) (w:World) (h:ExtsAt w v l) (hl:l.length≤100000000):
  Calls Tryz.prog 288 #[v] w fun x w'=>x= .returned (.bool (Lr l))∧Below w.heap.size w w':=by
 have HCK:=Ql4 (Xd l v w h hl)
 have HCF:Hid (Ko l=true→∀wq,Below w.heap.size w wq→Calls Tryz.prog 310 #[v,.func (.func 311) #[] #[]] wq fun x w'=>x= .returned (.bool false)∧Below wq.heap.size wq w'):=by
  intro hc wq hb
  have:=Qi6 (fun e=>decide (2048≤e.at_)) 311 #[] l v wq (fun _ _=>by kernel_rfl) (h.below hb) hl (fun e wq _ _=>by
   have:=Qd9 e wq
   simpa using this)
  rw [Qbk (Xj _ hc).one] at this
  exact this
 obtain ⟨A,c,rfl,hcc⟩:=h
 obtain ⟨n,hn⟩:∃n,l.length=n:=⟨_,rfl⟩
 have HE:Hid (Lr l=(decide (1≤n) && decide (n≤8) && Ko l)):=by show _=_;unfold Lr;rw [hn]
 rw [HE.out]
 rw [hn] at HCK HCF hl ⊢
 have hni:(n:Int)≤100000000:=by omega
 obtain ⟨b,hb⟩:∃b,Ko l=b:=⟨_,rfl⟩
 rw [hb] at HCK HCF ⊢
 clear hcc hn HE hb
 go_enter Tryz.func288,Tryz.ntmps288
 by_cases h1:1≤n
 ·have h1i:(1:Int)≤(n:Int):=by omega
  by_cases h8:n≤8
  ·have h8i:(n:Int)≤8:=by omega
   cases b with
   |false=>
    go_wp2_with fail
    with_reducible refine HCK.out.mono ?_
    rintro e w5 ⟨rfl,hb5⟩
    have HB5:=Ql4 hb5
    clear hb5
    go_wp2_with fail
    go_ret
    exact ⟨by simp [h1,h8],HB5.out⟩
   |true=>
    go_wp2_with fail
    with_reducible refine HCK.out.mono ?_
    rintro e w5 ⟨rfl,hb5⟩
    have HB5:=Ql4 hb5
    have HC2:=Ql4 (HCF.out (by first|rfl|trivial) _ hb5)
    clear hb5
    go_wp2_with fail
    with_reducible refine HC2.out.mono ?_
    rintro e w6 ⟨rfl,hb6⟩
    have HB6:=Ql4 (Qa HB5.out hb6)
    clear hb6
    go_wp2_with fail
    go_ret
    exact ⟨by simp [h1,h8],HB6.out⟩
  ·have h8i:¬(n:Int)≤8:=by omega
   go_wp2_with fail
   go_ret
   exact ⟨by simp [h8],Below.refl _ _⟩
 ·have h1i:¬(1:Int)≤(n:Int):=by omega
  go_wp2_with fail
  go_ret
  exact ⟨by simp [h1],Below.refl _ _⟩
def Q7 (e:Ext):List (Nat×Int):=[(3,e.fr),(4,e.n),(1,e.kind),(2,e.at_)]
def Km (e:Ext):List UInt8:=Zh (Q7 e)
def Ky (l:List Ext):List UInt8:=UInt8.ofNat l.length::l.flatMap Km
theorem Qjs {e:Ext} (h:Qf e=true):Qqo (Q7 e):=by
 obtain ⟨h1,h2,h3,h4⟩:=Qy h
 refine ⟨?_,?_,?_,?_,by simp [Q7]⟩
 all_goals (intro p hp;simp only [Q7,List.mem_cons,List.not_mem_nil,or_false] at hp;rcases hp with rfl|rfl|rfl|rfl <;> simp <;> omega)
theorem Wi (w:World):Calls Tryz.prog 287 #[] w fun x w'=>x= .returned (.slice (some ⟨w.heap.size,0,none⟩) 4 4)∧(∀e:Ext,WidAt w' w.heap.size (Q7 e))∧Below w.heap.size w w':=by
 have HW:Hid (∀e:Ext,WidAt (w.alloc (.cells #[.int .i64 3,.int .i64 4,.int .i64 1,.int .i64 2] 3)) w.heap.size (Q7 e)):=by
  intro e j p hp
  have hw:=Whole.new w 3 #[.int .i64 3,.int .i64 4,.int .i64 1,.int .i64 2]
  rw [hw.cell j]
  match j,hp with
  |0,hp=>simp [Q7] at hp;subst hp;rfl
  |1,hp=>simp [Q7] at hp;subst hp;rfl
  |2,hp=>simp [Q7] at hp;subst hp;rfl
  |3,hp=>simp [Q7] at hp;subst hp;rfl
  |j+4,hp=>simp [Q7] at hp
 go_enter Tryz.func287,Tryz.ntmps287
 go_wp2_with fail
 go_ret
 exact ⟨rfl,HW.out,(Below.refl _ _).alloc (Nat.le_refl _) _⟩
set_option maxHeartbeats 4000000 in
set_option maxRecDepth 100000 in
theorem Qi0 (e:Ext) (w:World) (h:Qf e=true):Calls Tryz.prog 295 #[e.val] w fun x w'=>∃g,x= .returned (.slice (some ⟨g,0,none⟩) 4 4)∧Oc w' g (Q7 e)∧Below w.heap.size w w':=by
 obtain ⟨h1,h2,h3,h4⟩:=Qy h
 have h5:0≤e.kind∧e.kind≤2:=by omega
 have h6:0≤e.at_∧e.at_≤2048:=by omega
 obtain ⟨f,n,k,t⟩:=e
 simp only at h1 h2 h3 h5 h6
 have HN:Hid (Oc ((w.alloc (.cells #[.int .i64 f,.int .i64 n,.int .i64 k,.int .i64 t] 255)).alloc (.cells #[.int .u64 f,.int .u64 n,.int .u64 k,.int .u64 t] 98)) (w.heap.size+1) (Q7 ⟨f,n,k,t⟩)):=by
  intro j p hp
  have hw:=Whole.new' (w.alloc (.cells #[.int .i64 f,.int .i64 n,.int .i64 k,.int .i64 t] 255)) 98 #[.int .u64 f,.int .u64 n,.int .u64 k,.int .u64 t] (w.heap.size+1) (by simp)
  rw [hw.cell j]
  match j,hp with
  |0,hp=>simp [Q7] at hp;subst hp;rfl
  |1,hp=>simp [Q7] at hp;subst hp;rfl
  |2,hp=>simp [Q7] at hp;subst hp;rfl
  |3,hp=>simp [Q7] at hp;subst hp;rfl
  |j+4,hp=>simp [Q7] at hp
 have hf:f≤16777216:=by omega
 have hn:n≤16777216:=by omega
 obtain ⟨k1,k2⟩:=h5
 obtain ⟨t1,t2⟩:=h6
 clear h h3 h4
 show Calls Tryz.prog 295 #[.agg #[.int .i64 f,.int .i64 n,.int .i64 k,.int .i64 t]] w _
 go_enter Tryz.func295,Tryz.ntmps295
 go_wp2_with fail
 go_ret
 exact ⟨_,rfl,HN.out,((Below.refl _ _).alloc (Nat.le_refl _) _).alloc (by simp) _⟩
theorem Qjz (a b:List UInt8):(⟨a.toArray⟩:ByteArray)++⟨b.toArray⟩=⟨(a++b).toArray⟩:=by
 apply ByteArray.ext
 simp [ByteArray.data_append]
theorem Hf (e:Ext):(Km e).length=10:=by simp [Km,Q7,Zh,bytesOf_length]
theorem Ta (l:List Ext):(l.flatMap Km).length=l.length * 10:=by
 induction l with
 |nil=>rfl
 |cons e l ih=>rw [List.flatMap_cons,List.length_append,ih,Hf,List.length_cons];omega
set_option maxHeartbeats 4000000 in
set_option maxRecDepth 100000 in
theorem Qqd (l:List Ext) (v:Value) (gw:Nat) (w:World) (h:ExtsAt w v l) (h1:∀e∈l,Qf e=true) (h8:l.length≤8) (hw:∀e:Ext,WidAt w gw (Q7 e)):
  Calls Tryz.prog 294 #[v,.slice (some ⟨gw,0,none⟩) 4 4,.func (.func 295) #[] #[]] w fun x w'=>x= .returned (.tuple #[.string ⟨(Ky l).toArray⟩,.int .i64 0])∧Below w.heap.size w w':=by
 obtain ⟨A,c,rfl,hcc⟩:=h
 have HC:=Ql4 hcc
 have HW:=Ql4 hw
 have H1:=Ql4 h1
 obtain ⟨n,hn⟩:∃n,l.length=n:=⟨_,rfl⟩
 have HN:=Ql4 hn
 rw [hn] at h8 HC ⊢
 have h8i:(n:Int)≤8:=by omega
 have hcv:=run_convert_bytes_arg (P:=Tryz.prog) (w.alloc (.cells #[.int .u8 n] 5)) 127 5 Tryz.underlying127 Tryz.underlying5 w.heap.size 0 1 1 [(n:Int)] rfl (fun i hi=>by
  have hw:=Whole.new w 5 #[.int .u8 n]
  rw [Nat.zero_add,hw.cell i]
  match i,hi with
  |0,_=>rfl) 9 Tryz.underlying9
 have HS0:Hid (strOfNums [(n:Int)]=⟨([UInt8.ofNat n]:List UInt8).toArray⟩):=by show _=_;unfold strOfNums;simp
 have HLL:Hid (Ky l=[UInt8.ofNat n]++l.flatMap Km):=by show _=_;unfold Ky;rw [HN.out];rfl
 clear hcc hw h1 hn
 go_enter Tryz.func294,Tryz.ntmps294
 go_wp2_with fail
 rw [HS0.out]
 go_loopw [8,20] (fun s8 i wr=>∃j:Nat,j≤n∧i= .int .i64 j∧s8= .string ⟨([UInt8.ofNat n]++(l.take j).flatMap Km).toArray⟩∧Hid (Below w.heap.size w wr)) (fun _ i _=>n - (intOf i).toNat)
 case atStart=>exact ⟨0,Nat.zero_le _,rfl,by simp,(Below.refl _ _).alloc (Nat.le_refl _) _⟩
 case round=>
  obtain ⟨j,hj,rfl,rfl,HB⟩:=hrel
  by_cases hlt:j < n
  ·have hji:(j:Int) < (n:Int):=by omega
   obtain ⟨g,o,rfl,hc⟩:=HC.out (by omega)
   obtain ⟨x,hx⟩:∃x,l[j]? =some x:=⟨_,List.getElem?_eq_getElem (by rw [HN.out];exact hlt)⟩
   obtain ⟨c0,c1,c2,c3⟩:=(hc j x hx).below HB.out
   have hone:=H1.out x (List.mem_of_getElem? hx)
   have HEN:=Ql4 (fun wq=>Qi0 x wq hone)
   have HROW:Hid (∀wq g,Below w.heap.size w wq→Oc wq g (Q7 x)→Calls Tryz.prog 54 #[.slice (some ⟨g,0,none⟩) 4 4,.slice (some ⟨gw,0,none⟩) 4 4] wq fun e w'=>e= .returned (.tuple #[.string ⟨(Km x).toArray⟩,.int .i64 0])∧Below wq.heap.size wq w'):=fun wq g hb hn=>Qoy (Q7 x) g 4 gw 4 wq ((HW.out x).below hb) hn (Qjs hone) 4 rfl
   have HT:Hid (⟨([UInt8.ofNat n]++(l.take j).flatMap Km).toArray⟩++⟨(Km x).toArray⟩=(⟨([UInt8.ofNat n]++(l.take (j+1)).flatMap Km).toArray⟩:ByteArray)):=by
    show _=_
    rw [Qjz,Ju _ _ _ _ hx,List.append_assoc]
   have z1:(⟨([UInt8.ofNat n]++(l.take j).flatMap Km).toArray⟩:ByteArray).size≤1000:=by
    show ([UInt8.ofNat n]++(l.take j).flatMap Km).toArray.size≤1000
    have:(l.take j).length≤j:=by rw [List.length_take];omega
    rw [List.size_toArray,List.length_append,Ta,List.length_singleton];omega
   have z2:(⟨(Km x).toArray⟩:ByteArray).size≤1000:=by
    show (Km x).toArray.size≤1000
    rw [List.size_toArray,Hf];omega
   obtain ⟨S,hS⟩:∃S:ByteArray,⟨([UInt8.ofNat n]++(l.take j).flatMap Km).toArray⟩=S:=⟨_,rfl⟩
   obtain ⟨R,hR⟩:∃R:ByteArray,⟨(Km x).toArray⟩=R:=⟨_,rfl⟩
   rw [hS] at HT z1
   rw [hR] at HT z2 HROW
   rw [hS]
   obtain ⟨f,en,k,t⟩:=x
   simp only at c0 c1 c2 c3
   have d0:(wr.alloc (.cells #[.int .i64 f,.int .i64 en,.int .i64 k,.int .i64 t] 255)).heap.size=wr.heap.size+1:=by simp
   have HBA:Hid (Below w.heap.size w (wr.alloc (.cells #[.int .i64 f,.int .i64 en,.int .i64 k,.int .i64 t] 255))):=HB.out.alloc (by have:=HB.out.size;omega) _
   have HEN2:Hid (∀wq,Calls Tryz.prog 295 #[.agg #[.int .i64 f,.int .i64 en,.int .i64 k,.int .i64 t]] wq fun x w'=>∃g,x= .returned (.slice (some ⟨g,0,none⟩) 4 4)∧Oc w' g (Q7 ⟨f,en,k,t⟩)∧Below wq.heap.size wq w'):=HEN.out
   clear hc hx hone d0 HEN hS hR
   go_wp2_with fail
   with_reducible refine (HEN2.out _).mono ?_
   rintro e w5 ⟨g5,rfl,hn5,hb5⟩
   have HB5:=Ql4 (Qa HBA.out hb5)
   have HR:=Ql4 (HROW.out _ _ HB5.out hn5)
   clear hn5 hb5
   go_wp2_with fail
   with_reducible refine HR.out.mono ?_
   rintro e w6 ⟨rfl,hb6⟩
   have HB6:=Ql4 (Qa HB5.out hb6)
   clear hb6
   go_wp2_with fail
   go_roundw
   case rel=>exact ⟨j+1,by omega,by go_num,by rw [HT.out],HB6.out⟩
   case measure=>simp [intOf];omega
  ·obtain rfl:j=n:=by omega
   have hfull:l.take j=l:=by rw [←HN.out];exact List.take_length
   rw [hfull,←HLL.out]
   clear hfull
   go_wp2_with fail
   refine bodyPost_ret (v:= .tuple #[.string ⟨(Ky l).toArray⟩,.int .i64 0]) (by simp [results,Tryz.results294,go_sem]) rfl ⟨rfl,HB.out⟩
theorem Qiu (l:List Ext) (v:Value) (w:World) (h:ExtsAt w v l) (hc:Chk l) (h1:1≤l.length) (h8:l.length≤8):
  Calls Tryz.prog 253 #[v] w fun x w'=>x= .returned (.tuple #[.string ⟨(Ky l).toArray⟩,.int .i64 0])∧Below w.heap.size w w':=by
 have HX:Hid (Calls Tryz.prog 288 #[v] w fun x w'=>x= .returned (.bool true)∧Below w.heap.size w w'):=by
  have:=Bb l v w h (by omega)
  have e:Lr l=true:=by unfold Lr;simp [h1,h8,Oa _ hc]
  rw [e] at this
  exact this
 have HEW:=Ql4 (fun wq=>Wi wq)
 have HWR:Hid (∀wq gw,Below w.heap.size w wq→(∀e:Ext,WidAt wq gw (Q7 e))→Calls Tryz.prog 294 #[v,.slice (some ⟨gw,0,none⟩) 4 4,.func (.func 295) #[] #[]] wq fun x w'=>x= .returned (.tuple #[.string ⟨(Ky l).toArray⟩,.int .i64 0])∧Below wq.heap.size wq w'):=fun wq gw hb hw=>Qqd l v gw wq (h.below hb) hc.one h8 hw
 obtain ⟨A,c,rfl,hcc⟩:=h
 clear hcc hc h1 h8
 go_enter Tryz.func253,Tryz.ntmps253
 go_wp2_with fail
 with_reducible refine HX.out.mono ?_
 rintro e w5 ⟨rfl,hb5⟩
 have HB5:=Ql4 hb5
 clear hb5
 go_wp2_with fail
 with_reducible refine (HEW.out _).mono ?_
 rintro e w6 ⟨rfl,hw6,hb6⟩
 have HB6:=Ql4 (Qa HB5.out hb6)
 have HWW:=Ql4 (HWR.out _ _ HB6.out hw6)
 clear hb6 hw6
 go_wp2_with fail
 with_reducible refine HWW.out.mono ?_
 rintro e w7 ⟨rfl,hb7⟩
 have HB7:=Ql4 (Qa HB6.out hb7)
 clear hb7
 go_wp2_with fail
 refine bodyPost_ret (v:= .tuple #[.string ⟨(Ky l).toArray⟩,.int .i64 0]) (by simp [results,Tryz.results253,go_sem]) rfl ⟨rfl,HB7.out⟩
def Kid.val (k:Kid):Value:= .agg #[.int .i64 k.key,.int .i64 k.at_]
def Kid.cells (k:Kid):List Value:=[.int .i64 k.key,.int .i64 k.at_]
def Qt (l:List Kid):List Value:=l.flatMap Kid.cells
theorem P7 (l:List Kid):(Qt l).length=l.length * 2:=by
 induction l with
 |nil=>rfl
 |cons k l ih=>
  have e:Qt (k::l)= .int .i64 k.key::.int .i64 k.at_::Qt l:=by simp [Qt,Kid.cells]
  rw [e,List.length_cons,List.length_cons,ih,List.length_cons];omega
theorem Io (l:List Kid) (k:Kid):Qt (l++[k])=Qt l++[.int .i64 k.key,.int .i64 k.at_]:=by simp [Qt,Kid.cells]
theorem Ou:∀(l:List Kid) (j:Nat) (k:Kid),l[j]? =some k→(Qt l)[j * 2]? =some (.int .i64 k.key)∧(Qt l)[j * 2+1]? =some (.int .i64 k.at_)
 |[],j,k,h=>by simp at h
 |x::l,0,k,h=>by
  simp at h;subst h
  simp [Qt,Kid.cells]
 |x::l,j+1,k,h=>by
  have:=Ou l j k (by simpa using h)
  have e:Qt (x::l)= .int .i64 x.key::.int .i64 x.at_::Qt l:=by simp [Qt,Kid.cells]
  rw [e,show (j+1) * 2=j * 2+1+1 by omega]
  simpa using this
def KidAt (w:World) (g o:Nat) (k:Kid):Prop:=w.cell? ⟨g,o,none⟩=some (.int .i64 k.key)∧w.cell? ⟨g,o+1,none⟩=some (.int .i64 k.at_)
def KidsAt (w:World) (v:Value) (l:List Kid):Prop:=∃A c,v= .slice A l.length c∧(l.length≤c∧c≤maxLen)∧(0 < l.length→∃g o,A=some ⟨g,o,none⟩∧∀(j:Nat) (k:Kid),l[j]? =some k→KidAt w g (o+j * 2) k)
theorem KidAt.below {w w':World} {g o:Nat} {k:Kid} (h:KidAt w g o k) (hb:Below w.heap.size w w'):KidAt w' g o k:=⟨Qq hb h.1,Qq hb h.2⟩
theorem KidsAt.below {w w':World} {v:Value} {l:List Kid} (h:KidsAt w v l) (hb:Below w.heap.size w w'):KidsAt w' v l:=by
 obtain ⟨A,c,rfl,h1,h2⟩:=h
 refine ⟨A,c,rfl,h1,fun h0=>?_⟩
 obtain ⟨g,o,rfl,hc⟩:=h2 h0
 exact ⟨g,o,rfl,fun j e he=>(hc j e he).below hb⟩
theorem KidsAt.own {w:World} {B n:Nat} {v:Value} {l:List Kid} (h:w.ownsRow B 355 2 v n (Qt l)):KidsAt w v l∧l.length=n:=by
 obtain ⟨A,c,rfl⟩:=Qk h
 have hl:(Qt l).length=n * 2:=Qor h
 have hn:l.length=n:=by rw [P7] at hl;omega
 refine ⟨⟨A,c,by rw [hn],by rw [hn];exact Al h,fun h0=>?_⟩,hn⟩
 obtain ⟨g,rfl,_,_,_,hc,_⟩:=Qo h (by omega)
 refine ⟨g,0,rfl,fun j k hk=>?_⟩
 obtain ⟨q1,q2⟩:=Ou l j k hk
 rw [Nat.zero_add]
 exact ⟨hc _ _ q1,hc _ _ q2⟩
theorem KidsAt.take {w:World} {l:List Kid} {A:Option Addr} {n c:Nat} (h:KidsAt w (.slice A n c) l) (j:Nat) (hj:j≤n):KidsAt w (.slice A j c) (l.take j):=by
 obtain ⟨A',c',e,h1,h2⟩:=h
 injection e with e1 e2 e3
 subst e1 e3
 have hl:(l.take j).length=j:=by rw [List.length_take];omega
 refine ⟨A,c,by rw [hl],by rw [hl];omega,fun h0=>?_⟩
 obtain ⟨g,o,rfl,hc⟩:=h2 (by omega)
 refine ⟨g,o,rfl,fun i k hk=>hc i k ?_⟩
 rw [List.getElem?_take] at hk
 split at hk
 ·exact hk
 ·simp at hk
def Ll (p:Kid→Bool) (l:List Kid):Int:=match l.findIdx? p with|some i=>i|none=> -1
theorem Qie {p:Kid→Bool} {l:List Kid} {j:Nat} {e:Kid} (h:l[j]? =some e) (hp:p e=true) (hn:∀i x,i < j→l[i]? =some x→p x=false):Ll p l=j:=by
 have hj:=(List.getElem?_eq_some_iff.1 h).1
 have:l.findIdx? p=some j:=by
  rw [List.findIdx?_eq_some_iff_getElem]
  refine ⟨hj,?_,fun i hi=>?_⟩
  ·rw [List.getElem?_eq_getElem hj] at h;injection h with h;rw [h];exact hp
  ·have:=hn i _ hi (List.getElem?_eq_getElem (by omega))
   simpa using this
 unfold Ll
 rw [this]
theorem Quj {p:Kid→Bool} {l:List Kid} (hn:∀i x,i < l.length→l[i]? =some x→p x=false):Ll p l= -1:=by
 have:l.findIdx? p=none:=by
  rw [List.findIdx?_eq_none_iff]
  intro x hx
  obtain ⟨i,hi,rfl⟩:=List.mem_iff_getElem.1 hx
  exact hn i _ hi (List.getElem?_eq_getElem hi)
 unfold Ll
 rw [this]
theorem Qux (p:Kid→Bool) (l:List Kid):decide (0≤Ll p l)=l.any p:=by
 unfold Ll
 cases h:l.findIdx? p with
 |none=>
  rw [List.findIdx?_eq_none_iff] at h
  have:l.any p=false:=by rw [List.any_eq_false];intro x hx;rw [h x hx];simp
  rw [this];rfl
 |some i=>
  obtain ⟨hi,h1,h2⟩:=List.findIdx?_eq_some_iff_getElem.1 h
  have:l.any p=true:=List.any_eq_true.2 ⟨_,List.getElem_mem hi,h1⟩
  rw [this]
  simp
set_option maxHeartbeats 4000000 in
set_option maxRecDepth 100000 in
theorem Quy (p:Kid→Bool) (g:Nat) (lb:Array Value) (l:List Kid) (v:Value) (w:World) (eg:∀args w,(callFunc g args).run Tryz.prog w= .ok (.enter g args) w) (h:KidsAt w v l) (hl:l.length≤100000000)
  (hp:∀e wq,e∈l→Below w.heap.size w wq→Calls Tryz.prog g (#[e.val]++lb) wq fun x w'=>x= .returned (.bool (p e))∧Below wq.heap.size wq w'):
  Calls Tryz.prog 326 #[v,.func (.func g) #[] lb] w fun x w'=>x= .returned (.int .i64 (Ll p l))∧Below w.heap.size w w':=by
 obtain ⟨A,c,rfl,hcap,hc⟩:=h
 have HC:=Ql4 hc
 have HP:=Ql4 hp
 obtain ⟨n,hn⟩:∃n,l.length=n:=⟨_,rfl⟩
 rw [hn] at hl
 have HN:=Ql4 hn
 rw [hn]
 clear hc hn hp hcap
 go_enter Tryz.func326,Tryz.ntmps326
 go_wp2_with fail
 go_loopw [5,8] (fun s5 i wr=>∃(j:Nat),j≤n∧i= .int .i64 j∧Hid (∀i x,i < j→l[i]? =some x→p x=false)∧Hid (Below w.heap.size w wr)) (fun _ i _=>n - (intOf i).toNat)
 case atStart=>exact ⟨0,Nat.zero_le _,rfl,fun i x hi=>by omega,Below.refl _ _⟩
 case round=>
  obtain ⟨j,hj,rfl,HM,HB⟩:=hrel
  by_cases hlt:j < n
  ·have hji:(j:Int) < (n:Int):=by omega
   have hln:=HN.out
   obtain ⟨g2,o,rfl,hcc⟩:=HC.out (by omega)
   obtain ⟨e,hx⟩:∃e,l[j]? =some e:=⟨l[j]'(by omega),List.getElem?_eq_getElem (by omega)⟩
   obtain ⟨c0,c1⟩:=(hcc j e hx).below HB.out
   have HX:=Ql4 hx
   have HCL:=Ql4 (HP.out e wr (List.mem_of_getElem? hx) HB.out)
   cases hpe:p e
   ·have HM2:Hid (∀i x,i < j+1→l[i]? =some x→p x=false):=by
     show ∀i x,i < j+1→l[i]? =some x→p x=false
     intro i x hi hxi
     by_cases h2:i < j
     ·exact HM.out i x h2 hxi
     ·obtain rfl:i=j:=by omega
      rw [HX.out] at hxi;injection hxi with hxi;rw [←hxi];exact hpe
    rw [hpe] at HCL
    obtain ⟨f,t⟩:=e
    simp only at c0 c1
    simp only [Kid.val] at HCL
    clear hcc hx hln hpe
    go_wp2_with fail
    refine (HCL.out).mono ?_
    rintro e w5 ⟨rfl,hb5⟩
    have HB5:=Ql4 hb5
    clear hb5
    go_wp2_with fail
    go_roundw
    case rel=>exact ⟨j+1,by omega,by go_num,HM2,HB.out.trans (HB5.out.mono HB.out.size)⟩
    case measure=>simp [intOf];omega
   ·have HI:Hid (Ll p l=j):=Qie HX.out hpe HM.out
    rw [hpe] at HCL
    obtain ⟨f,t⟩:=e
    simp only at c0 c1
    simp only [Kid.val] at HCL
    clear hcc hx hln hpe
    go_wp2_with fail
    refine (HCL.out).mono ?_
    rintro e w5 ⟨rfl,hb5⟩
    have HB5:=Ql4 hb5
    clear hb5
    go_wp2_with fail
    go_ret
    exact ⟨by rw [HI.out];rfl,HB.out.trans (HB5.out.mono HB.out.size)⟩
  ·obtain rfl:j=n:=by omega
   have HI:Hid (Ll p l= -1):=Quj (fun i x hi=>HM.out i x (by have:=HN.out;omega))
   go_wp2_with fail
   go_ret
   exact ⟨by rw [HI.out];rfl,HB.out⟩
theorem Quv (p:Kid→Bool) (g:Nat) (lb:Array Value) (l:List Kid) (v:Value) (w:World) (eg:∀args w,(callFunc g args).run Tryz.prog w= .ok (.enter g args) w) (h:KidsAt w v l) (hl:l.length≤100000000)
  (hp:∀e wq,e∈l→Below w.heap.size w wq→Calls Tryz.prog g (#[e.val]++lb) wq fun x w'=>x= .returned (.bool (p e))∧Below wq.heap.size wq w'):
  Calls Tryz.prog 312 #[v,.func (.func g) #[] lb] w fun x w'=>x= .returned (.bool (l.any p))∧Below w.heap.size w w':=by
 have HI:=Ql4 (Quy p g lb l v w eg h hl hp)
 have HA:=Ql4 (Qux p l)
 obtain ⟨z,hz⟩:∃z,Ll p l=z:=⟨_,rfl⟩
 rw [hz] at HI HA
 clear h hp eg hz
 go_enter Tryz.func312,Tryz.ntmps312
 go_wp2_with fail
 refine (HI.out).mono ?_
 rintro e w5 ⟨rfl,hb5⟩
 have HB5:=Ql4 hb5
 clear hb5
 go_wp2_with fail
 go_ret
 exact ⟨by rw [←HA.out];rfl,HB5.out⟩
theorem Qeg (k:Kid) (p:Nat) (s:Int) (w:World) (hp:w.cell? ⟨p,1,none⟩=some (.int .i64 s)):Calls Tryz.prog 313 #[k.val,.pointer (some ⟨p,0,none⟩)] w fun x w'=>x= .returned (.bool (decide (k.at_=s)))∧Below w.heap.size w w':=by
 obtain ⟨f,t⟩:=k
 show Calls Tryz.prog 313 #[.agg #[.int .i64 f,.int .i64 t],.pointer (some ⟨p,0,none⟩)] w _
 have hb:=(Below.refl w.heap.size w).alloc (Nat.le_refl _) (.cells #[.int .i64 f,.int .i64 t] 355)
 have c1:=Qq hb hp
 have HB:=Ql4 hb
 clear hp hb
 go_enter Tryz.func313,Tryz.ntmps313
 go_wp2_with fail
 go_ret
 exact ⟨by first|rfl|(rw [Qe8];rfl),HB.out⟩
def Og (k:Kid):Bool:=decide (0≤k.key) && decide (k.key < 16777216) && decide (0≤k.at_) && decide (k.at_ < 2048)
structure KidsOk (l:List Kid):Prop where
 each:∀k∈l,Og k=true
 inc:l.Pairwise fun a b=>a.key < b.key
 ne:l.Pairwise fun a b=>a.at_≠b.at_
theorem KidsOk.nil:KidsOk []:=⟨by simp,.nil,.nil⟩
theorem KidsOk.take {l:List Kid} (h:KidsOk l) (j:Nat):KidsOk (l.take j):=⟨fun k hk=>h.each k (List.mem_of_mem_take hk),h.inc.sublist (List.take_sublist _ _),h.ne.sublist (List.take_sublist _ _)⟩
theorem Ux {l:List Kid} {j:Nat} {k:Kid} (h:l[j]? =some k):l.take (j+1)=l.take j++[k]:=by rw [List.take_add_one,h];rfl
theorem KidsOk.next {l:List Kid} {j:Nat} {k:Kid} (h:KidsOk (l.take j)) (hk:l[j]? =some k) (h1:Og k=true) (h2:∀p i,j=i+1→l[i]? =some p→p.key < k.key) (h3:(l.take j).any (fun o=>decide (o.at_=k.at_))=false):KidsOk (l.take (j+1)):=by
 rw [Ux hk]
 refine ⟨fun x hx=>?_,?_,?_⟩
 ·rcases List.mem_append.1 hx with hx|hx
  ·exact h.each x hx
  ·rw [List.mem_singleton.1 hx];exact h1
 ·refine List.pairwise_append.2 ⟨h.inc,by simp,fun x hx y hy=>?_⟩
  rw [List.mem_singleton.1 hy]
  have hj:0 < j:=by
   cases j with
   |zero=>simp at hx
   |succ j=>omega
  obtain ⟨i,rfl⟩:∃i,j=i+1:=⟨j - 1,by omega⟩
  have hjl:=(List.getElem?_eq_some_iff.1 hk).1
  have hp:l[i]? =some (l[i]'(by omega)):=List.getElem?_eq_getElem (by omega)
  have h4:=h2 _ i rfl hp
  rw [Ux hp] at hx
  rcases List.mem_append.1 hx with hx|hx
  ·have h5:=h.inc
   rw [Ux hp] at h5
   have:=(List.pairwise_append.1 h5).2.2 x hx _ (List.mem_singleton.2 rfl)
   omega
  ·rw [List.mem_singleton.1 hx];exact h4
 ·refine List.pairwise_append.2 ⟨h.ne,by simp,fun x hx y hy=>?_⟩
  rw [List.mem_singleton.1 hy]
  rw [List.any_eq_false] at h3
  have:=h3 x hx
  simpa using this
theorem KidsOk.bad {l:List Kid} {j:Nat} {k:Kid} (hk:l[j]? =some k) (h:Og k=false∨(∃p i,j=i+1∧l[i]? =some p∧k.key≤p.key)∨(l.take j).any (fun o=>decide (o.at_=k.at_))=true):¬KidsOk l:=by
 intro hl
 rcases h with h|⟨p,i,rfl,hp,h⟩|h
 ·rw [hl.each k (List.mem_of_getElem? hk)] at h;cases h
 ·obtain ⟨i1,e1⟩:=List.getElem?_eq_some_iff.1 hp
  obtain ⟨i2,e2⟩:=List.getElem?_eq_some_iff.1 hk
  have:=List.pairwise_iff_getElem.1 hl.inc i (i+1) i1 i2 (by omega)
  rw [e1,e2] at this
  omega
 ·obtain ⟨o,ho,he⟩:=List.any_eq_true.1 h
  have h2:=(hl.take (j+1)).ne
  rw [Ux hk] at h2
  have:=(List.pairwise_append.1 h2).2.2 o ho k (List.mem_singleton.2 rfl)
  simp at he
  exact this he
def Co (l:List Kid) (w:World) (x:Ending) (w':World):Prop:=∃b,x= .returned (.bool b)∧(b=true↔2≤l.length∧l.length≤8∧KidsOk l)∧Below w.heap.size w w'
set_option maxHeartbeats 8000000 in
set_option maxRecDepth 100000 in
theorem Vr (l:List Kid) (v:Value) (w:World) (h:KidsAt w v l) (hl:l.length≤100000000):Calls Tryz.prog 292 #[v] w (Co l w):=by
 have HKA:=Ql4 h
 obtain ⟨A,c,rfl,⟨hcap1,hcap2⟩,hcc⟩:=h
 have HC:=Ql4 hcc
 obtain ⟨n,hn⟩:∃n,l.length=n:=⟨_,rfl⟩
 have HN:=Ql4 hn
 rw [hn] at hl hcap1 HC HKA ⊢
 have hni:(n:Int)≤100000000:=by omega
 have hci:(n:Int)≤(c:Int):=by omega
 have hcm:(c:Int)≤9223372036854775807:=by simp only [maxLen] at hcap2;omega
 have HYES:Hid (∀w',2≤n→n≤8→KidsOk l→Below w.heap.size w w'→Co l w (.returned (.bool true)) w'):=fun w' h1 h2 h3 hb=>⟨true,rfl,by rw [HN.out];exact ⟨fun _=>⟨h1,h2,h3⟩,fun _=>rfl⟩,hb⟩
 have HNO:Hid (∀w',¬(2≤n∧n≤8∧KidsOk l)→Below w.heap.size w w'→Co l w (.returned (.bool false)) w'):=fun w' h1 hb=>⟨false,rfl,by rw [HN.out];exact ⟨fun h=>(by cases h),fun h=>absurd h h1⟩,hb⟩
 clear hcc hn hcap2
 go_enter Tryz.func292,Tryz.ntmps292
 by_cases h2:2≤n
 ·have h2i:¬(n:Int) < 2:=by omega
  by_cases h8:n≤8
  ·have h8i:¬(8:Int) < (n:Int):=by omega
   have H2:=Ql4 h2
   have H8:=Ql4 h8
   clear h2 h8
   go_wp2_with fail
   go_loopw [3,15] (fun s3 i wr=>∃j:Nat,j≤n∧i= .int .i64 j∧Hid (KidsOk (l.take j))∧Hid (Below w.heap.size w wr)) (fun _ i _=>n - (intOf i).toNat)
   case atStart=>exact ⟨0,Nat.zero_le _,rfl,by show KidsOk _;rw [List.take_zero];exact KidsOk.nil,Below.refl _ _⟩
   case round=>
    obtain ⟨j,hj,rfl,HKO,HB⟩:=hrel
    by_cases hlt:j < n
    ·have hji:(j:Int) < (n:Int):=by omega
     obtain ⟨g,o,rfl,hc⟩:=HC.out (by omega)
     obtain ⟨k,hk⟩:∃k,l[j]? =some k:=⟨_,List.getElem?_eq_getElem (by rw [HN.out];exact hlt)⟩
     obtain ⟨c0,c1⟩:=(hc j k hk).below HB.out
     have HK:=Ql4 hk
     have HHC:=Ql4 hc
     have hszr:=HB.out.size
     obtain ⟨ky,ka⟩:=k
     simp only at c0 c1
     have HWK:=Ql4 (Whole.new wr 355 #[.int .i64 ky,.int .i64 ka])
     have HBA:Hid (Below w.heap.size w (wr.alloc (.cells #[.int .i64 ky,.int .i64 ka] 355))):=HB.out.alloc hszr _
     have e0:(wr.alloc (.cells #[.int .i64 ky,.int .i64 ka] 355)).cell? ⟨wr.heap.size,0,none⟩=some (.int .i64 ky):=HWK.out.cell 0
     have e1:(wr.alloc (.cells #[.int .i64 ky,.int .i64 ka] 355)).cell? ⟨wr.heap.size,1,none⟩=some (.int .i64 ka):=HWK.out.cell 1
     have HNOQ:Hid (∀m,¬KidsOk l→Co l w (.returned (.bool false)) ((wr.alloc (.cells #[.int .i64 ky,.int .i64 ka] 355)).drewN m)):=fun m hbad=>HNO.out _ (fun h=>hbad h.2.2) (below_drewN HBA.out _)
     clear hc hk hszr
     by_cases k1:ky < 0
     ·have k1d:decide (ky < 0)=true:=by simpa using k1
      have HBAD:Hid (¬KidsOk l):=KidsOk.bad HK.out (.inl (by unfold Og;simp;omega))
      clear k1
      go_wp2_with fail
      go_quiet (fail)
      go_wp2_with fail
      go_ret
      exact HNOQ.out _ HBAD.out
     ·have k1d:decide (ky < 0)=false:=by simpa using k1
      by_cases k2:16777216≤ky
      ·have k2d:decide ((16777216:Int)≤ky)=true:=by simpa using k2
       have HBAD:Hid (¬KidsOk l):=KidsOk.bad HK.out (.inl (by unfold Og;simp;omega))
       clear k2
       go_wp2_with fail
       go_quiet (fail)
       go_wp2_with fail
       go_ret
       exact HNOQ.out _ HBAD.out
      ·have k2d:decide ((16777216:Int)≤ky)=false:=by simpa using k2
       by_cases k3:ka < 0
       ·have k3d:decide (ka < 0)=true:=by simpa using k3
        have HBAD:Hid (¬KidsOk l):=KidsOk.bad HK.out (.inl (by unfold Og;simp;omega))
        clear k3
        go_wp2_with fail
        go_quiet (fail)
        go_wp2_with fail
        go_ret
        exact HNOQ.out _ HBAD.out
       ·have k3d:decide (ka < 0)=false:=by simpa using k3
        by_cases k4:2048≤ka
        ·have k4d:decide ((2048:Int)≤ka)=true:=by simpa using k4
         have HBAD:Hid (¬KidsOk l):=KidsOk.bad HK.out (.inl (by unfold Og;simp;omega))
         clear k4
         go_wp2_with fail
         go_quiet (fail)
         go_wp2_with fail
         go_ret
         exact HNOQ.out _ HBAD.out
        ·have k4d:decide ((2048:Int)≤ka)=false:=by simpa using k4
         have HKB:Hid (Og ⟨ky,ka⟩=true):=by show _=_;unfold Og;simp;omega
         have HKD:Hid ((l.take j).any (fun o=>decide (o.at_=ka))=true→¬KidsOk l):=fun h=>KidsOk.bad HK.out (.inr (.inr h))
         have HCON:Hid (∀wq,Below (wr.alloc (.cells #[.int .i64 ky,.int .i64 ka] 355)).heap.size (wr.alloc (.cells #[.int .i64 ky,.int .i64 ka] 355)) wq→Calls Tryz.prog 312 #[.slice (some ⟨g,o,none⟩) j c,.func (.func 313) #[] #[.pointer (some ⟨wr.heap.size,0,none⟩)]] wq fun x w'=>x= .returned (.bool ((l.take j).any fun o=>decide (o.at_=ka)))∧Below wq.heap.size wq w'):=by
          intro wq hb
          have hkw:=(HKA.out.below (HBA.out.trans (hb.mono HBA.out.size))).take j (by omega)
          refine Quv (fun o=>decide (o.at_=ka)) 313 #[.pointer (some ⟨wr.heap.size,0,none⟩)] (l.take j) _ wq (fun _ _=>by kernel_rfl) hkw (by rw [List.length_take,HN.out];omega) (fun e w9 _ hb9=>?_)
          have h9:=(HWK.out.below hb (by simp)).below hb9 (by have:=hb.size;simp at this;omega)
          have:=Qeg e wr.heap.size ka w9 (h9.cell 1)
          simpa using this
         have HNXT:Hid ((∀p i,j=i+1→l[i]? =some p→p.key < ky)→(l.take j).any (fun o=>decide (o.at_=ka))=false→KidsOk (l.take (j+1))):=fun h1 h2=>KidsOk.next HKO.out HK.out HKB.out h1 h2
         have HBB:Hid (∀wq,Below (wr.alloc (.cells #[.int .i64 ky,.int .i64 ka] 355)).heap.size (wr.alloc (.cells #[.int .i64 ky,.int .i64 ka] 355)) wq→Below w.heap.size w wq):=fun wq hb=>HBA.out.trans (hb.mono HBA.out.size)
         clear k1 k2 k3 k4
         obtain ⟨any,hany⟩:∃any,(l.take j).any (fun o=>decide (o.at_=ka))=any:=⟨_,rfl⟩
         rw [hany] at HKD HCON HNXT
         clear hany
         have hjc:(j:Int)≤(c:Int):=by omega
         by_cases hj0:j=0
         ·have hj0d:decide (0 < j)=false:=by simp [hj0]
          have HPRE:Hid (∀p i,j=i+1→l[i]? =some p→p.key < ky):=fun p i h=>by omega
          clear hj0
          go_wp2_with fail
          go_quiet (fail)
          generalize hwq:World.drewN _ _=wq
          have HBQ:Hid (Below (wr.alloc (.cells #[.int .i64 ky,.int .i64 ka] 355)).heap.size (wr.alloc (.cells #[.int .i64 ky,.int .i64 ka] 355)) wq):=by show Below _ _ _;rw [←hwq];exact below_drewN (Below.refl _ _) _
          clear hwq c0 c1 e0 e1
          have HCQ:=Ql4 (HCON.out wq HBQ.out)
          cases any with
          |true=>
           go_wp2_with fail
           with_reducible refine HCQ.out.mono ?_
           rintro e w5 ⟨rfl,hb5⟩
           have HB5:=Ql4 (HBB.out _ (HBQ.out.trans (hb5.mono HBQ.out.size)))
           clear hb5
           go_wp2_with fail
           go_ret
           exact HNO.out _ (fun h=>HKD.out (by first|rfl|trivial) h.2.2) HB5.out
          |false=>
           go_wp2_with fail
           with_reducible refine HCQ.out.mono ?_
           rintro e w5 ⟨rfl,hb5⟩
           have HB5:=Ql4 (HBB.out _ (HBQ.out.trans (hb5.mono HBQ.out.size)))
           clear hb5
           go_wp2_with fail
           go_roundw
           case rel=>exact ⟨j+1,by omega,by go_num,HNXT.out HPRE.out (by first|rfl|trivial),HB5.out⟩
           case measure=>simp [intOf];omega
         ·have hj0d:decide (0 < j)=true:=by simp;omega
          obtain ⟨i,hi⟩:∃i,j=i+1:=⟨j - 1,by omega⟩
          obtain ⟨p,hp⟩:∃p,l[i]? =some p:=⟨_,List.getElem?_eq_getElem (by rw [HN.out];omega)⟩
          obtain ⟨d0,d1⟩:=((HHC.out i p hp).below HB.out).below ((Below.refl _ wr).alloc (Nat.le_refl _) (.cells #[.int .i64 ky,.int .i64 ka] 355))
          have hwi:IntKind.i64.wrap ((j:Int) - 1)=(i:Int):=by rw [hi,show ((i+1:Nat):Int) - 1=(i:Int) by omega];simp [IntKind.wrap,IntKind.bits,IntKind.signed];omega
          have hii:(i:Int) < (n:Int):=by omega
          have HP:=Ql4 hp
          have HI:=Ql4 hi
          obtain ⟨py,pa⟩:=p
          simp only at d0 d1
          clear hj0 hp hi
          by_cases k5:ky≤py
          ·have k5d:decide (ky≤py)=true:=by simpa using k5
           have HBAD:Hid (¬KidsOk l):=KidsOk.bad HK.out (.inr (.inl ⟨_,i,HI.out,HP.out,k5⟩))
           clear k5
           go_wp2_with fail
           go_quiet (fail)
           go_wp2_with fail
           go_ret
           exact HNOQ.out _ HBAD.out
          ·have k5d:decide (ky≤py)=false:=by simpa using k5
           have HPRE:Hid (∀p i,j=i+1→l[i]? =some p→p.key < ky):=by
            intro p i2 h h2
            have:=HI.out
            obtain rfl:i2=i:=by omega
            rw [HP.out] at h2
            injection h2 with h2
            rw [←h2]
            simp only
            omega
           clear k5
           go_wp2_with fail
           go_quiet (fail)
           generalize hwq:World.drewN _ _=wq
           have HBQ:Hid (Below (wr.alloc (.cells #[.int .i64 ky,.int .i64 ka] 355)).heap.size (wr.alloc (.cells #[.int .i64 ky,.int .i64 ka] 355)) wq):=by show Below _ _ _;rw [←hwq];exact below_drewN (Below.refl _ _) _
           clear hwq c0 c1 e0 e1 d0 d1
           have HCQ:=Ql4 (HCON.out wq HBQ.out)
           cases any with
           |true=>
            go_wp2_with fail
            with_reducible refine HCQ.out.mono ?_
            rintro e w5 ⟨rfl,hb5⟩
            have HB5:=Ql4 (HBB.out _ (HBQ.out.trans (hb5.mono HBQ.out.size)))
            clear hb5
            go_wp2_with fail
            go_ret
            exact HNO.out _ (fun h=>HKD.out (by first|rfl|trivial) h.2.2) HB5.out
           |false=>
            go_wp2_with fail
            with_reducible refine HCQ.out.mono ?_
            rintro e w5 ⟨rfl,hb5⟩
            have HB5:=Ql4 (HBB.out _ (HBQ.out.trans (hb5.mono HBQ.out.size)))
            clear hb5
            go_wp2_with fail
            go_roundw
            case rel=>exact ⟨j+1,by omega,by go_num,HNXT.out HPRE.out (by first|rfl|trivial),HB5.out⟩
            case measure=>simp [intOf];omega
    ·obtain rfl:j=n:=by omega
     have hfull:l.take j=l:=by rw [←HN.out];exact List.take_length
     rw [hfull] at HKO
     clear hfull
     go_wp2_with fail
     go_ret
     exact HYES.out _ H2.out H8.out HKO.out HB.out
  ·have h8i:(8:Int) < (n:Int):=by omega
   go_wp2_with fail
   go_ret
   exact HNO.out _ (fun h=>h8 h.2.1) (Below.refl _ _)
 ·have h2i:(n:Int) < 2:=by omega
  go_wp2_with fail
  go_ret
  exact HNO.out _ (fun h=>h2 h.1) (Below.refl _ _)
def Za (k:Kid):List (Nat×Int):=[(3,k.key),(2,k.at_)]
def Jb (k:Kid):List UInt8:=Zh (Za k)
def Xi (l:List Kid):List UInt8:=UInt8.ofNat l.length::l.flatMap Jb
theorem Qex {k:Kid} (h:Og k=true):Qqo (Za k):=by
 unfold Og at h
 simp at h
 refine ⟨?_,?_,?_,?_,by simp [Za]⟩
 all_goals (intro p hp;simp only [Za,List.mem_cons,List.not_mem_nil,or_false] at hp;rcases hp with rfl|rfl <;> simp <;> omega)
theorem Vs (w:World):Calls Tryz.prog 291 #[] w fun x w'=>x= .returned (.slice (some ⟨w.heap.size,0,none⟩) 2 2)∧(∀e:Kid,WidAt w' w.heap.size (Za e))∧Below w.heap.size w w':=by
 have HW:Hid (∀e:Kid,WidAt (w.alloc (.cells #[.int .i64 3,.int .i64 2] 3)) w.heap.size (Za e)):=by
  intro e j p hp
  have hw:=Whole.new w 3 #[.int .i64 3,.int .i64 2]
  rw [hw.cell j]
  match j,hp with
  |0,hp=>simp [Za] at hp;subst hp;rfl
  |1,hp=>simp [Za] at hp;subst hp;rfl
  |j+2,hp=>simp [Za] at hp
 go_enter Tryz.func291,Tryz.ntmps291
 go_wp2_with fail
 go_ret
 exact ⟨rfl,HW.out,(Below.refl _ _).alloc (Nat.le_refl _) _⟩
set_option maxHeartbeats 4000000 in
set_option maxRecDepth 100000 in
theorem Qio (k:Kid) (w:World) (h:Og k=true):Calls Tryz.prog 297 #[k.val] w fun x w'=>∃g,x= .returned (.slice (some ⟨g,0,none⟩) 2 2)∧Oc w' g (Za k)∧Below w.heap.size w w':=by
 unfold Og at h
 simp at h
 obtain ⟨⟨⟨h1,h2⟩,h3⟩,h4⟩:=h
 obtain ⟨f,t⟩:=k
 simp only at h1 h2 h3 h4
 have HN:Hid (Oc ((w.alloc (.cells #[.int .i64 f,.int .i64 t] 355)).alloc (.cells #[.int .u64 f,.int .u64 t] 98)) (w.heap.size+1) (Za ⟨f,t⟩)):=by
  intro j p hp
  have hw:=Whole.new' (w.alloc (.cells #[.int .i64 f,.int .i64 t] 355)) 98 #[.int .u64 f,.int .u64 t] (w.heap.size+1) (by simp)
  rw [hw.cell j]
  match j,hp with
  |0,hp=>simp [Za] at hp;subst hp;rfl
  |1,hp=>simp [Za] at hp;subst hp;rfl
  |j+2,hp=>simp [Za] at hp
 show Calls Tryz.prog 297 #[.agg #[.int .i64 f,.int .i64 t]] w _
 go_enter Tryz.func297,Tryz.ntmps297
 go_wp2_with fail
 go_ret
 exact ⟨_,rfl,HN.out,((Below.refl _ _).alloc (Nat.le_refl _) _).alloc (by simp) _⟩
theorem Hy (e:Kid):(Jb e).length=5:=by simp [Jb,Za,Zh,bytesOf_length]
theorem Me (l:List Kid):(l.flatMap Jb).length=l.length * 5:=by
 induction l with
 |nil=>rfl
 |cons e l ih=>rw [List.flatMap_cons,List.length_append,ih,Hy,List.length_cons];omega
set_option maxHeartbeats 4000000 in
set_option maxRecDepth 100000 in
theorem Qqa (l:List Kid) (v:Value) (gw:Nat) (w:World) (h:KidsAt w v l) (h1:∀e∈l,Og e=true) (h8:l.length≤8) (hw:∀e:Kid,WidAt w gw (Za e)):
  Calls Tryz.prog 296 #[v,.slice (some ⟨gw,0,none⟩) 2 2,.func (.func 297) #[] #[]] w fun x w'=>x= .returned (.tuple #[.string ⟨(Xi l).toArray⟩,.int .i64 0])∧Below w.heap.size w w':=by
 obtain ⟨A,c,rfl,hcap,hcc⟩:=h
 have HC:=Ql4 hcc
 have HW:=Ql4 hw
 have H1:=Ql4 h1
 obtain ⟨n,hn⟩:∃n,l.length=n:=⟨_,rfl⟩
 have HN:=Ql4 hn
 rw [hn] at h8 HC ⊢
 have h8i:(n:Int)≤8:=by omega
 have hcv:=run_convert_bytes_arg (P:=Tryz.prog) (w.alloc (.cells #[.int .u8 n] 5)) 127 5 Tryz.underlying127 Tryz.underlying5 w.heap.size 0 1 1 [(n:Int)] rfl (fun i hi=>by
  have hw:=Whole.new w 5 #[.int .u8 n]
  rw [Nat.zero_add,hw.cell i]
  match i,hi with
  |0,_=>rfl) 9 Tryz.underlying9
 have HS0:Hid (strOfNums [(n:Int)]=⟨([UInt8.ofNat n]:List UInt8).toArray⟩):=by show _=_;unfold strOfNums;simp
 have HLL:Hid (Xi l=[UInt8.ofNat n]++l.flatMap Jb):=by show _=_;unfold Xi;rw [HN.out];rfl
 clear hcc hw h1 hn hcap
 go_enter Tryz.func296,Tryz.ntmps296
 go_wp2_with fail
 rw [HS0.out]
 go_loopw [8,20] (fun s8 i wr=>∃j:Nat,j≤n∧i= .int .i64 j∧s8= .string ⟨([UInt8.ofNat n]++(l.take j).flatMap Jb).toArray⟩∧Hid (Below w.heap.size w wr)) (fun _ i _=>n - (intOf i).toNat)
 case atStart=>exact ⟨0,Nat.zero_le _,rfl,by simp,(Below.refl _ _).alloc (Nat.le_refl _) _⟩
 case round=>
  obtain ⟨j,hj,rfl,rfl,HB⟩:=hrel
  by_cases hlt:j < n
  ·have hji:(j:Int) < (n:Int):=by omega
   obtain ⟨g,o,rfl,hc⟩:=HC.out (by omega)
   obtain ⟨x,hx⟩:∃x,l[j]? =some x:=⟨_,List.getElem?_eq_getElem (by rw [HN.out];exact hlt)⟩
   obtain ⟨c0,c1⟩:=(hc j x hx).below HB.out
   have hone:=H1.out x (List.mem_of_getElem? hx)
   have HEN:=Ql4 (fun wq=>Qio x wq hone)
   have HROW:Hid (∀wq g,Below w.heap.size w wq→Oc wq g (Za x)→Calls Tryz.prog 54 #[.slice (some ⟨g,0,none⟩) 2 2,.slice (some ⟨gw,0,none⟩) 2 2] wq fun e w'=>e= .returned (.tuple #[.string ⟨(Jb x).toArray⟩,.int .i64 0])∧Below wq.heap.size wq w'):=fun wq g hb hn=>Qoy (Za x) g 2 gw 2 wq ((HW.out x).below hb) hn (Qex hone) 2 rfl
   have HT:Hid (⟨([UInt8.ofNat n]++(l.take j).flatMap Jb).toArray⟩++⟨(Jb x).toArray⟩=(⟨([UInt8.ofNat n]++(l.take (j+1)).flatMap Jb).toArray⟩:ByteArray)):=by
    show _=_
    rw [Qjz,Ju _ _ _ _ hx,List.append_assoc]
   have z1:(⟨([UInt8.ofNat n]++(l.take j).flatMap Jb).toArray⟩:ByteArray).size≤1000:=by
    show ([UInt8.ofNat n]++(l.take j).flatMap Jb).toArray.size≤1000
    have:(l.take j).length≤j:=by rw [List.length_take];omega
    rw [List.size_toArray,List.length_append,Me,List.length_singleton];omega
   have z2:(⟨(Jb x).toArray⟩:ByteArray).size≤1000:=by
    show (Jb x).toArray.size≤1000
    rw [List.size_toArray,Hy];omega
   obtain ⟨S,hS⟩:∃S:ByteArray,⟨([UInt8.ofNat n]++(l.take j).flatMap Jb).toArray⟩=S:=⟨_,rfl⟩
   obtain ⟨R,hR⟩:∃R:ByteArray,⟨(Jb x).toArray⟩=R:=⟨_,rfl⟩
   rw [hS] at HT z1
   rw [hR] at HT z2 HROW
   rw [hS]
   obtain ⟨f,t⟩:=x
   simp only at c0 c1
   have d0:(wr.alloc (.cells #[.int .i64 f,.int .i64 t] 355)).heap.size=wr.heap.size+1:=by simp
   have HBA:Hid (Below w.heap.size w (wr.alloc (.cells #[.int .i64 f,.int .i64 t] 355))):=HB.out.alloc (by have:=HB.out.size;omega) _
   have HEN2:Hid (∀wq,Calls Tryz.prog 297 #[.agg #[.int .i64 f,.int .i64 t]] wq fun x w'=>∃g,x= .returned (.slice (some ⟨g,0,none⟩) 2 2)∧Oc w' g (Za ⟨f,t⟩)∧Below wq.heap.size wq w'):=HEN.out
   clear hc hx hone d0 HEN hS hR
   go_wp2_with fail
   with_reducible refine (HEN2.out _).mono ?_
   rintro e w5 ⟨g5,rfl,hn5,hb5⟩
   have HB5:=Ql4 (Qa HBA.out hb5)
   have HR:=Ql4 (HROW.out _ _ HB5.out hn5)
   clear hn5 hb5
   go_wp2_with fail
   with_reducible refine HR.out.mono ?_
   rintro e w6 ⟨rfl,hb6⟩
   have HB6:=Ql4 (Qa HB5.out hb6)
   clear hb6
   go_wp2_with fail
   go_roundw
   case rel=>exact ⟨j+1,by omega,by go_num,by rw [HT.out],HB6.out⟩
   case measure=>simp [intOf];omega
  ·obtain rfl:j=n:=by omega
   have hfull:l.take j=l:=by rw [←HN.out];exact List.take_length
   rw [hfull,←HLL.out]
   clear hfull
   go_wp2_with fail
   refine bodyPost_ret (v:= .tuple #[.string ⟨(Xi l).toArray⟩,.int .i64 0]) (by simp [results,Tryz.results296,go_sem]) rfl ⟨rfl,HB.out⟩
theorem Quz (l:List Kid) (v:Value) (w:World) (h:KidsAt w v l) (h2:2≤l.length) (h8:l.length≤8) (hk:KidsOk l):
  Calls Tryz.prog 254 #[v] w fun x w'=>x= .returned (.tuple #[.string ⟨(Xi l).toArray⟩,.int .i64 0])∧Below w.heap.size w w':=by
 have HX:Hid (Calls Tryz.prog 292 #[v] w fun x w'=>x= .returned (.bool true)∧Below w.heap.size w w'):=by
  refine (Vr l v w h (by omega)).mono ?_
  rintro x w' ⟨b,rfl,hb,q⟩
  rw [hb.2 ⟨h2,h8,hk⟩]
  exact ⟨rfl,q⟩
 have HEW:=Ql4 (fun wq=>Vs wq)
 have HWR:Hid (∀wq gw,Below w.heap.size w wq→(∀e:Kid,WidAt wq gw (Za e))→Calls Tryz.prog 296 #[v,.slice (some ⟨gw,0,none⟩) 2 2,.func (.func 297) #[] #[]] wq fun x w'=>x= .returned (.tuple #[.string ⟨(Xi l).toArray⟩,.int .i64 0])∧Below wq.heap.size wq w'):=fun wq gw hb hw=>Qqa l v gw wq (h.below hb) hk.each h8 hw
 obtain ⟨A,c,rfl,hcap,hcc⟩:=h
 clear hcc hk h2 h8 hcap
 go_enter Tryz.func254,Tryz.ntmps254
 go_wp2_with fail
 with_reducible refine HX.out.mono ?_
 rintro e w5 ⟨rfl,hb5⟩
 have HB5:=Ql4 hb5
 clear hb5
 go_wp2_with fail
 with_reducible refine (HEW.out _).mono ?_
 rintro e w6 ⟨rfl,hw6,hb6⟩
 have HB6:=Ql4 (Qa HB5.out hb6)
 have HWW:=Ql4 (HWR.out _ _ HB6.out hw6)
 clear hb6 hw6
 go_wp2_with fail
 with_reducible refine HWW.out.mono ?_
 rintro e w7 ⟨rfl,hb7⟩
 have HB7:=Ql4 (Qa HB6.out hb7)
 clear hb7
 go_wp2_with fail
 refine bodyPost_ret (v:= .tuple #[.string ⟨(Xi l).toArray⟩,.int .i64 0]) (by simp [results,Tryz.results254,go_sem]) rfl ⟨rfl,HB7.out⟩
theorem Qhz:(Tryz.prog.info? 355).map (fun i=>(i.zero,i.size,i.bytes))=some (some (.agg #[.int .i64 0,.int .i64 0]),2,16):=by kernel_rfl
def G7:Pg→Int
 |.leaf _=>2
 |.inner _=>3
def Fh:Pg→ByteArray
 |.leaf l=>⟨(Ky l).toArray⟩
 |.inner ks=>⟨(Xi ks).toArray⟩
def Dr (p:Pg) (w:World) (x:Ending) (w':World):Prop:=x= .returned (.tuple #[.int .i64 (G7 p),.string (Fh p)])∧Below w.heap.size w w'
set_option maxHeartbeats 4000000 in
set_option maxRecDepth 100000 in
theorem Qu3 (w:World) (b:Nat) (F:List Nat) (n:Nd 0) (hn:NdAt w F (Zl 0 b) n) (hc:Chk n.l) (h1:1≤n.l.length) (h8:n.l.length≤8):
  Calls Tryz.prog 204 #[Zl 0 b] w (Dr (pgN n) w):=by
 obtain ⟨b',g,c,rfl,e,hl⟩:=X4 hn
 obtain rfl:=J6 e
 have HRET:Hid (Dr (pgN n) w=fun x w'=>x= .returned (.tuple #[.int .i64 2,.string ⟨(Ky n.l).toArray⟩])∧Below w.heap.size w w'):=rfl
 rw [HRET.out]
 have HLE:=Ql4 (Qiu n.l _ w hl.2.exts hc h1 h8)
 have c1:=hl.1.cell 1
 simp at c1
 have hta:=Qbi
 obtain ⟨m,hm⟩:∃m,n.l.length=m:=⟨_,rfl⟩
 rw [hm] at c1 HLE
 obtain ⟨S,hS⟩:∃S:ByteArray,⟨(Ky n.l).toArray⟩=S:=⟨_,rfl⟩
 rw [hS] at HLE ⊢
 clear hl hn e hc h1 h8 hm HRET hS
 show Calls Tryz.prog 204 #[.iface 348 (.pointer (some ⟨b,0,none⟩))] w _
 go_enter Tryz.func204,Tryz.ntmps204
 go_wp2_with fail
 with_reducible refine HLE.out.mono ?_
 rintro e w5 ⟨rfl,hb5⟩
 have HB5:=Ql4 hb5
 clear hb5
 go_wp2_with fail
 refine bodyPost_ret (v:= .tuple #[.int .i64 2,.string S]) (by simp [results,Tryz.results204,go_sem]) rfl ⟨rfl,HB5.out⟩
set_option maxHeartbeats 8000000 in
set_option maxRecDepth 100000 in
theorem Qkp (w:World) (h b:Nat) (F:List Nat) (n:Nd (h+1)) (hn:NdAt w F (Zl (h+1) b) n) (hk:Kw n) (h2:2≤n.ks.length) (h8:n.ks.length≤8) (hko:KidsOk (Xr n)):
  Calls Tryz.prog 204 #[Zl (h+1) b] w (Dr (pgN n) w):=by
 obtain ⟨b',q,c,ds,rfl,e,hin,ek⟩:=Jv hn
 obtain rfl:=J6 e
 have HRET:Hid (Dr (pgN n) w=fun x w'=>x= .returned (.tuple #[.int .i64 3,.string ⟨(Xi (Xr n)).toArray⟩])∧Below w.heap.size w w'):=rfl
 rw [HRET.out]
 have hlen:n.ks.length=ds.length:=by rw [ek,List.length_map]
 obtain ⟨ks,hks⟩:∃ks,Xr n=ks:=⟨_,rfl⟩
 obtain ⟨m,hm⟩:∃m,ds.length=m:=⟨_,rfl⟩
 have hkl:ks.length=m:=by rw [←hks];unfold Xr;rw [List.length_map,hlen,hm]
 have HKD:Hid (∀j,j < m→∃(kb:Nat) (k:Kid),ks[j]? =some k∧w.cell? ⟨q,j,none⟩=some (.iface (ndT h) (.pointer (some ⟨kb,0,none⟩)))∧w.cell? ⟨kb,0,none⟩=some (.int .i64 k.at_)∧∀wq,Below w.heap.size w wq→Calls Tryz.prog (fiF h) #[.pointer (some ⟨kb,0,none⟩)] wq fun e w'=>e= .returned (.int .i64 k.key)∧wq=w'):=by
  intro j hj
  have hjl:j < ds.length:=by omega
  have hd:=List.getElem?_eq_getElem hjl
  have hmem:=List.getElem_mem hjl
  obtain ⟨kb,kF,f1,f2⟩:=(hin.2.2 _ hmem).form
  have hkw:Wf (ds[j]'hjl).2.2:=hk.mem (by rw [ek];exact List.mem_map.2 ⟨_,hmem,rfl⟩)
  have hnd:=hin.2.2 _ hmem
  rw [f2] at hnd
  refine ⟨kb,⟨Qb (ds[j]'hjl).2.2,(ds[j]'hjl).2.2.at_⟩,?_,?_,?_,fun wq hb=>?_⟩
  ·rw [←hks]
   unfold Xr
   rw [ek,List.map_map,List.getElem?_map,hd]
   rfl
  ·rw [←f2]
   exact hin.2.1.cell (by rw [List.getElem?_map,hd];rfl)
  ·obtain ⟨L,hL⟩:∃L,(ds[j]'hjl).2.2=L:=⟨_,rfl⟩
   rw [hL] at hnd ⊢
   clear hL
   cases h with
   |zero=>
    obtain ⟨b2,g2,c2,_,e2,hl2⟩:=X4 hnd
    obtain rfl:=J6 e2
    exact hl2.1.cell 0
   |succ h=>
    obtain ⟨b2,q2,c2,ds2,_,e2,hl2,_⟩:=Jv hnd
    obtain rfl:=J6 e2
    exact hl2.1.cell 0
  ·exact Uu wq h kb _ _ (hnd.keep (Keep.below (F:=fun _=>False) hb) (fun _ _ h=>h)) hkw.2 (by have:=hkw.1;omega)
 have HIN:Hid (∀wq A c,wq.ownsRow w.heap.size 355 2 (.slice A m c) m (Qt ks)→Calls Tryz.prog 254 #[.slice A m c] wq fun x w'=>x= .returned (.tuple #[.string ⟨(Xi ks).toArray⟩,.int .i64 0])∧Below wq.heap.size wq w'):=by
  intro wq A c ho
  rw [hks] at hko
  exact Quz ks _ wq (KidsAt.own ho).1 (by omega) (by omega) hko
 have c1:w.cell? ⟨b,1,none⟩=some (.slice (some ⟨q,0,none⟩) m c):=by have:=hin.1.cell 1;rw [hm] at this;exact this
 rw [hks]
 obtain ⟨S,hS⟩:∃S:ByteArray,⟨(Xi ks).toArray⟩=S:=⟨_,rfl⟩
 rw [hS] at HIN ⊢
 have HSN:Hid (∀j k,ks[j]? =some k→Qt (ks.take (j+1))=Qt (ks.take j)++[.int .i64 k.key,.int .i64 k.at_]):=fun j k hk=>by rw [Ux hk,Io]
 have HKL:=Ql4 hkl
 have hmi:(m:Int)≤8:=by omega
 have hta:=Sr
 have htb:=Qba
 have hmf:=fun b w=>Qy1 (.pointer (some ⟨b,0,none⟩)) w h
 have hef:=fun b w=>Qus #[.pointer (some ⟨b,0,none⟩)] w h
 have hmw:=fun b w=>Qcy (.pointer (some ⟨b,0,none⟩)) w h
 have hew:=fun b w=>Qcm #[.pointer (some ⟨b,0,none⟩)] w h
 have HWH:=Ql4 (fun wq b=>D6 wq b h)
 obtain ⟨i0,hi0,hz0,hz1,hz2⟩:=info_parts Qhz
 have HI0:=Ql4 hi0
 have HZ0:=Ql4 hz0
 have HZ1:=Ql4 hz1
 have HZ2:=Ql4 hz2
 clear hi0 hz0 hz1 hz2 hkl hS hks hlen ek hin hn hk h2 h8 hko e HRET hm
 show Calls Tryz.prog 204 #[.iface 297 (.pointer (some ⟨b,0,none⟩))] w _
 go_enter Tryz.func204,Tryz.ntmps204
 go_wp2_with fail
 go_loopw [8,10,34] (fun s8 s10 i wr=>∃(j:Nat) (B:Option Addr) (d:Nat),j≤m∧i= .int .i64 j∧s8= .slice B j d∧Hid (wr.ownsRow w.heap.size 355 2 (.slice B j d) j (Qt (ks.take j)))∧Hid (Below w.heap.size w wr)) (fun _ _ i _=>m - (intOf i).toNat)
 case atStart=>exact ⟨0,none,0,Nat.zero_le _,rfl,rfl,⟨rfl,.inl ⟨rfl,rfl⟩⟩,Below.refl _ _⟩
 case round=>
  obtain ⟨j,B,d,hj,rfl,rfl,HO,HB⟩:=hrel
  by_cases hlt:j < m
  ·have hji:(j:Int) < (m:Int):=by omega
   have hj0:(0:Int)≤(j:Int):=by omega
   obtain ⟨kb,k,k1,k2,k3,k4⟩:=HKD.out j hlt
   have d1:=Qq HB.out k2
   have d2:=Qq HB.out k3
   have HFI:=Ql4 (k4 wr HB.out)
   have HTC:=Ql4 (HSN.out j k k1)
   obtain ⟨ky,ka⟩:=k
   simp only at d2 HFI HTC
   have HOA:=Ql4 (HO.out.alloc (.cells #[.int .i64 ky,.int .i64 ka] 355))
   have HNW:Hid (∀(j':Nat) (u:Value),([.int .i64 ky,.int .i64 ka]:List Value)[j']? =some u→(wr.alloc (.cells #[.int .i64 ky,.int .i64 ka] 355)).cell? ((⟨wr.heap.size,0,none⟩:Addr).add j')=some u):=World.news_of_block (by simpa using heap_alloc_new wr (.cells #[.int .i64 ky,.int .i64 ka] 355))
   have hone:∀u∈([.int .i64 ky,.int .i64 ka]:List Value),u.oneCell'=true:=by simp [Value.oneCell']
   have HONE:=Ql4 hone
   have hszr:=HB.out.size
   have HSZ2:Hid (w.heap.size≤(wr.alloc (.cells #[.int .i64 ky,.int .i64 ka] 355)).heap.size):=by show _≤_;simp only [World.size_alloc];omega
   have HSZ3:=Ql4 hszr
   clear hone hszr k1 k2 k3 k4
   go_wp2_with fail
   refine HFI.out.mono ?_
   rintro e w5 ⟨rfl,rfl⟩
   go_wp2_with fail
   refine (HWH.out _ kb).mono ?_
   rintro e w5 ⟨rfl,rfl⟩
   go_wp2_with (at_builtin;go_must (refine wpList_append_own _ rfl (.tmp 38) (.tmp 46) 351 rfl w.heap.size 355 i0 _ 2 16 Tryz.underlying351 HI0.out HZ0.out HZ1.out HZ2.out rfl (by omega) (.slice B j d) j (Qt (ks.take j)) rfl HOA.out ⟨wr.heap.size,0,none⟩ 1 1 [.int .i64 ky,.int .i64 ka] rfl rfl HNW.out HONE.out (by simp only [maxLen];omega) (by omega) HSZ2.out ?_;intro v2 w6 hown6 hg6 _;have HO6:=Ql4 hown6;have HB6:=Ql4 (Q4 HO.out hg6 HSZ3.out);obtain ⟨A2,c2',e2⟩:=Qk hown6;subst e2;clear hown6 hg6))
   have hmeas:m - (intOf (.int .i64 ((j:Int)+1))).toNat < m - (intOf (.int .i64 (j:Int))).toNat:=by simp [intOf];omega
   refine ⟨⟨j+1,A2,c2',?_,?_,rfl,?_,?_⟩,hmeas⟩
   ·omega
   ·go_num
   ·rw [HTC.out];with_reducible exact HO6
   ·exact HB.out.trans HB6.out
  ·obtain rfl:j=m:=by omega
   have hfull:ks.take j=ks:=by rw [←HKL.out];exact List.take_length
   rw [hfull] at HO
   clear hfull
   have HII:=Ql4 (HIN.out _ _ _ HO.out)
   go_wp2_with fail
   with_reducible refine HII.out.mono ?_
   rintro e w5 ⟨rfl,hb5⟩
   have HB5:=Ql4 (Qa HB.out hb5)
   clear hb5
   go_wp2_with fail
   refine bodyPost_ret (v:= .tuple #[.int .i64 3,.string S]) (by simp [results,Tryz.results204,go_sem]) rfl ⟨rfl,HB5.out⟩
def Qqy:{h:Nat}→Nd h→Prop
 |0,n=>Chk n.l∧1≤n.l.length∧n.l.length≤8
 |_+1,n=>Kw n∧2≤n.ks.length∧n.ks.length≤8∧KidsOk (Xr n)
theorem Qaj (w:World) (b:Nat) (F:List Nat):∀{h:Nat} (n:Nd h),NdAt w F (Zl h b) n→Qqy n→Calls Tryz.prog 204 #[Zl h b] w (Dr (pgN n) w)
 |0,n,hn,ho=>Qu3 w b F n hn ho.1 ho.2.1 ho.2.2
 |h+1,n,hn,ho=>Qkp w h b F n hn ho.1 ho.2.1 ho.2.2.1 ho.2.2.2
end tr
namespace tr
open Go.RowKit er
end tr
namespace tr
open Go.RowKit er
theorem O9 {h:Nat} {k:Nd h} (hk:Kw k) (h1:1≤k.size) (hc:Chk (flat k)):0≤Qb k∧Qb k < 16777216:=by
 obtain ⟨e,r,hf,he⟩:=Du k hk h1
 have:=Qy (hc.one e (by rw [hf];simp))
 rw [he];omega
theorem Ha {h:Nat}:∀(ks:List (Nd h)),(∀k∈ks,Wf k)→Inc (Qm ks)→ks.Pairwise fun a b=>Qb a < Qb b
 |[],_,_=>.nil
 |k::r,hw,hi=>by
  rw [Q8] at hi
  obtain ⟨i1,i2,i3⟩:=List.pairwise_append.1 hi
  refine List.pairwise_cons.2 ⟨fun b hb=>?_,Ha r (fun x hx=>hw x (by simp [hx])) i2⟩
  have hwk:=hw k (by simp)
  have hwb:=hw b (by simp [hb])
  obtain ⟨e,t,e1,e2⟩:=Du k hwk.2 (by have:=hwk.1;omega)
  obtain ⟨e',t',f1,f2⟩:=Du b hwb.2 (by have:=hwb.1;omega)
  rw [e2,f2]
  exact i3 e (by rw [e1];simp) e' (List.mem_flatMap.2 ⟨b,hb,by rw [f1];simp⟩)
theorem Qej {h:Nat} {m:Nd (h+1)} (hk:Kw m) (hc:Chk (flat m)) (hr:∀a∈m.ks.map Nd.at_,0≤a∧a < 2048) (hn:(m.ks.map Nd.at_).Nodup):KidsOk (Xr m):=by
 have hks:∀k∈m.ks,Wf k:=fun k hm=>hk.mem hm
 refine ⟨fun x hx=>?_,?_,?_⟩
 ·obtain ⟨k,hm,rfl⟩:=List.mem_map.1 hx
  have hw:=hks k hm
  have hck:Chk (flat k):=by
   obtain ⟨P,Q,e⟩:=List.append_of_mem hm
   have:Chk (Qm m.ks):=hc
   rw [e,Kq,Q8] at this
   exact this.right.left
  have h1:=O9 hw.2 (by have:=hw.1;omega) hck
  have h2:=hr _ (List.mem_map.2 ⟨k,hm,rfl⟩)
  unfold Og
  simp;omega
 ·exact List.pairwise_map.2 (Ha m.ks hks (Qaq hc))
 ·have:=List.pairwise_map.1 hn
  exact List.pairwise_map.2 this
theorem Qj8:∀{h:Nat} (n:Nd h),∃A,ats n=A++[n.at_]
 |0,n=>⟨[],rfl⟩
 |h+1,n=>⟨_,rfl⟩
theorem Vp {h:Nat}:∀(ks:List (Nd h)),(ks.map Nd.at_).Sublist (ks.flatMap ats)
 |[]=>List.Sublist.refl _
 |k::r=>by
  obtain ⟨A,e⟩:=Qj8 k
  rw [List.map_cons,List.flatMap_cons,e,List.append_assoc]
  exact ((Vp r).cons_cons k.at_).trans (List.sublist_append_right A _)
theorem Qi9 {n:List Int} {j:Nat} {a:Int} (h:n[j]? =some a):((n.take (j+1)).filter fun a=>decide (a= -1)).length=((n.take j).filter fun a=>decide (a= -1)).length+if a= -1 then 1 else 0:=by
 rw [List.take_add_one,h,List.filter_append,List.length_append]
 by_cases e:a= -1 <;> simp [e]
theorem Qx6 {l:List Int} {j:Nat} {a:Int} (hj:l[j]? =some (-1)) (ha:a≠-1):∃P Q,l=P++(-1)::Q∧P.length=j∧l.set j a=P++a::Q:=by
 obtain ⟨hl,he⟩:=List.getElem?_eq_some_iff.1 hj
 refine ⟨l.take j,l.drop (j+1),?_,by rw [List.length_take];omega,?_⟩
 ·rw [←he,←List.drop_eq_getElem_cons hl,List.take_append_drop]
 ·rw [List.set_eq_take_append_cons_drop,if_pos hl]
theorem Rt {w:World} {F:List Nat} {h b:Nat} {n:Nd h} (hn:NdAt w F (Zl h b) n):w.cell? ⟨b,0,none⟩=some (.int .i64 n.at_)∧w.frozen? ⟨b,0,none⟩=false:=by
 cases h with
 |zero=>
  obtain ⟨b2,g2,c2,_,e2,hl2⟩:=X4 hn
  obtain rfl:=J6 e2
  exact ⟨hl2.1.cell 0,hl2.1.fz 0⟩
 |succ h=>
  obtain ⟨b2,q2,c2,ds2,_,e2,hl2,_⟩:=Jv hn
  obtain rfl:=J6 e2
  exact ⟨hl2.1.cell 0,hl2.1.fz 0⟩
theorem Qiv (l:List Int) (j:Nat) (h:l[j]? =some (-1)):((l.take j).filter fun a=>decide (a= -1)).length+1≤(l.filter fun a=>decide (a= -1)).length:=by
 have h1:=Qi9 h
 rw [if_pos rfl] at h1
 rw [←h1]
 exact ((List.take_sublist _ _).filter _).length_le
end tr
namespace tr
open Go.RowKit er
def Xo:List Int→List Pg→List Int→List (Pg×Int)
 |a::xs,p::ps,b::bs=>(if a= -1 then [(p,b)] else [])++Xo xs ps bs
 |_,_,_=>[]
theorem Ee:∀(xs:List Int) (ps:List Pg) (bs:List Int) (a:Int) (p:Pg) (b:Int),xs.length=ps.length→xs.length=bs.length→Xo (xs++[a]) (ps++[p]) (bs++[b])=Xo xs ps bs++if a= -1 then [(p,b)] else []
 |[],[],[],a,p,b,_,_=>by simp [Xo]
 |x::xs,q::ps,y::bs,a,p,b,h1,h2=>by
  have ih:=Ee xs ps bs a p b (by simpa using h1) (by simpa using h2)
  simp only [List.cons_append,Xo,ih,List.append_assoc]
 |[],[],_::_,_,_,_,_,h=>by simp at h
 |[],_::_,_,_,_,_,h,_=>by simp at h
 |_::_,[],_,_,_,_,h,_=>by simp at h
 |_::_,_::_,[],_,_,_,_,h=>by simp at h
theorem Vi:∀(xs:List Int) (ps:List Pg) (bs:List Int),xs.length=ps.length→xs.length=bs.length→(Xo xs ps bs).length=(xs.filter fun a=>decide (a= -1)).length
 |[],[],[],_,_=>rfl
 |x::xs,q::ps,y::bs,h1,h2=>by
  have ih:=Vi xs ps bs (by simpa using h1) (by simpa using h2)
  unfold Xo
  rw [List.length_append,ih,List.filter_cons]
  by_cases e:x= -1 <;> simp [e]
  omega
 |[],[],_::_,_,h=>by simp at h
 |[],_::_,_,h,_=>by simp at h
 |_::_,[],_,h,_=>by simp at h
 |_::_,_::_,[],_,h=>by simp at h
def Run {σ:Type} (step:σ→Pg→Int→σ→Prop):σ→List (Pg×Int)→σ→Prop
 |s,[],t=>t=s
 |s,x::l,t=>∃u,step s x.1 x.2 u∧Run step u l t
theorem Tg {σ:Type} {step:σ→Pg→Int→σ→Prop}:∀{l:List (Pg×Int)} {s t u:σ} {p:Pg} {a:Int},Run step s l t→step t p a u→Run step s (l++[(p,a)]) u
 |[],s,t,u,p,a,h,h2=>by
  obtain rfl:t=s:=h
  exact ⟨u,h2,rfl⟩
 |x::l,s,t,u,p,a,⟨v,h1,h3⟩,h2=>⟨v,h1,Tg h3 h2⟩
structure WrS {σ:Type} (step:σ→Pg→Int→σ→Prop) {h:Nat} (n:Nd h) (s0:σ) (j:Nat) (n':Nd h) (s:σ):Prop where
 strip:strip n'=strip n
 low:∀(i:Nat) (a:Int),i < j→(ats n')[i]? =some a→a≠-1
 hi:∀(i:Nat),j≤i→(ats n')[i]? =(ats n)[i]?
 old:∀(i:Nat) (a:Int),(ats n)[i]? =some a→a≠-1→(ats n')[i]? =some a
 run:Run step s0 (Xo ((ats n).take j) ((pgs n').take j) ((ats n').take j)) s
 pos:∀x∈Xo ((ats n).take j) ((pgs n').take j) ((ats n').take j),0≤x.2∧x.2 < 2048
 nd:(nfs n').Nodup
 rng:∀a∈nfs n',a∈nfs n∨a∈(Xo ((ats n).take j) ((pgs n').take j) ((ats n').take j)).map (·.2)
section
variable {σ:Type} {step:σ→Pg→Int→σ→Prop}
theorem WrS.start {h:Nat} {n:Nd h} {s0:σ} (hn:(nfs n).Nodup):WrS step n s0 0 n s0:=
 ⟨rfl,fun i a hi=>by omega,fun i _=>rfl,fun i a h _=>h,rfl,fun x hx=>by simp [Xo] at hx,hn,fun a ha=>.inl ha⟩
theorem WrS.lens {h:Nat} {n n':Nd h} {s0 s:σ} {j:Nat} (hs:WrS step n s0 j n' s):(ats n).length=(pgs n').length∧(ats n).length=(ats n').length:=by
 rw [Zf,Un,Zf,←Xg n',hs.strip,Xg]
 exact ⟨rfl,rfl⟩
theorem WrS.skip {h:Nat} {n n':Nd h} {s0 s:σ} {j:Nat} {a:Int} (hs:WrS step n s0 j n' s) (ha:(ats n)[j]? =some a) (hne:a≠-1):WrS step n s0 (j+1) n' s:=by
 obtain ⟨l1,l2⟩:=hs.lens
 have hj:=(List.getElem?_eq_some_iff.1 ha).1
 obtain ⟨p,hp⟩:∃p,(pgs n')[j]? =some p:=⟨_,List.getElem?_eq_getElem (by omega)⟩
 obtain ⟨b0,hb0⟩:∃b,(ats n')[j]? =some b:=⟨_,List.getElem?_eq_getElem (by omega)⟩
 have e:Xo ((ats n).take (j+1)) ((pgs n').take (j+1)) ((ats n').take (j+1))=Xo ((ats n).take j) ((pgs n').take j) ((ats n').take j):=by
  rw [List.take_add_one,List.take_add_one,List.take_add_one,ha,hp,hb0]
  show Xo (_++[a]) (_++[p]) (_++[b0])=_
  rw [Ee _ _ _ _ _ _ (by simp;omega) (by simp;omega),if_neg hne,List.append_nil]
 refine ⟨hs.strip,fun i b hi hb=>?_,fun i hi=>hs.hi i (by omega),hs.old,by rw [e];exact hs.run,by rw [e];exact hs.pos,hs.nd,by rw [e];exact hs.rng⟩
 by_cases e:i < j
 ·exact hs.low i b e hb
 ·obtain rfl:i=j:=by omega
  rw [hs.hi i (Nat.le_refl _),ha] at hb
  injection hb with hb
  rw [←hb];exact hne
theorem WrS.put {h:Nat} {n n' n'':Nd h} {s0 s s':σ} {j:Nat} {pg:Pg} {a:Int} (hs:WrS step n s0 j n' s) (ha:(ats n)[j]? =some (-1)) (h1:tr.strip n''=tr.strip n') (h2:ats n''=(ats n').set j a) (h3:∀i,i≤j→(pgs n'')[i]? =(pgs n')[i]?) (h4:(pgs n')[j]? =some pg)
  (hst:step s pg a s') (hp:0≤a∧a < 2048) (hx:a∉nfs n) (hy:a∉(Xo ((ats n).take j) ((pgs n').take j) ((ats n').take j)).map (·.2)):WrS step n s0 (j+1) n'' s':=by
 obtain ⟨l1,l2⟩:=hs.lens
 have haj:(ats n')[j]? =some (-1):=by rw [hs.hi j (Nat.le_refl _)];exact ha
 have hjl:=(List.getElem?_eq_some_iff.1 haj).1
 have hself:(ats n'')[j]? =some a:=by rw [h2,List.getElem?_set_self hjl]
 have hoth:∀i,i≠j→(ats n'')[i]? =(ats n')[i]? :=fun i hi=>by rw [h2,List.getElem?_set_ne (fun e=>hi e.symm)]
 have t1:(ats n'').take j=(ats n').take j:=by
  apply List.ext_getElem?
  intro i
  rw [List.getElem?_take,List.getElem?_take]
  split
  ·rw [hoth i (by omega)]
  ·rfl
 have t2:(pgs n'').take j=(pgs n').take j:=by
  apply List.ext_getElem?
  intro i
  rw [List.getElem?_take,List.getElem?_take]
  split
  ·rw [h3 i (by omega)]
  ·rfl
 have e:Xo ((ats n).take (j+1)) ((pgs n'').take (j+1)) ((ats n'').take (j+1))=Xo ((ats n).take j) ((pgs n').take j) ((ats n').take j)++[(pg,a)]:=by
  rw [List.take_add_one,List.take_add_one,List.take_add_one,ha,h3 j (Nat.le_refl _),h4,hself,t1,t2]
  show Xo (_++[-1]) (_++[pg]) (_++[a])=_
  rw [Ee _ _ _ _ _ _ (by simp;omega) (by simp;omega),if_pos rfl]
 have hne:a≠-1:=by omega
 obtain ⟨P,Q,e1,e2,e3⟩:=Qx6 (a:=a) haj hne
 have nf1:nfs n'=(P.filter fun a=>decide (a≠-1))++Q.filter fun a=>decide (a≠-1):=by
  unfold nfs;rw [e1,List.filter_append,List.filter_cons];simp
 have nf2:nfs n''=(P.filter fun a=>decide (a≠-1))++a::Q.filter fun a=>decide (a≠-1):=by
  unfold nfs;rw [h2,e3,List.filter_append,List.filter_cons]
  have:decide (a≠-1)=true:=by simp;omega
  rw [if_pos this]
 refine ⟨h1.trans hs.strip,fun i b hi hb=>?_,fun i hi=>?_,fun i b hb hne=>?_,by rw [e];exact Tg hs.run hst,fun x hx=>?_,?_,fun b hm=>?_⟩
 ·by_cases e:i=j
  ·subst e
   rw [hself] at hb
   injection hb with hb
   omega
  ·rw [hoth i e] at hb
   exact hs.low i b (by omega) hb
 ·rw [hoth i (by omega)]
  exact hs.hi i (by omega)
 ·have e:i≠j:=fun e=>by
   rw [e,ha] at hb
   injection hb with hb
   exact hne hb.symm
  rw [hoth i e]
  exact hs.old i b hb hne
 ·rw [e] at hx
  rcases List.mem_append.1 hx with hx|hx
  ·exact hs.pos x hx
  ·simp at hx;rw [hx];exact hp
 ·rw [nf2]
  refine (List.perm_middle.nodup_iff).2 (List.nodup_cons.2 ⟨fun hm=>?_,by rw [←nf1];exact hs.nd⟩)
  rcases hs.rng _ (by rw [nf1];exact hm) with h|h
  ·exact hx h
  ·exact hy h
 ·rw [e,List.map_append]
  rw [nf2] at hm
  rcases List.mem_append.1 hm with hm|hm
  ·exact (hs.rng b (by rw [nf1];exact List.mem_append_left _ hm)).imp_right (List.mem_append_left _)
  ·rcases List.mem_cons.1 hm with rfl|hm
   ·exact .inr (List.mem_append_right _ (by simp))
   ·exact (hs.rng b (by rw [nf1];exact List.mem_append_right _ hm)).imp_right (List.mem_append_left _)
theorem Qgk {h:Nat} {n n':Nd h} {s0 s:σ} {j:Nat} (hs:WrS step n s0 j n' s) (hr:∀a∈nfs n,0≤a∧a < 2048) {h2:Nat} {m:Nd h2} (hk:Kw m) (h1:1≤m.size) (h8:m.size≤8) (hb:Big m) (hc:Chk (flat m)) {A R:List Int} (he:ats n'=A++ats m++R) (hl:A.length+(ats m).length=j+1):Qqy m:=by
 cases h2 with
 |zero=>exact ⟨hc,h1,h8⟩
 |succ h2=>
  have hlow:∀a∈m.ks.flatMap ats,a≠-1:=by
   intro a ha
   obtain ⟨i,hi,rfl⟩:=List.mem_iff_getElem.1 ha
   have hml:(ats m).length=(m.ks.flatMap ats).length+1:=by rw [Qkr];simp
   refine hs.low (A.length+i) _ (by omega) ?_
   rw [he,Qkr,List.append_assoc,List.getElem?_append_right (by omega),show A.length+i - A.length=i by omega,List.append_assoc,List.getElem?_append_left hi]
   exact List.getElem?_eq_getElem hi
  have hsub:(m.ks.map Nd.at_).Sublist (nfs n'):=by
   have s1:=Vp m.ks
   have s2:(m.ks.flatMap ats).Sublist (ats n'):=by
    rw [he,Qkr]
    exact ((List.sublist_append_left _ _).trans (List.sublist_append_right A _)).trans (List.sublist_append_left _ R)
   have s3:=(s1.trans s2).filter (fun a=>decide (a≠-1))
   rw [List.filter_eq_self.2 (fun a ha=>by have:=hlow a (s1.subset ha);simpa using this)] at s3
   exact s3
  refine ⟨hk,hb,h8,Qej hk hc (fun a ha=>?_) (hs.nd.sublist hsub)⟩
  rcases hs.rng a (hsub.subset ha) with h|h
  ·exact hr a h
  ·obtain ⟨x,hx,rfl⟩:=List.mem_map.1 h
   exact hs.pos x hx
end
structure Snk {σ:Type} (g:Nat) (la lb:Array Value) (step:σ→Pg→Int→σ→Prop) (bad:σ→σ→Value→World→Prop) (at_:σ→(Nat→Prop)→World→Prop) (X:List Int) (M:Nat) (s0:σ):Prop where
 eg:∀args w,(callFunc g args).run Tryz.prog w= .ok (.enter g args) w
 keep:∀{s G w Y w'},at_ s G w→Keep Y w w'→(∀k,G k→¬Y k)→at_ s G w'
 lt:∀{s G w},at_ s G w→∀k,G k→k < w.heap.size
 put:∀l s G w (h:Nat) (m:Nd h),Run step s0 l s→l.length < M→Qqy m→Kw m→1≤m.size→Chk (flat m)→at_ s G w→Calls Tryz.prog g (la++(#[.int .i64 (G7 (pgN m)),.int .i64 (Qb m),.string (Fh (pgN m))]++lb)) w fun x w'=>
  (∃a s' G',x= .returned (.tuple #[.int .i64 a,.nilIface])∧step s (pgN m) a s'∧(0≤a∧a < 2048)∧a∉X∧a∉l.map (·.2)∧at_ s' G' w'∧Mv G w G' w')∨
  (∃y et ex s' G',x= .returned (.tuple #[y,.iface et ex])∧bad s s' (.iface et ex) w'∧at_ s' G' w'∧Mv G w G' w')
section
variable {σ:Type} {g:Nat} {la lb:Array Value} {step:σ→Pg→Int→σ→Prop} {bad:σ→σ→Value→World→Prop} {at_:σ→(Nat→Prop)→World→Prop}
def WrV (step:σ→Pg→Int→σ→Prop) (at_:σ→(Nat→Prop)→World→Prop) (w1:World) (F:List Nat) (v:Value) {h:Nat} (n:Nd h) (Lst:List (Nat×Nat)) (G:Nat→Prop) (s0:σ) (j:Nat) (wr:World):Prop:=
 ∃n' s G',WrS step n s0 j n' s∧Ord wr F v n' Lst∧at_ s G' wr∧(∀k,G' k→G k∨w1.heap.size≤k)∧Keep (fun k=>k∈F∨G k) w1 wr
structure WrK (w1:World) (F:List Nat) {h:Nat} (n:Nd h) (G:Nat→Prop):Prop where
 nd:F.Nodup
 lt:∀k∈F,k < w1.heap.size
 dis:∀k∈F,¬G k
 kw:Kw n
 big:Big n
 lo:1≤n.size
 hi:n.size≤8
 chk:Chk (flat n)
 rg:∀a∈nfs n,0≤a∧a < 2048
def Qac (step:σ→Pg→Int→σ→Prop) (bad:σ→σ→Value→World→Prop) (at_:σ→(Nat→Prop)→World→Prop) (w1:World) (F:List Nat) (v:Value) {h:Nat} (n:Nd h) (Lst:List (Nat×Nat)) (G:Nat→Prop) (s0:σ) (j:Nat) (ev:Value) (w9:World):Prop:=
 ∃n' s s' G',WrS step n s0 j n' s∧(ats n)[j]? =some (-1)∧bad s s' ev w9∧Ord w9 F v n' Lst∧at_ s' G' w9∧(∀k,G' k→G k∨w1.heap.size≤k)∧Keep (fun k=>k∈F∨G k) w1 w9
def Qlv (g:Nat) (la lb:Array Value) (step:σ→Pg→Int→σ→Prop) (bad:σ→σ→Value→World→Prop) (at_:σ→(Nat→Prop)→World→Prop) (w1:World) (F:List Nat) (v:Value) {h:Nat} (n:Nd h) (Lst:List (Nat×Nat)) (G:Nat→Prop) (s0:σ) (j:Nat) (wr:World) (x:Nat×Nat):Prop:=
 ∃(pk fk:Int) (ps:ByteArray),(∀wq,Below wr.heap.size wr wq→Calls Tryz.prog 204 #[Zl x.1 x.2] wq fun y w'=>y= .returned (.tuple #[.int .i64 pk,.string ps])∧Below wq.heap.size wq w')∧
  (∀wq,Below wr.heap.size wr wq→Calls Tryz.prog (fiF x.1) #[.pointer (some ⟨x.2,0,none⟩)] wq fun e w'=>e= .returned (.int .i64 fk)∧wq=w')∧
  (∀wq,Below wr.heap.size wr wq→Calls Tryz.prog g (la++(#[.int .i64 pk,.int .i64 fk,.string ps]++lb)) wq fun e w9=>
   (∃a,e= .returned (.tuple #[.int .i64 a,.nilIface])∧(w9.cell? ⟨x.2,0,none⟩=some (.int .i64 (-1))∧w9.frozen? ⟨x.2,0,none⟩=false)∧WrV step at_ w1 F v n Lst G s0 (j+1) (w9.setCell ⟨x.2,0,none⟩ (.int .i64 a)))∨
   (∃y et ex,e= .returned (.tuple #[y,.iface et ex])∧Qac step bad at_ w1 F v n Lst G s0 j (.iface et ex) w9∧Calls Tryz.prog (fiF x.1) #[.pointer (some ⟨x.2,0,none⟩)] w9 fun e w'=>e= .returned (.int .i64 fk)∧w9=w'))
theorem Qxa {w1 wr:World} {F:List Nat} {v:Value} {h:Nat} {n:Nd h} {Lst:List (Nat×Nat)} {G:Nat→Prop} {s0:σ} {j:Nat} (hk:Snk g la lb step bad at_ (nfs n) (frN n) s0) (hc:WrK w1 F n G) (hw:WrV step at_ w1 F v n Lst G s0 j wr) {x:Nat×Nat} (hx:Lst[j]? =some x):
  ∃a:Int,(wr.cell? ⟨x.2,0,none⟩=some (.int .i64 a)∧wr.frozen? ⟨x.2,0,none⟩=false)∧(a≠-1→WrV step at_ w1 F v n Lst G s0 (j+1) wr)∧(a= -1→Qlv g la lb step bad at_ w1 F v n Lst G s0 j wr x):=by
 obtain ⟨n',s,G',h1,h2,h3,h4,h5⟩:=hw
 have hst:=h1.strip
 have hkw:Kw n':=by rw [←Gp,hst,Gp];exact hc.kw
 have hsz:n'.size=n.size:=by rw [←X8,hst,X8]
 have hfl:flat n'=flat n:=by rw [←X9,hst,X9]
 have hbig:Big n':=by
  have hb:=hc.big
  clear h1 h2 h5 hx hst hkw hfl hk
  cases h with
  |zero=>trivial
  |succ h=>exact (show 2≤n'.size by rw [hsz];exact hb)
 obtain ⟨F',m,m1,m2,m3,m4,m5,m6,m7,A,R,m8,m9⟩:=Ord.get h2 j x hx
 obtain ⟨k1,k2,k3⟩:=m6 hkw
 obtain ⟨s1,s2⟩:=k2 (by rw [hsz];exact hc.lo) (by rw [hsz];exact hc.hi)
 have hcm:Chk (flat m):=m7 (by rw [hfl];exact hc.chk)
 have haj:(ats n)[j]? =some m.at_:=by rw [←h1.hi j (Nat.le_refl _)];exact m5
 refine ⟨m.at_,Rt m1,fun hne=>⟨n',s,G',h1.skip haj hne,h2,h3,h4,h5⟩,fun he=>?_⟩
 rw [he] at haj
 have hlm:(Xo ((ats n).take j) ((pgs n').take j) ((ats n').take j)).length < frN n:=by
  obtain ⟨l1,l2⟩:=h1.lens
  rw [Vi _ _ _ (by simp;omega) (by simp;omega)]
  exact Qiv _ _ haj
 have hpg:Qqy m:=Qgk h1 hc.rg k1 s1 s2 (k3 hbig) hcm m8 m9
 have hxF:x.2∈F:=(Ord.set h2 hc.nd j x hx 0).1
 have hxG':¬G' x.2:=fun hg=>by
  rcases h4 _ hg with hg|hg
  ·exact hc.dis _ hxF hg
  ·have:=hc.lt _ hxF;omega
 have hFG:∀k∈F,¬G' k:=fun k hk hg=>by
  rcases h4 _ hg with hg|hg
  ·exact hc.dis _ hk hg
  ·have:=hc.lt _ hk;omega
 refine ⟨G7 (pgN m),Qb m,Fh (pgN m),fun wq hb=>?_,fun wq hb=>?_,fun wq hb=>?_⟩
 ·exact Qaj wq x.2 F' m (m1.keep (Keep.below (F:=fun _=>False) hb) (fun _ _ h=>h)) hpg
 ·exact Uu wq x.1 x.2 F' m (m1.keep (Keep.below (F:=fun _=>False) hb) (fun _ _ h=>h)) k1 s1
 ·refine (hk.put _ s G' wq _ m h1.run hlm hpg k1 s1 hcm (hk.keep h3 (Keep.below (F:=fun _=>False) hb) (fun _ _ h=>h))).mono ?_
  have hsub:∀(G'':Nat→Prop) w9,Mv G' wq G'' w9→(∀k,G'' k→G k∨w1.heap.size≤k)∧Keep (fun k=>k∈F∨G k) w1 w9:=fun G'' w9 g2=>by
   refine ⟨fun k hk=>?_,(h5.transBelow hb).trans g2.keep (fun k hk=>?_)⟩
   ·rcases g2.sub _ hk with hk|hk
    ·exact h4 k hk
    ·right;have:=h5.size;have:=hb.size;omega
   ·rcases h4 _ hk with hk|hk
    ·exact .inl (.inr hk)
    ·exact .inr hk
  rintro e w9 (⟨a,s',G'',rfl,q1,q2,q3,q4,g1,g2⟩|⟨y,et,ex,s',G'',rfl,q1,g1,g2⟩)
  ·have o9:Ord w9 F v n' Lst:=(h2.keep (Keep.below (F:=fun _=>False) hb) (fun _ _ h=>h)).keep g2.keep hFG
   have c9:=Rt ((m1.keep (Keep.below (F:=fun _=>False) hb) (fun _ _ h=>h)).keep g2.keep (fun k hk=>hFG k (m2 k hk)))
   rw [he] at c9
   obtain ⟨_,n'',e1,e2,e3,e4⟩:=Ord.set o9 hc.nd j x hx a
   obtain ⟨u1,u2⟩:=hsub G'' w9 g2
   refine .inl ⟨a,rfl,c9,n'',s',G'',h1.put haj e2 e3 e4 m3 q1 q2 q3 q4,e1,hk.keep g1 (Keep.set1 w9 x.2 0 _) (fun k hk e5=>?_),u1,Keep.setCell (p:=⟨x.2,0,none⟩) u2 (.inl (.inl hxF)) _⟩
   have e6:k=x.2:=e5
   rw [e6] at hk
   rcases g2.sub _ hk with hk|hk
   ·exact hxG' hk
   ·have:=hc.lt _ hxF;have:=h5.size;have:=hb.size;omega
  ·have o9:Ord w9 F v n' Lst:=(h2.keep (Keep.below (F:=fun _=>False) hb) (fun _ _ h=>h)).keep g2.keep hFG
   have m9:=(m1.keep (Keep.below (F:=fun _=>False) hb) (fun _ _ h=>h)).keep g2.keep (fun k hk=>hFG k (m2 k hk))
   obtain ⟨u1,u2⟩:=hsub G'' w9 g2
   exact .inr ⟨y,et,ex,rfl,⟨n',s,s',G'',h1,haj,q1,o9,g1,u1,u2⟩,Uu w9 x.1 x.2 F' m m9 k1 s1⟩
end
end tr
namespace tr
open Go.RowKit er
def Qqe:ByteArray:=⟨#[119,114,105,116,101]⟩
set_option maxHeartbeats 4000000 in
theorem Qxf (pg:Int) (t:TypeId) (x:Value) (w:World):Calls Tryz.prog 57 #[.string Qqe,.int .i64 pg,.iface t x] w fun y w'=>y= .returned (.iface 183 (.pointer (some ⟨w.heap.size,0,none⟩)))∧w'=w.alloc (.cells #[.string Qqe,.int .i64 pg,.iface t x] 187):=by
 unfold Qqe
 go_enter Tryz.func57,Tryz.ntmps57
 go_wp2_with fail
 go_ret
 exact ⟨rfl,rfl⟩
section
variable {σ:Type} {g:Nat} {la lb:Array Value} {step:σ→Pg→Int→σ→Prop} {bad:σ→σ→Value→World→Prop} {at_:σ→(Nat→Prop)→World→Prop}
def Qks (step:σ→Pg→Int→σ→Prop) (bad:σ→σ→Value→World→Prop) (at_:σ→(Nat→Prop)→World→Prop) (w:World) (F:List Nat) (p:Nat) {h:Nat} (n:Nd h) (G:Nat→Prop) (s0:σ) (x:Ending) (w':World):Prop:=
 (∃(n':Nd h) (s:σ) (G':Nat→Prop),x= .returned (.tuple #[.int .i64 n'.at_,.nilIface])∧WrS step n s0 (ats n).length n' s∧TrAt w' F p (.top h n')∧at_ s G' w'∧(∀k,G' k→G k∨w.heap.size≤k)∧Keep (fun k=>k∈F∨G k) w w')∨
 (∃(n':Nd h) (j:Nat) (s s':σ) (G':Nat→Prop) (b:Nat) (fk:Int) (et:TypeId) (ex:Value) (w9:World),x= .returned (.tuple #[.int .i64 (-1),.iface 183 (.pointer (some ⟨b,0,none⟩))])∧Whole w' b 187 #[.string Qqe,.int .i64 fk,.iface et ex]∧bad s s' (.iface et ex) w9∧Below w9.heap.size w9 w'∧WrS step n s0 j n' s∧(ats n)[j]? =some (-1)∧TrAt w' F p (.top h n')∧at_ s' G' w'∧(∀k,G' k→G k∨w.heap.size≤k)∧Keep (fun k=>k∈F∨G k) w w')
set_option maxHeartbeats 8000000 in
set_option maxRecDepth 100000 in
theorem Qxe (w:World) (F:List Nat) (p h:Nat) (n:Nd h) (G:Nat→Prop) (s0:σ) (hk:Snk g la lb step bad at_ (nfs n) (frN n) s0) (ht:TrAt w F p (.top h n)) (hok:(Tree.top h n).Ok) (hc:Chk (flat n)) (hb:at_ s0 G w) (hd:∀k∈F,¬G k) (hnd:(nfs n).Nodup) (hr:∀a∈nfs n,0≤a∧a < 2048) (hN:Zc n≤16777216):
  Calls Tryz.prog 141 #[.pointer (some ⟨p,0,none⟩),.func (.func g) la lb] w (Qks step bad at_ w F p n G s0):=by
 have HSK:=Ql4 hk
 have eg:=hk.eg
 have HWI:=Ql4 (fun pg t x wq=>Qxf pg t x wq)
 unfold Qqe at HWI
 have hlt:=ht.lt
 have hG:=fun k (h:G k)=>hk.lt hb k h
 obtain ⟨p1,p2,p3,p4⟩:=hok.parts
 have HNN:Hid (Calls Tryz.prog 203 #[.pointer (some ⟨p,0,none⟩)] w fun x w1=>∃g c F' v Lst,x= .returned (.slice (some ⟨g,0,none⟩) Lst.length c)∧Lst.length=Zc n∧F=p::F'∧p∉F'∧Whole w1 p 228 #[v]∧v=Zl h (Lst.getLast?.getD (0,0)).2∧(∀i x,Lst[i]? =some x→w1.cell? ⟨g,i,none⟩=some (Zl x.1 x.2))∧w.heap.size≤g∧Below w.heap.size w w1∧WrK w1 F' n G∧WrV step at_ w1 F' v n Lst G s0 0 w1):=by
  refine (Fv w F p (.top h n) ht hok hN).mono ?_
  rintro x w1 ⟨v',Lst,rfl,h1,⟨F',v,rfl,h2,h3,h4,h5⟩,h6⟩
  obtain ⟨A,c,rfl⟩:=Qk h1
  have hll:=h3.len
  have hpos:0 < Lst.length:=by
   rw [hll]
   have:=Zf n
   obtain ⟨A,e⟩:=Qj8 n
   rw [e] at this
   simp at this
   omega
  obtain ⟨g,rfl,g1,g2,_,hcell,_⟩:=Qo h1 hpos
  have hkF:Keep (fun _=>False) w w1:=Keep.below h6
  have o1:=h3.keep hkF (fun _ _ h=>h)
  have hlast:v=Zl h (Lst.getLast?.getD (0,0)).2:=by
   cases h with
   |zero=>obtain ⟨b,g,c,_,e1,_,e2⟩:=h3;rw [e1,e2];rfl
   |succ h=>obtain ⟨b,g,c,es,_,e1,_,_,_,_,e2⟩:=h3;rw [e1,e2];simp
  refine ⟨g,c,F',v,Lst,rfl,hll,rfl,h5,h2.keep hkF (fun h=>h),hlast,fun i x hx=>hcell i _ (by rw [List.getElem?_map,hx];rfl),g1,h6,?_,?_⟩
  ·exact ⟨h4,fun k hk=>Nat.lt_of_lt_of_le (hlt k (by simp [hk])) h6.size,fun k hk=>hd k (by simp [hk]),p1,p2,p3,p4,hc,hr⟩
  ·exact ⟨n,s0,G,WrS.start hnd,o1,hk.keep hb hkF (fun _ _ h=>h),fun k hk=>.inl hk,Keep.refl _ _⟩
 have HAL:=Ql4 (Zf n)
 have HLT:=Ql4 hlt
 have HG:=Ql4 hG
 have HD:=Ql4 hd
 clear ht hok hc hb hnd hr hlt p1 p2 p3 p4 hG hd hk
 go_enter Tryz.func141,Tryz.ntmps141
 go_wp2_with fail
 with_reducible refine HNN.out.mono ?_
 rintro e w1 ⟨g,c,F',v,Lst,rfl,hll,rfl,hpF,hpw,hv,hcell,hg,hb1,hwc,hww⟩
 have HPF:=Ql4 hpF
 have HPW:=Ql4 hpw
 have HV:=Ql4 hv
 have HCE:=Ql4 hcell
 have HGG:=Ql4 hg
 have HB1:=Ql4 hb1
 have HWC:=Ql4 hwc
 have HW0:=Ql4 hww
 obtain ⟨m,hm⟩:∃m,Lst.length=m:=⟨_,rfl⟩
 have HM:=Ql4 hm
 have HMC:Hid (m=Zc n):=by show _=_;rw [←hm];exact hll
 have hmi:(m:Int)≤16777216:=by omega
 rw [hm]
 clear hpF hpw hv hcell hg hb1 hwc hww hm hll hN HNN
 -- the row of nodes,behind what has turned
 have HRC:Hid (∀j wr x,WrV step at_ w1 F' v n Lst G s0 j wr→Lst[j]? =some x→wr.cell? ⟨g,j,none⟩=some (.iface (ndT x.1) (.pointer (some ⟨x.2,0,none⟩)))):=by
  intro j wr x hw hx
  obtain ⟨_,_,_,_,_,_,_,h5⟩:=hw
  refine h5.cell (HCE.out j x hx) (fun hk=>?_)
  have hgg:=HGG.out
  rcases hk with hk|hk
  ·have:=HLT.out g (List.mem_cons_of_mem _ hk);omega
  ·have:=HG.out g hk;omega
 have HTW:Hid (∀wr,WrV step at_ w1 F' v n Lst G s0 m wr→∃tb a,wr.cell? ⟨p,0,none⟩=some (.iface (ndT h) (.pointer (some ⟨tb,0,none⟩)))∧wr.cell? ⟨tb,0,none⟩=some (.int .i64 a)∧Qks step bad at_ w (p::F') p n G s0 (.returned (.tuple #[.int .i64 a,.nilIface])) wr):=by
  intro wr hw
  obtain ⟨n',s,G',h1,h2,h3,h4,h5⟩:=hw
  have hpw:=HPW.out.keep h5 (fun hk=>by
   rcases hk with hk|hk
   ·exact HPF.out hk
   ·exact HD.out p (by simp) hk)
  have hve:=HV.out
  have hn2:NdAt wr F' (Zl h (Lst.getLast?.getD (0,0)).2) n':=by rw [←hve];exact h2.at_
  refine ⟨_,n'.at_,?_,(Rt hn2).1,.inl ⟨n',s,G',rfl,?_,⟨F',v,rfl,hpw,⟨h2.at_,HWC.out.nd⟩,HPF.out⟩,h3,fun k hk=>?_,?_⟩⟩
  ·have:=hpw.cell 0
   rw [hve] at this
   exact this
  ·rw [HAL.out,←HMC.out];exact h1
  ·rcases h4 k hk with hk|hk
   ·exact .inl hk
   ·exact .inr (Nat.le_trans HB1.out.size hk)
  ·refine (Keep.below (F:=fun k=>k∈p::F'∨G k) HB1.out).trans h5 (fun k hk=>.inl ?_)
   rcases hk with hk|hk
   ·exact .inl (List.mem_cons_of_mem _ hk)
   ·exact .inr hk
 have HFA:Hid (∀j w9 et ex fk,Qac step bad at_ w1 F' v n Lst G s0 j (.iface et ex) w9→Qks step bad at_ w (p::F') p n G s0 (.returned (.tuple #[.int .i64 (-1),.iface 183 (.pointer (some ⟨w9.heap.size,0,none⟩))])) (w9.alloc (.cells #[.string Qqe,.int .i64 fk,.iface et ex] 187))):=by
  rintro j w9 et ex fk ⟨n',s,s',G',h1,h1b,hbad,h2,h3,h4,h5⟩
  have hal:Below w9.heap.size w9 (w9.alloc (.cells #[.string Qqe,.int .i64 fk,.iface et ex] 187)):=(Below.refl _ _).alloc (Nat.le_refl _) _
  have hpw:=HPW.out.keep h5 (fun hk=>by
   rcases hk with hk|hk
   ·exact HPF.out hk
   ·exact HD.out p (by simp) hk)
  have h2':=h2.keep (Keep.below (F:=fun _=>False) hal) (fun _ _ h=>h)
  refine .inr ⟨n',j,s,s',G',w9.heap.size,fk,et,ex,w9,rfl,Whole.new _ _ _,hbad,hal,h1,h1b,⟨F',v,rfl,hpw.keep (Keep.below (F:=fun _=>False) hal) (fun h=>h),⟨h2'.at_,HWC.out.nd⟩,HPF.out⟩,HSK.out.keep h3 (Keep.below (F:=fun _=>False) hal) (fun _ _ h=>h),fun k hk=>?_,?_⟩
  ·rcases h4 k hk with hk|hk
   ·exact .inl hk
   ·exact .inr (Nat.le_trans HB1.out.size hk)
  ·refine ((Keep.below (F:=fun k=>k∈p::F'∨G k) HB1.out).trans h5 (fun k hk=>.inl ?_)).transBelow hal
   rcases hk with hk|hk
   ·exact .inl (List.mem_cons_of_mem _ hk)
   ·exact .inr hk
 have hmw:=fun b h w=>Qcy (.pointer (some ⟨b,0,none⟩)) w h
 have hew:=fun b h w=>Qcm #[.pointer (some ⟨b,0,none⟩)] w h
 have hmf:=fun b h w=>Qy1 (.pointer (some ⟨b,0,none⟩)) w h
 have hef:=fun b h w=>Qus #[.pointer (some ⟨b,0,none⟩)] w h
 have HWH:=Ql4 (fun wq b h=>D6 wq b h)
 go_wp2_with fail
 go_loopw [7,8,9,10,11,15] (fun s7 s8 s9 s10 s11 s15 wr=>∃j:Nat,j≤m∧s15= .int .i64 j∧Hid (WrV step at_ w1 F' v n Lst G s0 j wr)) (fun _ _ _ _ _ s15 _=>m - (intOf s15).toNat)
 case atStart=>exact ⟨0,Nat.zero_le _,rfl,HW0⟩
 case round=>
  obtain ⟨j,hj,rfl,HW⟩:=hrel
  by_cases hlt:j < m
  ·have hji:(j:Int) < (m:Int):=by omega
   obtain ⟨x,hx⟩:∃x,Lst[j]? =some x:=⟨_,List.getElem?_eq_getElem (by rw [HM.out];exact hlt)⟩
   have d0:=HRC.out j wr x HW.out hx
   obtain ⟨a,⟨d1,d2⟩,hold,hnew⟩:=Qxa HSK.out HWC.out HW.out hx
   obtain ⟨xh,xb⟩:=x
   simp only at d0 d1 d2
   by_cases ha:a= -1
   ·obtain ⟨pk,fk,ps,hbody,hfirst,hput⟩:=hnew ha
    subst ha
    have HBO:Hid (Calls Tryz.prog 204 #[.iface (ndT xh) (.pointer (some ⟨xb,0,none⟩))] wr fun x w'=>x= .returned (.tuple #[.int .i64 pk,.string ps])∧Below wr.heap.size wr w'):=hbody wr (Below.refl _ _)
    have HFI:=Ql4 hfirst
    have HPU:=Ql4 hput
    clear hnew hold hbody hfirst hput hx
    go_wp2_with fail
    refine (HWH.out _ xb xh).mono ?_
    rintro e w5 ⟨rfl,rfl⟩
    go_wp2_with fail
    with_reducible refine HBO.out.mono ?_
    rintro e w5 ⟨rfl,hb5⟩
    have HB5:=Ql4 hb5
    clear hb5
    go_wp2_with fail
    refine (HFI.out _ HB5.out).mono ?_
    rintro e w6 ⟨rfl,rfl⟩
    go_wp2_with fail
    refine (HPU.out _ HB5.out).mono ?_
    rintro e w9 (⟨a,rfl,⟨z1,z2⟩,hw9⟩|⟨y,et,ex,rfl,hfl,hfi⟩)
    ·have HW9:=Ql4 hw9
     clear hw9
     go_wp2_with fail
     refine (HWH.out _ xb xh).mono ?_
     rintro e w5 ⟨rfl,rfl⟩
     go_wp2_with fail
     go_roundw
     case rel=>exact ⟨j+1,by omega,by go_num,HW9⟩
     case measure=>simp [intOf];omega
    ·have HF9:=Ql4 (HFA.out j w9 et ex fk hfl)
     have HFI9:=Ql4 hfi
     clear hfl hfi
     go_wp2_with fail
     refine HFI9.out.mono ?_
     rintro e w6 ⟨rfl,rfl⟩
     go_wp2_with fail
     with_reducible refine (HWI.out _ _ _ _).mono ?_
     rintro e w10 ⟨rfl,rfl⟩
     go_wp2_with fail
     refine bodyPost_ret (v:= .tuple #[.int .i64 (-1),.iface 183 (.pointer (some ⟨w9.heap.size,0,none⟩))]) (by simp [results,Tryz.results141,go_sem]) rfl HF9.out
   ·have HW2:=Ql4 (hold ha)
    have han:(a == -1)=false:=by simpa using ha
    clear hold hnew hx
    go_wp2_with fail
    refine (HWH.out _ xb xh).mono ?_
    rintro e w5 ⟨rfl,rfl⟩
    go_wp2_with fail
    go_roundw
    case rel=>exact ⟨j+1,by omega,by go_num,HW2⟩
    case measure=>simp [intOf];omega
  ·obtain rfl:j=m:=by omega
   obtain ⟨tb,a,d0,d1,hfin⟩:=HTW.out wr HW.out
   have HFIN:=Ql4 hfin
   clear hfin
   go_wp2_with fail
   refine (HWH.out _ tb h).mono ?_
   rintro e w5 ⟨rfl,rfl⟩
   go_wp2_with fail
   refine bodyPost_ret (v:= .tuple #[.int .i64 a,.nilIface]) (by simp [results,Tryz.results141,go_sem]) rfl HFIN.out
end
end tr
namespace tr
open Go.RowKit er
set_option maxHeartbeats 4000000 in
set_option maxRecDepth 100000 in
theorem Qxr (w:World) (F:List Nat) (p:Nat) (g:Value) (ht:TrAt w F p .no):
  Calls Tryz.prog 141 #[.pointer (some ⟨p,0,none⟩),g] w fun x w'=>x= .returned (.tuple #[.int .i64 (-1),.nilIface])∧Below w.heap.size w w':=by
 have HNN:Hid (Calls Tryz.prog 203 #[.pointer (some ⟨p,0,none⟩)] w fun x w'=>∃A c,x= .returned (.slice A 0 c)∧w'.cell? ⟨p,0,none⟩=some .nilIface∧Below w.heap.size w w'):=by
  refine (Fv w F p .no ht trivial (by show 0≤_;omega)).mono ?_
  rintro x w' ⟨v',Lst,rfl,h1,h2,h3⟩
  obtain ⟨A,c,rfl⟩:=Qk h1
  have e:Lst=[]:=h2.2.2
  have ht':=ht.keep (Keep.below (F:=fun _=>False) h3) (fun _ _ h=>h)
  exact ⟨A,c,by rw [e];rfl,ht'.2.cell 0,h3⟩
 clear ht
 go_enter Tryz.func141,Tryz.ntmps141
 go_wp2_with fail
 with_reducible refine HNN.out.mono ?_
 rintro e w1 ⟨A,c,rfl,c0,hr⟩
 have HR:=Ql4 hr
 clear hr
 go_wp2_with fail
 go_loopw [7,8,9,10,11,15] (fun s7 s8 s9 s10 s11 s15 wr=>wr=w1∧s15= .int .i64 0) (fun _ _ _ _ _ _ _=>0)
 case atStart=>exact ⟨rfl,rfl⟩
 case round=>
  obtain ⟨rfl,rfl⟩:=hrel
  go_wp2_with fail
  refine bodyPost_ret (v:= .tuple #[.int .i64 (-1),.nilIface]) (by simp [results,Tryz.results141,go_sem]) rfl ⟨rfl,HR.out⟩
end tr
end Go.Proofs.YtfialjmemcobjaaGreatDoor
