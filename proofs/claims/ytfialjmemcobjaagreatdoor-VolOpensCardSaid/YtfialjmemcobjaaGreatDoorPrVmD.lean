/- A part of the proof. -/
import Derived.Test.YtfialjmemcobjaaGreatDoorPrTuA
import Derived.Shelf.Slices.CompactI
set_option linter.unusedVariables false
set_option linter.unusedSimpArgs false
namespace Go.Proofs
open Go.Shelf
def Tryz.lays20_ren:Go.Shelf.Ren:=⟨fun|20=>88|n=>n,fun|0=>0|3=>3|4=>4|22=>39|n=>n,fun|n=>n⟩
theorem Tryz.lays20:Go.Proofs.Lays2.n20 Tryz.prog Tryz.lays20_ren:={
 mixed:=by kernel_rfl
 f20:=Tryz.func88.trans (congrArg some (by kernel_rfl))
 t0:=Tryz.underlying0
 a0:=Tryz.isAgg0
 z0:=Tryz.sizeOf0
 v0:=Tryz.zeroValue0
 t3:=Tryz.underlying3
 a3:=Tryz.isAgg3
 z3:=Tryz.sizeOf3
 v3:=Tryz.zeroValue3
 t4:=Tryz.underlying4
 a4:=Tryz.isAgg4
 z4:=Tryz.sizeOf4
 v4:=Tryz.zeroValue4
 t22:=Tryz.underlying39
 a22:=Tryz.isAgg39
 z22:=Tryz.sizeOf39
 v22:=Tryz.zeroValue39
 i3:=by kernel_rfl}
end Go.Proofs
namespace Go.Proofs.YtfialjmemcobjaaGreatDoor.vo
open Go.RowKit Go.Sort er tr
theorem Qd2 {w:World} {base k n c:Nat} {e:TypeId} {A:Option Addr} {xs:List Value} (h:w.ownsRow base e k (.slice A n c) n xs) (m:Nat) (hm:m≤n):w.ownsRow base e k (.slice A m c) m (xs.take (m * k)):=by
 obtain ⟨h1,h2⟩:=h
 refine ⟨by rw [List.length_take,h1];exact Nat.min_eq_left (Nat.mul_le_mul_right _ hm),?_⟩
 rcases h2 with ⟨h2,h3⟩|⟨g,cap,cur,h2,h3,h4,h5,h6,h7,h8⟩
 ·injection h2 with a1 a2 a3
  subst a1 a2 a3
  obtain rfl:m=0:=by omega
  exact .inl ⟨rfl,rfl⟩
 ·injection h2 with a1 a2 a3
  subst a1 a3
  refine .inr ⟨g,c,cur,rfl,h3,h4,by omega,h6,h7,?_⟩
  rw [←h8,List.take_take,Nat.min_eq_left (Nat.mul_le_mul_right _ hm)]
theorem Ht (zs:List Int):(Lib.compact zs).length≤zs.length:=by
 unfold Lib.compact Lib.compactUpTo
 rw [List.length_map]
 exact Nat.le_trans (List.length_filter_le _ _) (by simp)
theorem Wp (zs:List Int) (base:Nat) (v:Value) (w:World) (h:w.ownsRow base 3 1 v zs.length (zs.map (Value.int .i64))) (hl:zs.length≤16777216):
  Calls Tryz.prog 88 #[v] w fun e w'=>∃A c,e= .returned (.slice A (Lib.compact zs).length c)∧w'.ownsRow base 3 1 (.slice A (Lib.compact zs).length c) (Lib.compact zs).length ((Lib.compact zs).map (Value.int .i64))∧w.grownBy w' v.ownBlock:=by
 have hh:=h
 obtain ⟨h1,⟨h2,h3⟩|⟨g,cap,cur,rfl,h3,h4,h5,h6,h7,h8⟩⟩:=h
 ·subst h2
  have e:zs=[]:=by
   cases zs with
   |nil=>rfl
   |cons a r=>simp at h3
  subst e
  refine (Any.slices_Compact_int_empty Tryz.lays20 none 0 w).mono ?_
  rintro x w' ⟨rfl,rfl⟩
  exact ⟨none,0,rfl,hh,Jh (Below.refl _ _) _⟩
 ·have ht:cur.toList.take zs.length=zs.map (Value.int .i64):=by rw [Nat.mul_one] at h8;exact h8
  have hcap:=Al hh
  refine (Any.slices_Compact_int Tryz.lays20 g 0 cap zs w (holds_of_blockI h4 ht) (by omega) hcap.1).mono ?_
  rintro x w' ⟨rfl,q,rfl⟩
  have hle:=Ht zs
  obtain ⟨ts,hts⟩:∃ts,Lib.compact zs++List.replicate (zs.length - (Lib.compact zs).length) 0=ts:=⟨_,rfl⟩
  have htl:ts.length=zs.length:=by rw [←hts];simp;omega
  have hr:(putRow (Value.int .i64) (Sort.ahead w q) g 0 ts.toArray).ownsRow base 3 1 (.slice (some ⟨g,0,none⟩) zs.length cap) zs.length (ts.map (Value.int .i64)):=by
   have:=ownsRow_sortedI (os:=#[]) (n:=q) (ss:=zs) (ts:=ts) htl h3 h4 h5 h6 h7
   rwa [grow_empty] at this
  have hg:w.grownBy (putRow (Value.int .i64) (Sort.ahead w q) g 0 ts.toArray) (some g):=by
   have:=grownBy_sortedI (w:=w) (g:=g) (n:=q) (os:=#[]) ts.toArray
   rwa [grow_empty] at this
  have hc:=Qd2 hr _ hle
  rw [Nat.mul_one,←hts,List.map_append,List.take_append_of_le_length (by simp),List.take_of_length_le (by simp),hts] at hc
  rw [hts]
  exact ⟨_,cap,rfl,hc,hg⟩
end Go.Proofs.YtfialjmemcobjaaGreatDoor.vo
namespace Go.Proofs.YtfialjmemcobjaaGreatDoor.vo
open Go.RowKit er tr
def Kv (e:Ext) (q:Nat):List Int:=if e.kind=2 then (List.range q).map fun (i:Nat)=>e.at_+i else []
def Q3 (l:List Ext):List Int:=l.flatMap fun e=>Kv e e.n.toNat
theorem We {l:List Ext} {j:Nat} {e:Ext} (h:l[j]? =some e):Q3 (l.take (j+1))=Q3 (l.take j)++Kv e e.n.toNat:=by
 unfold Q3
 rw [List.take_add_one,h]
 simp
theorem Qq4 (e:Ext) (q:Nat) (h:e.kind=2):Kv e (q+1)=Kv e q++[e.at_+q]:=by
 unfold Kv
 rw [if_pos h,if_pos h,List.range_succ,List.map_append]
 rfl
theorem Ti (e:Ext) (q:Nat) (h:e.kind≠2):Kv e q=[]:=if_neg h
theorem Md (e:Ext) (q:Nat):(Kv e q).length≤q:=by unfold Kv;split <;> simp
theorem I6:∀{l:List Ext},(∀e∈l,Qf e=true)→(Q3 l).length≤2048 * l.length
 |[],_=>by simp [Q3]
 |e::r,h=>by
  have ih:=I6 (l:=r) (fun x hx=>h x (by simp [hx]))
  have he:=h e (by simp)
  have e1:Q3 (e::r)=Kv e e.n.toNat++Q3 r:=rfl
  rw [e1,List.length_append,List.length_cons]
  have:(Kv e e.n.toNat).length≤2048:=by
   by_cases hk:e.kind=2
   ·have:=Md e e.n.toNat
    unfold Qf at he
    simp [hk] at he
    omega
   ·rw [Ti e _ hk];simp
  omega
theorem Qop {w w2:World} {o:Obj} {base:Nat} {e:TypeId} {size:Nat} {v:Value} {n:Nat} {xs:List Value} (hown:w.ownsRow base e size v n xs) (hg:(w.alloc o).grownBy w2 v.ownBlock) (hb:base≤w.heap.size) {g:Nat} {t:TypeId} {cs:Array Value} (hw:Whole w g t cs) (hne:e≠t):Whole w2 g t cs:=
 (hw.alloc o).grown hg (own_ne hown hw hne)
set_option maxHeartbeats 8000000 in
set_option maxRecDepth 100000 in
theorem Qko (l:List Ext) (v:Value) (w:World) (h:ExtsAt w v l) (hc:Chk l) (hl:l.length≤4096):
  Calls Tryz.prog 164 #[v] w fun x w'=>∃v',x= .returned v'∧w'.ownsRow w.heap.size 3 1 v' (Q3 l).length ((Q3 l).map (Value.int .i64))∧Below w.heap.size w w':=by
 have HCK:Hid (Calls Tryz.prog 197 #[v] w fun x w'=>x= .returned (.bool true)∧Below w.heap.size w w'):=by
  have:=Xd l v w h (by omega)
  rw [Oa _ hc] at this
  exact this
 have H1:=Ql4 hc.one
 obtain ⟨A,c,rfl,hcc⟩:=h
 have HC:=Ql4 hcc
 have HLEN:=Ql4 (I6 (l:=l) hc.one)
 obtain ⟨n,hn⟩:∃n,l.length=n:=⟨_,rfl⟩
 rw [hn] at hl HLEN HCK ⊢
 have HN:=Ql4 hn
 have hli:(n:Int)≤4096:=by omega
 have HTL:Hid (∀j,(Q3 (l.take j)).length≤2048 * j):=fun j=>Nat.le_trans (I6 (fun e he=>hc.one e (List.mem_of_mem_take he))) (Nat.mul_le_mul_left _ (by rw [List.length_take];omega))
 obtain ⟨i0,hi0,hz0,hz1,hz2⟩:=info_parts Dy
 have HI0:=Ql4 hi0
 have HZ0:=Ql4 hz0
 have HZ1:=Ql4 hz1
 have HZ2:=Ql4 hz2
 clear hc hcc hn hi0 hz0 hz1 hz2
 go_enter Tryz.func164,Tryz.ntmps164
 go_wp2_with fail
 with_reducible refine HCK.out.mono ?_
 rintro e w1 ⟨rfl,hb1⟩
 have HB1:=Ql4 hb1
 clear hb1
 go_wp2_with fail
 go_loopw [3,5,6,12] (fun ov _ _ i wr=>∃(j m:Nat) (B:Option Addr) (d:Nat),j≤n∧i= .int .i64 j∧ov= .slice B m d∧Hid ((Q3 (l.take j)).length=m)∧Hid (wr.ownsRow w.heap.size 3 1 (.slice B m d) m ((Q3 (l.take j)).map (Value.int .i64)))∧Hid (Below w.heap.size w wr)) (fun _ _ _ i _=>n - (intOf i).toNat)
 case atStart=>exact ⟨0,0,none,0,Nat.zero_le _,rfl,rfl,rfl,⟨rfl,.inl ⟨rfl,rfl⟩⟩,HB1⟩
 case round=>
  obtain ⟨j,m,B,d,hj,rfl,rfl,HM,HO,HB⟩:=hrel
  by_cases hlt:j < n
  ·have hji:(j:Int) < (n:Int):=by omega
   obtain ⟨gr,og,rfl,hcell⟩:=HC.out (by rw [HN.out];omega)
   obtain ⟨e,hf⟩:∃e,l[j]? =some e:=⟨_,List.getElem?_eq_getElem (by rw [HN.out];exact hlt)⟩
   obtain ⟨c0,c1,c2,c3⟩:=(hcell j e hf).below HB.out
   have HT:=Ql4 (We hf)
   have hone:=H1.out e (List.mem_of_getElem? hf)
   have hmb:=HTL.out j
   rw [HM.out] at hmb
   obtain ⟨N,hN⟩:∃N:Nat,e.n=(N:Int):=⟨e.n.toNat,by unfold Qf Xf at hone;simp at hone;omega⟩
   have HNN:Hid (e.n.toNat=N):=by show _=_;omega
   have hrun:e.kind=2→0≤e.at_∧e.at_+N≤2048:=fun hk=>by unfold Qf at hone;simp [hk] at hone;omega
   have hN24:(N:Int)≤16777216:=by unfold Qf Xf at hone;simp at hone;omega
   have HE:Hid (∀q,Kv e q=if e.kind=2 then (List.range q).map fun (i:Nat)=>e.at_+i else []):=fun q=>rfl
   rw [HNN.out] at HT
   have HP0:Hid (Kv e 0=[]):=by show _=_;unfold Kv;simp
   have HPS:Hid (∀q,e.kind=2→Kv e (q+1)=Kv e q++[e.at_+q]):=fun q h=>Qq4 e q h
   have HPN:Hid (∀q,e.kind≠2→Kv e q=[]):=fun q h=>Ti e q h
   have HPL:Hid (∀q,(Kv e q).length≤q):=fun q=>Md e q
   obtain ⟨P,hP⟩:∃P,Kv e=P:=⟨_,rfl⟩
   rw [hP] at HT HP0 HPS HPN HPL HE
   obtain ⟨f,en,k,t⟩:=e
   simp only at c0 c1 c2 c3 hN hrun HPS HPN
   subst hN
   clear hf hcell hone hP HNN
   obtain ⟨qb,hqb⟩:∃qb,wr.heap.size=qb:=⟨_,rfl⟩
   obtain ⟨wx,hwx⟩:∃wx,wx=wr.alloc (.cells #[.int .i64 f,.int .i64 (N:Int),.int .i64 k,.int .i64 t] 255):=⟨_,rfl⟩
   have HWX:Hid (Whole wx qb 255 #[.int .i64 f,.int .i64 (N:Int),.int .i64 k,.int .i64 t]∧Below wr.heap.size wr wx∧Below w.heap.size w wx):=by
    show _∧_∧_
    rw [hwx,←hqb]
    exact ⟨Whole.new _ _ _,(Below.refl _ _).alloc (Nat.le_refl _) _,HB.out.alloc HB.out.size _⟩
   have HOX:=Ql4 (own_below HO.out HWX.out.2.1)
   have x1:=HWX.out.1.cell 1
   simp at x1
   have hmeas:n - (intOf (.int .i64 ((j:Int)+1))).toNat < n - (intOf (.int .i64 (j:Int))).toNat:=by simp [intOf];omega
   have HMS:=Ql4 hmeas
   clear hmeas
   go_wp2_with fail
   clear c0 c1 c2 c3
   obtain ⟨L,hL⟩:∃L,Q3 (l.take j)=L:=⟨_,rfl⟩
   rw [hL] at HT HM HO HOX
   have hLm:=HM.out
   rw [←hwx]
   clear HO HM
   go_loopw [3,6,18] (fun ov _ i wy=>∃(q m2:Nat) (B2:Option Addr) (d2:Nat),q≤N∧i= .int .i64 q∧ov= .slice B2 m2 d2∧Hid ((L++P q).length=m2)∧Hid (wy.ownsRow w.heap.size 3 1 (.slice B2 m2 d2) m2 ((L++P q).map (Value.int .i64)))∧Hid (Whole wy qb 255 #[.int .i64 f,.int .i64 (N:Int),.int .i64 k,.int .i64 t])∧Hid (Below w.heap.size w wy)) (fun _ _ i _=>N - (intOf i).toNat)
   case atStart=>exact ⟨0,m,B,d,Nat.zero_le _,rfl,rfl,by rw [HP0.out,List.append_nil];exact hLm,by rw [HP0.out,List.append_nil];exact HOX.out,HWX.out.1,HWX.out.2.2⟩
   case round=>
    obtain ⟨q,m2,B2,d2,hq,rfl,rfl,HM2,HO2,HW2,HB2⟩:=hrel
    by_cases hlq:q < N
    ·have hqi:(q:Int) < (N:Int):=by omega
     have hq0:(0:Int)≤(q:Int):=Int.natCast_nonneg _
     have x2:=HW2.out.cell 2
     have x3:=HW2.out.cell 3
     simp at x2 x3
     have hmeas:N - (intOf (.int .i64 ((q:Int)+1))).toNat < N - (intOf (.int .i64 (q:Int))).toNat:=by simp [intOf];omega
     by_cases hk:k=2
     ·have hk1:(k == 2)=true:=by simpa using hk
      have hr:=hrun hk
      have hm2:m2≤m+q:=by rw [←HM2.out,←hLm,List.length_append];have:=HPL.out q;omega
      have HPQ:=Ql4 (HPS.out q hk)
      subst hk
      have hsw:w.heap.size≤wr.heap.size:=HB2.out.size
      have HSW:=Ql4 hsw
      clear hsw
      have HOA:=Ql4 (HO2.out.alloc (.cells #[.int .i64 (t+q)] 3))
      have HSZ:Hid (w.heap.size≤(wr.alloc (.cells #[.int .i64 (t+q)] 3)).heap.size):=by show _≤_;simp only [World.size_alloc];exact Nat.le_succ_of_le HSW.out
      have HONE:Hid (∀u∈([.int .i64 (t+q)]:List Value),u.oneCell'=true):=by show ∀_,_;simp [Value.oneCell']
      go_wp2_with (at_builtin;go_must (refine wpList_append_own _ rfl (.tmp 24) (.tmp 29) 39 rfl w.heap.size 3 i0 _ 1 8 Tryz.underlying39 HI0.out HZ0.out HZ1.out HZ2.out rfl (by omega) (.slice B2 m2 d2) m2 ((L++P q).map (Value.int .i64)) rfl HOA.out ⟨wr.heap.size,0,none⟩ 1 1 [.int .i64 (t+q)] rfl rfl (Zr _ _ _) HONE.out (by simp only [maxLen];omega) (by omega) HSZ.out ?_;intro v2 w6 hown6 hg6 _;have HO6:=Ql4 hown6;have HB6:=Ql4 (Q4 HO2.out hg6 HSW.out);have HW6:=Ql4 (Qop HO2.out hg6 HSW.out HW2.out (by decide));obtain ⟨A2,c2',e2⟩:=Qk hown6;subst e2;clear hown6 hg6))
      refine ⟨⟨q+1,m2+1,A2,c2',?_,?_,rfl,?_,?_,HW6.out,?_⟩,hmeas⟩
      ·omega
      ·go_num
      ·show _=_
       rw [HPQ.out,←List.append_assoc,List.length_append,HM2.out]
       rfl
      ·show World.ownsRow _ _ _ _ _ _ _
       rw [HPQ.out,←List.append_assoc,List.map_append]
       exact HO6.out
      ·exact HB2.out.trans HB6.out
     ·have hk1:(k == 2)=false:=by simpa using hk
      have HPQ:=Ql4 (HPN.out (q+1) hk)
      have HPR:=Ql4 (HPN.out q hk)
      go_wp2_with fail
      refine ⟨⟨q+1,m2,B2,d2,?_,?_,rfl,?_,?_,HW2.out,HB2.out⟩,hmeas⟩
      ·omega
      ·go_num
      ·show _=_
       rw [HPQ.out,←HPR.out]
       exact HM2.out
      ·show World.ownsRow _ _ _ _ _ _ _
       rw [HPQ.out,←HPR.out]
       exact HO2.out
    ·obtain rfl:q=N:=by omega
     go_wp2_with fail
     refine ⟨⟨j+1,m2,B2,d2,?_,?_,rfl,?_,?_,HB2.out⟩,HMS.out⟩
     ·omega
     ·go_num
     ·show _=_
      rw [HT.out]
      exact HM2.out
     ·show World.ownsRow _ _ _ _ _ _ _
      rw [HT.out]
      exact HO2.out
  ·obtain rfl:j=n:=by omega
   have hfull:l.take j=l:=by rw [←HN.out];exact List.take_length
   rw [hfull] at HM HO
   go_wp2_with fail
   go_ret
   exact ⟨_,rfl,by rw [HM.out];exact HO.out,HB.out⟩
end Go.Proofs.YtfialjmemcobjaaGreatDoor.vo
