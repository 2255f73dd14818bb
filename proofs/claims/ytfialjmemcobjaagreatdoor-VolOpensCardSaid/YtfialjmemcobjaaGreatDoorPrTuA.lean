/- A part of the proof. -/
import Derived.Test.YtfialjmemcobjaaGreatDoorPrTsS
import Derived.Test.YtfialjmemcobjaaGreatDoorPrTzH
import Derived.Sort.OwnSortedInts
set_option linter.unusedVariables false
set_option linter.unusedSimpArgs false
namespace Go.Proofs.YtfialjmemcobjaaGreatDoor
namespace tr
open Go.RowKit er
def sorted (zs:List Int):List Int:=zs.mergeSort fun x y=>decide (x≤y)
theorem Js (zs:List Int):(sorted zs).length=zs.length:=List.length_mergeSort zs
theorem Tq (zs:List Int) (base:Nat) (v:Value) (w:World) (h:w.ownsRow base 3 1 v zs.length (zs.map (Value.int .i64))) (hl:zs.length≤16777216):
  Calls Tryz.prog 87 #[v] w fun e w'=>e= .returned (.tuple #[])∧w'.ownsRow base 3 1 v zs.length ((sorted zs).map (Value.int .i64))∧w.grownBy w' v.ownBlock:=by
 have hh:=h
 obtain ⟨h1,⟨h2,h3⟩|⟨g,cap,cur,rfl,h3,h4,h5,h6,h7,h8⟩⟩:=h
 ·subst h2
  have e:zs=[]:=by
   cases zs with
   |nil=>rfl
   |cons a r=>simp at h3
  subst e
  refine (Qb5 w).mono ?_
  rintro x w' ⟨rfl,rfl⟩
  refine ⟨rfl,?_,Jh (Below.refl _ _) _⟩
  have:sorted []=[]:=by unfold sorted;simp
  rw [this]
  exact hh
 ·have ht:cur.toList.take zs.length=zs.map (Value.int .i64):=by rw [Nat.mul_one] at h8;exact h8
  refine (Tryz.slices_Sort_int g 0 cap zs w (holds_of_blockI h4 ht) (Array.getElem?_eq_some_iff.1 h4).1 (by omega)).mono ?_
  rintro x w' ⟨rfl,n,os,rfl⟩
  exact ⟨rfl,ownsRow_sortedI (ss:=zs) (ts:=sorted zs) (Js zs) h3 h4 h5 h6 h7,grownBy_sortedI _⟩
theorem Dy:(Tryz.prog.info? 3).map (fun i=>(i.zero,i.size,i.bytes))=some (some (.int .i64 0),1,8):=by kernel_rfl
def Li (w:World) (zs:List Int) (x:Ending) (w':World):Prop:=∃A c,x= .returned (.slice A zs.length c)∧w'.ownsRow w.heap.size 3 1 (.slice A zs.length c) zs.length ((sorted zs).map (Value.int .i64))∧Below w.heap.size w w'
theorem Qa9 (T:Tree):T.nfs=T.ats.filter fun a=>decide (a≠-1):=by cases T <;> rfl
set_option maxHeartbeats 4000000 in
set_option maxRecDepth 100000 in
theorem Qyf (w:World) (F:List Nat) (p:Nat) (T:Tree) (ht:TrAt w F p T) (hok:T.Ok) (hN:T.cnt≤16777216):
  Calls Tryz.prog 163 #[.pointer (some ⟨p,0,none⟩)] w (Li w T.nfs):=by
 have HNN:Hid (Calls Tryz.prog 203 #[.pointer (some ⟨p,0,none⟩)] w fun x w'=>∃A m c,x= .returned (.slice A m c)∧m=T.ats.length∧m≤16777216∧Below w.heap.size w w'∧(0 < m→∃g,A=some ⟨g,0,none⟩∧∀i a,T.ats[i]? =some a→∃h b,w'.cell? ⟨g,i,none⟩=some (.iface (ndT h) (.pointer (some ⟨b,0,none⟩)))∧w'.cell? ⟨b,0,none⟩=some (.int .i64 a))):=by
  refine (Qyp w F p T ht hok hN).mono ?_
  rintro x w' ⟨v',L,rfl,h1,h2,h3⟩
  obtain ⟨A,c,rfl⟩:=Qk h1
  refine ⟨A,_,c,rfl,h2.len,by rw [h2.len,Qgr];exact hN,h3,fun h0=>?_⟩
  obtain ⟨g,rfl,_,_,_,hc,_⟩:=Qo h1 h0
  refine ⟨g,rfl,fun i a ha=>?_⟩
  have hi:i < L.length:=by rw [h2.len];exact (List.getElem?_eq_some_iff.1 ha).1
  have hx:=List.getElem?_eq_getElem hi
  obtain ⟨q1,q2,q3⟩:=h2.at_ i _ _ hx ha
  exact ⟨(L[i]'hi).1,(L[i]'hi).2,hc i _ (by rw [List.getElem?_map,hx];rfl),Qq h3 q1⟩
 rw [Qa9]
 obtain ⟨As,hAs⟩:∃As,T.ats=As:=⟨_,rfl⟩
 rw [hAs] at HNN ⊢
 have HSO:Hid (∀wq base v,wq.ownsRow base 3 1 v (As.filter fun a=>decide (a≠-1)).length ((As.filter fun a=>decide (a≠-1)).map (Value.int .i64))→As.length≤16777216→Calls Tryz.prog 87 #[v] wq fun e w'=>e= .returned (.tuple #[])∧w'.ownsRow base 3 1 v (As.filter fun a=>decide (a≠-1)).length ((sorted (As.filter fun a=>decide (a≠-1))).map (Value.int .i64))∧wq.grownBy w' v.ownBlock):=fun wq base v ho hl=>Tq _ base v wq ho (Nat.le_trans (List.length_filter_le _ _) hl)
 have hme:=fun h b w=>Qcy (.pointer (some ⟨b,0,none⟩)) w h
 have hen:=fun h b w=>Qcm #[.pointer (some ⟨b,0,none⟩)] w h
 have HWH:=Ql4 (fun wq b h=>D6 wq b h)
 obtain ⟨i0,hi0,hz0,hz1,hz2⟩:=info_parts Dy
 have HI0:=Ql4 hi0
 have HZ0:=Ql4 hz0
 have HZ1:=Ql4 hz1
 have HZ2:=Ql4 hz2
 clear ht hok hN hAs hi0 hz0 hz1 hz2
 go_enter Tryz.func163,Tryz.ntmps163
 go_wp2_with fail
 with_reducible refine HNN.out.mono ?_
 rintro e w1 ⟨A,m,c,rfl,hma,hm,hb1,hcc⟩
 have HMA:=Ql4 hma
 have HB1:=Ql4 hb1
 have HCC:=Ql4 hcc
 have hmi:(m:Int)≤16777216:=by omega
 clear hb1 hcc hma HNN
 go_wp2_with fail
 go_loopw [3,5,9] (fun s3 s5 s9 wr=>∃(j:Nat) (z:List Int) (B:Option Addr) (d:Nat),j≤m∧s9= .int .i64 j∧s3= .slice B z.length d∧Hid ((As.take j).filter (fun a=>decide (a≠-1))=z)∧z.length≤j∧Hid (wr.ownsRow w1.heap.size 3 1 (.slice B z.length d) z.length (z.map (Value.int .i64)))∧Hid (Below w1.heap.size w1 wr)) (fun _ _ s9 _=>m - (intOf s9).toNat)
 case atStart=>exact ⟨0,[],none,0,Nat.zero_le _,rfl,rfl,rfl,Nat.le_refl _,⟨rfl,.inl ⟨rfl,rfl⟩⟩,Below.refl _ _⟩
 case round=>
  obtain ⟨j,z,B,d,hj,rfl,rfl,HZ,hzj,HO,HB⟩:=hrel
  by_cases hlt:j < m
  ·have hji:(j:Int) < (m:Int):=by omega
   obtain ⟨g,rfl,hc⟩:=HCC.out (by omega)
   obtain ⟨a,ha⟩:∃a,As[j]? =some a:=⟨_,List.getElem?_eq_getElem (by rw [←HMA.out];exact hlt)⟩
   obtain ⟨h,b,q1,q2⟩:=hc j a ha
   have c1:=Qq HB.out q1
   have c2:=Qq HB.out q2
   by_cases hae:a= -1
   ·have HZ2:Hid ((As.take (j+1)).filter (fun a=>decide (a≠-1))=z):=by
     show _=_
     rw [List.take_add_one,ha,List.filter_append,HZ.out]
     simp [hae]
    subst hae
    clear hc ha q1 q2
    go_wp2_with fail
    refine (HWH.out _ b h).mono ?_
    rintro e w5 ⟨rfl,rfl⟩
    go_wp2_with fail
    go_roundw
    case rel=>exact ⟨j+1,z,B,d,by omega,by go_num,rfl,HZ2,by omega,HO,HB⟩
    case measure=>simp [intOf];omega
   ·have HZN:Hid ((As.take (j+1)).filter (fun a=>decide (a≠-1))=z++[a]):=by
     show _=_
     rw [List.take_add_one,ha,List.filter_append,HZ.out]
     simp [hae]
    have hab:(a == -1)=false:=by simpa using hae
    have HOA:=Ql4 (HO.out.alloc (.cells #[.int .i64 a] 3))
    have HNW:Hid (∀(j':Nat) (u:Value),([.int .i64 a]:List Value)[j']? =some u→(wr.alloc (.cells #[.int .i64 a] 3)).cell? ((⟨wr.heap.size,0,none⟩:Addr).add j')=some u):=Zr _ _ _
    have hone:∀u∈([.int .i64 a]:List Value),u.oneCell'=true:=by simp [Value.oneCell']
    have HONE:=Ql4 hone
    have hszr:=HB.out.size
    have HSZ2:Hid (w1.heap.size≤(wr.alloc (.cells #[.int .i64 a] 3)).heap.size):=by show _≤_;simp only [World.size_alloc];omega
    have HSZ3:=Ql4 hszr
    obtain ⟨zl,hzl⟩:∃zl,z.length=zl:=⟨_,rfl⟩
    have HZL:=Ql4 hzl
    rw [hzl] at HO HOA hzj ⊢
    clear hc ha q1 q2 hone hszr hzl
    go_wp2_with fail
    refine (HWH.out _ b h).mono ?_
    rintro e w5 ⟨rfl,rfl⟩
    go_wp2_with fail
    refine (HWH.out _ b h).mono ?_
    rintro e w5 ⟨rfl,rfl⟩
    go_wp2_with (at_builtin;go_must (refine wpList_append_own _ rfl (.tmp 18) (.tmp 23) 39 rfl w1.heap.size 3 i0 _ 1 8 Tryz.underlying39 HI0.out HZ0.out HZ1.out HZ2.out rfl (by omega) (.slice B zl d) zl (z.map (Value.int .i64)) rfl HOA.out ⟨wr.heap.size,0,none⟩ 1 1 [.int .i64 a] rfl rfl HNW.out HONE.out (by simp only [maxLen];omega) (by omega) HSZ2.out ?_;intro v2 w6 hown6 hg6 _;have HO6:=Ql4 hown6;have HB6:=Ql4 (Q4 HO.out hg6 HSZ3.out);obtain ⟨A2,c2',e2⟩:=Qk hown6;subst e2;clear hown6 hg6))
    have hmeas:m - (intOf (.int .i64 ((j:Int)+1))).toNat < m - (intOf (.int .i64 (j:Int))).toNat:=by simp [intOf];omega
    have hz1:(z++[a]).length=zl+1:=by rw [List.length_append,HZL.out];rfl
    refine ⟨⟨j+1,z++[a],A2,c2',?_,?_,?_,HZN,?_,?_,?_⟩,hmeas⟩
    ·omega
    ·go_num
    ·rw [hz1]
    ·omega
    ·rw [hz1,List.map_append,List.map_cons,List.map_nil];with_reducible exact HO6
    ·exact HB.out.trans HB6.out
  ·obtain rfl:j=m:=by omega
   have hfull:As.take j=As:=by rw [HMA.out];exact List.take_length
   rw [hfull] at HZ
   have hz:=HZ.out
   subst hz
   have HS:=Ql4 (HSO.out wr _ _ HO.out (by rw [←HMA.out];exact hm))
   have HLO:Hid (∀k,(Value.slice B (As.filter fun a=>decide (a≠-1)).length d).ownBlock=some k→w1.heap.size≤k):=fun k hk=>(HO.out.lt k hk).1
   obtain ⟨zl,hzl⟩:∃zl,(As.filter fun a=>decide (a≠-1)).length=zl:=⟨_,rfl⟩
   have HZL:=Ql4 hzl
   rw [hzl] at HS HO HLO hzj ⊢
   clear hfull hzl
   go_wp2_with fail
   with_reducible refine HS.out.mono ?_
   rintro e w5 ⟨rfl,h5,h6⟩
   have HR:Hid (Li w (As.filter fun a=>decide (a≠-1)) (.returned (.slice B zl d)) w5):=by
    have hs1:=HB1.out.size
    refine ⟨B,d,by rw [HZL.out],by rw [HZL.out];exact Qs h5 hs1,?_⟩
    have hb5:Below w1.heap.size w1 w5:=HB.out.trans ⟨h6.os,h6.tape,h6.output,h6.size,fun k hk=>h6.block k (by have:=HB.out.size;omega) (fun e=>by have:=HLO.out k e.symm;omega)⟩
    exact Qa HB1.out hb5
   clear h5 h6
   go_wp2_with fail
   go_ret
   exact HR.out
end tr
end Go.Proofs.YtfialjmemcobjaaGreatDoor
