/- A part of the proof. -/
import Derived.Test.YtfialjmemcobjaaGreatDoorPrVmD
import Derived.Test.YtfialjmemcobjaaGreatDoorPrVoA
set_option linter.unusedVariables false
set_option linter.unusedSimpArgs false
namespace Go.Proofs.YtfialjmemcobjaaGreatDoor
namespace vo
open Go.RowKit Go.Maps er st tr
def Yl (T:Tree):List Int:=sorted T.nfs++Q3 T.flat
def J9 (X:XL):List Int:=X.flatMap fun x=>Yl x.1.tr
def Small (T:Tree):Prop:=T.cnt≤100000∧T.flat.length≤4096∧(Yl T).length≤100000
def Yr (X:XL):Prop:=X.length≤8∧∀x∈X,Small x.1.tr
theorem Js (l:List Int):(sorted l).length=l.length:=by unfold sorted;simp
def Cc (X:XL) (x:Int):XL:=X.filter fun y=>decide (y.1.id≠x)
theorem Mq (X:XL) (x:Int):F3 (Zm X) x=Zm (Cc X x):=by
 unfold F3 Zm Cc
 rw [List.filter_map]
 rfl
theorem Lt {y:Sp×Bl}:∀{X:XL},(Zm X).Pairwise (fun x y=>x.1 < y.1)→y∈X→X.Perm (y::Cc X y.1.id)
 |[],_,h=>by simp at h
 |z::r,hp,h=>by
  obtain ⟨h1,h2⟩:=List.pairwise_cons.1 (show List.Pairwise _ ((z.1.id,z.2.p)::Zm r) from hp)
  rcases List.mem_cons.1 h with rfl|h
  ·have:Cc (y::r) y.1.id=r:=by
    show List.filter _ _=_
    rw [List.filter_cons_of_neg (by simp)]
    rw [List.filter_eq_self]
    intro a ha
    have:=h1 (a.1.id,a.2.p) (List.mem_map.2 ⟨a,ha,rfl⟩)
    simp only at this
    simp
    omega
   rw [this]
  ·have hlt:=h1 (y.1.id,y.2.p) (List.mem_map.2 ⟨y,h,rfl⟩)
   simp only at hlt
   have:Cc (z::r) y.1.id=z::Cc r y.1.id:=by
    show List.filter _ _=_
    rw [List.filter_cons_of_pos (by simp;omega)]
    rfl
   rw [this]
   exact ((Lt h2 h).cons z).trans (List.Perm.swap _ _ _)
theorem Qyb {X Y:XL} (h:X.Perm Y):(J9 X).Perm (J9 Y):=h.flatMap_right _
theorem Ff {X:XL} (h:∀x∈X,(Yl x.1.tr).length≤100000):(J9 X).length≤100000 * X.length:=by
 induction X with
 |nil=>simp [J9]
 |cons x r ih=>
  have h1:=h x (by simp)
  have h2:=ih fun y hy=>h y (by simp [hy])
  show (Yl x.1.tr++J9 r).length≤_
  rw [List.length_append,List.length_cons]
  omega
theorem Qz4 {w w':World} {B r:Nat} (h:Keep (fun k=>k=r) w w') (hr:B≤r) (hB:B≤w.heap.size):Below B w w':=⟨h.os,h.tape,h.output,h.size,fun i hi=>h.block i (by omega) (by omega)⟩
theorem Oo (l:List Int):∀u∈ints l,u.oneCell'=true:=fun u hu=>by obtain ⟨x,_,rfl⟩:=List.mem_map.1 hu;rfl
set_option maxHeartbeats 8000000 in
set_option maxRecDepth 100000 in
theorem Ic (w:World) (v:Nat) (c:Pt) (X:XL) (V:Vo) (h:VoIn w v c X V) (hs:Yr X):
  Calls Tryz.prog 86 #[.pointer (some ⟨v,0,none⟩)] w fun x w'=>∃v' L,x= .returned v'∧L.Perm (J9 X)∧w'.ownsRow w.heap.size 3 1 v' L.length (ints L)∧Below w.heap.size w w':=by
 have c2:=h.obj.cell 2
 simp [Qi] at c2
 have hv:v≠0:=fun e=>(h.far v (by simp [Dl])).2 e
 obtain ⟨w1,hrg,hR1,hb1,hs1⟩:=RngAt.start h.trs Tryz.underlying113
 have H:=Ql4 h
 have HB1:=Ql4 hb1
 have HPL:Hid (∀x∈X,(Yl x.1.tr).length≤100000):=fun x hx=>(hs.2 x hx).2.2
 have HPX:Hid (∀Y:XL,(∀y∈Y,y∈X)→Y.length≤8→(J9 Y).length≤800000):=fun Y hY h8=>Nat.le_trans (Ff fun y hy=>HPL.out y (hY y hy)) (by omega)
 have HSM:=Ql4 hs
 have HPW:Hid ((Zm X).Pairwise fun x y=>x.1 < y.1):=h.trs.2
 obtain ⟨i0,hi0,hz0,hz1,hz2⟩:=info_parts Dy
 have HAP:=Ql4 (fun (wq:World) (v:Value) (n:Nat) (xs:List Value) (hown:wq.ownsRow (w.heap.size+1) 3 1 v n xs) (y:Value) (m:Nat) (news:List Value) (hq:SlAt wq y m 1 news) (h1:∀u∈news,u.oneCell'=true) (h63:n+m≤100000000) (hb:w.heap.size+1≤wq.heap.size) (ty:TypeId)=>Cq (P:=Tryz.prog) wq (w.heap.size+1) 39 ty 3 i0 _ 1 8 Tryz.underlying39 hi0 hz0 hz1 hz2 rfl (by omega) v n xs hown y m news hq h1 h63 (by omega) hb)
 have HR1:=Ql4 hR1
 clear h hs hb1 hR1 hi0 hz0 hz1 hz2
 go_enter Tryz.func86,Tryz.ntmps86
 go_wp2_with fail
 go_loopw [3,5] (fun ov _ wr=>∃(rem:XL) (A:Option Addr) (m d:Nat) (L:List Int),ov= .slice A m d∧Hid ((∀y∈rem,y∈X)∧rem.length≤8∧(Zm rem).Pairwise fun x y=>x.1 < y.1)∧Hid (RngAt wr c.tb w.heap.size (Zm X) (Zm rem))∧Hid (L.length=m)∧Hid ((L++J9 rem).Perm (J9 X))∧Hid (wr.ownsRow (w.heap.size+1) 3 1 (.slice A m d) m (ints L))∧Hid (Below w.heap.size w wr)∧Hid (w.heap.size+1≤wr.heap.size)) (fun _ _ wr=>wr.rangeLeft c.tb w.heap.size)
 case atStart=>exact ⟨X,none,0,0,[],rfl,⟨fun y hy=>hy,HSM.out.1,HPW.out⟩,HR1.out,rfl,List.Perm.refl _,⟨rfl,.inl ⟨rfl,rfl⟩⟩,HB1.out,Nat.le_of_eq hs1.symm⟩
 case round=>
  obtain ⟨rem,A,m,d,L,rfl,HREM,HR,HM,HP,HO,HB,HZ⟩:=hrel
  rcases HR.out.next with ⟨hnil,hn⟩|⟨x,p,w2,hmem,hx,hn,hr2,hk2,hs2,hen,hlt⟩
  ·obtain rfl:rem=[]:=by simpa [Zm] using hnil
   have hn0:=hn 0
   clear hn hnil
   go_wp2_with fail
   go_ret
   have hp:=HP.out
   simp only [J9,List.flatMap_nil,List.append_nil] at hp
   refine ⟨_,L,rfl,hp,?_,HB.out⟩
   rw [HM.out]
   exact Qs HO.out (by omega)
  ·obtain ⟨y,hy,hye⟩:=List.mem_map.1 hmem
   have hyX:=HREM.out.1 y hy
   have hyi:y.1.id=x:=congrArg Prod.fst hye
   have hyp:y.2.p=p:=congrArg Prod.snd hye
   have HB2:Hid (Below w.heap.size w w2):=HB.out.trans (Qz4 hk2 (Nat.le_refl _) HB.out.size)
   have HPR:=Ql4 (Lt HREM.out.2.2 hy)
   have hcount:=HPR.out.length_eq
   rw [List.length_cons] at hcount
   rw [Mq] at hr2
   obtain ⟨ht1,ht2,ht3⟩:=H.out.tre y hyX
   have hsm:=HSM.out.2 y hyX
   have hn0:=hn 0
   have HREM2:Hid ((∀z∈Cc rem x,z∈X)∧(Cc rem x).length≤8∧(Zm (Cc rem x)).Pairwise fun x y=>x.1 < y.1):=⟨fun z hz=>HREM.out.1 z (List.mem_filter.1 hz).1,Nat.le_trans (List.length_filter_le _ _) HREM.out.2.1,by rw [←Mq];exact HREM.out.2.2.filter _⟩
   have HPM:Hid ((L++(Yl y.1.tr++J9 (Cc rem x))).Perm (J9 X)):=by
    refine List.Perm.trans (List.Perm.append_left _ ?_) HP.out
    rw [←hyi]
    exact (Qyb HPR.out).symm
   have hlen:=HPM.out.length_eq
   have htot:=HPX.out X (fun y hy=>hy) HSM.out.1
   rw [←hlen] at htot
   simp only [List.length_append] at htot
   rw [HM.out] at htot
   have htl:(Yl y.1.tr).length=(sorted y.1.tr.nfs).length+(Q3 y.1.tr.flat).length:=by unfold Yl;rw [List.length_append]
   have HPT:Hid (Yl y.1.tr=sorted y.1.tr.nfs++Q3 y.1.tr.flat):=rfl
   rw [htl] at htot
   clear hn hmem hye hyX HPR hcount htl hlen
   obtain ⟨⟨id,size,used,T⟩,⟨ya,yp,F⟩⟩:=y
   simp only at hyi hyp ht1 ht2 ht3 hsm htot HPM HPT
   subst hyi hyp
   have ht1':∀W,Below w.heap.size w W→TrAt W F yp T:=fun W hb=>TrAt.keep ht1 (Keep.below (F:=fun _=>False) hb) (fun _ _ h=>h)
   have HPG:Hid (∀W,Below w.heap.size w W→Calls Tryz.prog 163 #[.pointer (some ⟨yp,0,none⟩)] W (Li W T.nfs)):=fun W hb=>Qyf W F yp T (ht1' W hb) ht2 (by have:=hsm.1;omega)
   have HAL:Hid (∀W,Below w.heap.size w W→Calls Tryz.prog 165 #[.pointer (some ⟨yp,0,none⟩)] W fun x w'=>∃v',x= .returned v'∧w'.ownsRow W.heap.size 255 4 v' T.flat.length (Qz T.flat)∧Below W.heap.size W w'):=fun W hb=>Rw W F yp T (ht1' W hb) ht2 ht3
   have HEP:Hid (∀W v B,W.ownsRow B 255 4 v T.flat.length (Qz T.flat)→Calls Tryz.prog 164 #[v] W fun x w'=>∃v',x= .returned v'∧w'.ownsRow W.heap.size 3 1 v' (Q3 T.flat).length ((Q3 T.flat).map (Value.int .i64))∧Below W.heap.size W w'):=fun W v B h=>Qko T.flat v W (SlAt.exts (SlAt.own h)).1 ht3 hsm.2.1
   have HR2:=Ql4 hr2
   have HO2:Hid (w2.ownsRow (w.heap.size+1) 3 1 (.slice A m d) m (ints L)):=Qj HO.out hk2 (fun g hg e=>by have:=HO.out.lt g hg;omega)
   have HZ2:Hid (w.heap.size+1≤w2.heap.size):=by show _≤_;rw [hs2];exact HZ.out
   have HLT:=Ql4 hlt
   obtain ⟨NF,hNF⟩:∃l,sorted T.nfs=l:=⟨_,rfl⟩
   obtain ⟨EP,hEP⟩:∃l,Q3 T.flat=l:=⟨_,rfl⟩
   have HNL:Hid (NF.length=T.nfs.length):=by show _=_;rw [←hNF,Js]
   rw [hNF,hEP] at htot HPT
   have HNF:=Ql4 hNF
   rw [hEP] at HEP
   clear hNF hEP ht1 ht2 ht3 hsm hr2 hlt hk2
   go_wp2_with fail
   clear ht1'
   with_reducible refine (HPG.out _ HB2.out).mono ?_
   rintro e w3 ⟨A3,c3,rfl,ho3,hb3⟩
   rw [←HNL.out] at ho3 ⊢
   have HK3:Hid (Keep (fun k=>w.heap.size+1≤k) w2 w3):=Keep.below hb3
   have HO3:=Ql4 (own_below HO2.out hb3)
   have HSL3:=Ql4 (SlAt.own ho3)
   have HZ3:Hid (w.heap.size+1≤w3.heap.size):=Nat.le_trans HZ2.out hb3.size
   have HN3:=HNF.out
   obtain ⟨v4,w4,hrun4,hown4,hg4⟩:=HAP.out w3 _ _ _ HO3.out _ _ _ HSL3.out (by rw [HNF.out];exact Oo NF) (by omega) HZ3.out 39
   rw [HNF.out] at hown4
   have HK4:Hid (Keep (fun k=>w.heap.size+1≤k) w2 w4):=HK3.out.grown hg4 (fun g hg=>.inl (HO3.out.lt g hg).1)
   have HRUN4:=Ql4 hrun4
   obtain ⟨A4,c4,e4⟩:=Qk hown4
   subst e4
   have HO4:=Ql4 hown4
   have HB4:Hid (Below w.heap.size w w4):=HB2.out.trans (HK4.out.toBelow HB2.out.size (fun k hk=>by omega))
   have HZ4:Hid (w.heap.size+1≤w4.heap.size):=Nat.le_trans HZ2.out HK4.out.size
   clear ho3 hb3 hrun4 hown4 hg4 HN3
   go_wp2_with (at_builtin;refine Lib.wpList_append_run _ rfl _ _ _ _ rfl _ _ rfl rfl _ _ HRUN4.out ?_)
   with_reducible refine (HAL.out _ HB4.out).mono ?_
   rintro e w5 ⟨v5,rfl,ho5,hb5⟩
   have HK5:Hid (Keep (fun k=>w.heap.size+1≤k) w2 w5):=HK4.out.transBelow hb5
   have HO5:=Ql4 (own_below HO4.out hb5)
   have HEE:=Ql4 (HEP.out w5 _ _ ho5)
   obtain ⟨A5,c5,e5⟩:=Qk ho5
   subst e5
   clear ho5 hb5
   go_wp2_with fail
   with_reducible refine HEE.out.mono ?_
   rintro e w6 ⟨v6,rfl,ho6,hb6⟩
   have HK6:Hid (Keep (fun k=>w.heap.size+1≤k) w2 w6):=HK5.out.transBelow hb6
   have HO6:=Ql4 (own_below HO5.out hb6)
   have HSL6:=Ql4 (SlAt.own ho6)
   have HZ6:Hid (w.heap.size+1≤w6.heap.size):=Nat.le_trans HZ2.out HK6.out.size
   obtain ⟨A6,c6,e6⟩:=Qk ho6
   subst e6
   obtain ⟨v7,w7,hrun7,hown7,hg7⟩:=HAP.out w6 _ _ _ HO6.out _ _ _ HSL6.out (Oo EP) (by omega) HZ6.out 39
   have HK7:Hid (Keep (fun k=>w.heap.size+1≤k) w2 w7):=HK6.out.grown hg7 (fun g hg=>.inl (HO6.out.lt g hg).1)
   have HRUN7:=Ql4 hrun7
   obtain ⟨A7,c7,e7⟩:=Qk hown7
   subst e7
   have HO7:=Ql4 hown7
   clear ho6 hb6 hrun7 hown7 hg7
   go_wp2_with (at_builtin;refine Lib.wpList_append_run _ rfl _ _ _ _ rfl _ _ rfl rfl _ _ HRUN7.out ?_)
   have htb:c.tb < w.heap.size:=H.out.trs.lt
   have hL:=HR2.out.left_keep HK7.out (by omega) (by omega)
   refine ⟨⟨Cc rem id,A7,m+NF.length+EP.length,c7,L++NF++EP,rfl,HREM2.out,HR2.out.keep HK7.out (by omega) (by omega),?_,?_,?_,HB2.out.trans (HK7.out.toBelow HB2.out.size (fun k hk=>by omega)),Nat.le_trans HZ2.out HK7.out.size⟩,?_⟩
   ·show _=_
    simp only [List.length_append,HM.out]
   ·show List.Perm _ _
    have:=HPM.out
    rw [HPT.out] at this
    simpa [List.append_assoc] using this
   ·show World.ownsRow _ _ _ _ _ _ _
    have:=HO7.out
    simpa [ints] using this
   ·rw [hL]
    exact HLT.out
theorem sorted_perm {l m:List Int} (h:l.Perm m):sorted l=sorted m:=by
 unfold sorted
 refine List.Perm.eq_of_pairwise (le:=fun x y=>x≤y) (fun a b _ _ h1 h2=>by omega) ?_ ?_ ((List.mergeSort_perm _ _).trans (h.trans (List.mergeSort_perm _ _).symm))
 all_goals
  refine (List.pairwise_mergeSort (fun a b c h1 h2=>?_) (fun a b=>?_) _).imp (fun h=>by simpa using h)
  ·simp at h1 h2 ⊢;omega
  ·simp;omega
def Gq (r:Int):List Int:=if 0≤r then [r] else []
def Yu (X:XL) (V:Vo):List Int:=Lib.compact (sorted (J9 X++V.last++Gq V.root))
def Aq (X:XL) (V:Vo):Prop:=Yr X∧V.last.length≤100000
theorem Ag (p:Nat) (w:World):(binOp .eql 24 (.pointer (some ⟨p,0,none⟩)) (.pointer none)).run Tryz.prog w= .ok (.bool false) w:=by kernel_rfl
def Ik (w:World) (l:List Int) (x:Ending) (w':World):Prop:=∃A c,x= .returned (.slice A l.length c)∧w'.ownsRow w.heap.size 3 1 (.slice A l.length c) l.length (ints l)∧Below w.heap.size w w'
theorem Rf (w:World) (A B:Option Addr) (n m c d:Nat) (k l:List Int) (b1 b2:Nat) (h1:w.ownsRow b1 3 1 (.slice A n c) n (ints k)) (h2:w.ownsRow b2 3 1 (.slice B m d) m (ints l)) (hs:n+m≤100000000):
  Calls Tryz.prog 85 #[.slice (some ⟨w.heap.size,0,none⟩) 2 2] (w.alloc (.cells #[.slice A n c,.slice B m d] 39)) fun e w'=>∃v',e= .returned v'∧w'.ownsRow w.heap.size 3 1 v' (n+m) (ints (k++l))∧Below w.heap.size w w':=by
 have hb:Below w.heap.size w (w.alloc (.cells #[.slice A n c,.slice B m d] 39)):=(Below.refl _ _).alloc (Nat.le_refl _) _
 have hw:=Whole.new w 39 #[.slice A n c,.slice B m d]
 refine (Qe1 [(.slice A n c,n,ints k),(.slice B m d,m,ints l)] w.heap.size 2 _ (fun j y hy=>?_) (by simpa using hs) (by simp) (by simp)).mono ?_
 ·match j,hy with
  |0,hy=>
   obtain rfl:_=y:=by simpa using hy
   exact ⟨hw.cell 0,(SlAt.own h1).below hb,Oo _⟩
  |1,hy=>
   obtain rfl:_=y:=by simpa using hy
   exact ⟨hw.cell 1,(SlAt.own h2).below hb,Oo _⟩
 ·rintro e w' ⟨v',rfl,ho,hb'⟩
  refine ⟨v',rfl,Qs (by simpa [ints] using ho) (by simp),hb.trans (hb'.mono (by simp))⟩
set_option maxHeartbeats 8000000 in
set_option maxRecDepth 100000 in
theorem Qzt (w:World) (v:Nat) (c:Pt) (X:XL) (V:Vo) (h:VoIn w v c X V) (hs:Aq X V):
  Calls Tryz.prog 32 #[.pointer (some ⟨v,0,none⟩)] w (Ik w (Yu X V)):=by
 have hvq:=Ag v
 have c4:=h.obj.cell 4
 have c5:=h.obj.cell 5
 simp [Qi] at c4 c5
 obtain ⟨LA,lc,hlv⟩:=Qk h.lst
 rw [hlv] at c5
 have hlst:=h.lst
 rw [hlv] at hlst
 have HP:Hid (∀W,Below w.heap.size w W→Calls Tryz.prog 86 #[.pointer (some ⟨v,0,none⟩)] W fun x w'=>∃v' L,x= .returned v'∧L.Perm (J9 X)∧w'.ownsRow W.heap.size 3 1 v' L.length (ints L)∧Below W.heap.size W w'):=fun W hb=>Ic W v c X V (h.below hb) hs.1
 have HPL:Hid ((J9 X).length≤800000):=Nat.le_trans (Ff fun y hy=>(hs.1.2 y hy).2.2) (by have:=hs.1.1;omega)
 obtain ⟨i0,hi0,hz0,hz1,hz2⟩:=info_parts Dy
 have HI0:=Ql4 hi0
 have HZ0:=Ql4 hz0
 have HZ1:=Ql4 hz1
 have HZ2:=Ql4 hz2
 obtain ⟨ll,hll⟩:∃ll,V.last=ll:=⟨_,rfl⟩
 have HN:Hid (Yu X V=Lib.compact (sorted (J9 X++ll++Gq V.root))):=by show _=_;rw [←hll];rfl
 rw [hll] at hlst c5
 have hl1:ll.length≤100000:=by rw [←hll];exact hs.2
 obtain ⟨rt,hrt⟩:∃rt,V.root=rt:=⟨_,rfl⟩
 rw [hrt] at c4 HN
 obtain ⟨ln,hln⟩:∃ln,ll.length=ln:=⟨_,rfl⟩
 rw [hln] at c5 hlst hl1
 have HLN:=Ql4 hln
 have HLST:=Ql4 hlst
 have HV4:Hid (∀W,Below w.heap.size w W→W.cell? ⟨v,4,none⟩=some (.int .i64 rt)):=fun W hb=>Qq hb c4
 have HV5:Hid (∀W,Below w.heap.size w W→W.cell? ⟨v,5,none⟩=some (.slice LA ln lc)):=fun W hb=>Qq hb c5
 rw [show Ik w (Yu X V)=Ik w (Lib.compact (sorted (J9 X++ll++Gq rt))) by rw [HN.out]]
 clear h hs hlv hlst hi0 hz0 hz1 hz2 hll hrt hln c4 HN
 go_enter Tryz.func32,Tryz.ntmps32
 go_wp2_with fail
 go_region_held3 (fun w'=>w'.cell? ⟨v,5,none⟩=some (.slice LA ln lc)) (first|exact HV5.out _ HB3.out|exact HV5.out _ HB2.out|exact HV5.out _ (HB2.out.alloc HB2.out.size _)|exact HV5.out _ (by repeat (first|with_reducible exact Below.refl _ _|refine Below.drew ?_))) (first|(go_at_call 86;refine (HP.out _ (by repeat (first|with_reducible exact Below.refl _ _|refine Below.drew ?_))).mono ?_;rintro e w2 ⟨v2,L,rfl,hperm,hown2,hb2⟩;have HPE:=Ql4 hperm;have HO2:=Ql4 hown2;have HB2:Hid (Below w.heap.size w w2):=(Below.trans (by repeat (first|with_reducible exact Below.refl _ _|refine Below.drew ?_)) hb2);have HL2:Hid (L.length≤800000):=(by show _≤_;rw [hperm.length_eq];exact HPL.out);obtain ⟨A2,c2,e2⟩:=Qk hown2;subst e2;clear hperm hown2 hb2)|(go_at_call 85;refine (Rf _ _ _ _ _ _ _ _ _ _ _ HO2.out (own_below HLST.out (HB2.out.mono (Nat.le_refl _))) (by have:=HL2.out;omega)).mono ?_;rintro e w3 ⟨v3,rfl,hown3,hb3⟩;have HO3:=Ql4 (Qs hown3 HB2.out.size);have HB3:Hid (Below w.heap.size w w3):=HB2.out.trans (hb3.mono HB2.out.size);obtain ⟨A3,c3,e3⟩:=Qk hown3;subst e3;clear hown3 hb3))
 obtain ⟨M,hM⟩:∃M,L++ll++Gq rt=M:=⟨_,rfl⟩
 have HSM:Hid (sorted (J9 X++ll++Gq rt)=sorted M):=by
  show _=_
  rw [←hM]
  exact sorted_perm ((HPE.out.symm.append_right _).append_right _)
 have HMM:=Ql4 hM
 have hml:M.length≤1000000:=by
  have h2:=HL2.out
  have h3:=HLN.out
  have h4:(Gq rt).length≤1:=by unfold Gq;split <;> simp
  rw [←hM,List.length_append,List.length_append]
  omega
 have HL2':=HL2.out
 have HSO:Hid (∀W A m d,W.ownsRow w.heap.size 3 1 (.slice A m d) m (ints M)→Calls Tryz.prog 87 #[.slice A m d] W fun e w'=>e= .returned (.tuple #[])∧w'.ownsRow w.heap.size 3 1 (.slice A m d) m (ints (sorted M))∧W.grownBy w' (Value.slice A m d).ownBlock):=fun W A m d h=>by
  have hm:M.length=m:=by have:=h.1;simpa [ints] using this
  subst hm
  exact Tq M _ _ W h (by omega)
 have HCO:Hid (∀W A m d,W.ownsRow w.heap.size 3 1 (.slice A m d) m (ints (sorted M))→Calls Tryz.prog 88 #[.slice A m d] W fun e w'=>∃A' c',e= .returned (.slice A' (Lib.compact (sorted M)).length c')∧w'.ownsRow w.heap.size 3 1 (.slice A' (Lib.compact (sorted M)).length c') (Lib.compact (sorted M)).length (ints (Lib.compact (sorted M)))∧W.grownBy w' (Value.slice A m d).ownBlock):=fun W A m d h=>by
  have hm:(sorted M).length=m:=by have:=h.1;simpa [ints] using this
  subst hm
  exact Wp (sorted M) _ _ W h (by rw [Js];omega)
 have HSW:=Ql4 HB3.out.size
 have v4:=HV4.out _ HB3.out
 clear hM c5
 by_cases hr:0≤rt
 ·have HOA:=Ql4 (HO3.out.alloc (.cells #[.int .i64 rt] 3))
  have HSZ:Hid (w.heap.size≤(w3.alloc (.cells #[.int .i64 rt] 3)).heap.size):=by show _≤_;simp only [World.size_alloc];exact Nat.le_succ_of_le HSW.out
  have HONE:Hid (∀u∈([.int .i64 rt]:List Value),u.oneCell'=true):=by show ∀_,_;simp [Value.oneCell']
  go_wp2_with (at_builtin;go_must (refine wpList_append_own _ rfl (.tmp 19) (.tmp 24) 39 rfl w.heap.size 3 i0 _ 1 8 Tryz.underlying39 HI0.out HZ0.out HZ1.out HZ2.out rfl (by omega) (.slice A3 (L.length+ln) c3) (L.length+ln) (ints (L++ll)) rfl HOA.out ⟨w3.heap.size,0,none⟩ 1 1 [.int .i64 rt] rfl rfl (Zr _ _ _) HONE.out (by simp only [maxLen];omega) (by omega) HSZ.out ?_;intro v2 w6 hown6 hg6 _;have HO6:=Ql4 hown6;have HB6:=Ql4 (HB3.out.trans (Q4 HO3.out hg6 HSW.out));obtain ⟨A6,c6',e6⟩:=Qk hown6;subst e6;clear hown6 hg6))
  have HQ6:Hid (w6.ownsRow w.heap.size 3 1 (.slice A6 (L.length+ln+1) c6') (L.length+ln+1) (ints M)):=by
   have:=HO6.out
   show World.ownsRow _ _ _ _ _ _ _
   rw [←HMM.out]
   simpa [ints,Gq,hr] using this
  with_reducible refine (HSO.out _ _ _ _ HQ6.out).mono ?_
  rintro e w7 ⟨rfl,ho7,hg7⟩
  have HO7:=Ql4 ho7
  have HB7:=Ql4 (HB6.out.grown hg7 HB6.out.size (fun k hk=>(HQ6.out.lt k hk).1))
  clear ho7 hg7
  go_wp2_with fail
  with_reducible refine (HCO.out _ _ _ _ HO7.out).mono ?_
  rintro e w8 ⟨A8,c8,rfl,ho8,hg8⟩
  have HO8:=Ql4 ho8
  have HB8:=Ql4 (HB7.out.grown hg8 HB7.out.size (fun k hk=>(HO7.out.lt k hk).1))
  clear ho8 hg8
  go_wp2_with fail
  go_ret
  have hfin:Ik w (Lib.compact (sorted M)) (.returned (.slice A8 (Lib.compact (sorted M)).length c8)) w8:=⟨A8,c8,rfl,HO8.out,HB8.out⟩
  rw [←HSM.out] at hfin
  rw [←HSM.out]
  exact hfin
 ·have hr':rt < 0:=by omega
  have HQ6:Hid (w3.ownsRow w.heap.size 3 1 (.slice A3 (L.length+ln) c3) (L.length+ln) (ints M)):=by
   have:=HO3.out
   show World.ownsRow _ _ _ _ _ _ _
   rw [←HMM.out]
   simpa [ints,Gq,hr] using this
  go_wp2_with fail
  with_reducible refine (HSO.out _ _ _ _ HQ6.out).mono ?_
  rintro e w7 ⟨rfl,ho7,hg7⟩
  have HO7:=Ql4 ho7
  have HB7:=Ql4 (HB3.out.grown hg7 HB3.out.size (fun k hk=>(HQ6.out.lt k hk).1))
  clear ho7 hg7
  go_wp2_with fail
  with_reducible refine (HCO.out _ _ _ _ HO7.out).mono ?_
  rintro e w8 ⟨A8,c8,rfl,ho8,hg8⟩
  have HO8:=Ql4 ho8
  have HB8:=Ql4 (HB7.out.grown hg8 HB7.out.size (fun k hk=>(HO7.out.lt k hk).1))
  clear ho8 hg8
  go_wp2_with fail
  go_ret
  have hfin:Ik w (Lib.compact (sorted M)) (.returned (.slice A8 (Lib.compact (sorted M)).length c8)) w8:=⟨A8,c8,rfl,HO8.out,HB8.out⟩
  rw [←HSM.out] at hfin
  rw [←HSM.out]
  exact hfin
end vo
namespace vo
open Go.RowKit Go.Maps er st tr
section
variable {w w':World} {v:Nat} {c:Pt} {X:XL} {V V':Vo}
theorem VoIn.setV (h:VoIn w v c X V) (hk:Keep (fun k=>k=v) w w') (ho:Whole w' v 115 (Qi c V')) (e1:V'.s=V.s) (e2:V'.cap=V.cap) (e3:V'.l=V.l) (e4:V'.last=V.last):VoIn w' v c X V':=by
 have hn:=h.nd
 have hv:∀k∈c.lb::c.mb::c.tb::(Kh c.lv++Zd X),k≠v:=fun k hk e=>(List.nodup_cons.1 hn).1 (e▸hk)
 have hvs:∀k,stF c k→k≠v:=fun k hs e=>(h.far v (by simp [Dl])).1 (e▸hs)
 obtain ⟨s',cap',l',g',r',la',su'⟩:=V'
 simp only at e1 e2 e3 e4
 subst e1 e2 e3 e4
 refine ⟨ho,h.sto.keep hk hvs,h.led.keep hk (fun k hl e=>?_),h.trs.keep hk (hv _ (by simp)),fun x hx=>⟨TrAt.keep (h.tre x hx).1 hk (fun k hf=>hv k ?_),(h.tre x hx).2⟩,Qj h.lst hk (fun g hg=>hv g ?_),h.spl,h.nd,h.far,h.zero,hk.cell h.laid (fun e=>(h.far v (by simp [Dl])).2 e.symm)⟩
 ·have:k∈c.lb::c.mb::c.tb::(Kh c.lv++Zd X):=by
   rcases hl with rfl|rfl|⟨y,hy,rfl⟩
   ·simp
   ·simp
   ·obtain ⟨x,hx,rfl⟩:=List.mem_map.1 hy
    simp only [List.mem_cons,List.mem_append]
    exact .inr (.inr (.inr (.inr (List.mem_flatMap.2 ⟨x,hx,by simp⟩))))
  exact hv k this e
 ·simp only [List.mem_cons,List.mem_append]
  exact .inr (.inr (.inr (.inr (List.mem_flatMap.2 ⟨x,hx,by simp [hf]⟩))))
 ·simp only [List.mem_cons,List.mem_append]
  exact .inr (.inr (.inr (.inl (Jf.2 hg))))
end
theorem Qys {X:XL} {V:Vo} (hs:Aq X V):(Yu X V).length≤1000000:=by
 have h1:=Ht (sorted (J9 X++V.last++Gq V.root))
 have h2:=Ff fun y hy=>(hs.1.2 y hy).2.2
 have h3:=hs.1.1
 have h4:=hs.2
 have h5:(Gq V.root).length≤1:=by unfold Gq;split <;> simp
 unfold Yu
 rw [Js] at h1
 simp only [List.length_append] at h1
 omega
def Vo.kept (V:Vo) (X:XL):Vo:={V with s:=V.s.need (Yu X V)}
set_option maxHeartbeats 8000000 in
set_option maxRecDepth 100000 in
theorem Ov (w:World) (v:Nat) (c:Pt) (X:XL) (V:Vo) (h:VoIn w v c X V) (hs:Aq X V):
  Calls Tryz.prog 64 #[.pointer (some ⟨v,0,none⟩)] w fun x w'=>x= .returned (.tuple #[])∧VoIn w' v c X (V.kept X)∧Keep (stF c) w w':=by
 have c0:=h.obj.cell 0
 simp [Qi] at c0
 have HV0:Hid (∀W,Below w.heap.size w W→W.cell? ⟨v,0,none⟩=some (.pointer (some ⟨c.q,0,none⟩))):=fun W hb=>Qq hb c0
 have HN:Hid (∀W,Below w.heap.size w W→Calls Tryz.prog 32 #[.pointer (some ⟨v,0,none⟩)] W (Ik W (Yu X V))):=fun W hb=>Qzt W v c X V (h.below hb) hs
 have hlen:=Qys hs
 have HS:Hid (∀W A d,Below w.heap.size w W→W.ownsRow w.heap.size 3 1 (.slice A (Yu X V).length d) (Yu X V).length (ints (Yu X V))→Calls Tryz.prog 135 #[.pointer (some ⟨c.q,0,none⟩),.slice A (Yu X V).length d] W fun e w'=>e= .returned (.tuple #[])∧w'.cell? ⟨v,0,none⟩=some (.pointer (some ⟨c.q,0,none⟩))∧VoIn w' v c X (V.kept X)∧Keep (stF c) w w'):=by
  intro W A d hb ho
  have hW:=h.below hb
  refine (Qo2 W c.q c.p c.sv c.vv c.N V.s A _ d (Yu X V) rfl hlen hW.sto ?_).mono ?_
  ·rcases Nat.eq_zero_or_pos (Yu X V).length with h0|h0
   ·exact .inl (List.eq_nil_of_length_eq_zero h0)
   ·obtain ⟨g,rfl,hg1,_,_,hg4,_⟩:=Qo ho h0
    refine .inr ⟨g,0,rfl,fun hf=>by have:=h.sto.lt g hf;omega,fun j x hj=>?_⟩
    have:=hg4 j (.int .i64 x) (by simp [ints,hj])
    simpa using this
  ·rintro e w' ⟨rfl,hs',hm⟩
   have hv':=hW.stored hs' hm
   exact ⟨rfl,hv'.obj.cell 0,hv',(Keep.below hb).trans hm.keep (fun k hk=>.inl hk)⟩
 obtain ⟨l,hl⟩:∃l,Yu X V=l:=⟨_,rfl⟩
 rw [hl] at HN HS hlen
 clear h hs hl
 go_enter Tryz.func64,Tryz.ntmps64
 go_wp2_with fail
 go_region_held3 (fun w'=>w'.cell? ⟨v,0,none⟩=some (.pointer (some ⟨c.q,0,none⟩))) (first|with_reducible exact HC3.out|with_reducible exact HV0.out _ HB2.out|with_reducible exact HV0.out _ (Below.refl _ _)|with_reducible exact HV0.out _ (Below.refl _ _).drew) (first|(go_at_call 32;refine (HN.out _ (by repeat (first|with_reducible exact Below.refl _ _|refine Below.drew ?_))).mono ?_;rintro e w2 ⟨A2,d2,rfl,hown2,hb2⟩;have HO2:=Ql4 (Qs hown2 (Nat.le_refl w.heap.size));have HB2:Hid (Below w.heap.size w w2):=(Below.trans (by repeat (first|with_reducible exact Below.refl _ _|refine Below.drew ?_)) hb2);clear hown2 hb2)|(go_at_call 135;refine (HS.out _ _ _ HB2.out HO2.out).mono ?_;rintro e w3 ⟨rfl,hc3,hv3,hk3⟩;have HC3:=Ql4 hc3;have HV3:=Ql4 hv3;have HK3:=Ql4 hk3;clear hc3 hv3 hk3))
 go_wp2_with fail
 go_end0
 exact ⟨rfl,HV3.out,HK3.out⟩
theorem VoIn.unsure {w:World} {v:Nat} {c:Pt} {X:XL} {V:Vo} (h:VoIn w v c X V) (b:Bool):VoIn (w.setCell ⟨v,6,none⟩ (.bool b)) v c X {V with sure:=b}:=
 h.setV (Keep.set1 w v 6 (.bool b)) (by simpa [Qi] using h.obj.set 6 (.bool b)) rfl rfl rfl rfl
set_option maxHeartbeats 8000000 in
set_option maxRecDepth 100000 in
theorem Qj1 (w:World) (v:Nat) (c:Pt) (X:XL) (V:Vo) (op:ByteArray) (id:Int) (h:VoIn w v c X V) (hs:Aq X V):
  Calls Tryz.prog 72 #[.pointer (some ⟨v,0,none⟩),.string op,.int .i64 id,.nilIface] w fun x w'=>x= .returned .nilIface∧VoIn w' v c X (({V with sure:=false}:Vo).kept X)∧Keep (vF v c X) w w':=by
 have c6:=h.obj.cell 6
 have f6:=h.obj.fz 6
 have HK:=Ql4 (Ov _ v c X _ (h.unsure false) hs)
 have HS:Hid (Keep (fun k=>k=v) w (w.setCell ⟨v,6,none⟩ (.bool false))):=Keep.set1 w v 6 (.bool false)
 simp [Qi] at c6
 clear h hs
 go_enter Tryz.func72,Tryz.ntmps72
 go_wp2_with fail
 with_reducible refine HK.out.mono ?_
 rintro e w2 ⟨rfl,hv2,hk2⟩
 have HV2:=Ql4 hv2
 have HK2:=Ql4 hk2
 clear hv2 hk2
 go_wp2_with fail
 go_ret
 exact ⟨rfl,HV2.out,(HS.out.mono (G:=vF v c X) (fun k _ e=>by subst e;exact .inr (by simp [Dl]))).trans HK2.out (fun k hk=>.inl (.inl hk))⟩
theorem Qev (w:World) (v:Value) (op:ByteArray) (id:Int) (t:TypeId) (y:Value):
  Calls Tryz.prog 72 #[v,.string op,.int .i64 id,.iface t y] w fun x w'=>x= .returned (.iface 183 (.pointer (some ⟨w.heap.size,0,none⟩)))∧w.alloc (.cells #[.string op,.int .i64 id,.iface t y] 187)=w':=by
 have HW:=Ql4 (Y1 op id t y w)
 go_enter Tryz.func72,Tryz.ntmps72
 go_wp2_with fail
 with_reducible refine HW.out.mono ?_
 rintro e w2 ⟨rfl,rfl⟩
 go_wp2_with fail
 go_ret
 exact ⟨rfl,rfl⟩
end vo
namespace vo
open Go.RowKit Go.Maps er st tr
def Ay (size f n:Int) (m:Bool):Int:=if m=false∨n < 1 then 1 else if f < 0∨f > size∨n > size - f then 82 else 0
theorem Ye {X:XL} {x:Sp×Bl} (hx:x∈X):((⟨x.1.id,x.1.size,x.1.used⟩:Acc),x.2.a)∈Q5 X:=List.mem_map.2 ⟨x,hx,rfl⟩
theorem VoIn.acc {w:World} {v:Nat} {c:Pt} {X:XL} {V:Vo} (h:VoIn w v c X V) {x:Sp×Bl} (hx:x∈X):1≤x.1.id∧x.1.id≤65535∧0≤x.1.size∧x.1.size≤16777216∧0≤x.1.used:=by
 have:=h.led.ok.ids ⟨x.1.id,x.1.size,x.1.used⟩ (List.mem_map.2 ⟨_,Ye hx,rfl⟩)
 exact this
set_option maxHeartbeats 8000000 in
set_option maxRecDepth 100000 in
theorem Ew (w:World) (v:Nat) (c:Pt) (X:XL) (V:Vo) (x:Sp×Bl) (f n:Int) (m:Bool) (h:VoIn w v c X V) (hx:x∈X) (hf:I64 f) (hn:I64 n):
  Calls Tryz.prog 74 #[.pointer (some ⟨v,0,none⟩),.int .i64 x.1.id,.int .i64 f,.int .i64 n,.bool m] w fun e w'=>e= .returned (Gz (Ay x.1.size f n m))∧Below w.heap.size w w':=by
 have hvq:=Ag v
 have c1:=h.obj.cell 1
 simp [Qi] at c1
 have HO:=Ql4 (F6 w _ _ _ _ _ h.led (Ye hx))
 have ha:=h.acc hx
 obtain ⟨⟨id,size,used,T⟩,bl⟩:=x
 simp only at HO ha ⊢
 obtain ⟨a1,a2,a3,a4,a5⟩:=ha
 unfold I64 at hf hn
 have HE:Hid (∀e,Ay size f n m=e→Gz (Ay size f n m)=Gz e):=fun e he=>by rw [he]
 have HW:Hid (Ay size f n m=if m=false∨n < 1 then 1 else if f < 0∨f > size∨n > size - f then 82 else 0):=rfl
 obtain ⟨r,hr⟩:∃r,Gz (Ay size f n m)=r:=⟨_,rfl⟩
 rw [hr] at HE
 simp only [hr]
 clear h hx hr
 go_enter Tryz.func74,Tryz.ntmps74
 go_wp2_with fail
 with_reducible refine HO.out.mono ?_
 rintro e w1 ⟨rfl,hb1⟩
 have HB1:=Ql4 hb1
 clear hb1
 cases m with
 |false=>
  go_wp2_with fail
  go_ret
  exact ⟨by rw [HE.out 1 (by rw [HW.out];simp)];rfl,HB1.out⟩
 |true=>
  by_cases h1:n < 1
  ·go_wp2_with fail
   go_ret
   exact ⟨by rw [HE.out 1 (by rw [HW.out];simp [h1])];rfl,HB1.out⟩
  ·have h1':1≤n:=by omega
   by_cases h2:f < 0
   ·go_wp2_with fail
    go_ret
    exact ⟨by rw [HE.out 82 (by rw [HW.out];simp [h1,h2])];rfl,HB1.out⟩
   ·have h2':0≤f:=by omega
    by_cases h3:size < f
    ·go_wp2_with fail
     go_ret
     exact ⟨by rw [HE.out 82 (by rw [HW.out];simp [h1,h3])];rfl,HB1.out⟩
    ·have h3':f≤size:=by omega
     by_cases h4:size - f < n
     ·go_wp2_with fail
      go_ret
      exact ⟨by rw [HE.out 82 (by rw [HW.out];simp [h1,h4])];rfl,HB1.out⟩
     ·have h4':n≤size - f:=by omega
      go_wp2_with fail
      go_ret
      exact ⟨by rw [HE.out 0 (by rw [HW.out,if_neg (by simp;omega),if_neg (by omega)])];rfl,HB1.out⟩
def Qan (w:World) (op:ByteArray) (id e:Int) (x:Ending) (w':World):Prop:=∃b,x= .returned (.iface 183 (.pointer (some ⟨b,0,none⟩)))∧Whole w' b 187 #[.string op,.int .i64 id,.iface 28 (.int .i64 e)]∧Below w.heap.size w w'
abbrev Qlr:ByteArray:=⟨#[99,114,101,97,116,101]⟩
def Xx (X:XL) (y:Sp×Bl):XL:=X.filter (fun z=>decide (z.1.id < y.1.id))++y::X.filter fun z=>decide (y.1.id < z.1.id)
theorem Qqk (X:XL) (y:Sp×Bl):Q5 (Xx X y)=Z0 (Q5 X) (⟨y.1.id,y.1.size,y.1.used⟩,y.2.a):=by
 simp [Q5,Xx,Z0,List.filter_map,Function.comp_def]
theorem L9 (X:XL) (y:Sp×Bl):Zm (Xx X y)=Iw (Zm X) y.1.id y.2.p:=by
 simp [Zm,Xx,Iw,List.filter_map,Function.comp_def]
theorem Yw {X:XL} {y:Sp×Bl} (hn:∀z∈X,z.1.id≠y.1.id):(Xx X y).Perm (y::X):=by
 unfold Xx
 refine List.perm_middle.trans (List.Perm.cons y ?_)
 have h1:X.filter (fun z=>decide (y.1.id < z.1.id))=X.filter (fun z=>!decide (z.1.id < y.1.id)):=by
  refine List.filter_congr fun z hz=>?_
  have:=hn z hz
  by_cases hlt:z.1.id < y.1.id
  ·simp [hlt];omega
  ·simp [hlt];omega
 rw [h1]
 exact List.filter_append_perm _ _
theorem Az {X:XL} {y z:Sp×Bl} (h:z∈Xx X y):z=y∨z∈X:=by
 unfold Xx at h
 simp only [List.mem_append,List.mem_cons,List.mem_filter] at h
 rcases h with h|h|h
 ·exact .inr h.1
 ·exact .inl h
 ·exact .inr h.1
theorem Pz {X Y:XL} (h:X.Perm Y):(Zd X).Perm (Zd Y):=h.flatMap_right _
theorem Ri {v:Nat} {c:Pt} {X:XL} {s:Sp} {ab p:Nat} (hn:∀z∈X,z.1.id≠s.id):(Dl v c (Xx X (s,⟨ab,p,[p]⟩))).Perm (ab::p::Dl v c X):=by
 have h1:(Zd (Xx X (s,⟨ab,p,[p]⟩))).Perm (ab::p::Zd X):=Pz (Yw hn)
 exact (h1.append_left ([v,c.lb,c.mb,c.tb]++Kh c.lv)).trans (List.perm_middle.trans (List.perm_middle.cons ab))
theorem VoIn.created {w w3:World} {v:Nat} {c:Pt} {X:XL} {V:Vo} {id size:Int} {ab p:Nat} (h:VoIn w v c X V) (hn:∀x∈X,x.1.id≠id) (hk:Keep (fun k=>k=c.mb∨k=c.tb) w w3) (hl:LedIn w3 c.lb c.mb V.cap (Z0 (Q5 X) (⟨id,size,0⟩,ab))) (ht:MapAt w3 c.tb (Iw (Zm X) id p)) (hp:Whole w3 p 228 #[.nilIface]) (hab:w.heap.size≤ab) (hpp:w.heap.size≤p) (hne:ab≠p):
  VoIn w3 v c (Xx X (⟨id,size,0,.no⟩,⟨ab,p,[p]⟩)) {V with l:=(Xx X (⟨id,size,0,.no⟩,⟨ab,p,[p]⟩)).map (·.1)}:=by
 have hnd:=h.nd
 have hD:∀k∈Dl v c X,k≠c.mb→k≠c.tb→¬(k=c.mb∨k=c.tb):=fun k _ h1 h2 e=>e.elim h1 h2
 have hS:∀k,stF c k→¬(k=c.mb∨k=c.tb):=fun k hs e=>by
  rcases e with rfl|rfl
  ·exact (h.far c.mb (by simp [Dl])).1 hs
  ·exact (h.far c.tb (by simp [Dl])).1 hs
 have hsub:∀k∈v::(Kh c.lv++Zd X),¬(k=c.mb∨k=c.tb):=fun k hk e=>by
  unfold Dl at hnd
  simp only [List.nodup_cons,List.mem_cons,List.mem_append,not_or] at hnd
  obtain ⟨⟨n1,n2,n3,n4,n5⟩,⟨n6,n7,n8,n9⟩,⟨n10,n11,n12⟩,⟨n13,n14⟩,n15⟩:=hnd
  simp only [List.mem_cons,List.mem_append] at hk
  rcases e with rfl|rfl
  ·rcases hk with e|hk|hk
   ·exact n2 e.symm
   ·exact n11 hk
   ·exact n12 hk
  ·rcases hk with e|hk|hk
   ·exact n3 e.symm
   ·exact n13 hk
   ·exact n14 hk
 have hperm:=Ri (v:=v) (c:=c) (s:=(⟨id,size,0,.no⟩:Sp)) (ab:=ab) (p:=p) hn
 have hlt:=h.lt
 have h0:=h.laid.lt
 refine ⟨h.obj.keep hk (hsub _ (by simp)),h.sto.keep hk hS,by rw [Qqk];exact hl,by rw [L9];exact ht,fun x hx=>?_,Qj h.lst hk (fun g hg=>hsub g ?_),rfl,?_,fun k hk=>?_,h.zero,hk.cell h.laid (fun e=>?_)⟩
 ·rcases Az hx with rfl|hx
  ·exact ⟨⟨rfl,hp⟩,trivial,Df⟩
  ·refine ⟨TrAt.keep (h.tre x hx).1 hk (fun k hf=>hsub k ?_),(h.tre x hx).2⟩
   simp only [List.mem_cons,List.mem_append]
   exact .inr (.inr (List.mem_flatMap.2 ⟨x,hx,by simp [hf]⟩))
 ·simp only [List.mem_cons,List.mem_append]
  exact .inr (.inl (Jf.2 hg))
 ·rw [hperm.nodup_iff,List.nodup_cons,List.nodup_cons]
  refine ⟨fun hm=>?_,fun hm=>?_,h.nd⟩
  ·rcases List.mem_cons.1 hm with e|hm
   ·exact hne e
   ·have:=hlt ab (.inr hm);omega
  ·have:=hlt p (.inr hm);omega
 ·have:=hperm.mem_iff.1 hk
  simp only [List.mem_cons] at this
  rcases this with rfl|rfl|hk
  ·exact ⟨fun hs=>by have:=hlt k (.inl hs);omega,by omega⟩
  ·exact ⟨fun hs=>by have:=hlt k (.inl hs);omega,by omega⟩
  ·exact h.far k hk
 ·rcases e with e|e
  ·exact (h.far c.mb (by simp [Dl])).2 e.symm
  ·exact (h.far c.tb (by simp [Dl])).2 e.symm
theorem Qoq:Small .no:=by
 refine ⟨by simp [Tree.cnt],by simp [Tree.flat],?_⟩
 have h1:(sorted (Tree.nfs .no)).length=0:=by rw [Js];rfl
 unfold Yl
 rw [List.length_append,h1]
 simp [Q3,Tree.flat]
def Vo.made (V:Vo) (X:XL):Vo:={V with l:=X.map (·.1),sure:=false}
set_option maxHeartbeats 8000000 in
set_option maxRecDepth 100000 in
theorem Ch (w:World) (v:Nat) (c:Pt) (X:XL) (V:Vo) (id size:Int) (h:VoIn w v c X V) (hs:Aq X V) (hi:1≤id∧id≤65535) (hn:∀x∈X,x.1.id≠id) (hf:K9 (key (Q5 X)) id=none) (hz:0≤size∧size≤16777216) (h8:X.length < 8):
  Calls Tryz.prog 22 #[.pointer (some ⟨v,0,none⟩),.int .i64 id,.int .i64 size] w fun x w'=>x= .returned .nilIface∧∃ab p,VoIn w' v c (Xx X (⟨id,size,0,.no⟩,⟨ab,p,[p]⟩)) ((V.made (Xx X (⟨id,size,0,.no⟩,⟨ab,p,[p]⟩))).kept (Xx X (⟨id,size,0,.no⟩,⟨ab,p,[p]⟩)))∧Keep (vF v c X) w w'∧w.heap.size≤ab∧w.heap.size≤p:=by
 have hvq:=Ag v
 have c1:=h.obj.cell 1
 have c2:=h.obj.cell 2
 simp [Qi] at c1 c2
 have HO:=Ql4 (Vh w _ _ _ _ id size h.led hi (fun y hy=>by obtain ⟨x,hx,rfl⟩:=List.mem_map.1 hy;exact hn x hx) hf hz (by simpa [Q5] using h8))
 have hnd:=h.nd
 unfold Dl at hnd
 simp only [List.nodup_cons,List.mem_cons,List.mem_append,not_or] at hnd
 have hvm:v≠c.mb:=hnd.1.2.1
 have hmt:c.mb≠c.tb:=hnd.2.2.1.1
 have hvt:v≠c.tb:=hnd.1.2.2.1
 clear hnd
 have H:=Ql4 h
 have HSM:=Ql4 hs
 have HP:Hid (∀W,Calls Tryz.prog 69 #[.int .i64 0] W fun x w'=>x= .returned .nilIface∧W=w'):=fun W=>G6 0 W
 have HNI:=Ql4 hn
 have hi64:I64 id:=by unfold I64;omega
 have htl:(Zm X).length≤1000000:=by simp [Zm];omega
 have H8:=Ql4 h8
 clear h hs hi hn hf hz h8
 go_enter Tryz.func22,Tryz.ntmps22
 go_wp2_with fail
 with_reducible refine HO.out.mono ?_
 rintro x w1 ⟨ab,rfl,hab,hl1,hk1⟩
 have d2:w1.cell? ⟨v,2,none⟩=some (.map (some c.tb)):=hk1.cell c2 hvm
 have HK:Hid (∀W,Below w1.heap.size w1 W→W.cell? ⟨v,2,none⟩=some (.map (some c.tb))):=fun W hb=>Qq hb d2
 have hW2:Below w1.heap.size w1 (w1.alloc (.cells #[.nilIface] 228)).drew:=((Below.refl _ _).alloc (Nat.le_refl _) _).drew
 have ht1:MapAt w1 c.tb (Zm X):=H.out.trs.keep hk1 (fun e=>hmt e.symm)
 obtain ⟨w3,hmu,hm3,hk3,hs3⟩:=(ht1.below hW2).store Tryz.underlying113 htl hi64 w1.heap.size
 have habl:ab < w1.heap.size:=(hl1.acc (⟨id,size,0⟩,ab) (by simp [Z0])).lt
 have hws:=hk1.size
 have hk13:Keep (fun k=>k=c.mb∨k=c.tb) w w3:=((hk1.mono (G:=fun k=>k=c.mb∨k=c.tb) (fun k _ e=>.inl e)).transBelow hW2).trans hk3 (fun k e=>.inl (.inr e))
 have htb1:¬c.tb=w1.heap.size:=by have:=ht1.lt;omega
 have HV3:Hid (VoIn w3 v c (Xx X (⟨id,size,0,.no⟩,⟨ab,w1.heap.size,[w1.heap.size]⟩)) {V with l:=(Xx X (⟨id,size,0,.no⟩,⟨ab,w1.heap.size,[w1.heap.size]⟩)).map (·.1)}):=by
  have hlm:=hl1.below hW2
  have htbl:c.tb∈Dl v c X:=by simp [Dl]
  refine H.out.created HNI.out hk13 (hlm.keep hk3 (fun k hk e=>?_)) hm3 (Whole.keep (show Whole (w1.alloc (.cells #[.nilIface] 228)).drew w1.heap.size 228 #[.nilIface] from Whole.new w1 _ _) hk3 (fun e=>htb1 e.symm)) hab hws (by omega)
  subst e
  have hnd:=H.out.nd
  unfold Dl at hnd
  simp only [List.nodup_cons,List.mem_cons,List.mem_append,not_or] at hnd
  rcases hk with e|e|⟨y,hy,e⟩
  ·exact hnd.2.1.2.1 e.symm
  ·exact hmt e.symm
  ·rcases Em hy with rfl|hy
   ·have:=ht1.lt
    have e':ab=c.tb:=e
    have:=H.out.trs.lt
    omega
   ·obtain ⟨x,hx,rfl⟩:=List.mem_map.1 hy
    refine hnd.2.2.2.1.2 (List.mem_flatMap.2 ⟨x,hx,?_⟩)
    have e':x.2.a=c.tb:=e
    simp [e']
 have HKW:=Ql4 hk13
 have HX:=Ql4 (Yw (y:=(⟨id,size,0,.no⟩,⟨ab,w1.heap.size,[w1.heap.size]⟩)) HNI.out)
 have HSN:Hid (∀V':Vo,V'.last=V.last→Aq (Xx X (⟨id,size,0,.no⟩,⟨ab,w1.heap.size,[w1.heap.size]⟩)) V'):=fun V' hl=>by
  refine ⟨⟨by rw [HX.out.length_eq];have:=H8.out;simp;omega,fun x hx=>?_⟩,by rw [hl];exact HSM.out.2⟩
  rcases Az hx with rfl|hx
  ·exact Qoq
  ·exact HSM.out.1.2 x hx
 have HAB:Hid (w.heap.size≤ab∧w.heap.size≤w1.heap.size):=⟨hab,hws⟩
 have HDN:=Ql4 (Qj1 w3 v c _ _ Qlr id HV3.out (HSN.out _ rfl))
 clear hl1 hk1 hm3 hk3 hs3 hk13 ht1 hW2 hab habl hws
 go_wp2_with fail
 go_region_held3 (fun w'=>w'.cell? ⟨v,2,none⟩=some (.map (some c.tb))) (first|with_reducible exact HK.out _ (Below.refl _ _)|with_reducible exact HK.out _ (Below.refl _ _).drew|exact HV3.out.obj.cell 2|exact HK.out _ (((Below.refl _ _).drew).alloc (by simp) _)) (first|(go_at_call 71;refine (Ps _).mono ?_;rintro e w2 ⟨rfl,rfl⟩))
 go_wp2_with fail
 with_reducible refine (HP.out _).mono ?_
 rintro x w4 ⟨rfl,rfl⟩
 go_wp2_with fail
 with_reducible refine HDN.out.mono ?_
 rintro x w5 ⟨rfl,hv5,hk5⟩
 have HV5:=Ql4 hv5
 have HK5:=Ql4 hk5
 clear hv5 hk5
 go_wp2_with fail
 go_ret
 refine ⟨rfl,ab,w1.heap.size,HV5.out,?_,HAB.out⟩
 refine (HKW.out.mono (G:=vF v c X) (fun k _ e=>by rcases e with rfl|rfl <;> exact .inr (by simp [Dl]))).trans HK5.out (fun k hk=>?_)
 rcases hk with hk|hk
 ·exact .inl (.inl hk)
 ·have:=(Ri (v:=v) (c:=c) (s:=(⟨id,size,0,.no⟩:Sp)) (ab:=ab) (p:=w1.heap.size) HNI.out).mem_iff.1 hk
  simp only [List.mem_cons] at this
  rcases this with rfl|rfl|hk
  ·exact .inr HAB.out.1
  ·exact .inr HAB.out.2
  ·exact .inl (.inr hk)
end vo
namespace vo
open Go.RowKit Go.Maps er st tr
set_option maxRecDepth 100000
set_option maxHeartbeats 8000000
theorem Qxl (w:World) (v:Nat) (c:Pt) (X:XL) (V:Vo) (h:VoIn w v c X V):Calls Tryz.prog 16 #[.pointer (some ⟨v,0,none⟩)] w fun e w'=>e= .returned (.bool V.sure)∧w=w':=by
 have hvq:=Ag v
 have hvn:∀w,(binOp .neq 24 (.pointer (some ⟨v,0,none⟩)) (.pointer none)).run Tryz.prog w= .ok (.bool true) w:=fun w=>by kernel_rfl
 have c6:=h.obj.cell 6
 simp [Qi] at c6
 clear h
 go_enter Tryz.func16,Tryz.ntmps16
 go_wp2_with fail
 go_ret
 exact ⟨rfl,rfl⟩
theorem Cf (w:World) (v:Nat) (c:Pt) (X:XL) (V:Vo) (h:VoIn w v c X V):Calls Tryz.prog 21 #[.pointer (some ⟨v,0,none⟩)] w fun e w'=>e= .returned (.int .i64 V.gen)∧w=w':=by
 have hvq:=Ag v
 have c3:=h.obj.cell 3
 simp [Qi] at c3
 clear h
 go_enter Tryz.func21,Tryz.ntmps21
 go_wp2_with fail
 go_ret
 exact ⟨rfl,rfl⟩
theorem Qqf (w:World) (v:Nat) (c:Pt) (X:XL) (V:Vo) (h:VoIn w v c X V):Calls Tryz.prog 19 #[.pointer (some ⟨v,0,none⟩)] w fun e w'=>e= .returned (.pointer (some ⟨c.q,0,none⟩))∧w=w':=by
 have hvq:=Ag v
 have c0:=h.obj.cell 0
 simp [Qi] at c0
 clear h
 go_enter Tryz.func19,Tryz.ntmps19
 go_wp2_with fail
 go_ret
 exact ⟨rfl,rfl⟩
theorem Sd (w:World) (v:Nat) (c:Pt) (X:XL) (V:Vo) (x:Sp×Bl) (h:VoIn w v c X V) (hx:x∈X):Calls Tryz.prog 18 #[.pointer (some ⟨v,0,none⟩),.int .i64 x.1.id] w fun e w'=>e= .returned (.tuple #[.int .i64 x.1.size,.int .i64 x.1.used,.nilIface])∧Below w.heap.size w w':=by
 have hvq:=Ag v
 have c1:=h.obj.cell 1
 simp [Qi] at c1
 have HO:=Ql4 (F6 w _ _ _ _ _ h.led (Ye hx))
 clear h hx
 obtain ⟨⟨id,size,used,T⟩,bl⟩:=x
 simp only at HO ⊢
 go_enter Tryz.func18,Tryz.ntmps18
 go_wp2_with fail
 with_reducible refine HO.out.mono ?_
 rintro e w1 ⟨rfl,hb1⟩
 have HB1:=Ql4 hb1
 clear hb1
 go_wp2_with fail
 with_reducible refine (G6 _ _).mono ?_
 rintro e w2 ⟨rfl,rfl⟩
 have HP0:Hid (Gz 0= .nilIface):=rfl
 rw [HP0.out]
 go_wp2_with fail
 with_reducible refine (Y0 _ _ _).mono ?_
 rintro e w2 ⟨rfl,rfl⟩
 go_wp2_with fail
 refine bodyPost_ret (v:= .tuple #[.int .i64 size,.int .i64 used,.nilIface]) (by simp [results,Tryz.results18,go_sem]) rfl ⟨rfl,HB1.out⟩
theorem E5 (w:World) (v:Nat) (c:Pt) (X:XL) (V:Vo) (h:VoIn w v c X V):Calls Tryz.prog 17 #[.pointer (some ⟨v,0,none⟩)] w fun e w'=>∃v',e= .returned v'∧w'.ownsRow w.heap.size 3 1 v' X.length (ints (X.map (·.1.id)))∧Below w.heap.size w w':=by
 have hvq:=Ag v
 have c1:=h.obj.cell 1
 simp [Qi] at c1
 have hx8:X.length≤8:=by have:=h.led.ok.len;simpa [Zu,Q5] using this
 have HL:Hid (Calls Tryz.prog 67 #[.pointer (some ⟨c.lb,0,none⟩)] w fun e w'=>∃v,e= .returned v∧w'.ownsRow w.heap.size 3 1 v X.length (ints (X.map (·.1.id)))∧Below w.heap.size w w'):=by
  have:=P9 w _ _ _ _ h.led
  rw [show (Q5 X).length=X.length by simp [Q5],show (Q5 X).map (fun y=>Value.int .i64 y.1.id)=ints (X.map (·.1.id)) by simp [Q5,ints,Function.comp_def]] at this
  exact this
 have HC:Hid (∀W v' n,W.ownsRow w.heap.size 3 1 v' n (ints (X.map (·.1.id)))→n≤8→Calls Tryz.prog 66 #[v'] W fun e w'=>∃v',e= .returned v'∧w'.ownsRow W.heap.size 3 1 v' n (ints (X.map (·.1.id)))∧Below W.heap.size W w'):=fun W v' n ho hn=>Qcv n v' _ W (SlAt.own ho) (by omega) (Oo _)
 clear h
 go_enter Tryz.func17,Tryz.ntmps17
 go_wp2_with fail
 refine HL.out.mono ?_
 rintro e w1 ⟨v1,rfl,ho1,hb1⟩
 have HB1:=Ql4 hb1
 have HC1:=Ql4 (HC.out w1 v1 _ ho1 hx8)
 obtain ⟨A1,d1,e1⟩:=Qk ho1
 subst e1
 clear ho1 hb1
 go_wp2_with fail
 with_reducible refine HC1.out.mono ?_
 rintro e w2 ⟨v2,rfl,ho2,hb2⟩
 have HO2:=Ql4 (Qs ho2 HB1.out.size)
 have HB2:=Ql4 (HB1.out.trans (hb2.mono HB1.out.size))
 clear ho2 hb2
 go_wp2_with fail
 go_ret
 exact ⟨_,rfl,HO2.out,HB2.out⟩
end vo
end Go.Proofs.YtfialjmemcobjaaGreatDoor
