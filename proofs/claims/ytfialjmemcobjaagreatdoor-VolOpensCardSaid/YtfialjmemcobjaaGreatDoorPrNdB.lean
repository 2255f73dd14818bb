/- A part of the proof. -/
import Derived.Test.YtfialjmemcobjaaGreatDoorPrNdA
import Derived.Outline
set_option linter.unusedVariables false
set_option linter.unusedSimpArgs false
namespace Go.Proofs.YtfialjmemcobjaaGreatDoor
namespace nd
open Go.RowKit er
theorem Yo (n a b:Int) (w:World):Calls Tryz.prog 110 #[.int .i64 n,.int .i64 a,.int .i64 b] w fun e w'=>e= .returned (.bool (decide (a≤n) && decide (n≤b)))∧w=w':=by
 by_cases h1:a≤n
 ·by_cases h2:n≤b
  all_goals
   go_enter Tryz.func110,Tryz.ntmps110
   go_wp2
   go_ret
   exact ⟨by simp [h1,h2],rfl⟩
 ·go_enter Tryz.func110,Tryz.ntmps110
  go_wp2
  go_ret
  exact ⟨by simp [h1];omega,rfl⟩
def Z9 (s:Nand) (q:Int):Bool:=decide (0≤q) && decide (q < (s.blocks:Int) * s.per)
set_option maxHeartbeats 1000000 in
theorem Vz (w:World) (F:Nat→Prop) (p:Nat) (s:Nand) (q:Int) (h:NandAt w F p s):
  Calls Tryz.prog 119 #[.pointer (some ⟨p,0,none⟩),.int .i64 q] w fun e w'=>e= .returned (.bool (Z9 s q))∧∃n,w'=w.drewN n:=by
 obtain ⟨pb,pv,vs,h⟩:=h
 have c0:w.cell? ⟨p,0,none⟩=some (.int .i64 s.blocks):=h.obj.cell 0
 have c1:w.cell? ⟨p,1,none⟩=some (.int .i64 s.per):=h.obj.cell 1
 have h1:=h.ok.b1
 have h2:=h.ok.p1
 have hm:(s.blocks:Int) * s.per≤64 * 32:=by
  have:=Nat.mul_le_mul h1 h2
  exact_mod_cast this
 have hm0:0≤(s.blocks:Int) * s.per:=by exact_mod_cast Nat.zero_le _
 have hw:IntKind.i64.wrap ((s.blocks:Int) * s.per)=(s.blocks:Int) * s.per:=by rw [IntKind.wrap_i64];omega
 unfold Z9
 clear h
 generalize s.blocks=bl at *
 generalize s.per=pr at *
 by_cases hq:0≤q
 ·have hd:decide (0≤q)=true:=by simpa using hq
  go_enter Tryz.func119,Tryz.ntmps119
  go_wp2_with fail
  go_quiet (fail)
  go_wp2
  go_ret
  exact ⟨by simp [hq],_,rfl⟩
 ·have hd:decide (0≤q)=false:=by simpa using hq
  go_enter Tryz.func119,Tryz.ntmps119
  go_wp2_with fail
  go_quiet (fail)
  go_wp2
  go_ret
  exact ⟨by simp [hq];omega,_,rfl⟩
theorem Pd {a b:ByteArray} (h:a=b):Ending.returned (.string a)= .returned (.string b):=by rw [h]
theorem Qkd (x:ByteArray) (k:Nat) (h:k=min x.size 128):x.extract 0 k=I7 x:=by subst h;rfl
theorem Ra (x:ByteArray) (h:x.size≤128):x=I7 x:=by
 unfold I7
 rw [Nat.min_eq_left h]
 simp
theorem Qqt (m:Mis) (t:ByteArray) (h:m.keep≤0):spoilt m t=I7 m.junk:=by
 unfold spoilt P8
 rw [show (max (min m.keep (t.size:Int)) 0).toNat=0 from by omega]
 simp
theorem Qqv (m:Mis) (t:ByteArray) (k:Nat) (hk:m.keep=k) (h:k≤t.size):spoilt m t=I7 (t.extract 0 k++m.junk):=by
 unfold spoilt P8
 rw [show (max (min m.keep (t.size:Int)) 0).toNat=k from by omega]
theorem Qqw (m:Mis) (t:ByteArray) (h:(t.size:Int) < m.keep):spoilt m t=I7 (t++m.junk):=by
 unfold spoilt P8
 rw [show (max (min m.keep (t.size:Int)) 0).toNat=t.size from by omega]
 simp
set_option maxHeartbeats 1000000 in
theorem Cv (w:World) (m:Mis) (t:ByteArray) (ht:t.size≤128) (hj:m.junk.size≤140737488351232):
  Calls Tryz.prog 121 #[.agg #[.int .i64 m.at_,.int .i64 m.kind,.int .i64 m.keep,.string m.junk],.string t] w fun e w'=>e= .returned (.string (spoilt m t))∧Below w.heap.size w w':=by
 have hb:Hid (Below w.heap.size w (w.alloc (.cells #[.int .i64 m.at_,.int .i64 m.kind,.int .i64 m.keep,.string m.junk] 78)).drew):=((Below.refl _ _).alloc (Nat.le_refl _) _).drew
 obtain ⟨ma,mk,mp,mj⟩:=m
 simp only at hj hb ⊢
 by_cases h1:mp < 0
 ·have HS:=Ql4 (Qqt ⟨ma,mk,mp,mj⟩ t (by show mp≤0;omega))
  have hlt:¬(t.size:Int) < mp:=by omega
  go_enter Tryz.func121,Tryz.ntmps121
  go_wp2_with fail
  go_region
  all_goals go_wp2_with fail
  all_goals go_ret
  all_goals
   refine ⟨Pd ?_,hb.out⟩
   rw [HS.out]
   first|((with_reducible refine Qkd _ _ ?_);(try simp);omega)|((with_reducible refine Ra _ ?_);(try simp);omega)
 ·obtain ⟨k,rfl⟩:=Int.eq_ofNat_of_zero_le (show 0≤mp by omega)
  by_cases h2:(t.size:Int) < (k:Int)
  ·have HS:=Ql4 (Qqw ⟨ma,mk,k,mj⟩ t h2)
   go_enter Tryz.func121,Tryz.ntmps121
   go_wp2_with fail
   go_region
   all_goals go_wp2_with fail
   all_goals go_ret
   all_goals
    refine ⟨Pd ?_,hb.out⟩
    rw [HS.out]
    first|((with_reducible refine Qkd _ _ ?_);(try simp);omega)|((with_reducible refine Ra _ ?_);(try simp);omega)
  ·have HS:=Ql4 (Qqv ⟨ma,mk,k,mj⟩ t k rfl (by omega))
   have h3:(k:Int)≤(t.size:Int):=by omega
   go_enter Tryz.func121,Tryz.ntmps121
   go_wp2_with fail
   go_region
   all_goals go_wp2_with fail
   all_goals go_ret
   all_goals
    refine ⟨Pd ?_,hb.out⟩
    rw [HS.out]
    first|((with_reducible refine Qkd _ _ ?_);(try simp);omega)|((with_reducible refine Ra _ ?_);(try simp);omega)
theorem cnt1 (m:Mis) (bx p:Nat) (k:Int) (w:World) (hb:w.cell? ⟨bx,0,none⟩=some (.pointer (some ⟨p,0,none⟩))) (ho:w.cell? ⟨p,3,none⟩=some (.int .i64 k)):
  Calls Tryz.prog 187 #[.agg #[.int .i64 m.at_,.int .i64 m.kind,.int .i64 m.keep,.string m.junk],.pointer (some ⟨bx,0,none⟩)] w fun e w'=>e= .returned (.bool (m.at_ == k))∧Below w.heap.size w w':=by
 have hl1:=World.block_lt_of_cell? _ _ hb
 have hl2:=World.block_lt_of_cell? _ _ ho
 go_enter Tryz.func187,Tryz.ntmps187
 go_wp2_with fail
 go_quiet (fail)
 go_wp2
 go_ret
 exact ⟨rfl,below_drewN ((Below.refl _ _).alloc (Nat.le_refl _) _) _⟩
def Qz5:Option Nat→Int|some i=>i|none=> -1
theorem Sa (l:List Mis) (k:Int) (j:Nat) (m:Mis) (hm:l[j]? =some m) (hk:(m.at_ == k)=true) (hn:∀(i:Nat) (x:Mis),i < j→l[i]? =some x→(x.at_ == k)=false):Xt l k=some j:=by
 unfold Xt
 rw [List.findIdx?_eq_some_iff_getElem]
 have hj:j < l.length:=(List.getElem?_eq_some_iff.1 hm).1
 refine ⟨hj,?_,fun i hi=>?_⟩
 ·rw [List.getElem?_eq_getElem hj] at hm
  injection hm with hm
  rw [hm]
  exact hk
 ·have:=hn i l[i] hi (List.getElem?_eq_getElem _)
  simp [this]
theorem Pj (l:List Mis) (k:Int) (hn:∀(i:Nat) (x:Mis),i < l.length→l[i]? =some x→(x.at_ == k)=false):Xt l k=none:=by
 unfold Xt
 rw [List.findIdx?_eq_none_iff]
 intro x hx
 obtain ⟨i,hi,e⟩:=List.getElem_of_mem hx
 exact hn i x hi (by rw [List.getElem?_eq_getElem hi,e])
theorem Qgu (l:List Mis) (k:Int):waits l k=match Xt l k with|some i=>(l[i]?).getD Vg|none=>Vg:=by
 unfold waits Xt
 induction l with
 |nil=>rfl
 |cons x r ih=>
  rw [List.find?_cons,List.findIdx?_cons]
  cases h:(x.at_ == k)
  ·simp only [ih,Bool.false_eq_true,if_false]
   cases List.findIdx? (fun m:Mis=>m.at_ == k) r <;> rfl
  ·simp
set_option maxHeartbeats 1000000 in
theorem Quk (l:List Mis) (A:Option Addr) (cap:Nat) (bx p:Nat) (k:Int) (w:World) (hown:w.ownsRow 0 78 4 (.slice A l.length cap) l.length (Jl l)) (hb:w.cell? ⟨bx,0,none⟩=some (.pointer (some ⟨p,0,none⟩))) (ho:w.cell? ⟨p,3,none⟩=some (.int .i64 k)):
  Calls Tryz.prog 186 #[.slice A l.length cap,.func (.func 187) #[] #[.pointer (some ⟨bx,0,none⟩)]] w fun e w'=>e= .returned (.int .i64 (Qz5 (Xt l k)))∧Below w.heap.size w w':=by
 have hcm:=Al hown
 have hmx:l.length≤9223372036854775807:=by have:=hcm.2;unfold maxLen at this;omega
 have OWN:=Ql4 hown
 have HB:=Ql4 hb
 have HO:=Ql4 ho
 clear hown hb ho hcm
 go_enter Tryz.func186,Tryz.ntmps186
 go_wp2_with fail
 go_loopw [8] (fun i wr=>∃j:Nat,j≤l.length∧i= .int .i64 j∧Below w.heap.size w wr∧Hid (∀(i:Nat) (x:Mis),i < j→l[i]? =some x→(x.at_ == k)=false)) (fun i _=>l.length - (intOf i).toNat)
 case atStart=>exact ⟨0,Nat.zero_le _,rfl,Below.refl _ _,fun i x h _=>by omega⟩
 case round=>
  obtain ⟨j,hj,rfl,hbel,HN⟩:=hrel
  by_cases hlt:j < l.length
  ·obtain ⟨m,hm⟩:∃m,l[j]? =some m:=⟨l[j],List.getElem?_eq_getElem hlt⟩
   obtain ⟨g,rfl,hg0,hgl,hgc,hcells,_⟩:=Qo OWN.out (by omega)
   obtain ⟨e0,e1,e2,e3⟩:=Oz l j m hm
   have c0:=Qq hbel (hcells _ _ e0)
   have c1:=Qq hbel (hcells _ _ e1)
   have c2:=Qq hbel (hcells _ _ e2)
   have c3:=Qq hbel (hcells _ _ e3)
   have HBr:=Ql4 (Qq hbel HB.out)
   have HOr:=Ql4 (Qq hbel HO.out)
   have HBEL:=Ql4 hbel
   have HM:=Ql4 hm
   clear hcells e0 e1 e2 e3 hbel hm
   cases hq:(m.at_ == k)
   ·have HQ:=Ql4 hq
    clear hq
    go_wp2_with (go_at_call 187;refine (cnt1 m bx p k _ HBr.out HOr.out).mono ?_;rintro e w2 ⟨rfl,hb2⟩;rw [HQ.out])
    go_roundw
    case rel=>exact ⟨j+1,by omega,by go_num,HBEL.out.trans (hb2.mono HBEL.out.size),fun i x hi hx=>by
     rcases Nat.lt_or_ge i j with h|h
     ·exact HN.out i x h hx
     ·obtain rfl:i=j:=by omega
      have:=HM.out.symm.trans hx
      injection this with this
      subst this
      exact HQ.out⟩
    case measure=>simp [intOf];omega
   ·have HQ:=Ql4 hq
    clear hq
    go_wp2_with (go_at_call 187;refine (cnt1 m bx p k _ HBr.out HOr.out).mono ?_;rintro e w2 ⟨rfl,hb2⟩;rw [HQ.out])
    go_ret
    rw [Sa l k j m HM.out HQ.out HN.out]
    exact ⟨rfl,HBEL.out.trans (hb2.mono HBEL.out.size)⟩
  ·obtain rfl:l.length=j:=by omega
   have HBEL:=Ql4 hbel
   clear hbel
   go_wp2
   go_ret
   rw [Pj l k HN.out]
   exact ⟨rfl,HBEL.out⟩
def Ec (m:Mis):Value:= .agg #[.int .i64 m.at_,.int .i64 m.kind,.int .i64 m.keep,.string m.junk]
theorem NandIn.hide {w:World} {F:Nat→Prop} {p:Nat} {s:Nand} {pb:Nat} {pv:Value} {vs:List Value} (h:NandIn w F p s pb pv vs):
  w.cell? ⟨p,0,none⟩=some (.int .i64 s.blocks)∧w.cell? ⟨p,1,none⟩=some (.int .i64 s.per)∧w.cell? ⟨p,2,none⟩=some (.slice (some ⟨pb,0,none⟩) s.blocks s.blocks)∧w.cell? ⟨p,3,none⟩=some (.int .i64 s.ops)∧
  w.cell? ⟨p,4,none⟩=some pv∧w.cell? ⟨p,5,none⟩=some (.bool s.down)∧p < w.heap.size∧∀i,w.frozen? ⟨p,i,none⟩=false:=
 ⟨h.obj.cell 0,h.obj.cell 1,h.obj.cell 2,h.obj.cell 3,h.obj.cell 4,h.obj.cell 5,h.obj.lt,h.obj.fz⟩
theorem NandIn.setObj {w:World} {F:Nat→Prop} {p:Nat} {s s':Nand} {pb:Nat} {pv:Value} {vs:List Value} (h:NandIn w F p s pb pv vs) (i:Nat) (u:Value)
  (he:(#[.int .i64 s.blocks,.int .i64 s.per,.slice (some ⟨pb,0,none⟩) s.blocks s.blocks,.int .i64 s.ops,pv,.bool s.down]:Array Value).setIfInBounds i u=
   #[.int .i64 s'.blocks,.int .i64 s'.per,.slice (some ⟨pb,0,none⟩) s'.blocks s'.blocks,.int .i64 s'.ops,pv,.bool s'.down]) (hb:s'.b=s.b) (hp:s'.plan=s.plan) (hok:s'.Ok):NandIn (w.setCell ⟨p,i,none⟩ u) F p s' pb pv vs:=by
 have hpb:pb≠p:=Xb h.blk h.obj (by decide)
 have hk:Keep (fun k=>k=p) w (w.setCell ⟨p,i,none⟩ u):=Keep.set1 w p i u
 have hne:∀g,(∃cs,w.heap[g]? =some (.cells cs 9 (0,0)))→¬(g=p):=by
  rintro g ⟨cs,h1⟩ rfl
  have h2:=h.obj
  unfold Whole at h2
  rw [h1] at h2
  injection h2 with h2
  injection h2 with _ h2
  exact absurd h2 (by decide)
 refine ⟨hok,?_,?_,?_,?_,h.sep,?_,h.fp,h.fb,h.fr,h.fl,fun g hg=>by rw [size_set];exact h.lt g hg⟩
 ·have:=h.obj.set i u
  rw [he] at this
  exact this
 ·rw [hb]
  exact h.blk.keep hk hpb
 ·rw [hb]
  exact h.len
 ·intro j b v hj hv
  rw [hb] at hj
  exact Qj (h.row j b v hj hv) hk (fun g hg=>hne g (Kn (h.row j b v hj hv) hg))
 ·rw [hp]
  refine Qj h.plan hk (fun g hg=>?_)
  rintro rfl
  obtain ⟨cs,h1⟩:=Kn h.plan hg
  have h2:=h.obj
  unfold Whole at h2
  rw [h1] at h2
  injection h2 with h2
  injection h2 with _ h2
  exact absurd h2 (by decide)
theorem Nand.Ok.count {s:Nand} (h:s.Ok):s.count.Ok:=
 ⟨h.b0,h.b1,h.p0,h.p1,h.bl,fun i b hb=>⟨(h.pl i b hb).1,(h.pl i b hb).2.1,by have:=(h.pl i b hb).2.2;show b.worn≤s.ops+1;omega⟩,by have:=h.o0;show 0≤s.ops+1;omega,h.jk⟩
theorem NandIn.alloc {w:World} {F:Nat→Prop} {p:Nat} {s:Nand} {pb:Nat} {pv:Value} {vs:List Value} (h:NandIn w F p s pb pv vs) (o:Obj):NandIn (w.alloc o) F p s pb pv vs:=
 h.keep (G:=fun _=>False) ((Keep.refl _ _).alloc o) (fun _ _=>id)
theorem NandIn.below {w w':World} {F:Nat→Prop} {p:Nat} {s:Nand} {pb:Nat} {pv:Value} {vs:List Value} (h:NandIn w F p s pb pv vs) (hb:Below w.heap.size w w'):NandIn w' F p s pb pv vs:=
 h.keep (G:=fun _=>False) (Keep.below hb) (fun _ _=>id)
set_option maxHeartbeats 2000000 in
theorem X5 (w:World) (F:Nat→Prop) (p:Nat) (s:Nand) (pb:Nat) (pv:Value) (vs:List Value) (h:NandIn w F p s pb pv vs) (ho:s.ops≤1000000000000000000):
  Calls Tryz.prog 120 #[.pointer (some ⟨p,0,none⟩)] w fun e w'=>e= .returned (Ec (waits s.plan (s.ops+1)))∧NandIn w' F p s.count pb pv vs∧Keep (fun k=>k=p) w w':=by
 obtain ⟨c0,c1,c2,c3,c4,c5,hpl,hfz⟩:=h.hide
 have f3:=hfz 3
 have HLT:=Ql4 h.lt
 have o0:=h.ok.o0
 have IN1:Hid (NandIn (((w.setCell ⟨p,3,none⟩ (.int .i64 (s.ops+1))).alloc (.cells #[.pointer (some ⟨p,0,none⟩)] 23)).alloc (.cells #[.int .i64 0,.int .i64 0,.int .i64 0,.string ⟨#[]⟩] 78)) F p s.count pb pv vs):=
  ((h.setObj (s':=s.count) 3 _ rfl rfl rfl h.ok.count).alloc _).alloc _
 have KP:Hid (Keep (fun k=>k=p) w (((w.setCell ⟨p,3,none⟩ (.int .i64 (s.ops+1))).alloc (.cells #[.pointer (some ⟨p,0,none⟩)] 23)).alloc (.cells #[.int .i64 0,.int .i64 0,.int .i64 0,.string ⟨#[]⟩] 78))):=
  ((Keep.set1 w p 3 _).alloc _).alloc _
 have WR:Hid (Whole (((w.setCell ⟨p,3,none⟩ (.int .i64 (s.ops+1))).alloc (.cells #[.pointer (some ⟨p,0,none⟩)] 23)).alloc (.cells #[.int .i64 0,.int .i64 0,.int .i64 0,.string ⟨#[]⟩] 78)) (w.heap.size+1) 78 #[.int .i64 0,.int .i64 0,.int .i64 0,.string ⟨#[]⟩]):=
  Whole.new' _ _ _ _ (by rw [World.size_alloc,size_set])
 have BX:Hid (Whole (((w.setCell ⟨p,3,none⟩ (.int .i64 (s.ops+1))).alloc (.cells #[.pointer (some ⟨p,0,none⟩)] 23)).alloc (.cells #[.int .i64 0,.int .i64 0,.int .i64 0,.string ⟨#[]⟩] 78)) w.heap.size 23 #[.pointer (some ⟨p,0,none⟩)]):=
  (Whole.new' _ _ _ _ (by rw [size_set])).alloc _
 obtain ⟨A,cap,rfl⟩:=Qk h.plan
 clear h hfz
 go_enter Tryz.func120,Tryz.ntmps120
 go_wp2_with fail
 refine (Quk s.plan A cap w.heap.size p (s.ops+1) _ IN1.out.plan (BX.out.cell 0) (IN1.out.obj.cell 3)).mono ?_
 rintro e w2 ⟨rfl,hb2⟩
 have IN2:=Ql4 (IN1.out.below hb2)
 have d0:=(BX.out.below hb2 BX.out.lt).cell 0
 have d4:=IN2.out.obj.cell 4
 have WR2:=Ql4 (WR.out.below hb2 WR.out.lt)
 have g0:=WR2.out.cell 0
 have g1:=WR2.out.cell 1
 have g2:=WR2.out.cell 2
 have g3:=WR2.out.cell 3
 have z0:=WR2.out.fz 0
 have z1:=WR2.out.fz 1
 have z2:=WR2.out.fz 2
 have z3:=WR2.out.fz 3
 simp only [List.getElem?_toArray,List.getElem?_cons_zero,List.getElem?_cons_succ] at g0 g1 g2 g3 d0 d4
 have hs2:w.heap.size+1 < w2.heap.size:=WR2.out.lt
 have KP2:=Ql4 (KP.out.transBelow hb2)
 have hwa:=Qgu s.plan (s.ops+1)
 cases hq:Xt s.plan (s.ops+1) with
 |none=>
  rw [hq] at hwa
  have HWA:=Ql4 hwa
  have hin:Qz5 none= -1:=rfl
  rw [hin]
  clear hb2 c0 c1 c2 c3 c4 c5 hq hwa hin
  go_wp2_with fail
  have hk:=Keep.set4 w2 (w.heap.size+1) (.int .i64 0) (.int .i64 0) (.int .i64 0) (.string ⟨#[]⟩)
  have WW:=WR2.out.set4 (.int .i64 0) (.int .i64 0) (.int .i64 0) (.string ⟨#[]⟩)
  generalize ((((w2.setCell ⟨w.heap.size+1,0,none⟩ (.int .i64 0)).setCell ⟨w.heap.size+1,1,none⟩ (.int .i64 0)).setCell ⟨w.heap.size+1,2,none⟩ (.int .i64 0)).setCell ⟨w.heap.size+1,3,none⟩ (.string ⟨#[]⟩))=W at *
  have q0:=WW.cell 0
  have q1:=WW.cell 1
  have q2:=WW.cell 2
  have q3:=WW.cell 3
  simp only [List.getElem?_toArray,List.getElem?_cons_zero,List.getElem?_cons_succ] at q0 q1 q2 q3
  refine bodyPost_ret (v:=Ec Vg) (by simp [results,Tryz.results120,go_sem,Ec,Vg,q0,q1,q2,q3]) rfl ⟨by rw [HWA.out],IN2.out.keep hk (fun k hf he=>by have:=HLT.out k hf;omega),KP2.out.trans hk (fun x hx=>.inr (by omega))⟩
 |some j=>
  rw [hq] at hwa
  obtain ⟨m,hm⟩:∃m,s.plan[j]? =some m:=by
   unfold Xt at hq
   rw [List.findIdx?_eq_some_iff_getElem] at hq
   obtain ⟨hj,_⟩:=hq
   exact ⟨_,List.getElem?_eq_getElem hj⟩
  have hjl:j < s.plan.length:=(List.getElem?_eq_some_iff.1 hm).1
  simp only [hm,Option.getD_some] at hwa
  have HWA:=Ql4 hwa
  obtain ⟨g,rfl,_,hgl,hgc,hcells,_⟩:=Qo IN2.out.plan (by show 0 < s.plan.length;omega)
  obtain ⟨e0,e1,e2,e3⟩:=Oz s.plan j m hm
  have k0:=hcells _ _ e0
  have k1:=hcells _ _ e1
  have k2:=hcells _ _ e2
  have k3:=hcells _ _ e3
  have hcap:=(Al IN2.out.plan).2
  have hpl0:s.plan.length≤9223372036854775807:=by unfold maxLen at hcap;change s.plan.length≤cap at hgc;omega
  have hin:Qz5 (some j)=(j:Int):=rfl
  rw [hin]
  clear hb2 c0 c1 c2 c3 c4 c5 hq hwa hin hm e0 e1 e2 e3 hcells hcap
  go_wp2_with fail
  have hk:=Keep.set4 w2 (w.heap.size+1) (.int .i64 m.at_) (.int .i64 m.kind) (.int .i64 m.keep) (.string m.junk)
  have WW:=WR2.out.set4 (.int .i64 m.at_) (.int .i64 m.kind) (.int .i64 m.keep) (.string m.junk)
  generalize ((((w2.setCell ⟨w.heap.size+1,0,none⟩ (.int .i64 m.at_)).setCell ⟨w.heap.size+1,1,none⟩ (.int .i64 m.kind)).setCell ⟨w.heap.size+1,2,none⟩ (.int .i64 m.keep)).setCell ⟨w.heap.size+1,3,none⟩ (.string m.junk))=W at *
  have q0:=WW.cell 0
  have q1:=WW.cell 1
  have q2:=WW.cell 2
  have q3:=WW.cell 3
  simp only [List.getElem?_toArray,List.getElem?_cons_zero,List.getElem?_cons_succ] at q0 q1 q2 q3
  refine bodyPost_ret (v:=Ec m) (by simp [results,Tryz.results120,go_sem,Ec,q0,q1,q2,q3]) rfl ⟨by rw [HWA.out],IN2.out.keep hk (fun k hf he=>by have:=HLT.out k hf;omega),KP2.out.trans hk (fun x hx=>.inr (by omega))⟩
def Gw:Bool→Bool→Int|true,_=>9|false,false=>1|false,true=>0
theorem X6 (w:World) (F:Nat→Prop) (p:Nat) (s:Nand) (q:Int) (h:NandAt w F p s):
  Calls Tryz.prog 179 #[.pointer (some ⟨p,0,none⟩),.int .i64 q] w fun e w'=>e= .returned (.bool (s.has q))∧w=w':=by
 obtain ⟨pb,pv,vs,h⟩:=h
 obtain ⟨c0,c1,c2,c3,c4,c5,hpl,hfz⟩:=h.hide
 have h1:=h.ok.b1
 unfold Nand.has
 clear h c1 c2 c3 c4 c5 hfz
 generalize s.blocks=bl at *
 have hn:∀(w:World),(binOp .neq 23 (.pointer (some ⟨p,0,none⟩)) (.pointer none)).run Tryz.prog w= .ok (.bool true) w:=fun w=>by kernel_rfl
 by_cases hq:0≤q
 ·have hd:decide (0≤q)=true:=by simpa using hq
  go_enter Tryz.func179,Tryz.ntmps179
  go_wp2
  go_ret
  exact ⟨by simp [hq],rfl⟩
 ·have hd:decide (0≤q)=false:=by simpa using hq
  go_enter Tryz.func179,Tryz.ntmps179
  go_wp2
  go_ret
  exact ⟨by simp [hq],rfl⟩
set_option maxHeartbeats 1000000 in
theorem Qzy (w:World) (F:Nat→Prop) (p:Nat) (s:Nand) (q:Int) (t:ByteArray) (bn bq bt:Nat) (h:NandAt w F p s) (hbn:w.cell? ⟨bn,0,none⟩=some (.pointer (some ⟨p,0,none⟩))) (hbq:w.cell? ⟨bq,0,none⟩=some (.int .i64 q)) (hbt:w.cell? ⟨bt,0,none⟩=some (.string t)):
  Calls Tryz.prog 118 #[.pointer (some ⟨bn,0,none⟩),.pointer (some ⟨bq,0,none⟩),.pointer (some ⟨bt,0,none⟩)] w fun e w'=>e= .returned (.bool (Z9 s q && decide (t.size≤128)))∧∃n,w'=w.drewN n:=by
 have H:=Ql4 h
 clear h
 cases hq:Z9 s q
 all_goals
  have HQ:=Ql4 hq
  clear hq
  go_enter Tryz.func118,Tryz.ntmps118
  go_wp2_with (go_at_call 119;refine (Vz _ F p s q H.out).mono ?_;rw [HQ.out];rintro e w' ⟨rfl,n,rfl⟩)
  go_ret
  exact ⟨by simp;try omega,n,rfl⟩
set_option maxHeartbeats 1000000 in
theorem Yh (w:World) (F:Nat→Prop) (p:Nat) (s:Nand) (q:Int) (t:ByteArray) (bn bq bt:Nat) (h:NandAt w F p s) (hbn:w.cell? ⟨bn,0,none⟩=some (.pointer (some ⟨p,0,none⟩))) (hbq:w.cell? ⟨bq,0,none⟩=some (.int .i64 q)) (hbt:w.cell? ⟨bt,0,none⟩=some (.string t)):
  Calls Tryz.prog 117 #[.pointer (some ⟨p,0,none⟩),.func (.func 118) #[] #[.pointer (some ⟨bn,0,none⟩),.pointer (some ⟨bq,0,none⟩),.pointer (some ⟨bt,0,none⟩)]] w fun e w'=>e= .returned (Xn (Gw s.down (Z9 s q && decide (t.size≤128))))∧∃n,w'=w.drewN n:=by
 have H:=Ql4 h
 obtain ⟨pb,pv,vs,h⟩:=h
 obtain ⟨c0,c1,c2,c3,c4,c5,hpl,hfz⟩:=h.hide
 have hn:∀(w:World),(binOp .eql 23 (.pointer (some ⟨p,0,none⟩)) (.pointer none)).run Tryz.prog w= .ok (.bool false) w:=fun w=>by kernel_rfl
 clear h c0 c1 c2 c3 c4 hfz
 cases hd:s.down
 ·rw [hd] at c5
  have HD:=Ql4 hd
  clear hd
  cases hq:(Z9 s q && decide (t.size≤128))
  all_goals
   have HQ:=Ql4 hq
   clear hq
   go_enter Tryz.func117,Tryz.ntmps117
   go_wp2_with (go_at_call 118;refine (Qzy _ F p s q t bn bq bt H.out hbn hbq hbt).mono ?_;rw [HQ.out];rintro e w' ⟨rfl,n,rfl⟩)
   go_ret
   exact ⟨rfl,n,rfl⟩
 ·rw [hd] at c5
  have HD:=Ql4 hd
  clear hd
  go_enter Tryz.func117,Tryz.ntmps117
  go_wp2_with fail
  go_ret
  exact ⟨rfl,0,rfl⟩
set_option maxHeartbeats 1000000 in
theorem Qdb (w:World) (F:Nat→Prop) (p:Nat) (s:Nand) (q:Int) (bn bq:Nat) (h:NandAt w F p s) (hbn:w.cell? ⟨bn,0,none⟩=some (.pointer (some ⟨p,0,none⟩))) (hbq:w.cell? ⟨bq,0,none⟩=some (.int .i64 q)):
  Calls Tryz.prog 308 #[.pointer (some ⟨bn,0,none⟩),.pointer (some ⟨bq,0,none⟩)] w fun e w'=>e= .returned (.bool (Z9 s q))∧∃n,w'=w.drewN n:=by
 have H:=Ql4 h
 clear h
 go_enter Tryz.func308,Tryz.ntmps308
 go_wp2_with (go_at_call 119;refine (Vz _ F p s q H.out).mono ?_;rintro e w' ⟨rfl,n,rfl⟩)
 go_ret
 exact ⟨rfl,n,rfl⟩
set_option maxHeartbeats 1000000 in
theorem Il (w:World) (F:Nat→Prop) (p:Nat) (s:Nand) (q:Int) (bn bq:Nat) (h:NandAt w F p s) (hbn:w.cell? ⟨bn,0,none⟩=some (.pointer (some ⟨p,0,none⟩))) (hbq:w.cell? ⟨bq,0,none⟩=some (.int .i64 q)):
  Calls Tryz.prog 117 #[.pointer (some ⟨p,0,none⟩),.func (.func 308) #[] #[.pointer (some ⟨bn,0,none⟩),.pointer (some ⟨bq,0,none⟩)]] w fun e w'=>e= .returned (Xn (Gw s.down (Z9 s q)))∧∃n,w'=w.drewN n:=by
 have H:=Ql4 h
 obtain ⟨pb,pv,vs,h⟩:=h
 obtain ⟨c0,c1,c2,c3,c4,c5,hpl,hfz⟩:=h.hide
 have hn:∀(w:World),(binOp .eql 23 (.pointer (some ⟨p,0,none⟩)) (.pointer none)).run Tryz.prog w= .ok (.bool false) w:=fun w=>by kernel_rfl
 clear h c0 c1 c2 c3 c4 hfz
 cases hd:s.down
 ·rw [hd] at c5
  have HD:=Ql4 hd
  clear hd
  cases hq:(Z9 s q)
  all_goals
   have HQ:=Ql4 hq
   clear hq
   go_enter Tryz.func117,Tryz.ntmps117
   go_wp2_with (go_at_call 308;refine (Qdb _ F p s q bn bq H.out hbn hbq).mono ?_;rw [HQ.out];rintro e w' ⟨rfl,n,rfl⟩)
   go_ret
   exact ⟨rfl,n,rfl⟩
 ·rw [hd] at c5
  have HD:=Ql4 hd
  clear hd
  go_enter Tryz.func117,Tryz.ntmps117
  go_wp2_with fail
  go_ret
  exact ⟨rfl,0,rfl⟩
theorem Bn:∀(vs:List Value) (bs:List Blk) (i:Nat) (v:Value) (b b':Blk),vs.length=bs.length→bs[i]? =some b→b'.worn=b.worn→b'.bad=b.bad→
  (Qv vs bs).set (i * 3) v=Qv (vs.set i v) (bs.set i b')
 |_,[],_,_,_,_,_,h,_,_=>by simp at h
 |[],_::_,_,_,_,_,h,_,_,_=>by simp at h
 |x::vs,y::bs,0,v,b,b',h,h',hw,hb=>by
  simp at h'
  subst h'
  simp [Qv,hw,hb]
 |x::vs,y::bs,i+1,v,b,b',h,h',hw,hb=>by
  have ih:=Bn vs bs i v b b' (by simpa using h) (by simpa using h') hw hb
  simp only [List.set_cons_succ,Qv,←ih]
  rw [show (i+1) * 3=i * 3+3 from by omega]
  simp [List.set_cons_succ]
theorem Lj:∀(vs:List Value) (bs:List Blk) (i:Nat) (b:Blk) (x:Bool),vs.length=bs.length→bs[i]? =some b→
  (Qv vs bs).set (i * 3+2) (.bool x)=Qv vs (bs.set i {b with bad:=x})
 |_,[],_,_,_,_,h=>by simp at h
 |[],_::_,_,_,_,h,_=>by simp at h
 |z::vs,y::bs,0,b,x,h,h'=>by
  simp at h'
  subst h'
  simp [Qv]
 |z::vs,y::bs,i+1,b,x,h,h'=>by
  have ih:=Lj vs bs i b x (by simpa using h) (by simpa using h')
  simp only [List.set_cons_succ,Qv,←ih]
  rw [show (i+1) * 3=(i * 3+2)+1 from by omega]
  simp [List.set_cons_succ]
theorem Nand.blk_at {s:Nand} (h:s.Ok) {i:Nat} (hi:i < s.blocks):s.b[i]? =some (s.blk i):=by
 have:i < s.b.length:=by rw [h.bl];exact hi
 unfold Nand.blk
 rw [List.getD_eq_getElem?_getD,List.getElem?_eq_getElem this]
 rfl
theorem Nand.setB_Ok {s:Nand} (h:s.Ok) {i:Nat} {b:Blk} (hl:b.pages.length≤s.per) (h0:0≤b.worn) (h1:b.worn≤s.ops):(s.setB i b).Ok:=
 ⟨h.b0,h.b1,h.p0,h.p1,by simp [Nand.setB,h.bl],fun j c hj=>by
  simp only [Nand.setB,List.getElem?_set] at hj
  split at hj
  ·split at hj
   ·injection hj with hj
    subst hj
    exact ⟨hl,h0,h1⟩
   ·simp at hj
  ·exact h.pl j c hj,h.o0,h.jk⟩
theorem NandIn.setBlk {w:World} {F:Nat→Prop} {p:Nat} {s:Nand} {pb:Nat} {pv:Value} {vs:List Value} (h:NandIn w F p s pb pv vs) {i:Nat} {b b':Blk} (hb:s.b[i]? =some b) (hp:b'.pages=b.pages) (k:Nat) (u:Value)
  (he:(Qv vs s.b).set (i * 3+k) u=Qv vs (s.b.set i b')) (hok:(s.setB i b').Ok):NandIn (w.setCell ⟨pb,i * 3+k,none⟩ u) F p (s.setB i b') pb pv vs∧Keep (fun k=>k=pb) w (w.setCell ⟨pb,i * 3+k,none⟩ u):=by
 have hpb:p≠pb:=Xb h.obj h.blk (by decide)
 have hk:Keep (fun k=>k=pb) w (w.setCell ⟨pb,i * 3+k,none⟩ u):=Keep.set1 _ _ _ _
 refine ⟨⟨hok,h.obj.keep hk hpb,?_,by simpa [Nand.setB] using h.len,?_,h.sep,?_,h.fp,h.fb,h.fr,h.fl,fun g hg=>by rw [size_set];exact h.lt g hg⟩,hk⟩
 ·have:=h.blk.set (i * 3+k) u
  rw [List.setIfInBounds_toArray,he] at this
  exact this
 ·intro j c v hj hv
  have key:∀(c:Blk) (v:Value),s.b[j]? =some c→vs[j]? =some v→(w.setCell ⟨pb,i * 3+k,none⟩ u).ownsRow 0 9 1 v c.pages.length (c.pages.map .string):=fun c v hj hv=>
   Qj (h.row j c v hj hv) hk (fun g hg=>by
    rintro rfl
    obtain ⟨cs,h1⟩:=Kn (h.row j c v hj hv) hg
    have h2:=h.blk
    unfold Whole at h2
    rw [h1] at h2
    injection h2 with h2
    injection h2 with _ h2
    exact absurd h2 (by decide))
  simp only [Nand.setB,List.getElem?_set] at hj
  split at hj
  ·rename_i hij
   subst hij
   split at hj
   ·injection hj with hj
    subst hj
    rw [hp]
    exact key b v hb hv
   ·simp at hj
  ·exact key c v hj hv
 ·refine Qj h.plan hk (fun g hg=>?_)
  rintro rfl
  obtain ⟨cs,h1⟩:=Kn h.plan hg
  have h2:=h.blk
  unfold Whole at h2
  rw [h1] at h2
  injection h2 with h2
  injection h2 with _ h2
  exact absurd h2 (by decide)
theorem NandIn.newRow {w w2:World} {F:Nat→Prop} {p:Nat} {s:Nand} {pb:Nat} {pv:Value} {vs:List Value} (h:NandIn w F p s pb pv vs) {i:Nat} {b b':Blk} {v v':Value} (hb:s.b[i]? =some b) (hv:vs[i]? =some v)
  (hw:b'.worn=b.worn) (hbad:b'.bad=b.bad) (hk:Keep (fun k=>v.ownBlock=some k) w w2) (hrow:w2.ownsRow 0 9 1 v' b'.pages.length (b'.pages.map .string))
  (hnew:v'.ownBlock=v.ownBlock∨∀g,v'.ownBlock=some g→w.heap.size≤g) (hok:(s.setB i b').Ok):
  NandIn (w2.setCell ⟨pb,i * 3,none⟩ v') (fun k=>F k∨v'.ownBlock=some k) p (s.setB i b') pb pv (vs.set i v')∧Mv F w (fun k=>F k∨v'.ownBlock=some k) (w2.setCell ⟨pb,i * 3,none⟩ v'):=by
 have hpp:p≠pb:=Xb h.obj h.blk (by decide)
 have hFv:∀g,v.ownBlock=some g→F g:=fun g hg=>h.fr i v g hv hg
 have tst:∀{g:Nat} {cs:Array Value} {t:TypeId},Whole w g t cs→t≠9→¬(v.ownBlock=some g):=by
  intro g cs t hg ht hvg
  obtain ⟨cs',h1⟩:=Kn (h.row i b v hb hv) hvg
  unfold Whole at hg
  rw [h1] at hg
  injection hg with h2
  injection h2 with _ h2
  exact ht h2.symm
 have obj2:=h.obj.keep hk (tst h.obj (by decide))
 have blk2:=h.blk.keep hk (tst h.blk (by decide))
 have hs:Keep (fun k=>k=pb) w2 (w2.setCell ⟨pb,i * 3,none⟩ v'):=Keep.set1 _ _ _ _
 have strne:∀{g:Nat} {cs:Array Value},w2.heap[g]? =some (.cells cs 9 (0,0))→¬(g=pb):=by
  rintro g cs h1 rfl
  have h2:=blk2
  unfold Whole at h2
  rw [h1] at h2
  injection h2 with h2
  injection h2 with _ h2
  exact absurd h2 (by decide)
 have hvlen:i < vs.length:=(List.getElem?_eq_some_iff.1 hv).1
 have hMv:Mv F w (fun k=>F k∨v'.ownBlock=some k) (w2.setCell ⟨pb,i * 3,none⟩ v'):=by
  refine ⟨(hk.mono (fun g _ hg=>hFv g hg)).trans hs (fun x hx=>.inl (hx▸h.fb)),fun g hg=>?_⟩
  rcases hg with hg|hg
  ·exact .inl hg
  ·rcases hnew with hn|hn
   ·rw [hn] at hg
    exact .inl (hFv g hg)
   ·exact .inr (hn g hg)
 refine ⟨⟨hok,obj2.keep hs hpp,?_,by simp [Nand.setB,h.len],?_,?_,?_,.inl h.fp,.inl h.fb,?_,fun g hg=>.inl (h.fl g hg),?_⟩,hMv⟩
 ·have:=blk2.set (i * 3) v'
  rw [List.setIfInBounds_toArray,Bn vs s.b i v' b b' h.len hb hw hbad] at this
  exact this
 ·intro j c u hj hu
  rcases Nat.lt_trichotomy i j with hij|hij|hij
  ·have hj':s.b[j]? =some c:=by simpa [Nand.setB,List.getElem?_set_ne (Nat.ne_of_lt hij)] using hj
   have hu':vs[j]? =some u:=by simpa [List.getElem?_set_ne (Nat.ne_of_lt hij)] using hu
   have h1:=Qj (h.row j c u hj' hu') hk (fun g hg hvg=>h.sep i j v u g (by omega) hv hu' hvg hg)
   exact Qj h1 hs (fun g hg=>by obtain ⟨cs,h2⟩:=Kn h1 hg;exact strne h2)
  ·subst hij
   have hj':b'=c:=by
    have hi2:i < s.b.length:=by rw [←h.len];exact hvlen
    simpa [Nand.setB,hi2] using hj
   have hu':v'=u:=by simpa [hvlen] using hu
   subst hj' hu'
   exact Qj hrow hs (fun g hg=>by obtain ⟨cs,h2⟩:=Kn hrow hg;exact strne h2)
  ·have hj':s.b[j]? =some c:=by simpa [Nand.setB,List.getElem?_set_ne (Nat.ne_of_gt hij)] using hj
   have hu':vs[j]? =some u:=by simpa [List.getElem?_set_ne (Nat.ne_of_gt hij)] using hu
   have h1:=Qj (h.row j c u hj' hu') hk (fun g hg hvg=>h.sep i j v u g (by omega) hv hu' hvg hg)
   exact Qj h1 hs (fun g hg=>by obtain ⟨cs,h2⟩:=Kn h1 hg;exact strne h2)
 ·-- no two rows share a block
  have lt1:∀(j:Nat) (u:Value) (g:Nat),vs[j]? =some u→u.ownBlock=some g→g < w.heap.size:=fun j u g hu hg=>h.lt g (h.fr j u g hu hg)
  intro j j' u u' g hne hu hu' hg hg'
  by_cases h1:i=j
  ·subst h1
   have e:v'=u:=by simpa [hvlen] using hu
   subst e
   have hu2:vs[j']? =some u':=by simpa [List.getElem?_set_ne hne] using hu'
   rcases hnew with hn|hn
   ·rw [hn] at hg
    exact h.sep i j' v u' g hne hv hu2 hg hg'
   ·have:=hn g hg
    have:=lt1 j' u' g hu2 hg'
    omega
  ·have hu1:vs[j]? =some u:=by simpa [List.getElem?_set_ne h1] using hu
   by_cases h2:i=j'
   ·subst h2
    have e:v'=u':=by simpa [hvlen] using hu'
    subst e
    rcases hnew with hn|hn
    ·rw [hn] at hg'
     exact h.sep j i u v g hne hu1 hv hg hg'
    ·have:=hn g hg'
     have:=lt1 j u g hu1 hg
     omega
   ·have hu2:vs[j']? =some u':=by simpa [List.getElem?_set_ne h2] using hu'
    exact h.sep j j' u u' g hne hu1 hu2 hg hg'
 ·have h1:=Qj h.plan hk (fun g hg hvg=>Qyh h.plan (h.row i b v hb hv) (by decide) hg hvg)
  exact Qj h1 hs (fun g hg=>by
   rintro rfl
   obtain ⟨cs,h3⟩:=Kn h1 hg
   have h2:=blk2
   unfold Whole at h2
   rw [h3] at h2
   injection h2 with h2
   injection h2 with _ h2
   exact absurd h2 (by decide))
 ·intro j u g hu hg
  by_cases h1:i=j
  ·subst h1
   have e:v'=u:=by simpa [hvlen] using hu
   subst e
   exact .inr hg
  ·exact .inl (h.fr j u g (by simpa [List.getElem?_set_ne h1] using hu) hg)
 ·intro g hg
  rw [size_set]
  rcases hg with hg|hg
  ·exact Nat.lt_of_lt_of_le (h.lt g hg) hk.size
  ·exact (hrow.lt g hg).2
end nd
end Go.Proofs.YtfialjmemcobjaaGreatDoor
