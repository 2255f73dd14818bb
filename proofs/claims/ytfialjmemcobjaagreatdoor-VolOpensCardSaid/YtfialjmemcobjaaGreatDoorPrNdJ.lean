/- A part of the proof. -/
import Derived.Test.YtfialjmemcobjaaGreatDoorPrNdF
import Derived.Laws.CopyOwn
set_option linter.unusedVariables false
set_option linter.unusedSimpArgs false
namespace Go.Proofs.YtfialjmemcobjaaGreatDoor
namespace nd
open Go.RowKit er
set_option maxHeartbeats 4000000 in
set_option maxRecDepth 100000 in
theorem Xl (w:World) (F:Nat→Prop) (p:Nat) (s:Nand) (q:Int) (h:NandAt w F p s):
  Calls Tryz.prog 284 #[.pointer (some ⟨p,0,none⟩),.int .i64 q] w fun e w'=>e= .returned (.tuple #[.string (s.read q).2,Xn (s.read q).1])∧Below w.heap.size w w':=by
 have B0:Hid (Below w.heap.size w ((w.alloc (.cells #[.pointer (some ⟨p,0,none⟩)] 23)).alloc (.cells #[.int .i64 q] 3))):=((Below.refl _ _).alloc (Nat.le_refl _) _).alloc (by simp) _
 have H1:=Ql4 (h.below B0.out)
 have X0:Hid (Whole ((w.alloc (.cells #[.pointer (some ⟨p,0,none⟩)] 23)).alloc (.cells #[.int .i64 q] 3)) w.heap.size 23 #[.pointer (some ⟨p,0,none⟩)]):=(Whole.new _ _ _).alloc _
 have X1:Hid (Whole ((w.alloc (.cells #[.pointer (some ⟨p,0,none⟩)] 23)).alloc (.cells #[.int .i64 q] 3)) (w.heap.size+1) 3 #[.int .i64 q]):=Whole.new' _ _ _ _ (by simp)
 have H:=Ql4 h
 clear h
 cases hd:s.down
 ·cases hq:Z9 s q
  ·have hpr:s.read q=(1,⟨#[]⟩):=by
    unfold Nand.read
    rw [hd,if_neg (by decide),if_pos]
    unfold Z9 at hq
    simp at hq
    intro ⟨h1,h2⟩
    have:=hq h1
    omega
   have HPR:=Ql4 hpr
   have HD:=Ql4 hd
   have HQ:=Ql4 hq
   clear hpr hd hq
   go_enter Tryz.func284,Tryz.ntmps284
   go_wp2_with (go_at_call 117;refine (Il _ F p s q w.heap.size (w.heap.size+1) H1.out (X0.out.cell 0) (X1.out.cell 0)).mono ?_;rw [HD.out,HQ.out];rintro e w' ⟨rfl,n,rfl⟩;rw [show Xn (Gw false false)= .iface 28 (.int .i64 1) from rfl])
   go_ret2
   rw [HPR.out]
   exact ⟨rfl,below_drewN B0.out _⟩
  ·have hq1:0≤q∧q < (s.blocks:Int) * s.per:=by
    unfold Z9 at hq
    simp only [Bool.and_eq_true,decide_eq_true_eq] at hq
    exact hq
   obtain ⟨n,rfl⟩:=Int.eq_ofNat_of_zero_le hq1.1
   have hOk:=H.out.ok
   have hper0:0 < s.per:=by have:=hOk.p0;omega
   have hper1:s.per≤32:=hOk.p1
   have hb64:s.blocks≤64:=hOk.b1
   have hnlt:n < s.blocks * s.per:=by have:=hq1.2;exact_mod_cast this
   have hdiv:n / s.per < s.blocks:=Nat.div_lt_of_lt_mul (by rw [Nat.mul_comm];exact hnlt)
   have hn:n < 2048:=Nat.lt_of_lt_of_le hnlt (by have:=Nat.mul_le_mul hb64 hper1;omega)
   have hb:=Nand.blk_at hOk hdiv
   have hbl:=hOk.pl _ _ hb
   have hpr:s.read n=(match (s.blk (n / s.per)).pages[n % s.per]? with|none=>(42,⟨#[]⟩)|some t=>(0,t)):=by
    unfold Nand.read
    rw [hd,if_neg (by decide),if_neg (by intro h;exact h ⟨hq1.1,hq1.2⟩)]
    rfl
   generalize hbb:s.blk (n / s.per)=b at *
   have HPR:=Ql4 hpr
   have HD:=Ql4 hd
   have HQ:=Ql4 hq
   have HBB:=Ql4 hbb
   have HOK:=Ql4 hOk
   have HB:=Ql4 hb
   have hdi0:(0:Int)≤((n / s.per:Nat):Int):=Int.natCast_nonneg _
   have hdi1:((n / s.per:Nat):Int) < (s.blocks:Int):=by exact_mod_cast hdiv
   have hmi0:(0:Int)≤((n % s.per:Nat):Int):=Int.natCast_nonneg _
   have hwd:IntKind.i64.wrap ((n:Int).tdiv (s.per:Int))=((n / s.per:Nat):Int):=by
    rw [←Int.ofNat_tdiv,IntKind.wrap_i64]
    have:n / s.per≤n:=Nat.div_le_self _ _
    omega
   have hwm:IntKind.i64.wrap ((n:Int).tmod (s.per:Int))=((n % s.per:Nat):Int):=by
    rw [←Int.ofNat_tmod,IntKind.wrap_i64]
    have:n % s.per≤n:=Nat.mod_le _ _
    omega
   clear hpr hd hq hq1 hbb hOk hb
   go_enter Tryz.func284,Tryz.ntmps284
   go_wp2_with fail
   refine (Il _ F p s n w.heap.size (w.heap.size+1) H1.out (X0.out.cell 0) (X1.out.cell 0)).mono ?_
   rw [HD.out,HQ.out]
   rintro e W ⟨rfl,nd,hW⟩
   rw [show Xn (Gw false true)= .nilIface from rfl]
   have BW:Hid (Below w.heap.size w W):=by subst hW;exact below_drewN B0.out _
   have x0:W.cell? ⟨w.heap.size,0,none⟩=some (.pointer (some ⟨p,0,none⟩)):=by subst hW;exact X0.out.cell 0
   have x1:W.cell? ⟨w.heap.size+1,0,none⟩=some (.int .i64 n):=by subst hW;exact X1.out.cell 0
   obtain ⟨pb,pv,vs,IN0⟩:∃pb pv vs,NandIn W F p s pb pv vs:=by subst hW;exact H1.out.below (below_drewN (Below.refl _ _) nd)
   clear hW
   have IN:=Ql4 IN0
   obtain ⟨c0,c1,c2,c3,c4,c5,hpl,hfz⟩:=IN0.hide
   obtain ⟨v,hv⟩:∃v,vs[n / s.per]? =some v:=⟨vs[n / s.per]'(by rw [IN0.len,HOK.out.bl];exact hdiv),List.getElem?_eq_getElem _⟩
   obtain ⟨e0,e1,e2⟩:=Kz vs s.b (n / s.per) v b hv HB.out
   obtain ⟨A,cap,hvA⟩:=Qk (IN0.row _ _ _ HB.out hv)
   subst hvA
   have k0:W.cell? ⟨pb,n / s.per * 3,none⟩=some (.slice A b.pages.length cap):=by rw [IN0.blk.cell];simpa using e0
   have ROW:=Ql4 (IN0.row _ _ _ HB.out hv)
   have hlen32:b.pages.length≤32:=by have:=hbl.1;omega
   clear hv e0 e1 e2 IN0 c0 c3 c4 c5 hfz
   cases hpg:b.pages[n % s.per]? with
   |none=>
    have hge:((b.pages.length:Nat):Int)≤((n % s.per:Nat):Int):=by
     have:=List.getElem?_eq_none_iff.1 hpg
     exact_mod_cast this
    have HPG:=Ql4 hpg
    clear hpg
    go_wp2_with fail
    go_quiet (fail)
    go_wp2_with fail
    go_ret2
    rw [HPR.out,HPG.out]
    exact ⟨rfl,below_drewN BW.out _⟩
   |some t=>
    have hlt:n % s.per < b.pages.length:=(List.getElem?_eq_some_iff.1 hpg).1
    have hlt':((n % s.per:Nat):Int) < ((b.pages.length:Nat):Int):=by exact_mod_cast hlt
    obtain ⟨g,rfl,hg0,hgl,hgc,hcells,_⟩:=Qo ROW.out (by omega)
    have kc:=hcells (n % s.per) (.string t) (by rw [List.getElem?_map,hpg];rfl)
    have HPG:=Ql4 hpg
    clear hpg hcells
    go_wp2_with fail
    go_quiet (fail)
    go_wp2_with fail
    go_ret2
    rw [HPR.out,HPG.out]
    exact ⟨rfl,below_drewN BW.out _⟩
 ·have hpr:s.read q=(9,⟨#[]⟩):=by
   unfold Nand.read
   rw [hd,if_pos rfl]
  have HPR:=Ql4 hpr
  have HD:=Ql4 hd
  clear hpr hd
  go_enter Tryz.func284,Tryz.ntmps284
  go_wp2_with (go_at_call 117;refine (Il _ F p s q w.heap.size (w.heap.size+1) H1.out (X0.out.cell 0) (X1.out.cell 0)).mono ?_;rw [HD.out];rintro e w' ⟨rfl,n,rfl⟩;rw [show Xn (Gw true (Z9 s q))= .iface 28 (.int .i64 9) from rfl])
  go_ret2
  rw [HPR.out]
  exact ⟨rfl,below_drewN B0.out _⟩
end nd
namespace nd
open Go.RowKit er
attribute [local go_sem ↓] Go.wp_at_zero Go.wp_at_succ
def Xp (w:World) (F:Nat→Prop) (p:Nat) (s:Nand) (l:List (ByteArray×Int)) (r:Int×ByteArray) (e:Ending) (w':World):Prop:=
 ∃v,e= .returned (.tuple #[.string r.2,v])∧Below w.heap.size w w'∧Yt w' F l r.1 v
set_option maxHeartbeats 1000000 in
theorem Qah (w:World) (F:Nat→Prop) (p:Nat) (s:Nand) (q:Int) (h:NandAt w F p s):
  Calls Tryz.prog 242 #[.pointer (some ⟨p,0,none⟩),.int .i64 q] w (Xp w F p s [(⟨#[114,101,97,100]⟩,q)] (s.read q)):=by
 have H:=Ql4 h
 have HLT:Hid (∀k,F k→k < w.heap.size):=by obtain ⟨_,_,_,h⟩:=h;exact h.lt
 clear h
 by_cases hc:(s.read q).1=0
 ·have HC:=Ql4 hc
  have he:Xn (s.read q).1= .nilIface:=by rw [hc];rfl
  have HE:=Ql4 he
  clear hc he
  go_enter Tryz.func242,Tryz.ntmps242
  go_wp2_with fail
  refine (Xl _ F p s q H.out).mono ?_
  rw [HE.out]
  rintro e w1 ⟨rfl,hb⟩
  have HB:=Ql4 hb
  clear hb
  go_wp2_with (go_at_call 57;refine (Y0 _ _ _).mono ?_;rintro e w' ⟨rfl,rfl⟩)
  go_ret2
  exact ⟨_,rfl,HB.out,.inl ⟨HC.out,rfl⟩⟩
 ·have HC:=Ql4 hc
  have HE:=Ql4 (Qjw hc)
  clear hc
  go_enter Tryz.func242,Tryz.ntmps242
  go_wp2_with fail
  refine (Xl _ F p s q H.out).mono ?_
  rw [HE.out]
  rintro e w1 ⟨rfl,hb⟩
  have HB:=Ql4 hb
  have W:=Ql4 (wrapped (F':=F) ⟨#[114,101,97,100]⟩ q _ HC.out (H.out.below hb) (Mv.below hb))
  clear hb
  go_wp2_with (go_at_call 57;refine (Y1 _ _ _ _ _).mono ?_;rintro e w' ⟨rfl,rfl⟩)
  go_ret2
  exact ⟨_,rfl,HB.out.trans ((Below.refl _ _).alloc HB.out.size _),W.out.2.2⟩
set_option maxHeartbeats 1000000 in
theorem R6 (w:World) (F:Nat→Prop) (p:Nat) (s:Nand) (h:NandAt w F p s):
  Calls Tryz.prog 122 #[.pointer (some ⟨p,0,none⟩)] w fun e w'=>e= .returned (.agg #[.int .i64 s.blocks,.int .i64 s.per])∧Below w.heap.size w w':=by
 obtain ⟨pb,pv,vs,h⟩:=h
 obtain ⟨c0,c1,c2,c3,c4,c5,hpl,hfz⟩:=h.hide
 have hn:=Qec p
 clear h c2 c3 c4 c5 hfz
 go_enter Tryz.func122,Tryz.ntmps122
 go_wp2
 refine bodyPost_ret (v:= .agg #[.int .i64 s.blocks,.int .i64 s.per]) (by simp [results,Tryz.results122,go_sem]) rfl ⟨rfl,?_⟩
 exact (Below.refl _ _).alloc (Nat.le_refl _) _
end nd
namespace nd
open Go.RowKit er
attribute [local go_sem ↓] Go.wp_at_zero Go.wp_at_succ
theorem Qu5:(Tryz.prog.info? 192).map (fun i=>(i.zero,i.size,i.bytes))=some (some (.agg #[.slice none 0 0,.int .i64 0,.bool false]),3,40):=by kernel_rfl
theorem Vf (n:Nat):(madeCells (Value.agg #[.slice none 0 0,.int .i64 0,.bool false]).cells (n * 3)).toList=Qv (List.replicate n (.slice none 0 0)) (List.replicate n ⟨[],0,false⟩):=by
 apply List.ext_getElem?
 intro j
 by_cases hj:j < n * 3
 ·have hi:j / 3 < n:=by omega
  obtain ⟨e0,e1,e2⟩:=Kz (List.replicate n (Value.slice none 0 0)) (List.replicate n (⟨[],0,false⟩:Blk)) (j / 3) (.slice none 0 0) ⟨[],0,false⟩ (by simp [hi]) (by simp [hi])
  have hl:(madeCells (Value.agg #[.slice none 0 0,.int .i64 0,.bool false]).cells (n * 3)).toList[j]? =some ((Value.agg #[.slice none 0 0,.int .i64 0,.bool false]).cells[j % 3]!):=by
   simp only [madeCells,Array.toList_map,Array.toList_range,List.getElem?_map,List.getElem?_range hj,Option.map_some]
   rfl
  rw [hl]
  have h3:j % 3=0∨j % 3=1∨j % 3=2:=by omega
  rcases h3 with h|h|h
  ·rw [h,show j=j / 3 * 3 from by omega,e0]
   rfl
  ·rw [h,show j=j / 3 * 3+1 from by omega,e1];rfl
  ·rw [h,show j=j / 3 * 3+2 from by omega,e2];rfl
 ·rw [List.getElem?_eq_none (by simp [madeCells];omega),List.getElem?_eq_none (by rw [Dp _ _ (by simp)];simp;omega)]
theorem Qit {w1 w2:World} {g n k:Nat} (hn0:16≤n) (hn1:n≤64) (hk0:8≤k) (hk1:k≤32)
  (hb:Whole w1 g 192 (Qv (List.replicate n (.slice none 0 0)) (List.replicate n ⟨[],0,false⟩)).toArray)
  (h2:w2=w1.alloc (.cells #[.int .i64 n,.int .i64 k,.slice (some ⟨g,0,none⟩) n n,.int .i64 0,.slice none 0 0,.bool false] 164)):
  NandIn w2 (fun x=>x=g∨x=w1.heap.size) w1.heap.size (Jg n k) g (.slice none 0 0) (List.replicate n (.slice none 0 0)):=by
 subst h2
 refine ⟨⟨hn0,hn1,hk0,hk1,by simp [Jg],fun i b hb=>?_,Int.le_refl _,fun m hm=>by simp [Jg] at hm⟩,Whole.new _ _ _,hb.alloc _,by simp [Jg],fun i b v hb hv=>?_,fun i j v u g' _ hv hu hg=>?_,World.ownsRow_nil _ _ _ _,.inr rfl,.inl rfl,fun i v g' hv hg=>?_,fun g' hg=>?_,fun x hx=>?_⟩
 ·have:b=⟨[],0,false⟩:=by
   simp only [Jg] at hb
   exact (List.mem_replicate.1 (List.mem_of_getElem? hb)).2
  subst this
  exact ⟨Nat.zero_le _,Int.le_refl _,Int.le_refl _⟩
 ·have e1:b=⟨[],0,false⟩:=by
   simp only [Jg] at hb
   exact (List.mem_replicate.1 (List.mem_of_getElem? hb)).2
  have e2:v= .slice none 0 0:=(List.mem_replicate.1 (List.mem_of_getElem? hv)).2
  subst e1 e2
  exact World.ownsRow_nil _ _ _ _
 ·have e2:v= .slice none 0 0:=(List.mem_replicate.1 (List.mem_of_getElem? hv)).2
  subst e2
  simp [Value.ownBlock] at hg
 ·have e2:v= .slice none 0 0:=(List.mem_replicate.1 (List.mem_of_getElem? hv)).2
  subst e2
  simp [Value.ownBlock] at hg
 ·simp [Value.ownBlock] at hg
 ·simp only [World.size_alloc]
  have:=hb.lt
  omega
def Qbj (w:World) (s:Nand) (e:Ending) (w':World):Prop:=
 ∃F p,e= .returned (.tuple #[.pointer (some ⟨p,0,none⟩),.nilIface])∧NandAt w' F p s∧Below w.heap.size w w'∧∀k,F k→w.heap.size≤k
set_option maxHeartbeats 4000000 in
set_option maxRecDepth 100000 in
theorem Qc7 (n k:Nat) (hn0:16≤n) (hn1:n≤64) (hk0:8≤k) (hk1:k≤32) (w:World):
  Calls Tryz.prog 51 #[.agg #[.int .i64 n,.int .i64 k]] w (Qbj w (Jg n k)):=by
 have i1:((16:Int)≤(n:Int)):=by omega
 have i2:((n:Int)≤64):=by omega
 have i3:((8:Int)≤(k:Int)):=by omega
 have i4:((k:Int)≤32):=by omega
 obtain ⟨j0,hj0,hz0,hz1,hz2⟩:=info_parts Qu5
 obtain ⟨w1,hmk,r1,r2⟩:=run_make_full (P:=Tryz.prog) (w.alloc (.cells #[.int .i64 n,.int .i64 k] 74)).drew (w.heap.size+1) 162 192 j0 _ 3 Tryz.underlying162 hj0 hz0 hz1 .i64 .i64 n (by rw [hz2];omega) (by unfold maxLen;omega) (by simp)
 rw [Vf] at r1
 have hbx:Whole w1 w.heap.size 74 #[.int .i64 n,.int .i64 k]:=Whole.grown (w:=(w.alloc (.cells #[.int .i64 n,.int .i64 k] 74)).drew) (Whole.new w _ _) r2 (by simp)
 have hgb:Whole w1 (w.heap.size+1) 192 (Qv (List.replicate n (.slice none 0 0)) (List.replicate n ⟨[],0,false⟩)).toArray:=by
  rcases r1.2 with ⟨h,_⟩|⟨g,cap,cur,hv,hgb,hh,q1,q2,q3,q4⟩
  ·injection h with h
   cases h
  ·injection hv with hv h2 h3
   injection hv with hv
   injection hv with hv
   have hv':g=w.heap.size+1:=by rw [←hv];simp
   subst hv'
   rw [←h3] at q3
   clear q1 q2 h3 h2 hv
   have hcl:cur.toList=Qv (List.replicate n (.slice none 0 0)) (List.replicate n ⟨[],0,false⟩):=by
    rw [←q4,List.take_of_length_le]
    rw [Array.length_toList,q3]
    exact Nat.le_refl _
   show w1.heap[w.heap.size+1]? =_
   rw [hh,←hcl]
 have hb1:Below w.heap.size w w1:=(((Below.refl _ _).alloc (Nat.le_refl _) _).drew).trans ⟨r2.os,r2.tape,r2.output,r2.size,fun x hx=>r2.block x (by simp;omega) (by simp)⟩
 have HBX:=Ql4 hbx
 have HGB:=Ql4 hgb
 have HB1:=Ql4 hb1
 have b0:=hbx.cell 0
 have b1:=hbx.cell 1
 simp only [List.getElem?_toArray,List.getElem?_cons_zero,List.getElem?_cons_succ] at b0 b1
 have a0:(w.alloc (.cells #[.int .i64 n,.int .i64 k] 74)).drew.cell? ⟨w.heap.size,0,none⟩=some (.int .i64 n):=(Whole.new w 74 #[.int .i64 n,.int .i64 k]).cell 0
 have a1:(w.alloc (.cells #[.int .i64 n,.int .i64 k] 74)).drew.cell? ⟨w.heap.size,1,none⟩=some (.int .i64 k):=(Whole.new w 74 #[.int .i64 n,.int .i64 k]).cell 1
 have HA:=Ql4 (And.intro a0 a1)
 have HBB:=Ql4 (And.intro b0 b1)
 have HAL:Hid (∀o,(w1.alloc o).cell? ⟨w.heap.size,0,none⟩=some (.int .i64 n)∧(w1.alloc o).cell? ⟨w.heap.size,1,none⟩=some (.int .i64 k)):=fun o=>⟨(hbx.alloc o).cell 0,(hbx.alloc o).cell 1⟩
 clear r1 r2 hbx hgb hb1 a0 a1 b0 b1
 go_enter Tryz.func51,Tryz.ntmps51
 go_wp2_with (go_at_call 110;refine (Yo _ _ _ _).mono ?_;rintro e w' ⟨rfl,rfl⟩)
 go_region_held3 (fun w'=>w'.cell? ⟨w.heap.size,0,none⟩=some (.int .i64 n)∧w'.cell? ⟨w.heap.size,1,none⟩=some (.int .i64 k)) (first|exact HA.out|exact HBB.out|exact HAL.out _) (fail)
 go_wp2
 go_ret2
 have hfr:=Qit hn0 hn1 hk0 hk1 HGB.out (w2:=w1.alloc (.cells #[.int .i64 n,.int .i64 k,.slice (some ⟨w.heap.size+1,0,none⟩) n n,.int .i64 0,.slice none 0 0,.bool false] 164)) rfl
 have hsz:=HB1.out.size
 exact ⟨_,_,rfl,⟨_,_,_,hfr⟩,HB1.out.trans ((Below.refl _ _).alloc hsz _),fun x hx=>by omega⟩
end nd
end Go.Proofs.YtfialjmemcobjaaGreatDoor
