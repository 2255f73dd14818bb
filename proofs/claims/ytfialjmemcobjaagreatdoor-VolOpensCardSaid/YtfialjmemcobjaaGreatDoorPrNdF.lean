/- A part of the proof. -/
import Derived.Test.YtfialjmemcobjaaGreatDoorPrNdB
import Derived.Deep.AppendLies
import Derived.Deep.DeepCutAuto
import Derived.Deep.DrawnRows
import Derived.Deep.RegionHeld3
import Derived.Deep.RegionLaw
import Derived.Maps.AppendAt
set_option linter.unusedVariables false
set_option linter.unusedSimpArgs false
namespace Go.Proofs.YtfialjmemcobjaaGreatDoor
namespace nd
open Go.RowKit er
attribute [local go_sem ↓] Go.wp_at_zero Go.wp_at_succ
def MvAt (w:World) (F:Nat→Prop) (p:Nat) (s':Nand) (w':World):Prop:=∃F',NandAt w' F' p s'∧Mv F w F' w'
theorem MvAt.same {w w':World} {F:Nat→Prop} {p:Nat} {s:Nand} (h:NandAt w F p s) (hb:Below w.heap.size w w'):MvAt w F p s w':=⟨F,h.below hb,Mv.below hb⟩
theorem Nand.setB_setB (s:Nand) (i:Nat) (b b':Blk):(s.setB i b).setB i b'=s.setB i b':=by simp [Nand.setB]
theorem Qdx:(Tryz.prog.info? 9).map (fun i=>(i.zero,i.size,i.bytes))=some (some (.string ⟨#[]⟩),1,16):=by kernel_rfl
theorem Qqb {s:Nand} (h:s.Ok) (k:Int):(waits s.plan k).junk.size≤140737488351232:=by
 unfold waits
 cases hf:s.plan.find? (fun m=>m.at_ == k) with
 |none=>exact Nat.zero_le _
 |some m=>exact h.jk m (List.mem_of_find?_eq_some hf)
theorem Qjw {c:Int} (h:c≠0):Xn c= .iface 28 (.int .i64 c):=if_neg h
set_option maxHeartbeats 4000000 in
set_option maxRecDepth 100000 in
theorem Bj (w:World) (F:Nat→Prop) (p:Nat) (s:Nand) (q:Int) (t:ByteArray) (h:NandAt w F p s) (ho:s.ops≤1000000000000000000) (hts:t.size≤9223372036854775807):
  Calls Tryz.prog 58 #[.pointer (some ⟨p,0,none⟩),.int .i64 q,.string t] w fun e w'=>e= .returned (Xn (s.program q t).1)∧MvAt w F p (s.program q t).2 w':=by
 have B0:Hid (Below w.heap.size w (((w.alloc (.cells #[.pointer (some ⟨p,0,none⟩)] 23)).alloc (.cells #[.int .i64 q] 3)).alloc (.cells #[.string t] 9))):=(((Below.refl _ _).alloc (Nat.le_refl _) _).alloc (by simp) _).alloc (by simp;omega) _
 have H1:=Ql4 (h.below B0.out)
 have X0:Hid (Whole (((w.alloc (.cells #[.pointer (some ⟨p,0,none⟩)] 23)).alloc (.cells #[.int .i64 q] 3)).alloc (.cells #[.string t] 9)) w.heap.size 23 #[.pointer (some ⟨p,0,none⟩)]):=((Whole.new _ _ _).alloc _).alloc _
 have X1:Hid (Whole (((w.alloc (.cells #[.pointer (some ⟨p,0,none⟩)] 23)).alloc (.cells #[.int .i64 q] 3)).alloc (.cells #[.string t] 9)) (w.heap.size+1) 3 #[.int .i64 q]):=(Whole.new' _ _ _ _ (by simp)).alloc _
 have X2:Hid (Whole (((w.alloc (.cells #[.pointer (some ⟨p,0,none⟩)] 23)).alloc (.cells #[.int .i64 q] 3)).alloc (.cells #[.string t] 9)) (w.heap.size+2) 9 #[.string t]):=Whole.new' _ _ _ _ (by simp)
 have H:=Ql4 h
 clear h
 cases hd:s.down
 ·cases hq:(Z9 s q && decide (t.size≤128))
  ·have hpr:s.program q t=(1,s):=by
    unfold Nand.program
    rw [hd,if_neg (by decide),if_pos]
    unfold Z9 at hq
    simp at hq
    intro ⟨h1,h2,h3⟩
    have:=hq h1 h2
    omega
   have HPR:=Ql4 hpr
   have HD:=Ql4 hd
   have HQ:=Ql4 hq
   clear hpr hd hq
   go_enter Tryz.func58,Tryz.ntmps58
   go_wp2_with (go_at_call 117;refine (Yh _ F p s q t w.heap.size (w.heap.size+1) (w.heap.size+2) H1.out (X0.out.cell 0) (X1.out.cell 0) (X2.out.cell 0)).mono ?_;rw [HD.out,HQ.out];rintro e w' ⟨rfl,n,rfl⟩;rw [show Xn (Gw false false)= .iface 28 (.int .i64 1) from rfl])
   go_ret
   rw [HPR.out]
   exact ⟨rfl,MvAt.same H.out (below_drewN B0.out _)⟩
  ·have hq1:0≤q∧q < (s.blocks:Int) * s.per∧t.size≤128:=by
    unfold Z9 at hq
    simp only [Bool.and_eq_true,decide_eq_true_eq] at hq
    exact ⟨hq.1.1,hq.1.2,hq.2⟩
   obtain ⟨n,rfl⟩:=Int.eq_ofNat_of_zero_le hq1.1
   have hOk:=H.out.ok
   have hper0:0 < s.per:=by have:=hOk.p0;omega
   have hper1:s.per≤32:=hOk.p1
   have hb64:s.blocks≤64:=hOk.b1
   have hnlt:n < s.blocks * s.per:=by have:=hq1.2.1;exact_mod_cast this
   have hts':t.size≤128:=hq1.2.2
   have hdiv:n / s.per < s.blocks:=Nat.div_lt_of_lt_mul (by rw [Nat.mul_comm];exact hnlt)
   have hn:n < 2048:=Nat.lt_of_lt_of_le hnlt (by have:=Nat.mul_le_mul hb64 hper1;omega)
   have hb:=Nand.blk_at hOk hdiv
   have hbl:=hOk.pl _ _ hb
   have hpr:s.program n t=(let b:=s.blk (n / s.per);if b.bad then (41,s) else if n % s.per≠b.pages.length then (40,s) else
     let m:=waits s.plan (s.ops+1)
     if m.kind=1 then (9,{s.count.setB (n / s.per) {b with pages:=b.pages++[spoilt m t]} with down:=true})
     else if m.kind=2 then (41,s.count.setB (n / s.per) {b with pages:=b.pages++[spoilt m t],bad:=true})
     else (0,s.count.setB (n / s.per) {b with pages:=b.pages++[t]})):=by
    unfold Nand.program
    rw [hd,if_neg (by decide),if_neg (by intro h;exact h ⟨hq1.1,hq1.2.1,hts'⟩)]
    rfl
   generalize hbb:s.blk (n / s.per)=b at *
   have HPR:=Ql4 hpr
   have HD:=Ql4 hd
   have HQ:=Ql4 hq
   have HBB:=Ql4 hbb
   have HOK:=Ql4 hOk
   have HB:=Ql4 hb
   have hdi0:(0:Int)≤((n / s.per:Nat):Int):=Int.natCast_nonneg _
   have hdi1:((n / s.per:Nat):Int) < (s.blocks:Int):=by exact_mod_cast hdiv
   have hwd:IntKind.i64.wrap ((n:Int).tdiv (s.per:Int))=((n / s.per:Nat):Int):=by
    rw [←Int.ofNat_tdiv,IntKind.wrap_i64]
    have:n / s.per≤n:=Nat.div_le_self _ _
    omega
   have hwm:IntKind.i64.wrap ((n:Int).tmod (s.per:Int))=((n % s.per:Nat):Int):=by
    rw [←Int.ofNat_tmod,IntKind.wrap_i64]
    have:n % s.per≤n:=Nat.mod_le _ _
    omega
   clear hpr hd hq hq1 hbb hOk hb
   go_enter Tryz.func58,Tryz.ntmps58
   go_wp2_with fail
   refine (Yh _ F p s n t w.heap.size (w.heap.size+1) (w.heap.size+2) H1.out (X0.out.cell 0) (X1.out.cell 0) (X2.out.cell 0)).mono ?_
   rw [HD.out,HQ.out]
   rintro e W ⟨rfl,nd,hW⟩
   rw [show Xn (Gw false true)= .nilIface from rfl]
   have BW:Hid (Below w.heap.size w W):=by subst hW;exact below_drewN B0.out _
   have x0:W.cell? ⟨w.heap.size,0,none⟩=some (.pointer (some ⟨p,0,none⟩)):=by subst hW;exact X0.out.cell 0
   have x1:W.cell? ⟨w.heap.size+1,0,none⟩=some (.int .i64 n):=by subst hW;exact X1.out.cell 0
   have x2:W.cell? ⟨w.heap.size+2,0,none⟩=some (.string t):=by subst hW;exact X2.out.cell 0
   obtain ⟨pb,pv,vs,IN0⟩:∃pb pv vs,NandIn W F p s pb pv vs:=by subst hW;exact H1.out.below (below_drewN (Below.refl _ _) nd)
   clear hW
   have IN:=Ql4 IN0
   obtain ⟨c0,c1,c2,c3,c4,c5,hpl,hfz⟩:=IN0.hide
   obtain ⟨v,hv⟩:∃v,vs[n / s.per]? =some v:=⟨vs[n / s.per]'(by rw [IN0.len,HOK.out.bl];exact hdiv),List.getElem?_eq_getElem _⟩
   obtain ⟨e0,e1,e2⟩:=Kz vs s.b (n / s.per) v b hv HB.out
   have k0:W.cell? ⟨pb,n / s.per * 3,none⟩=some v:=by rw [IN0.blk.cell];simpa using e0
   have k1:W.cell? ⟨pb,n / s.per * 3+1,none⟩=some (.int .i64 b.worn):=by rw [IN0.blk.cell];simpa using e1
   have k2:W.cell? ⟨pb,n / s.per * 3+2,none⟩=some (.bool b.bad):=by rw [IN0.blk.cell];simpa using e2
   have HV:=Ql4 hv
   clear hv e0 e1 e2 IN0 c0 c3 c4 c5 hfz
   go_wp2_with fail
   go_quiet (fail)
   cases hbad:b.bad
   ·obtain ⟨A,cap,hvA⟩:=Qk (IN.out.row _ _ _ HB.out HV.out)
    subst hvA
    rw [hbad] at k2
    have HBAD:=Ql4 hbad
    clear hbad
    by_cases hpg:n % s.per=b.pages.length
    ·have heq:(((n % s.per:Nat):Int) != (b.pages.length:Int))=false:=by
      rw [bne_eq_false_iff_eq]
      exact_mod_cast hpg
     have HPG:=Ql4 hpg
     have hmj:=Qqb HOK.out (s.ops+1)
     have HPR2:Hid (s.program n t=(let m:=waits s.plan (s.ops+1)
       if m.kind=1 then (9,{s.count.setB (n / s.per) {b with pages:=b.pages++[spoilt m t]} with down:=true})
       else if m.kind=2 then (41,s.count.setB (n / s.per) {b with pages:=b.pages++[spoilt m t],bad:=true})
       else (0,s.count.setB (n / s.per) {b with pages:=b.pages++[t]}))):=by
      show _=_
      rw [HPR.out]
      simp only [HBAD.out,Bool.false_eq_true,if_false,if_neg (show ¬(n % s.per≠b.pages.length) from fun h=>h hpg)]
     clear hpg
     go_wp2_with fail
     go_quiet (fail)
     go_wp2_with fail
     refine (X5 _ F p s pb pv vs (IN.out.below (below_drewN (Below.refl _ _) _)) ho).mono ?_
     rintro e W2 ⟨rfl,IN2,KP⟩
     have KW:Hid (Keep (fun k=>k=p) W W2):=(Keep.below (below_drewN (Below.refl _ _) _)).trans KP (fun x hx=>.inl hx)
     have np:∀k,w.heap.size≤k→¬(k=p):=fun k hk e=>by have:=H.out;obtain ⟨_,_,_,h⟩:=this;have:=h.obj.lt;omega
     have y0:=KW.out.cell x0 (np _ (Nat.le_refl _))
     have y2:=KW.out.cell x2 (np _ (by show w.heap.size≤w.heap.size+2;omega))
     have IN2h:=Ql4 IN2
     obtain ⟨e0,e1,e2⟩:=Kz vs s.b (n / s.per) (.slice A b.pages.length cap) b HV.out HB.out
     have m0:W2.cell? ⟨pb,n / s.per * 3,none⟩=some (.slice A b.pages.length cap):=by exact (IN2.blk.cell _).trans (by simpa [Nand.count] using e0)
     have mlt:=IN2.blk.lt
     clear IN2 KP e0 e1 e2
     generalize waits s.plan (s.ops+1)=m at *
     unfold Ec
     have K3:Hid (Keep (fun k=>(Value.slice A b.pages.length cap).ownBlock=some k) (W2.alloc (.cells #[.int .i64 m.at_,.int .i64 m.kind,.int .i64 m.keep,.string m.junk] 78)) (W2.alloc (.cells #[.int .i64 m.at_,.int .i64 m.kind,.int .i64 m.keep,.string m.junk] 78)).drew):=(Keep.refl _ _).drew
     have IN3:Hid (NandIn (W2.alloc (.cells #[.int .i64 m.at_,.int .i64 m.kind,.int .i64 m.keep,.string m.junk] 78)) F p s.count pb pv vs):=IN2h.out.alloc _
     have ROW:=Ql4 (IN3.out.row _ _ _ HB.out HV.out)
     have HLT:Hid (∀k,F k→k < w.heap.size):=by obtain ⟨_,_,_,h⟩:=H.out;exact h.lt
     have HF:Hid (∀g,(Value.slice A b.pages.length cap).ownBlock=some g→F g):=fun g hg=>IN3.out.fr _ _ g HV.out hg
     have hsz2:w.heap.size+2 < W2.heap.size:=World.block_lt_of_cell? _ _ y2
     have WM:Hid (Whole (W2.alloc (.cells #[.int .i64 m.at_,.int .i64 m.kind,.int .i64 m.keep,.string m.junk] 78)) W2.heap.size 78 #[.int .i64 m.at_,.int .i64 m.kind,.int .i64 m.keep,.string m.junk]):=Whole.new _ _ _
     have HK:Hid (∀w',Keep (fun k=>(Value.slice A b.pages.length cap).ownBlock=some k) (W2.alloc (.cells #[.int .i64 m.at_,.int .i64 m.kind,.int .i64 m.keep,.string m.junk] 78)) w'→w'.cell? ⟨pb,n / s.per * 3,none⟩=some (.slice A b.pages.length cap)∧w'.cell? ⟨w.heap.size+2,0,none⟩=some (.string t)∧w'.cell? ⟨W2.heap.size,0,none⟩=some (.int .i64 m.at_)∧w'.cell? ⟨W2.heap.size,1,none⟩=some (.int .i64 m.kind)∧w'.cell? ⟨W2.heap.size,2,none⟩=some (.int .i64 m.keep)∧w'.cell? ⟨W2.heap.size,3,none⟩=some (.string m.junk)∧w'.frozen? ⟨pb,n / s.per * 3,none⟩=false):=fun w' hk=>by
      have far:∀k,w.heap.size≤k→¬((Value.slice A b.pages.length cap).ownBlock=some k):=fun k hk h=>by have:=HLT.out _ (HF.out k h);omega
      have hm:=WM.out.keep hk (far _ (by omega))
      have hpbv:¬((Value.slice A b.pages.length cap).ownBlock=some pb):=by
       intro h
       obtain ⟨cs,h1⟩:=Kn ROW.out h
       have h2:=IN3.out.blk
       unfold Whole at h2
       rw [h1] at h2
       injection h2 with h2
       injection h2 with _ h2
       exact absurd h2 (by decide)
      refine ⟨(hk.cell (v:= .slice A b.pages.length cap) (by rw [World.cell?_alloc_lt _ _ _ mlt];exact m0) hpbv),hk.cell (by rw [World.cell?_alloc_lt _ _ _ (World.block_lt_of_cell? _ _ y2)];exact y2) (far _ (by show w.heap.size≤w.heap.size+2;omega)),hm.cell 0,hm.cell 1,hm.cell 2,hm.cell 3,hk.fz (by show pb < _;simp;omega) (IN3.out.blk.fz _) hpbv⟩
     have hbl1:=hbl.1
     have HNEW:Hid (∀(j:Nat) (u:Value),[Value.string t][j]? =some u→((W2.alloc (.cells #[.int .i64 m.at_,.int .i64 m.kind,.int .i64 m.keep,.string m.junk] 78)).drew.alloc (.cells #[Value.string t] 9)).cell? ((⟨W2.heap.size+1,0,none⟩:Addr).add j)=some u):=by
      have:=Zr (W2.alloc (.cells #[.int .i64 m.at_,.int .i64 m.kind,.int .i64 m.keep,.string m.junk] 78)).drew (Value.string t) 9
      simp only [World.size_alloc,World.size_drew] at this
      exact this
     obtain ⟨i0,hi0,hz0,hz1,hz2⟩:=info_parts Qdx
     have hcap:=Al ROW.out
     have SET:Hid (∀(x:ByteArray) (w4 w5:World) (g cap':Nat),Keep (fun k=>(Value.slice A b.pages.length cap).ownBlock=some k) (W2.alloc (.cells #[.int .i64 m.at_,.int .i64 m.kind,.int .i64 m.keep,.string m.junk] 78)) w4→
       w4.grownBy w5 (Value.slice A b.pages.length cap).ownBlock→w5.ownsRow 0 9 1 (.slice (some ⟨g,0,none⟩) (b.pages.length+1) cap') (b.pages.length+1) (b.pages.map .string++[.string x])→((Value.slice A b.pages.length cap).ownBlock=some g∨w.heap.size≤g∧W2.heap.size < g)→
       ∃(F':Nat→Prop) (v6:Value),NandIn (w5.setCell ⟨pb,n / s.per * 3,none⟩ (.slice (some ⟨g,0,none⟩) (b.pages.length+1) cap')) F' p (s.count.setB (n / s.per) {b with pages:=b.pages++[x]}) pb pv (vs.set (n / s.per) v6)∧Mv F w F' (w5.setCell ⟨pb,n / s.per * 3,none⟩ (.slice (some ⟨g,0,none⟩) (b.pages.length+1) cap'))∧
        (w5.setCell ⟨pb,n / s.per * 3,none⟩ (.slice (some ⟨g,0,none⟩) (b.pages.length+1) cap')).cell? ⟨w.heap.size,0,none⟩=some (.pointer (some ⟨p,0,none⟩))):=fun x w4 w5 g cap' h4 h5 hrow hg=>by
      have hk5:Keep (fun k=>(Value.slice A b.pages.length cap).ownBlock=some k) (W2.alloc (.cells #[.int .i64 m.at_,.int .i64 m.kind,.int .i64 m.keep,.string m.junk] 78)) w5:=h4.grown h5 (fun g hg=>.inl hg)
      have hlen:b.pages.length+1=(b.pages++[x]).length:=by simp
      have hrow':w5.ownsRow 0 9 1 (.slice (some ⟨g,0,none⟩) (b.pages.length+1) cap') ({b with pages:=b.pages++[x]}:Blk).pages.length (({b with pages:=b.pages++[x]}:Blk).pages.map .string):=by
       show w5.ownsRow 0 _ 1 _ (b.pages++[x]).length ((b.pages++[x]).map .string)
       rw [←hlen,List.map_append]
       exact hrow
      have hok:(s.count.setB (n / s.per) {b with pages:=b.pages++[x]}).Ok:=Nand.setB_Ok HOK.out.count (by show (b.pages++[x]).length≤s.per;rw [←hlen,←HPG.out];exact Nat.mod_lt _ hper0) hbl.2.1 (by show b.worn≤s.ops+1;have:=hbl.2.2;omega)
      obtain ⟨r1,r2⟩:=IN3.out.newRow (b':={b with pages:=b.pages++[x]}) HB.out HV.out rfl rfl hk5 hrow' (by
       rcases hg with hg|hg
       ·exact .inl hg.symm
       ·refine .inr (fun g' hg'=>?_)
        have:g=g':=by simpa [Value.ownBlock] using hg'
        subst this
        simp only [World.size_alloc]
        omega) hok
      have hw0:Mv F w F (W2.alloc (.cells #[.int .i64 m.at_,.int .i64 m.kind,.int .i64 m.keep,.string m.junk] 78)):=⟨((Keep.below BW.out).trans (KW.out.mono (fun k _ hk=>(hk▸IN3.out.fp:F k))) (fun x hx=>.inl hx)).alloc _,fun _ h=>.inl h⟩
      refine ⟨_,_,r1,hw0.trans r2,?_⟩
      have q1:(W2.alloc (.cells #[.int .i64 m.at_,.int .i64 m.kind,.int .i64 m.keep,.string m.junk] 78)).cell? ⟨w.heap.size,0,none⟩=some (.pointer (some ⟨p,0,none⟩)):=by rw [World.cell?_alloc_lt _ _ _ (World.block_lt_of_cell? _ _ y0)];exact y0
      exact r2.keep.cell q1 (fun hf=>by have:=HLT.out _ hf;simp at this)
     clear hbl
     by_cases hk1:m.kind=1
     ·have t1:(m.kind == 1)=true:=by simp [hk1]
      have HK1:=Ql4 hk1
      clear hk1
      go_wp2_with fail
      obtain ⟨q30,q31,q32,q33,q34,q35,q36⟩:=HK.out _ K3.out
      go_cut [] (fun w6=>∃(F':Nat→Prop) (v6:Value),NandIn w6 F' p (s.count.setB (n / s.per) {b with pages:=b.pages++[(spoilt m t)]}) pb pv (vs.set (n / s.per) v6)∧Mv F w F' w6∧w6.cell? ⟨w.heap.size,0,none⟩=some (.pointer (some ⟨p,0,none⟩)))
      case first=>
       go_region_law (first|(go_simp;go_at_call 121;refine (Cv _ m t hts' hmj).mono ?_;rintro e w4 ⟨rfl,hb4⟩;have K4:=Ql4 (K3.out.transBelow hb4);obtain ⟨q40,q41,q42,q43,q44,q45,q46⟩:=HK.out _ K4.out;have hs4:=hb4.size;simp only [World.size_drew,World.size_alloc] at hs4;have qa:=fun o=>(World.cell?_alloc_lt w4 o ⟨pb,n / s.per * 3,none⟩ (by show pb < _;omega)).trans q40;have R4:=Ql4 (own_below ROW.out (Below.trans ((Below.refl _ _).drew) hb4));clear hb4)|((refine step_append_lies _ (by rfl) (.tmp 59) (.tmp 63) 190 (by rfl) 0 9 i0 (.string ⟨#[]⟩) 1 16 Tryz.underlying190 hi0 hz0 hz1 hz2 (by rfl) (by omega) (.slice A b.pages.length cap) b.pages.length (b.pages.map .string) (by rfl) (R4.out.alloc _) ⟨w4.heap.size,0,none⟩ 1 1 [.string (spoilt m t)] (by rfl) (by rfl) (Zr _ _ _) (by simp [Value.oneCell']) (by omega) (by unfold maxLen;omega) (by omega) (Nat.zero_le _) (w4.heap.size+1) (by simp) ?_);(intro g cap' w5 hown5 hg5 hat5 hlt5;have K5:=Ql4 ((K4.out.alloc (.cells #[.string (spoilt m t)] 9)).grown hg5 (fun g hg=>.inl hg));have HO5:=Ql4 hown5;obtain ⟨q50,q51,q52,q53,q54,q55,q56⟩:=HK.out _ K5.out;have HG5:=Ql4 hg5;have HAT5:=Ql4 hat5;clear hown5 hg5 hat5)))
       all_goals
        go_wp2_with fail
        go_meet
        exact SET.out (spoilt m t) _ _ g cap' (K4.out.alloc _) HG5.out HO5.out (by
         rcases HAT5.out with h|h
         ·exact .inl h
         ·exact .inr (by omega))
      case rest=>
       obtain ⟨F',v6,IN6,MV6,r0⟩:=hcut
       obtain ⟨d0,d1,d2,d3,d4,d5,dp,dz⟩:=IN6.hide
       have z5:=dz 5
       have IN7:Hid (NandIn (wc.setCell ⟨p,5,none⟩ (.bool true)) F' p {s.count.setB (n / s.per) {b with pages:=b.pages++[spoilt m t]} with down:=true} pb pv (vs.set (n / s.per) v6)):=IN6.setObj 5 _ rfl rfl rfl ⟨IN6.ok.b0,IN6.ok.b1,IN6.ok.p0,IN6.ok.p1,IN6.ok.bl,IN6.ok.pl,IN6.ok.o0,IN6.ok.jk⟩
       have MV7:Hid (Mv F w F' (wc.setCell ⟨p,5,none⟩ (.bool true))):=MV6.trans ⟨(Keep.set1 _ _ _ _).mono (fun k _ hk=>(hk▸IN6.fp:F' k)),fun _ h=>.inl h⟩
       clear IN6 MV6 d0 d1 d2 d3 d4 dz
       go_wp2_with fail
       go_ret
       rw [HPR2.out]
       simp only [HK1.out,if_true]
       exact ⟨rfl,F',⟨_,_,_,IN7.out⟩,MV7.out⟩
     ·have t1:(m.kind == 1)=false:=by simp [hk1]
      have HK1:=Ql4 hk1
      clear hk1
      by_cases hk2:m.kind=2
      ·have t2:(m.kind == 2)=true:=by simp [hk2]
       have HK2:=Ql4 hk2
       clear hk2
       go_wp2_with fail
       obtain ⟨q30,q31,q32,q33,q34,q35,q36⟩:=HK.out _ K3.out
       go_cut [] (fun w6=>∃(F':Nat→Prop) (v6:Value),NandIn w6 F' p (s.count.setB (n / s.per) {b with pages:=b.pages++[(spoilt m t)]}) pb pv (vs.set (n / s.per) v6)∧Mv F w F' w6∧w6.cell? ⟨w.heap.size,0,none⟩=some (.pointer (some ⟨p,0,none⟩)))
       case first=>
        go_region_law (first|(go_simp;go_at_call 121;refine (Cv _ m t hts' hmj).mono ?_;rintro e w4 ⟨rfl,hb4⟩;have K4:=Ql4 (K3.out.transBelow hb4);obtain ⟨q40,q41,q42,q43,q44,q45,q46⟩:=HK.out _ K4.out;have hs4:=hb4.size;simp only [World.size_drew,World.size_alloc] at hs4;have qa:=fun o=>(World.cell?_alloc_lt w4 o ⟨pb,n / s.per * 3,none⟩ (by show pb < _;omega)).trans q40;have R4:=Ql4 (own_below ROW.out (Below.trans ((Below.refl _ _).drew) hb4));clear hb4)|((refine step_append_lies _ (by rfl) (.tmp 77) (.tmp 81) 190 (by rfl) 0 9 i0 (.string ⟨#[]⟩) 1 16 Tryz.underlying190 hi0 hz0 hz1 hz2 (by rfl) (by omega) (.slice A b.pages.length cap) b.pages.length (b.pages.map .string) (by rfl) (R4.out.alloc _) ⟨w4.heap.size,0,none⟩ 1 1 [.string (spoilt m t)] (by rfl) (by rfl) (Zr _ _ _) (by simp [Value.oneCell']) (by omega) (by unfold maxLen;omega) (by omega) (Nat.zero_le _) (w4.heap.size+1) (by simp) ?_);(intro g cap' w5 hown5 hg5 hat5 hlt5;have K5:=Ql4 ((K4.out.alloc (.cells #[.string (spoilt m t)] 9)).grown hg5 (fun g hg=>.inl hg));have HO5:=Ql4 hown5;obtain ⟨q50,q51,q52,q53,q54,q55,q56⟩:=HK.out _ K5.out;have HG5:=Ql4 hg5;have HAT5:=Ql4 hat5;clear hown5 hg5 hat5)))
        all_goals
         go_wp2_with fail
         go_meet
         exact SET.out (spoilt m t) _ _ g cap' (K4.out.alloc _) HG5.out HO5.out (by
          rcases HAT5.out with h|h
          ·exact .inl h
          ·exact .inr (by omega))
       case rest=>
        obtain ⟨F',v6,IN6,MV6,r0⟩:=hcut
        have hil:n / s.per < s.b.length:=(List.getElem?_eq_some_iff.1 HB.out).1
        have hvl:n / s.per < vs.length:=(List.getElem?_eq_some_iff.1 HV.out).1
        have hb6:(s.count.setB (n / s.per) {b with pages:=b.pages++[spoilt m t]}).b[n / s.per]? =some {b with pages:=b.pages++[spoilt m t]}:=by simp [Nand.setB,Nand.count,hil]
        have hv6:(vs.set (n / s.per) v6)[n / s.per]? =some v6:=by simp [hvl]
        obtain ⟨_,_,g2⟩:=Kz _ _ _ _ _ hv6 hb6
        have r2:wc.cell? ⟨pb,n / s.per * 3+2,none⟩=some (.bool b.bad):=(IN6.blk.cell _).trans (by simpa using g2)
        have z2:=IN6.blk.fz (n / s.per * 3+2)
        obtain ⟨IN7,KP7⟩:=IN6.setBlk (b':={b with pages:=b.pages++[spoilt m t],bad:=true}) hb6 rfl 2 (.bool true) (Lj _ _ _ _ _ IN6.len hb6) (Nand.setB_Ok IN6.ok (IN6.ok.pl _ _ hb6).1 (IN6.ok.pl _ _ hb6).2.1 (IN6.ok.pl _ _ hb6).2.2)
        rw [Nand.setB_setB] at IN7
        have HIN7:=Ql4 IN7
        have MV7:Hid (Mv F w F' (wc.setCell ⟨pb,n / s.per * 3+2,none⟩ (.bool true))):=MV6.trans ⟨KP7.mono (fun k _ hk=>(hk▸IN6.fb:F' k)),fun _ h=>.inl h⟩
        clear IN6 MV6 IN7 KP7 g2 hb6 hv6
        go_wp2_with fail
        go_ret
        rw [HPR2.out]
        simp only [if_neg HK1.out,if_pos HK2.out]
        exact ⟨rfl,F',⟨_,_,_,HIN7.out⟩,MV7.out⟩
      ·have t2:(m.kind == 2)=false:=by simp [hk2]
       have HK2:=Ql4 hk2
       clear hk2
       go_wp2_with fail
       obtain ⟨q30,q31,q32,q33,q34,q35,q36⟩:=HK.out _ K3.out
       go_cut [] (fun w6=>∃(F':Nat→Prop) (v6:Value),NandIn w6 F' p (s.count.setB (n / s.per) {b with pages:=b.pages++[t]}) pb pv (vs.set (n / s.per) v6)∧Mv F w F' w6∧w6.cell? ⟨w.heap.size,0,none⟩=some (.pointer (some ⟨p,0,none⟩)))
       case first=>
        go_region_law (((refine step_append_lies _ (by rfl) (.tmp 93) (.tmp 95) 190 (by rfl) 0 9 i0 (.string ⟨#[]⟩) 1 16 Tryz.underlying190 hi0 hz0 hz1 hz2 (by rfl) (by omega) (.slice A b.pages.length cap) b.pages.length (b.pages.map .string) (by rfl) (ROW.out.alloc _) ⟨(W2.heap.size+1),0,none⟩ 1 1 [.string t] (by rfl) (by rfl) HNEW.out (by simp [Value.oneCell']) (by omega) (by unfold maxLen;omega) (by omega) (Nat.zero_le _) ((W2.heap.size+1)+1) (by simp) ?_);(intro g cap' w5 hown5 hg5 hat5 hlt5;have K5:=Ql4 ((K3.out.alloc (.cells #[.string t] 9)).grown hg5 (fun g hg=>.inl hg));have HO5:=Ql4 hown5;obtain ⟨q50,q51,q52,q53,q54,q55,q56⟩:=HK.out _ K5.out;have HG5:=Ql4 hg5;have HAT5:=Ql4 hat5;clear hown5 hg5 hat5)))
        all_goals
         go_wp2_with fail
         go_meet
         exact SET.out t _ _ g cap' (K3.out.alloc _) HG5.out HO5.out (by
          rcases HAT5.out with h|h
          ·exact .inl h
          ·exact .inr (by omega))
       case rest=>
        obtain ⟨F',v6,IN6,MV6,r0⟩:=hcut
        have HIN6:=Ql4 IN6
        have HMV6:=Ql4 MV6
        clear IN6 MV6
        go_wp2_with fail
        go_ret
        rw [HPR2.out]
        simp only [if_neg HK1.out,if_neg HK2.out]
        exact ⟨rfl,F',⟨_,_,_,HIN6.out⟩,HMV6.out⟩

    ·have hne:(((n % s.per:Nat):Int) != (b.pages.length:Int))=true:=by
      rw [bne_iff_ne]
      intro h
      exact hpg (by exact_mod_cast h)
     have HPG:=Ql4 hpg
     clear hpg
     go_wp2_with fail
     go_quiet (fail)
     go_wp2_with fail
     go_ret
     rw [HPR.out]
     simp only [HBAD.out,Bool.false_eq_true,if_false,if_pos (show n % s.per≠b.pages.length from HPG.out)]
     exact ⟨rfl,MvAt.same H.out (below_drewN BW.out _)⟩
   ·rw [hbad] at k2
    have HBAD:=Ql4 hbad
    clear hbad
    go_wp2_with fail
    go_ret
    rw [HPR.out]
    simp only [HBAD.out,if_true]
    exact ⟨rfl,MvAt.same H.out (below_drewN BW.out _)⟩
 ·have hpr:s.program q t=(9,s):=by
   unfold Nand.program
   rw [hd,if_pos rfl]
  have HPR:=Ql4 hpr
  have HD:=Ql4 hd
  clear hpr hd
  go_enter Tryz.func58,Tryz.ntmps58
  go_wp2_with (go_at_call 117;refine (Yh _ F p s q t w.heap.size (w.heap.size+1) (w.heap.size+2) H1.out (X0.out.cell 0) (X1.out.cell 0) (X2.out.cell 0)).mono ?_;rw [HD.out];rintro e w' ⟨rfl,n,rfl⟩;rw [show Xn (Gw true (Z9 s q && decide (t.size≤128)))= .iface 28 (.int .i64 9) from rfl])
  go_ret
  rw [HPR.out]
  exact ⟨rfl,MvAt.same H.out (below_drewN B0.out _)⟩
end nd
namespace nd
open Go.RowKit er
def Qc8 (w:World) (F:Nat→Prop) (p:Nat) (s':Nand) (l:List (ByteArray×Int)) (c:Int) (e:Ending) (w':World):Prop:=
 ∃v F',e= .returned v∧NandAt w' F' p s'∧Mv F w F' w'∧Yt w' F' l c v
theorem wrapped {w w1:World} {F F':Nat→Prop} {p:Nat} {s':Nand} (op:ByteArray) (k c:Int) (hc:c≠0) (hn:NandAt w1 F' p s') (hm:Mv F w F' w1):
  NandAt (w1.alloc (.cells #[.string op,.int .i64 k,.iface 28 (.int .i64 c)] 187)) F' p s'∧Mv F w F' (w1.alloc (.cells #[.string op,.int .i64 k,.iface 28 (.int .i64 c)] 187))∧
   Yt (w1.alloc (.cells #[.string op,.int .i64 k,.iface 28 (.int .i64 c)] 187)) F' [(op,k)] c (.iface 183 (.pointer (some ⟨w1.heap.size,0,none⟩))):=by
 have hb:Below w1.heap.size w1 (w1.alloc (.cells #[.string op,.int .i64 k,.iface 28 (.int .i64 c)] 187)):=(Below.refl _ _).alloc (Nat.le_refl _) _
 refine ⟨hn.below hb,hm.trans (Mv.below hb),.inr ⟨hc,[w1.heap.size],⟨rfl,_,Whole.new _ _ _,rfl⟩,fun b hb=>?_⟩⟩
 obtain rfl:b=w1.heap.size:=by simpa using hb
 obtain ⟨_,_,_,h⟩:=hn
 intro hf
 exact absurd (h.lt _ hf) (Nat.lt_irrefl _)
theorem Qec (p:Nat) (w:World):(binOp .eql 23 (.pointer (some ⟨p,0,none⟩)) (.pointer none)).run Tryz.prog w= .ok (.bool false) w:=by kernel_rfl
set_option maxHeartbeats 1000000 in
theorem Ob (w:World) (F:Nat→Prop) (p:Nat) (s:Nand) (q:Int) (t:ByteArray) (h:NandAt w F p s) (ho:s.ops≤1000000000000000000) (hts:t.size≤9223372036854775807):
  Calls Tryz.prog 13 #[.pointer (some ⟨p,0,none⟩),.int .i64 q,.string t] w (Qc8 w F p (s.program q t).2 [(⟨#[112,114,111,103,114,97,109]⟩,q)] (s.program q t).1):=by
 have H:=Ql4 h
 clear h
 by_cases hc:(s.program q t).1=0
 ·have HC:=Ql4 hc
  have he:Xn (s.program q t).1= .nilIface:=by rw [hc];rfl
  have HE:=Ql4 he
  clear hc he
  go_enter Tryz.func13,Tryz.ntmps13
  go_wp2_with fail
  refine (Bj _ F p s q t H.out ho hts).mono ?_
  rw [HE.out]
  rintro e w1 ⟨rfl,F',hn,hm⟩
  have HN:=Ql4 hn
  have HM:=Ql4 hm
  clear hn hm
  go_wp2_with (go_at_call 57;refine (Y0 _ _ _).mono ?_;rintro e w' ⟨rfl,rfl⟩)
  go_ret
  exact ⟨_,F',rfl,HN.out,HM.out,.inl ⟨HC.out,rfl⟩⟩
 ·have HC:=Ql4 hc
  have HE:=Ql4 (Qjw hc)
  clear hc
  go_enter Tryz.func13,Tryz.ntmps13
  go_wp2_with fail
  refine (Bj _ F p s q t H.out ho hts).mono ?_
  rw [HE.out]
  rintro e w1 ⟨rfl,F',hn,hm⟩
  have W:=Ql4 (wrapped ⟨#[112,114,111,103,114,97,109]⟩ q _ HC.out hn hm)
  clear hn hm
  go_wp2_with (go_at_call 57;refine (Y1 _ _ _ _ _).mono ?_;rintro e w' ⟨rfl,rfl⟩)
  go_ret
  exact ⟨_,F',rfl,W.out.1,W.out.2.1,W.out.2.2⟩
theorem Qxq (w:World) (F:Nat→Prop) (p:Nat) (s:Nand) (h:NandAt w F p s):Calls Tryz.prog 257 #[.pointer (some ⟨p,0,none⟩)] w fun e w'=>e= .returned (.int .i64 s.ops)∧w=w':=by
 obtain ⟨pb,pv,vs,h⟩:=h
 obtain ⟨c0,c1,c2,c3,c4,c5,hpl,hfz⟩:=h.hide
 have hn:=Qec p
 clear h c0 c1 c2 c4 c5 hfz
 go_enter Tryz.func257,Tryz.ntmps257
 go_wp2
 go_ret
 exact ⟨rfl,rfl⟩
theorem Qqi (w:World) (F:Nat→Prop) (p:Nat) (s:Nand) (h:NandAt w F p s):Calls Tryz.prog 45 #[.pointer (some ⟨p,0,none⟩)] w fun e w'=>e= .returned (.bool s.down)∧w=w':=by
 obtain ⟨pb,pv,vs,h⟩:=h
 obtain ⟨c0,c1,c2,c3,c4,c5,hpl,hfz⟩:=h.hide
 have hn:=Qec p
 clear h c0 c1 c2 c3 c4 hfz
 go_enter Tryz.func45,Tryz.ntmps45
 go_wp2
 go_ret
 exact ⟨rfl,rfl⟩
set_option maxHeartbeats 1000000 in
theorem Yb (w:World) (F:Nat→Prop) (p:Nat) (s:Nand) (q:Int) (h:NandAt w F p s):Calls Tryz.prog 189 #[.pointer (some ⟨p,0,none⟩),.int .i64 q] w fun e w'=>e= .returned (.int .i64 (s.next q))∧∃n,w'=w.drewN n:=by
 have H:=Ql4 h
 obtain ⟨pb,pv,vs,h⟩:=h
 cases hq:s.has q
 ·have HQ:=Ql4 hq
  clear h hq
  go_enter Tryz.func189,Tryz.ntmps189
  go_wp2_with (go_at_call 179;refine (X6 _ F p s q H.out).mono ?_;rw [HQ.out];rintro e w' ⟨rfl,rfl⟩)
  go_ret
  exact ⟨by simp [Nand.next,HQ.out],0,rfl⟩
 ·have hq':=hq
  unfold Nand.has at hq'
  simp only [Bool.and_eq_true,decide_eq_true_eq] at hq'
  obtain ⟨n,rfl⟩:=Int.eq_ofNat_of_zero_le hq'.1
  have hlt:n < s.blocks:=by omega
  have h64:s.blocks≤64:=h.ok.b1
  have hb:=Nand.blk_at h.ok hlt
  have hbl:=h.ok.pl _ _ hb
  have hp32:=h.ok.p1
  obtain ⟨c0,c1,c2,c3,c4,c5,hpl,hfz⟩:=h.hide
  obtain ⟨v,hv⟩:∃v,vs[n]? =some v:=⟨vs[n]'(by rw [h.len,h.ok.bl];exact hlt),List.getElem?_eq_getElem _⟩
  obtain ⟨e0,e1,e2⟩:=Kz vs s.b n v _ hv hb
  obtain ⟨A,cap,rfl⟩:=Qk (h.row _ _ _ hb hv)
  have k0:w.cell? ⟨pb,n * 3,none⟩=some (.slice A (s.blk n).pages.length cap):=by rw [h.blk.cell];simpa using e0
  have k1:w.cell? ⟨pb,n * 3+1,none⟩=some (.int .i64 (s.blk n).worn):=by rw [h.blk.cell];simpa using e1
  have k2:w.cell? ⟨pb,n * 3+2,none⟩=some (.bool (s.blk n).bad):=by rw [h.blk.cell];simpa using e2
  have HQ:=Ql4 hq
  have hn0:(0:Int)≤(n:Int):=by omega
  have hn1:(n:Int) < (s.blocks:Int):=by omega
  clear h hq hq' hb e0 e1 e2 hv c0 c1 c3 c4 c5 hfz
  go_enter Tryz.func189,Tryz.ntmps189
  go_wp2_with (go_at_call 179;refine (X6 _ F p s n H.out).mono ?_;rw [HQ.out];rintro e w' ⟨rfl,rfl⟩)
  go_ret
  exact ⟨by simp [Nand.next,HQ.out],0,rfl⟩
set_option maxHeartbeats 1000000 in
theorem Qaf (w:World) (F:Nat→Prop) (p:Nat) (s:Nand) (q:Int) (h:NandAt w F p s):Calls Tryz.prog 108 #[.pointer (some ⟨p,0,none⟩),.int .i64 q] w fun e w'=>e= .returned (.int .i64 (s.wornB q))∧∃n,w'=w.drewN n:=by
 have H:=Ql4 h
 obtain ⟨pb,pv,vs,h⟩:=h
 cases hq:s.has q
 ·have HQ:=Ql4 hq
  clear h hq
  go_enter Tryz.func108,Tryz.ntmps108
  go_wp2_with (go_at_call 179;refine (X6 _ F p s q H.out).mono ?_;rw [HQ.out];rintro e w' ⟨rfl,rfl⟩)
  go_ret
  exact ⟨by simp [Nand.wornB,HQ.out],0,rfl⟩
 ·have hq':=hq
  unfold Nand.has at hq'
  simp only [Bool.and_eq_true,decide_eq_true_eq] at hq'
  obtain ⟨n,rfl⟩:=Int.eq_ofNat_of_zero_le hq'.1
  have hlt:n < s.blocks:=by omega
  have h64:s.blocks≤64:=h.ok.b1
  have hb:=Nand.blk_at h.ok hlt
  have hbl:=h.ok.pl _ _ hb
  have hp32:=h.ok.p1
  obtain ⟨c0,c1,c2,c3,c4,c5,hpl,hfz⟩:=h.hide
  obtain ⟨v,hv⟩:∃v,vs[n]? =some v:=⟨vs[n]'(by rw [h.len,h.ok.bl];exact hlt),List.getElem?_eq_getElem _⟩
  obtain ⟨e0,e1,e2⟩:=Kz vs s.b n v _ hv hb
  obtain ⟨A,cap,rfl⟩:=Qk (h.row _ _ _ hb hv)
  have k0:w.cell? ⟨pb,n * 3,none⟩=some (.slice A (s.blk n).pages.length cap):=by rw [h.blk.cell];simpa using e0
  have k1:w.cell? ⟨pb,n * 3+1,none⟩=some (.int .i64 (s.blk n).worn):=by rw [h.blk.cell];simpa using e1
  have k2:w.cell? ⟨pb,n * 3+2,none⟩=some (.bool (s.blk n).bad):=by rw [h.blk.cell];simpa using e2
  have HQ:=Ql4 hq
  have hn0:(0:Int)≤(n:Int):=by omega
  have hn1:(n:Int) < (s.blocks:Int):=by omega
  clear h hq hq' hb e0 e1 e2 hv c0 c1 c3 c4 c5 hfz
  go_enter Tryz.func108,Tryz.ntmps108
  go_wp2_with (go_at_call 179;refine (X6 _ F p s n H.out).mono ?_;rw [HQ.out];rintro e w' ⟨rfl,rfl⟩)
  go_ret
  exact ⟨by simp [Nand.wornB,HQ.out],0,rfl⟩
set_option maxHeartbeats 1000000 in
theorem Qbu (w:World) (F:Nat→Prop) (p:Nat) (s:Nand) (q:Int) (h:NandAt w F p s):Calls Tryz.prog 188 #[.pointer (some ⟨p,0,none⟩),.int .i64 q] w fun e w'=>e= .returned (.bool (s.badB q))∧∃n,w'=w.drewN n:=by
 have H:=Ql4 h
 obtain ⟨pb,pv,vs,h⟩:=h
 cases hq:s.has q
 ·have HQ:=Ql4 hq
  clear h hq
  go_enter Tryz.func188,Tryz.ntmps188
  go_wp2_with (go_at_call 179;refine (X6 _ F p s q H.out).mono ?_;rw [HQ.out];rintro e w' ⟨rfl,rfl⟩)
  go_ret
  exact ⟨by simp [Nand.badB,HQ.out],0,rfl⟩
 ·have hq':=hq
  unfold Nand.has at hq'
  simp only [Bool.and_eq_true,decide_eq_true_eq] at hq'
  obtain ⟨n,rfl⟩:=Int.eq_ofNat_of_zero_le hq'.1
  have hlt:n < s.blocks:=by omega
  have h64:s.blocks≤64:=h.ok.b1
  have hb:=Nand.blk_at h.ok hlt
  have hbl:=h.ok.pl _ _ hb
  have hp32:=h.ok.p1
  obtain ⟨c0,c1,c2,c3,c4,c5,hpl,hfz⟩:=h.hide
  obtain ⟨v,hv⟩:∃v,vs[n]? =some v:=⟨vs[n]'(by rw [h.len,h.ok.bl];exact hlt),List.getElem?_eq_getElem _⟩
  obtain ⟨e0,e1,e2⟩:=Kz vs s.b n v _ hv hb
  obtain ⟨A,cap,rfl⟩:=Qk (h.row _ _ _ hb hv)
  have k0:w.cell? ⟨pb,n * 3,none⟩=some (.slice A (s.blk n).pages.length cap):=by rw [h.blk.cell];simpa using e0
  have k1:w.cell? ⟨pb,n * 3+1,none⟩=some (.int .i64 (s.blk n).worn):=by rw [h.blk.cell];simpa using e1
  have k2:w.cell? ⟨pb,n * 3+2,none⟩=some (.bool (s.blk n).bad):=by rw [h.blk.cell];simpa using e2
  have HQ:=Ql4 hq
  have hn0:(0:Int)≤(n:Int):=by omega
  have hn1:(n:Int) < (s.blocks:Int):=by omega
  clear h hq hq' hb e0 e1 e2 hv c0 c1 c3 c4 c5 hfz
  go_enter Tryz.func188,Tryz.ntmps188
  go_wp2_with (go_at_call 179;refine (X6 _ F p s n H.out).mono ?_;rw [HQ.out];rintro e w' ⟨rfl,rfl⟩)
  go_ret
  exact ⟨by simp [Nand.badB,HQ.out],0,rfl⟩
end nd
end Go.Proofs.YtfialjmemcobjaaGreatDoor
