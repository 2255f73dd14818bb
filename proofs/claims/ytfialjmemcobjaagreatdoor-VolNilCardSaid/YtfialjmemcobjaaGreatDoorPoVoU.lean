/- A part of the proof. -/
import Derived.Test.YtfialjmemcobjaaGreatDoorPoTqB
import Derived.Test.YtfialjmemcobjaaGreatDoorPoVoI
namespace Go.Proofs.YtfialjmemcobjaaGreatDoor.vo
open Go.RowKit Go.Maps Go.Proofs.YtfialjmemcobjaaGreatDoor.er Go.Proofs.YtfialjmemcobjaaGreatDoor.st Go.Proofs.YtfialjmemcobjaaGreatDoor.tr Go.Proofs.YtfialjmemcobjaaGreatDoor.nd Go.Proofs.YtfialjmemcobjaaGreatDoor.pg
set_option linter.unusedVariables false
set_option linter.unusedSimpArgs false
set_option maxRecDepth 100000
set_option maxHeartbeats 8000000
def getB (n:Nand) (id a:Int):Option (Int×ByteArray):=if (readS n a).2=0∧(readS n a).1.space=id then some ((readS n a).1.kind,(readS n a).1.body) else none
theorem getter1_any (w:World) (v:Nat) (c:Pt) (X:XL) (V:Vo) (id a:Int) (b1 b2:Nat) (h:VoIn w v c X V) (h1:Whole w b1 24 #[.pointer (some ⟨v,0,none⟩)]) (h2:Whole w b2 3 #[.int .i64 id]) (ht:(V.s.n.read a).2.size≤70368744177664):
  Calls Tryz.prog 198 #[.int .i64 a,.pointer (some ⟨b1,0,none⟩),.pointer (some ⟨b2,0,none⟩)] w (GetRet (getB V.s.n id a) w):=by
 have c0:=h.obj.cell 0
 have d1:=h1.cell 0
 simp [volCells] at c0 d1
 have HD2:Hid (∀W,Below w.heap.size w W→W.cell? ⟨b2,0,none⟩=some (.int .i64 id)):=fun W hb=>below_c hb (h2.cell 0)
 have HR:=Lib.hid (Read_anyS w _ _ _ _ _ _ a h.sto h.laid ht)
 have HS:Hid (getB V.s.n id a=if (readS V.s.n a).2=0∧(readS V.s.n a).1.space=id then some ((readS V.s.n a).1.kind,(readS V.s.n a).1.body) else none):=rfl
 obtain ⟨⟨pg,er⟩,hpg⟩:∃pe,readS V.s.n a=pe:=⟨_,rfl⟩
 rw [hpg] at HR HS
 simp only at HR HS
 obtain ⟨p0,p1,p2,p3,p4⟩:=pg
 have HPV:Hid (Page.val ⟨p0,p1,p2,p3,p4⟩= .agg #[.int .i64 p0,.int .i64 p1,.int .i64 p2,.int .i64 p3,.string p4]):=rfl
 simp only at HS
 rw [HPV.out] at HR
 obtain ⟨R,hR⟩:∃R,getB V.s.n id a=R:=⟨_,rfl⟩
 rw [hR] at HS ⊢
 clear h h1 h2 hR hpg ht
 go_enter Tryz.func198,Tryz.ntmps198
 go_wp2_with fail
 refine HR.out.mono ?_
 rintro e w1 ⟨u,rfl,hb1,hu⟩
 have HB1:=Lib.hid hb1
 have HBA:Hid (∀o,Below w.heap.size w (w1.alloc o)):=fun o=>hb1.alloc hb1.size o
 clear hb1
 by_cases he:er=0
 ·obtain rfl:u= .nilIface:=hu.elim (fun h=>h.2) (fun h=>absurd he h.1)
  clear hu
  have d2:=HD2.out _ (HBA.out (.cells #[.int .i64 p0,.int .i64 p1,.int .i64 p2,.int .i64 p3,.string p4] 32))
  by_cases hq:p1=id
  ·subst hq
   have HRR:Hid (R=some (p0,p4)):=by show _=_;rw [HS.out,if_pos ⟨he,rfl⟩]
   clear HS
   go_wp2_with fail
   go_quiet (fail)
   go_wp2_with fail
   refine bodyPost_ret (v:= .tuple #[.int .i64 p0,.string p4,.nilIface]) (by simp [results,Tryz.results198,go_sem]) rfl ?_
   rw [HRR.out]
   exact ⟨rfl,below_drewN (HBA.out _) _⟩
  ·have hq1:(p1 != id)=true:=by simpa using hq
   have HRR:Hid (R=none):=by show _=_;rw [HS.out,if_neg (fun h=>hq h.2)]
   clear HS
   go_wp2_with fail
   refine bodyPost_ret (v:= .tuple #[.int .i64 0,.string ⟨#[]⟩,.iface 28 (.int .i64 3)]) (by simp [results,Tryz.results198,go_sem]) rfl ?_
   rw [HRR.out]
   exact ⟨_,_,rfl,HBA.out _⟩
 ·obtain ⟨t,y,rfl⟩:=err_neq hu he
  have HRR:Hid (R=none):=by show _=_;rw [HS.out,if_neg (fun h=>he h.1)]
  clear hu HS
  go_wp2_with fail
  refine bodyPost_ret (v:= .tuple #[.int .i64 0,.string ⟨#[]⟩,.iface t y]) (by simp [results,Tryz.results198,go_sem]) rfl ?_
  rw [HRR.out]
  exact ⟨_,_,rfl,HBA.out _⟩
theorem getter_any (w:World) (v:Nat) (id:Int):
  Calls Tryz.prog 133 #[.pointer (some ⟨v,0,none⟩),.int .i64 id] w fun e w'=>e= .returned (.func (.func 198) #[] #[.pointer (some ⟨w.heap.size,0,none⟩),.pointer (some ⟨w.heap.size+1,0,none⟩)])∧Whole w' w.heap.size 24 #[.pointer (some ⟨v,0,none⟩)]∧Whole w' (w.heap.size+1) 3 #[.int .i64 id]∧Below w.heap.size w w':=by
 go_enter Tryz.func133,Tryz.ntmps133
 go_wp2_with fail
 go_ret
 exact ⟨rfl,(Whole.new w _ _).alloc _,Whole.new' _ _ _ _ (by simp),((Below.refl _ _).alloc (Nat.le_refl _) _).alloc (by simp) _⟩
def volG (v:Nat) (c:Pt) (X:XL) (V:Vo) (id:Int) (b1 b2:Nat) (ht:∀a,(V.s.n.read a).2.size≤70368744177664) (hs:∀a,(readS V.s.n a).1.body.size≤1000000):Gtr where
 g:=198
 la:=#[]
 lb:=#[.pointer (some ⟨b1,0,none⟩),.pointer (some ⟨b2,0,none⟩)]
 B:=getB V.s.n id
 inv:=fun W=>VoIn W v c X V∧Whole W b1 24 #[.pointer (some ⟨v,0,none⟩)]∧Whole W b2 3 #[.int .i64 id]
 below:=fun h hb=>⟨h.1.below hb,h.2.1.below hb h.2.1.lt,h.2.2.below hb h.2.2.lt⟩
 eg:=fun _ _=>by kernel_rfl
 sz:=fun a p hp=>by
  unfold getB at hp
  split at hp
  ·injection hp with hp
   subst hp
   exact hs a
  ·cases hp
 get:=fun w a h hi=>getter1_any w v c X V id a b1 b2 h.1 h.2.1 h.2.2 (ht a)
end Go.Proofs.YtfialjmemcobjaaGreatDoor.vo
namespace Go.Proofs.YtfialjmemcobjaaGreatDoor.vo
open Go.RowKit Go.Maps Go.Proofs.YtfialjmemcobjaaGreatDoor.er Go.Proofs.YtfialjmemcobjaaGreatDoor.st Go.Proofs.YtfialjmemcobjaaGreatDoor.tr Go.Proofs.YtfialjmemcobjaaGreatDoor.nd Go.Proofs.YtfialjmemcobjaaGreatDoor.pg
set_option linter.unusedVariables false
set_option linter.unusedSimpArgs false
set_option maxRecDepth 100000
set_option maxHeartbeats 8000000
def runOk (n:Nand) (id:Int) (e:Ext) (k:Nat):Bool:=(List.range k).all fun (i:Nat)=>standsB n id (e.fr+i) (e.at_+i)
def extOk (n:Nand) (id size:Int) (e:Ext):Bool:=decide (e.end_≤size) && (decide (e.kind≠2) || runOk n id e e.n.toNat)
def holdsB (n:Nand) (id size:Int) (l:List Ext):Bool:=l.all (extOk n id size)
theorem runOk_succ (n:Nand) (id:Int) (e:Ext) (k:Nat):runOk n id e (k+1)=(runOk n id e k && standsB n id (e.fr+k) (e.at_+k)):=by
 unfold runOk
 rw [List.range_succ,List.all_append]
 simp
theorem runOk_mono (n:Nand) (id:Int) (e:Ext) {k m:Nat} (h:runOk n id e m=true) (hk:k < m):standsB n id (e.fr+k) (e.at_+k)=true:=by
 unfold runOk at h
 exact List.all_eq_true.1 h k (List.mem_range.2 hk)
theorem holds_take {n:Nand} {id size:Int} {l:List Ext} {j:Nat} {e:Ext} (h:l[j]? =some e):holdsB n id size (l.take (j+1))=(holdsB n id size (l.take j) && extOk n id size e):=by
 unfold holdsB
 rw [List.take_add_one,h,List.all_append]
 simp
theorem holds_not {n:Nand} {id size:Int} {l:List Ext} {e:Ext} (h:e∈l) (he:extOk n id size e=false):holdsB n id size l=false:=by
 cases hh:holdsB n id size l with
 |false=>rfl
 |true=>rw [List.all_eq_true.1 hh e h] at he;cases he
theorem holds_any (w:World) (v:Nat) (c:Pt) (X:XL) (V:Vo) (id size top high:Int) (F:List Nat) (p:Nat) (T:Tree) (h:VoIn w v c X V) (htr:TrAt w F p T) (hok:T.Ok) (hc:Chk T.flat) (hsz:I64 size) (ht:∀a,(V.s.n.read a).2.size≤70368744177664):
  Calls Tryz.prog 134 #[.pointer (some ⟨v,0,none⟩),.agg #[.int .i64 id,.int .i64 size,.int .i64 top,.int .i64 high],.pointer (some ⟨p,0,none⟩)] w fun e w'=>e= .returned (.bool (holdsB V.s.n id size T.flat))∧Below w.heap.size w w':=by
 have HA:Hid (∀W,Below w.heap.size w W→Calls Tryz.prog 165 #[.pointer (some ⟨p,0,none⟩)] W fun x w'=>∃v',x= .returned v'∧w'.ownsRow W.heap.size 255 4 v' T.flat.length (extCells T.flat)∧Below W.heap.size W w'):=fun W hb=>all_any W F p T (TrAt.keep htr (Keep.below (F:=fun _=>False) hb) (fun _ _ h=>h)) hok hc
 have HST:Hid (∀W s a,Below w.heap.size w W→Calls Tryz.prog 199 #[.pointer (some ⟨v,0,none⟩),.int .i64 id,.int .i64 s,.int .i64 a] W fun e w'=>e= .returned (.bool (standsB V.s.n id s a))∧Below W.heap.size W w'):=fun W s a hb=>stands_any W v c X V id s a (h.below hb) (ht a)
 have H1:=Lib.hid hc.one
 have hlen:=chk_len hc
 obtain ⟨l,hl⟩:∃l,T.flat=l:=⟨_,rfl⟩
 rw [hl] at HA H1 hlen ⊢
 obtain ⟨n,hn⟩:∃n,l.length=n:=⟨_,rfl⟩
 rw [hn] at HA hlen
 have HN:=Lib.hid hn
 have hli:(n:Int)≤16777216:=by omega
 obtain ⟨G,hG⟩:∃G,V.s.n=G:=⟨_,rfl⟩
 rw [hG] at HST ⊢
 obtain ⟨R,hR⟩:∃R,holdsB G id size l=R:=⟨_,rfl⟩
 have HR:Hid (holdsB G id size l=R):=hR
 rw [hR]
 unfold I64 at hsz
 clear h htr hok hc hl hn hG ht hR
 obtain ⟨bx,hbx⟩:∃bx,bx=w.heap.size:=⟨_,rfl⟩
 go_enter Tryz.func134,Tryz.ntmps134
 go_wp2_with fail
 have hw0:Below w.heap.size w (w.alloc (.cells #[.int .i64 id,.int .i64 size,.int .i64 top,.int .i64 high] 206)):=(Below.refl _ _).alloc (Nat.le_refl _) _
 have hx0:=Whole.new w 206 #[.int .i64 id,.int .i64 size,.int .i64 top,.int .i64 high]
 refine (HA.out _ hw0).mono ?_
 rintro e w1 ⟨v1,rfl,ho1,hb1⟩
 have HB1:Hid (Below w.heap.size w w1):=hw0.trans (hb1.mono hw0.size)
 have HX1:Hid (Whole w1 w.heap.size 206 #[.int .i64 id,.int .i64 size,.int .i64 top,.int .i64 high]):=hx0.below hb1 hx0.lt
 obtain ⟨A1,d1,e1⟩:=own_slice ho1
 subst e1
 have HO1:=Lib.hid ho1
 obtain ⟨A',c',hv',hcc⟩:=(SlAt.exts (SlAt.own ho1)).1
 injection hv' with e1 e2 e3
 subst e1
 have HC:=Lib.hid hcc
 clear ho1 hb1 hw0 hx0 hcc e2 e3
 go_wp2_with fail
 go_loopw [8,9,13] (fun _ _ i wr=>∃j:Nat,j≤n∧i= .int .i64 j∧Hid (holdsB G id size (l.take j)=true)∧Hid (Below w1.heap.size w1 wr)) (fun _ _ i _=>n - (intOf i).toNat)
 case atStart=>exact ⟨0,Nat.zero_le _,rfl,rfl,Below.refl _ _⟩
 case round=>
  obtain ⟨j,hj,rfl,HH,HB⟩:=hrel
  by_cases hlt:j < n
  ·have hji:(j:Int) < (n:Int):=by omega
   obtain ⟨gr,og,rfl,hcell⟩:=HC.out (by rw [HN.out];omega)
   obtain ⟨e,hf⟩:∃e,l[j]? =some e:=⟨_,List.getElem?_eq_getElem (by rw [HN.out];exact hlt)⟩
   obtain ⟨c0,c1,c2,c3⟩:=(hcell j e hf).below HB.out
   have HT:Hid (holdsB G id size (l.take (j+1))=extOk G id size e):=by
    show _=_
    rw [holds_take hf,HH.out,Bool.true_and]
   have HNO:Hid (extOk G id size e=false→R=false):=fun he=>by rw [←HR.out];exact holds_not (List.mem_of_getElem? hf) he
   have hone:=H1.out e (List.mem_of_getElem? hf)
   obtain ⟨N,hN⟩:∃N:Nat,e.n=(N:Int):=⟨e.n.toNat,by unfold oneB spanB at hone;simp at hone;omega⟩
   have hNN:e.n.toNat=N:=by omega
   have hrun:e.kind=2→0≤e.at_∧e.at_+N≤2048:=fun hk=>by unfold oneB at hone;simp [hk] at hone;omega
   have hsp:0≤e.fr∧e.fr+N≤16777216:=by unfold oneB spanB at hone;simp at hone;omega
   have HE:Hid (extOk G id size e=(decide (e.fr+N≤size) && (decide (e.kind≠2) || runOk G id e N))):=by
    show _=_
    unfold extOk Ext.end_
    rw [hNN,hN]
   have HRS:Hid (∀q,runOk G id e (q+1)=(runOk G id e q && standsB G id (e.fr+q) (e.at_+q))):=fun q=>runOk_succ G id e q
   have HRM:Hid (∀q,q < N→standsB G id (e.fr+q) (e.at_+q)=false→runOk G id e N=false):=fun q hq hs=>by
    cases hh:runOk G id e N with
    |false=>rfl
    |true=>rw [runOk_mono G id e hh hq] at hs;cases hs
   have HR0:Hid (runOk G id e 0=true):=rfl
   obtain ⟨rk,hrk⟩:∃rk,runOk G id e=rk:=⟨_,rfl⟩
   rw [hrk] at HE HRS HRM HR0
   obtain ⟨ek,hek⟩:∃ek,extOk G id size e=ek:=⟨_,rfl⟩
   rw [hek] at HE HNO HT
   obtain ⟨f,en,k,t⟩:=e
   simp only at c0 c1 c2 c3 hN hrun hsp HE HRS HRM
   subst hN
   clear hf hcell hone hrk hNN hek
   obtain ⟨qb,hqb⟩:∃qb,wr.heap.size=qb:=⟨_,rfl⟩
   obtain ⟨wx,hwx⟩:∃wx,wx=wr.alloc (.cells #[.int .i64 f,.int .i64 (N:Int),.int .i64 k,.int .i64 t] 255):=⟨_,rfl⟩
   have HWX:Hid (Whole wx qb 255 #[.int .i64 f,.int .i64 (N:Int),.int .i64 k,.int .i64 t]∧Below w1.heap.size w1 wx):=by
    show _∧_
    rw [hwx,←hqb]
    exact ⟨Whole.new _ _ _,HB.out.alloc HB.out.size _⟩
   have HXX:Hid (∀W,Below wx.heap.size wx W→Whole W qb 255 #[.int .i64 f,.int .i64 (N:Int),.int .i64 k,.int .i64 t]∧Whole W w.heap.size 206 #[.int .i64 id,.int .i64 size,.int .i64 top,.int .i64 high]∧Below w.heap.size w W):=fun W hb=>⟨HWX.out.1.below hb HWX.out.1.lt,(HX1.out.below HWX.out.2 HX1.out.lt).below hb (Nat.lt_of_lt_of_le HX1.out.lt HWX.out.2.size),HB1.out.trans ((HWX.out.2.trans (hb.mono HWX.out.2.size)).mono HB1.out.size)⟩
   have HBX:Hid (∀W,Below wx.heap.size wx W→Below w1.heap.size w1 W):=fun W hb=>HWX.out.2.trans (hb.mono HWX.out.2.size)
   have s1:(wr.alloc (.cells #[.int .i64 f,.int .i64 (N:Int),.int .i64 k,.int .i64 t] 255)).cell? ⟨w.heap.size,1,none⟩=some (.int .i64 size):=by
    rw [←hwx]
    exact (HXX.out wx (Below.refl _ _)).2.1.cell 1
   have hmeas:n - (intOf (.int .i64 ((j:Int)+1))).toNat < n - (intOf (.int .i64 (j:Int))).toNat:=by simp [intOf];omega
   have HMS:=Lib.hid hmeas
   clear hmeas
   obtain ⟨hs0,hs1⟩:=hsp
   by_cases hgt:size < f+N
   ·have hek:ek=false:=by rw [HE.out,decide_eq_false (by omega),Bool.false_and]
    have HRF:=Lib.hid (HNO.out hek)
    have HBE:=Lib.hid (HB1.out.trans ((HB.out.alloc HB.out.size (.cells #[.int .i64 f,.int .i64 (N:Int),.int .i64 k,.int .i64 t] 255)).mono HB1.out.size))
    go_wp2_with fail
    go_ret
    exact ⟨by rw [HRF.out];rfl,HBE.out⟩
   ·have hle:f+N≤size:=by omega
    go_wp2_with fail
    rw [←hwx]
    clear c0 c1 c2 c3 s1
    go_loopw [9,27] (fun _ i wr=>∃q:Nat,q≤N∧i= .int .i64 q∧Hid (k=2→rk q=true)∧Hid (Below wx.heap.size wx wr)) (fun _ i _=>N - (intOf i).toNat)
    case atStart=>exact ⟨0,Nat.zero_le _,rfl,fun _=>HR0.out,Below.refl _ _⟩
    case round=>
     obtain ⟨q,hq,rfl,HQ,HBQ⟩:=hrel
     by_cases hlq:q < N
     ·have hqi:(q:Int) < (N:Int):=by omega
      have hq0:(0:Int)≤(q:Int):=Int.natCast_nonneg _
      obtain ⟨X1,X2,HBWQ⟩:=HXX.out wr HBQ.out
      have x0:=X1.cell 0
      have x2:=X1.cell 2
      have x3:=X1.cell 3
      have z0:=X2.cell 0
      simp at x0 x2 x3 z0
      have HBW2:=Lib.hid HBWQ
      clear X1 X2 HBWQ
      have hmeas:N - (intOf (.int .i64 ((q:Int)+1))).toNat < N - (intOf (.int .i64 (q:Int))).toNat:=by simp [intOf];omega
      by_cases hk:k=2
      ·obtain ⟨ht0,ht1⟩:=hrun hk
       have HRK:=Lib.hid (HQ.out hk)
       have HSQ:=Lib.hid (HRS.out q)
       have HMQ:=Lib.hid (HRM.out q hlq)
       have hek2:Hid (ek=(decide (f+N≤size) && (decide (k≠2) || rk N))):=HE
       subst hk
       have HCS:=Lib.hid (HST.out wr (f+q) (t+q) HBW2.out)
       obtain ⟨sb,hsb⟩:∃sb,standsB G id (f+q) (t+q)=sb:=⟨_,rfl⟩
       rw [hsb] at HSQ HMQ HCS
       clear hsb
       go_wp2_with fail
       with_reducible refine HCS.out.mono ?_
       rintro e w2 ⟨rfl,hb2⟩
       have HBQ2:Hid (Below wx.heap.size wx w2):=HBQ.out.trans (hb2.mono HBQ.out.size)
       have HBF:Hid (Below w.heap.size w w2):=HBW2.out.trans (hb2.mono HBW2.out.size)
       clear hb2
       cases sb with
       |true=>
        go_wp2_with fail
        refine ⟨⟨q+1,?_,?_,?_,HBQ2.out⟩,hmeas⟩
        ·omega
        ·go_num
        ·exact fun _=>by rw [HSQ.out,HRK.out];rfl
       |false=>
        have hek:ek=false:=by rw [hek2.out,HMQ.out rfl];simp
        have HRF:=Lib.hid (HNO.out hek)
        go_wp2_with fail
        go_ret
        exact ⟨by rw [HRF.out];rfl,HBF.out⟩
      ·have hk1:(k == 2)=false:=by simpa using hk
       go_wp2_with fail
       refine ⟨⟨q+1,?_,?_,?_,HBQ.out⟩,hmeas⟩
       ·omega
       ·go_num
       ·exact fun h=>absurd h hk
     ·obtain rfl:q=N:=by omega
      have HEK:Hid (ek=true):=by
       show _=_
       rw [HE.out,decide_eq_true (by omega),Bool.true_and]
       by_cases hk:k=2
       ·rw [HQ.out hk,Bool.or_true]
       ·rw [decide_eq_true hk,Bool.true_or]
      go_wp2_with fail
      refine ⟨⟨j+1,?_,?_,?_,HBX.out _ HBQ.out⟩,HMS.out⟩
      ·omega
      ·go_num
      ·show _=_
       rw [HT.out,HEK.out]
  ·obtain rfl:j=n:=by omega
   have hfull:l.take j=l:=by rw [←HN.out];exact List.take_length
   rw [hfull] at HH
   go_wp2_with fail
   go_ret
   exact ⟨by rw [←HR.out,HH.out];rfl,HB1.out.trans (HB.out.mono HB1.out.size)⟩
end Go.Proofs.YtfialjmemcobjaaGreatDoor.vo
