/- A part of the proof. -/
import Derived.Test.YtfialjmemcobjaaGreatDoorPrRtB
import Derived.Deep.AppendLies
set_option linter.unusedVariables false
set_option linter.unusedSimpArgs false
namespace Go.Proofs.YtfialjmemcobjaaGreatDoor
namespace rt
open Go.RowKit er
theorem Qg7:(Tryz.prog.info? 206).map (fun i=>(i.zero,i.size,i.bytes))=some (some (.agg #[.int .i64 0,.int .i64 0,.int .i64 0,.int .i64 0]),4,32):=by kernel_rfl
def Gy (s:ByteArray) (w:World) (e:Ending) (w':World):Prop:=
 match Xa s with
 |some (g,l)=>∃v,e= .returned (.tuple #[.int .i64 g,v,.int .i64 0])∧w'.ownsRow w.heap.size 206 4 v l.length (Q0 l)∧Below w.heap.size w w'
 |none=>e= .returned (.tuple #[.int .i64 0,.slice none 0 0,.int .i64 3])∧Below w.heap.size w w'
theorem Pb {s:ByteArray} {w w':World} (h:Xa s=none) (hb:Below w.heap.size w w'):Gy s w (.returned (.tuple #[.int .i64 0,.slice none 0 0,.int .i64 3])) w':=by
 unfold Gy
 rw [h]
 exact ⟨rfl,hb⟩
theorem Qqs (s:ByteArray) (j:Nat):Xc s (j+1)=Xc s j++[Qg6 s (6+9 * j)]:=by
 unfold Xc
 rw [List.range_succ,List.map_append]
 rfl
theorem Qep (s:ByteArray) (a b:Nat) (h:a+b≤s.size):(s.extract a s.size).extract b (s.extract a s.size).size=s.extract (a+b) s.size:=by
 rw [ByteArray.extract_extract,ByteArray.size_extract]
 congr 1
 omega
theorem Yp {wr w2:World} {o:Obj} {k:Nat} {base:Nat} {e:TypeId} {size:Nat} {v:Value} {n:Nat} {xs:List Value} (hown:wr.ownsRow base e size v n xs) (hg:((wr.alloc o).drewN k).grownBy w2 v.ownBlock) (hb:base≤wr.heap.size):Below base wr w2:=
 ⟨hg.os,hg.tape,hg.output,Nat.le_trans (by show _≤(wr.alloc o).heap.size;simp) hg.size,fun i hi=>(hg.block i (by show i < (wr.alloc o).heap.size;simp;omega) (fun e=>by have:=(hown.lt i e.symm).1;omega)).trans (Below.heap_alloc _ _ _ (by omega))⟩
set_option maxHeartbeats 8000000 in
set_option maxRecDepth 100000 in
theorem Xl (s:ByteArray) (w:World) (hs:s.size≤70368744177664):Calls Tryz.prog 125 #[.string s] w (Gy s w):=by
 have HNO:=Ql4 (fun (w':World) (h:Xa s=none) (hb:Below w.heap.size w w')=>Pb h hb)
 have HTK:=Ql4 (fun gw (wq:World) hw=>Y2 s [5,1] gw 2 wq hw (by simp) (by simp) (by simp) hs)
 have HHE:=Ql4 (V8 w)
 by_cases h6:s.size < 6
 ·have hno:Xa s=none:=by unfold Xa;rw [if_pos h6]
  go_enter Tryz.func125,Tryz.ntmps125
  go_wp2_with fail
  with_reducible refine HHE.out.mono ?_
  rintro e w1 ⟨gh,rfl,hw1,hg1,hb1⟩
  have HT:=Ql4 (HTK.out gh w1 (hw1 _ rfl))
  rw [show [5,1].length=2 from rfl] at HT
  have HB1:=Ql4 hb1
  clear hw1 hg1 hb1
  go_wp2_with fail
  with_reducible refine HT.out.mono ?_
  rintro e w2 (⟨h1,_⟩|⟨_,rfl,hb2⟩)
  ·exact absurd h1 (by simp;omega)
  have HR:=Ql4 (HNO.out w2 hno (HB1.out.trans (hb2.mono HB1.out.size)))
  clear hb2
  go_wp2_with fail
  refine bodyPost_ret (v:= .tuple #[.int .i64 0,.slice none 0 0,.int .i64 3]) (by simp [results,Tryz.results125,go_sem]) rfl HR.out
 ·obtain ⟨g,hg⟩:∃g,leN s 0 5=g:=⟨_,rfl⟩
  obtain ⟨k,hk⟩:∃k:Nat,leN s 5 1=k:=⟨(leN s 5 1).toNat,by have:=(Kl s 1 5).1;omega⟩
  have hgr:=Kl s 5 0
  have hkr:=Kl s 1 5
  rw [hg] at hgr
  rw [hk] at hkr
  have HD:Hid (Xa s=if 8 < (k:Int) then none else if s.size < 6+9 * k then none else if Ox g (Xc s k) && (Jd g (Xc s k)).toList == s.toList then some (g,Xc s k) else none):=by
   show _=_
   unfold Xa
   rw [if_neg h6,hg,hk,Int.toNat_natCast]
  have hnum:Yy s [5,1] 2=[.int .u64 g,.int .u64 k]:=by
   rw [←hg,←hk];rfl
  rw [show [5,1].length=2 from rfl] at HTK
  have HTK2:Hid (∀gw wq,WidAt wq gw ([5,1].map fun k=>(k,0))→Calls Tryz.prog 104 #[.string s,.slice (some ⟨gw,0,none⟩) 2 2] wq fun x w'=>∃ga c,x= .returned (.tuple #[.slice (some ⟨ga,0,none⟩) 2 c,.string (s.extract 6 s.size),.int .i64 0])∧w'.cell? ⟨ga,0,none⟩=some (.int .u64 g)∧w'.cell? ⟨ga,1,none⟩=some (.int .u64 k)∧Below wq.heap.size wq w'):=by
   intro gw wq hw
   refine (HTK.out gw wq hw).mono ?_
   rintro x w' (⟨_,A,c,rfl,h2,h3⟩|⟨h1,_⟩)
   ·rw [show [5,1].length=2 from rfl,hnum] at h2
    obtain ⟨ga,rfl,_,_,_,hc,_⟩:=Qo h2 (by omega)
    exact ⟨ga,c,rfl,hc 0 _ rfl,hc 1 _ rfl,h3⟩
   ·exact absurd h1 (by simp;omega)
  clear hnum hk hg HTK
  by_cases h8:8 < (k:Int)
  ·have hno:Xa s=none:=by rw [HD.out,if_pos h8]
   go_enter Tryz.func125,Tryz.ntmps125
   go_wp2_with fail
   with_reducible refine HHE.out.mono ?_
   rintro e w1 ⟨gh,rfl,hw1,hg1,hb1⟩
   have HT:=Ql4 (HTK2.out gh w1 (hw1 _ rfl))
   have HB1:=Ql4 hb1
   clear hw1 hg1 hb1
   go_wp2_with fail
   with_reducible refine HT.out.mono ?_
   rintro e w2 ⟨ga,c,rfl,d0,d1,hb2⟩
   have HR:=Ql4 (HNO.out w2 hno (HB1.out.trans (hb2.mono HB1.out.size)))
   clear hb2
   go_wp2_with fail
   refine bodyPost_ret (v:= .tuple #[.int .i64 0,.slice none 0 0,.int .i64 3]) (by simp [results,Tryz.results125,go_sem]) rfl HR.out
  ·rw [if_neg h8] at HD
   have hk8:(k:Int)≤8:=by omega
   have hk8n:k≤8:=by omega
   have hgw:IntKind.i64.wrap g=g:=by rw [IntKind.wrap_i64];omega
   have HG2:=Ql4 hgr
   clear h8 hkr hgr
   go_enter Tryz.func125,Tryz.ntmps125
   go_wp2_with fail
   with_reducible refine HHE.out.mono ?_
   rintro e w1 ⟨gh,rfl,hw1,hg1,hb1⟩
   have HT:=Ql4 (HTK2.out gh w1 (hw1 _ rfl))
   have HB1:=Ql4 hb1
   clear hw1 hg1 hb1
   go_wp2_with fail
   with_reducible refine HT.out.mono ?_
   rintro e w2 ⟨ga,c,rfl,d0,d1,hb2⟩
   have HB2:=Ql4 (HB1.out.trans (hb2.mono HB1.out.size))
   have HD0:Hid (∀wq,Below w2.heap.size w2 wq→wq.cell? ⟨ga,0,none⟩=some (.int .u64 g)):=fun wq hb=>Qq hb d0
   clear hb2 HT
   go_wp2_with fail
   obtain ⟨i0,hi0,hz0,hz1,hz2⟩:=info_parts Qg7
   have HI0:=Ql4 hi0
   have HZ0:=Ql4 hz0
   have HZ1:=Ql4 hz1
   have HZ2:=Ql4 hz2
   clear hi0 hz0 hz1 hz2
   have hss:(s.size:Int)≤70368744177664:=by omega
   go_loopw [6,7,8,9,10,31] (fun rv ov _ _ _ i wr=>∃(j:Nat) (B:Option Addr) (d:Nat),j≤k∧i= .int .u64 j∧ov= .slice B j d∧rv= .string (s.extract (6+9 * j) s.size)∧6+9 * j≤s.size∧Hid (wr.ownsRow w2.heap.size 206 4 (.slice B j d) j (Q0 (Xc s j)))∧Hid (Below w2.heap.size w2 wr)) (fun _ _ _ _ _ i _=>k - (intOf i).toNat)
   case atStart=>exact ⟨0,none,0,Nat.zero_le _,rfl,rfl,rfl,by omega,⟨rfl,.inl ⟨rfl,rfl⟩⟩,Below.refl _ _⟩
   case round=>
    obtain ⟨j,B,d,hj,rfl,rfl,rfl,hsz,HO,HB⟩:=hrel
    have hwb:w2.heap.size≤wr.heap.size:=HB.out.size
    by_cases hlt:j < k
    ·have hji:(j:Int) < (k:Int):=by omega
     have HTE:=Ql4 (fun gw (wq:World) hw=>Y2 (s.extract (6+9 * j) s.size) [2,4,2,1] gw 4 wq hw (by simp) (by simp) (by simp) (by rw [ByteArray.size_extract];omega))
     obtain ⟨x0,hx0⟩:∃x,leN s (6+9 * j) 2=x:=⟨_,rfl⟩
     obtain ⟨x1,hx1⟩:∃x,leN s (6+9 * j+2) 4=x:=⟨_,rfl⟩
     obtain ⟨x2,hx2⟩:∃x,leN s (6+9 * j+6) 2=x:=⟨_,rfl⟩
     obtain ⟨x3,hx3⟩:∃x,leN s (6+9 * j+8) 1=x:=⟨_,rfl⟩
     have hr0:=Kl s 2 (6+9 * j)
     have hr1:=Kl s 4 (6+9 * j+2)
     have hr2:=Kl s 2 (6+9 * j+6)
     have hr3:=Kl s 1 (6+9 * j+8)
     rw [hx0] at hr0
     rw [hx1] at hr1
     rw [hx2] at hr2
     rw [hx3] at hr3
     obtain ⟨tp,htp⟩:∃tp,(if x3=0 then -1 else x2)=tp:=⟨_,rfl⟩
     have HSP:Hid (Q0 (Xc s (j+1))=Q0 (Xc s j)++[.int .i64 x0,.int .i64 x1,.int .i64 tp,.int .i64 x3]):=by
      show _=_
      rw [Qqs,Ab,Qg6,hx0,hx1,hx2,hx3,htp]
     have HTOP:Hid (∀wq,Calls Tryz.prog 193 #[.int .u64 x2,.int .u64 x3] wq fun e w'=>e= .returned (.int .i64 tp)∧wq=w'):=fun wq=>by
      have:=Qa8 x2 x3 wq (by omega) (by omega)
      rw [htp] at this
      exact this
     by_cases h9:s.size < 6+9 * (j+1)
     ·have hno:Xa s=none:=by rw [HD.out,if_pos (by omega)]
      obtain ⟨R,hR⟩:∃R,s.extract (6+9 * j) s.size=R:=⟨_,rfl⟩
      have hRs:R.size < 9:=by rw [←hR,ByteArray.size_extract];omega
      rw [hR] at HTE ⊢
      clear hx0 hx1 hx2 hx3 htp hr0 hr1 hr2 hr3 hR
      go_wp2_with fail
      with_reducible refine (Yd _).mono ?_
      rintro e w4 ⟨ge,rfl,hw4,hg4,hb4⟩
      have HTF:=Ql4 (HTE.out ge w4 (hw4 _ rfl))
      rw [show [2,4,2,1].length=4 from rfl] at HTF
      have HB4:=Ql4 (HB.out.trans (hb4.mono HB.out.size))
      clear hw4 hg4 hb4
      go_wp2_with fail
      with_reducible refine HTF.out.mono ?_
      rintro e w5 (⟨h1,_⟩|⟨_,rfl,hb5⟩)
      ·exact absurd h1 (by simp;omega)
      have HB5:=Ql4 (HB4.out.trans (hb5.mono HB4.out.size))
      have HR:=Ql4 (HNO.out w5 hno (HB2.out.trans (HB5.out.mono HB2.out.size)))
      clear hb5
      go_wp2_with fail
      refine bodyPost_ret (v:= .tuple #[.int .i64 0,.slice none 0 0,.int .i64 3]) (by simp [results,Tryz.results125,go_sem]) rfl HR.out
     ·have hex:=Qep s (6+9 * j) 9 (by omega)
      have hRs:(s.extract (6+9 * j) s.size).size=s.size - (6+9 * j):=by rw [ByteArray.size_extract];omega
      have hnm:Yy (s.extract (6+9 * j) s.size) [2,4,2,1] 4=[.int .u64 x0,.int .u64 x1,.int .u64 x2,.int .u64 x3]:=by
       rw [←hx0,←hx1,←hx2,←hx3]
       show [Value.int .u64 (leN _ 0 2),.int .u64 (leN _ 2 4),.int .u64 (leN _ 6 2),.int .u64 (leN _ 8 1)]=_
       rw [Zb s (6+9 * j) 2 0 (by omega),Zb s (6+9 * j) 4 2 (by omega),Zb s (6+9 * j) 2 6 (by omega),Zb s (6+9 * j) 1 8 (by omega)]
       rfl
      have HTE2:Hid (∀gw wq,WidAt wq gw ([2,4,2,1].map fun k=>(k,0))→Calls Tryz.prog 104 #[.string (s.extract (6+9 * j) s.size),.slice (some ⟨gw,0,none⟩) 4 4] wq fun x w'=>∃gn c,x= .returned (.tuple #[.slice (some ⟨gn,0,none⟩) 4 c,.string (s.extract (6+9 * (j+1)) s.size),.int .i64 0])∧(w'.cell? ⟨gn,0,none⟩=some (.int .u64 x0)∧w'.cell? ⟨gn,1,none⟩=some (.int .u64 x1)∧w'.cell? ⟨gn,2,none⟩=some (.int .u64 x2)∧w'.cell? ⟨gn,3,none⟩=some (.int .u64 x3))∧wq.heap.size≤gn∧Below wq.heap.size wq w'):=by
       intro gw wq hw
       refine (HTE.out gw wq hw).mono ?_
       rintro x w' (⟨_,A,c,rfl,h2,h3⟩|⟨h1,_⟩)
       ·rw [show [2,4,2,1].length=4 from rfl,hnm] at h2
        obtain ⟨gn,rfl,hgn,_,_,hc,_⟩:=Qo h2 (by omega)
        refine ⟨gn,c,?_,⟨hc 0 _ rfl,hc 1 _ rfl,hc 2 _ rfl,hc 3 _ rfl⟩,hgn,h3⟩
        rw [show [2,4,2,1].sum=9 from rfl,hex]
        rfl
       ·exact absurd h1 (by simp;omega)
      obtain ⟨R,hR⟩:∃R,s.extract (6+9 * j) s.size=R:=⟨_,rfl⟩
      obtain ⟨R2,hR2⟩:∃R,s.extract (6+9 * (j+1)) s.size=R:=⟨_,rfl⟩
      have HR2:=Ql4 hR2
      rw [hR,hR2] at HTE2
      rw [hR]
      have hy0:IntKind.i64.wrap x0=x0:=by rw [IntKind.wrap_i64];omega
      have hy1:IntKind.i64.wrap x1=x1:=by rw [IntKind.wrap_i64];omega
      have hy3:IntKind.i64.wrap x3=x3:=by rw [IntKind.wrap_i64];omega
      clear hx0 hx1 hx2 hx3 htp hr0 hr1 hr2 hr3 hR hR2 hnm hex hRs HTE
      go_wp2_with fail
      with_reducible refine (Yd _).mono ?_
      rintro e w4 ⟨ge,rfl,hw4,hg4,hb4⟩
      have HTF:=Ql4 (HTE2.out ge w4 (hw4 _ rfl))
      have HB4:=Ql4 (HB.out.trans (hb4.mono HB.out.size))
      have HO4:=Ql4 (own_below HO.out hb4)
      clear hw4 hg4 hb4
      go_wp2_with fail
      with_reducible refine HTF.out.mono ?_
      rintro e w5 ⟨gn,cn,rfl,⟨l0,l1,l2,l3⟩,hgn,hb5⟩
      have HB5:=Ql4 (HB4.out.trans (hb5.mono HB4.out.size))
      have HO5:=Ql4 (own_below HO4.out hb5)
      have HK:Hid (∀w',Below w5.heap.size w5 w'→w'.cell? ⟨gn,0,none⟩=some (.int .u64 x0)∧w'.cell? ⟨gn,1,none⟩=some (.int .u64 x1)∧w'.cell? ⟨gn,2,none⟩=some (.int .u64 x2)∧w'.cell? ⟨gn,3,none⟩=some (.int .u64 x3)):=fun w' hb=>⟨Qq hb l0,Qq hb l1,Qq hb l2,Qq hb l3⟩
      have hw5:w2.heap.size≤w5.heap.size:=HB5.out.size
      have HKG:Hid (∀q w',((w5.alloc (.cells #[.int .i64 x0,.int .i64 x1,.int .i64 tp,.int .i64 x3] 206)).drewN q).grownBy w' (Value.slice B j d).ownBlock→w'.cell? ⟨gn,0,none⟩=some (.int .u64 x0)∧w'.cell? ⟨gn,1,none⟩=some (.int .u64 x1)∧w'.cell? ⟨gn,2,none⟩=some (.int .u64 x2)∧w'.cell? ⟨gn,3,none⟩=some (.int .u64 x3)):=fun q w' hg=>by
       have hne:∀i,some (⟨gn,i,none⟩:Addr).block≠(Value.slice B j d).ownBlock:=fun i e=>by
        have h1:=(HO4.out.lt gn e.symm).2
        omega
       have hc:∀i u,w5.cell? ⟨gn,i,none⟩=some u→w'.cell? ⟨gn,i,none⟩=some u:=fun i u hu=>hg.cell (Qq (below_drewN ((Below.refl _ _).alloc (Nat.le_refl _) _) q) hu) (hne i)
       exact ⟨hc _ _ l0,hc _ _ l1,hc _ _ l2,hc _ _ l3⟩
      have HO1:=Ql4 (fun q=>own_below (HO5.out.alloc (.cells #[.int .i64 x0,.int .i64 x1,.int .i64 tp,.int .i64 x3] 206)) (below_drewN (Below.refl _ _) q))
      have hone:∀u∈[Value.int .i64 x0,.int .i64 x1,.int .i64 tp,.int .i64 x3],u.oneCell'=true:=by simp [Value.oneCell']
      have HONE:=Ql4 hone
      have HSZ:Hid (∀q,w2.heap.size≤((w5.alloc (.cells #[.int .i64 x0,.int .i64 x1,.int .i64 tp,.int .i64 x3] 206)).drewN q).heap.size):=fun q=>by show _≤(w5.alloc _).heap.size;simp only [World.size_alloc];omega
      have HNEW:Hid (∀(q j':Nat) (u:Value),[Value.int .i64 x0,.int .i64 x1,.int .i64 tp,.int .i64 x3][j']? =some u→((w5.alloc (.cells #[.int .i64 x0,.int .i64 x1,.int .i64 tp,.int .i64 x3] 206)).drewN q).cell? ((⟨w5.heap.size,0,none⟩:Addr).add j')=some u):=fun q=>World.news_of_block (w:=(w5.alloc (.cells #[.int .i64 x0,.int .i64 x1,.int .i64 tp,.int .i64 x3] 206)).drewN q) (heap_alloc_new w5 _)
      have hx3e:True:=trivial
      clear hone hb5
      have HI0':=HI0.out
      go_wp2_with fail
      go_region_held3 (fun w'=>w'.cell? ⟨gn,0,none⟩=some (.int .u64 x0)∧w'.cell? ⟨gn,1,none⟩=some (.int .u64 x1)∧w'.cell? ⟨gn,2,none⟩=some (.int .u64 x2)∧w'.cell? ⟨gn,3,none⟩=some (.int .u64 x3)) (first|exact HC7.out|exact HK.out _ (by repeat (first|exact Below.refl _ _|refine Below.drew ?_|refine Below.alloc ?_ (by first|omega|(simp <;> omega)) _)))
       (first|(go_at_call 193;(with_reducible refine (HTOP.out _).mono ?_);rintro e w6 ⟨rfl,rfl⟩)|(refine step_append_lies _ ?_ (.tmp 42) (.tmp 63) 197 ?_ w2.heap.size 206 i0 _ 4 32 Tryz.underlying197 HI0.out HZ0.out HZ1.out HZ2.out (by rfl) (by omega) (.slice B j d) j (Q0 (Xc s j)) (by rfl) (HO1.out _) ⟨w5.heap.size,0,none⟩ 1 1 [.int .i64 x0,.int .i64 x1,.int .i64 tp,.int .i64 x3] (by rfl) (by rfl) (HNEW.out _) HONE.out (by omega) (by simp only [maxLen];omega) (by omega) (HSZ.out _) _ rfl ?_;rfl;rfl;intro g2 cap2 w7 hown7 hg7 _ _;have HO7:=Ql4 hown7;have HC7:=Ql4 (HKG.out _ _ hg7);have HB7:=Ql4 (HB5.out.trans (Yp HO5.out hg7 hw5));clear hown7 hg7))
      all_goals
       go_wp2_with fail
       have hmeas:k - (intOf (.int .u64 ((j:Int)+1))).toNat < k - (intOf (.int .u64 (j:Int))).toNat:=by simp [intOf];omega
       refine ⟨⟨j+1,_,_,?_,?_,rfl,?_,?_,?_,HB7⟩,hmeas⟩
       ·omega
       ·go_num
       ·rw [HR2.out]
       ·omega
       ·show World.ownsRow _ _ _ _ _ _ _
        rw [HSP.out]
        exact HO7.out
    ·obtain rfl:j=k:=by omega
     rw [if_neg (by omega)] at HD
     obtain ⟨L,hL⟩:∃L,Xc s j=L:=⟨_,rfl⟩
     have hLl:L.length=j:=by rw [←hL];simp [Xc]
     rw [hL] at HD HO
     have e0:=HD0.out wr HB.out
     have hro:=Qs HO.out (Nat.zero_le _)
     rw [←hLl] at hro
     have HRO:Hid (wr.ownsRow w.heap.size 206 4 (.slice B j d) L.length (Q0 L)):=by
      show World.ownsRow _ _ _ _ _ _ _
      rw [hLl];exact Qs HO.out HB2.out.size
     have HBW:=Ql4 (HB2.out.trans (HB.out.mono HB2.out.size))
     have HLL:=Ql4 hLl
     cases hmay:Ox g L with
     |false=>
      have hno:Xa s=none:=by rw [HD.out,hmay];rfl
      have HWR:=Ql4 (Aj g L (.slice B L.length d) wr hro (by omega) hmay)
      rw [hLl] at HWR
      clear hL hLl hro hmay
      go_wp2_with fail
      with_reducible refine HWR.out.mono ?_
      rintro e w6 ⟨rfl,hb6⟩
      have HR:=Ql4 (HNO.out w6 hno (HBW.out.trans (hb6.mono HBW.out.size)))
      clear hb6
      go_wp2_with fail
      refine bodyPost_ret (v:= .tuple #[.int .i64 0,.slice none 0 0,.int .i64 3]) (by simp [results,Tryz.results125,go_sem]) rfl HR.out
     |true=>
      have HWR:=Ql4 (Sj g L (.slice B L.length d) wr hro hmay)
      rw [hLl] at HWR
      rw [hmay] at HD
      obtain ⟨T,hT⟩:∃T,Jd g L=T:=⟨_,rfl⟩
      rw [hT] at HWR HD
      obtain ⟨eb,heb⟩:∃eb,(T.toList == s.toList)=eb:=⟨_,rfl⟩
      rw [heb] at HD
      clear hL hLl hro hmay hT
      cases eb with
      |false=>
       have hno:Xa s=none:=by rw [HD.out];rfl
       go_wp2_with fail
       with_reducible refine HWR.out.mono ?_
       rintro e w6 ⟨rfl,hb6⟩
       have HR:=Ql4 (HNO.out w6 hno (HBW.out.trans (hb6.mono HBW.out.size)))
       clear hb6
       go_wp2_with fail
       refine bodyPost_ret (v:= .tuple #[.int .i64 0,.slice none 0 0,.int .i64 3]) (by simp [results,Tryz.results125,go_sem]) rfl HR.out
      |true=>
       have hyes:Xa s=some (g,L):=by rw [HD.out];rfl
       go_wp2_with fail
       with_reducible refine HWR.out.mono ?_
       rintro e w6 ⟨rfl,hb6⟩
       have e1:=Qq hb6 e0
       have HR:Hid (Gy s w (.returned (.tuple #[.int .i64 g,.slice B j d,.int .i64 0])) w6):=by
        show Gy _ _ _ _
        unfold Gy
        rw [hyes]
        exact ⟨_,rfl,own_below HRO.out hb6,HBW.out.trans (hb6.mono HBW.out.size)⟩
       clear hb6
       go_wp2_with fail
       refine bodyPost_ret (v:= .tuple #[.int .i64 g,.slice B j d,.int .i64 0]) (by simp [results,Tryz.results125,go_sem]) rfl HR.out
end rt
end Go.Proofs.YtfialjmemcobjaaGreatDoor
