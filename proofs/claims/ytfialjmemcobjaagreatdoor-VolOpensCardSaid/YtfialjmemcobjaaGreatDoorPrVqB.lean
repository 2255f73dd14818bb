/- A part of the proof. -/
import Derived.Test.YtfialjmemcobjaaGreatDoorPrFlB
import Derived.Deep.AppendLies
set_option linter.unusedVariables false
set_option linter.unusedSimpArgs false
namespace Go.Proofs.YtfialjmemcobjaaGreatDoor
namespace vo
open Go.RowKit er
theorem Qa4:(Tryz.prog.info? 5).map (fun i=>(i.zero,i.size,i.bytes))=some (some (.int .u8 0),1,1):=by kernel_rfl
set_option maxHeartbeats 4000000 in
set_option maxRecDepth 100000 in
theorem Mk (b:Int) (w:World) (h0:0≤b) (h1:b < 256):
  Calls Tryz.prog 52 #[.int .i64 1,.int .u8 b] w fun e w'=>e= .returned (.string (strOfNums (List.replicate 32 b)))∧Below w.heap.size w w':=by
 have hw8:IntKind.u8.wrap (b+0)=b:=by show (b+0) % 256=b;omega
 have hw9:IntKind.u8.wrap b=b:=by show b % 256=b;omega
 obtain ⟨i0,hi0,hz0,hz1,hz2⟩:=info_parts Qa4
 have HI0:=Ql4 hi0
 have HZ0:=Ql4 hz0
 have HZ1:=Ql4 hz1
 have HZ2:=Ql4 hz2
 clear hi0 hz0 hz1 hz2
 go_enter Tryz.func52,Tryz.ntmps52
 go_wp2_with fail
 go_loopw [5,6] (fun ov iv wr=>∃(j:Nat) (A:Option Addr) (c:Nat),j≤32∧iv= .int .i64 j∧ov= .slice A j c∧Hid (wr.ownsRow w.heap.size 5 1 (.slice A j c) j ((List.replicate j b).map (Value.int .u8)))∧Hid (Below w.heap.size w wr)) (fun _ iv _=>32 - (intOf iv).toNat)
 case atStart=>exact ⟨0,none,0,by omega,rfl,rfl,⟨rfl,.inl ⟨rfl,rfl⟩⟩,Below.refl _ _⟩
 case round=>
  obtain ⟨j,A,c,hj,rfl,rfl,HO,HB⟩:=hrel
  by_cases hlt:j < 32
  ·have hji:(j:Int) < 32:=by omega
   have hj0:(0:Int)≤(j:Int):=Int.natCast_nonneg _
   have hq:(j:Int).tdiv 32=0:=by rw [Int.tdiv_eq_ediv_of_nonneg hj0];omega
   have HOA:=Ql4 (HO.out.alloc (.cells #[.int .u8 b] 5))
   have HNW:Hid (∀(j':Nat) (u:Value),([.int .u8 b]:List Value)[j']? =some u→(wr.alloc (.cells #[.int .u8 b] 5)).cell? ((⟨wr.heap.size,0,none⟩:Addr).add j')=some u):=World.news_of_block (by simpa using heap_alloc_new wr (.cells #[.int .u8 b] 5))
   have hone:∀u∈([.int .u8 b]:List Value),u.oneCell'=true:=by simp [Value.oneCell']
   have HONE:=Ql4 hone
   have HSZ2:Hid (w.heap.size≤(wr.alloc (.cells #[.int .u8 b] 5)).heap.size):=by
    show _≤_
    have:=HB.out.size
    simp only [World.size_alloc];omega
   have HSZ3:=Ql4 HB.out.size
   clear hone
   go_wp2_with (at_builtin;go_must (refine wpList_append_own _ rfl (.tmp 13) (.tmp 19) 127 rfl w.heap.size 5 i0 _ 1 1 Tryz.underlying127 HI0.out HZ0.out HZ1.out HZ2.out rfl (by omega) (.slice A j c) j ((List.replicate j b).map (Value.int .u8)) rfl HOA.out ⟨wr.heap.size,0,none⟩ 1 1 [.int .u8 b] rfl rfl HNW.out HONE.out (by simp only [maxLen];omega) (by omega) HSZ2.out ?_;intro v2 w6 hown6 hg6 _;have HO6:=Ql4 hown6;have HB6:=Ql4 (Q4 HO.out hg6 HSZ3.out);obtain ⟨A2,c2',e2⟩:=Qk hown6;subst e2;clear hown6 hg6))
   have hmeas:32 - (intOf (.int .i64 ((j:Int)+1))).toNat < 32 - (intOf (.int .i64 (j:Int))).toNat:=by simp [intOf];omega
   refine ⟨⟨j+1,A2,c2',?_,?_,rfl,?_,?_⟩,hmeas⟩
   ·omega
   ·go_num
   ·rw [List.replicate_succ',List.map_append,List.map_cons,List.map_nil];with_reducible exact HO6
   ·exact HB.out.trans HB6.out
  ·obtain rfl:j=32:=by omega
   obtain ⟨g,rfl,_,hgl,hgf,hc,_⟩:=Qo HO.out (by omega)
   have hcv:=run_convert_bytes_arg (P:=Tryz.prog) wr 127 5 Tryz.underlying127 Tryz.underlying5 g 0 32 c (List.replicate 32 b) (by simp) (fun i hi=>by
    have hi':i < (List.replicate 32 b).length:=by simpa using hi
    have:=hc i (.int .u8 ((List.replicate 32 b)[i]'hi')) (by rw [List.getElem?_map,List.getElem?_eq_getElem hi'];rfl)
    rw [Nat.zero_add,this,List.getD_eq_getElem?_getD,List.getElem?_eq_getElem hi']
    rfl) 9 Tryz.underlying9
   clear hc hgl hgf HO
   go_wp2_with fail
   go_ret
   exact ⟨rfl,HB.out⟩
end vo
end Go.Proofs.YtfialjmemcobjaaGreatDoor
