/- A part of the proof. -/
import Derived.Test.YtfialjmemcobjaaGreatDoorPrFlL
import Derived.Test.YtfialjmemcobjaaGreatDoorPrShA
import Derived.Deep.RegionHeld3
set_option linter.unusedVariables false
set_option linter.unusedSimpArgs false
namespace Go.Proofs.YtfialjmemcobjaaGreatDoor
namespace er
open Go.RowKit
theorem D5 (n:Int) (w:World):
  Calls Tryz.prog 184 #[.int .i64 n] w fun e w'=>e= .returned (.bool (decide (1≤n) && decide (n≤8)))∧w=w':=by
 go_enter Tryz.func184,Tryz.ntmps184
 by_cases h1:1≤n
 ·by_cases h8:n≤8
  ·go_wp2_with fail
   go_ret
   exact ⟨by simp [h1,h8],rfl⟩
  ·go_wp2_with fail
   go_ret
   exact ⟨by simp [h1,h8],rfl⟩
 ·have h1':n < 1:=by omega
  go_wp2_with fail
  go_ret
  exact ⟨by simp;omega,rfl⟩
theorem Qxd (n:Int) (w:World):
  Calls Tryz.prog 113 #[.int .i64 n] w fun e w'=>e= .returned (.bool (!(decide (1≤n) && decide (n≤8))))∧w=w':=by
 go_enter Tryz.func113,Tryz.ntmps113
 go_wp2_with fail
 refine (D5 n _).mono ?_
 rintro e w' ⟨rfl,rfl⟩
 go_wp2_with fail
 go_ret
 exact ⟨by simp,rfl⟩
def bytesOf (k:Nat) (n:Int):List Int:=(List.range k).map fun (j:Nat)=>n / (256 ^ j:Int) % 256
theorem bytesOf_length (k:Nat) (n:Int):(bytesOf k n).length=k:=by simp [bytesOf]
def Qcw (k:Nat) (n:Int):List Int:=(List.range 8).map fun (j:Nat)=>if j < k then n / (256 ^ j:Int) % 256 else 0
set_option maxHeartbeats 8000000 in
set_option maxRecDepth 100000 in
theorem Qf5 (k:Nat) (n:Int) (w:World) (hk:1≤k) (hk6:k≤6) (h0:0≤n) (h1:n < 256 ^ k):
  Calls Tryz.prog 115 #[.int .u64 n,.int .i64 k] w fun e w'=>e= .returned (.string (strOfNums (bytesOf k n)))∧Below w.heap.size w w':=by
 have hcv:=run_convert_bytes_arg (P:=Tryz.prog) (w.alloc (.cells ((Qcw k n).map (Value.int .u8)).toArray 278)) 127 5 Tryz.underlying127 Tryz.underlying5 w.heap.size 0 k 8 (bytesOf k n) (bytesOf_length k n) (fun i hi=>by
  rw [Nat.zero_add,(Whole.new w 278 _).cell i,List.getElem?_toArray,List.getElem?_map,Qcw,List.getElem?_map,List.getElem?_range (by omega)]
  simp only [Option.map_some,if_pos hi,bytesOf]
  rw [List.getD,List.getElem?_map,List.getElem?_range hi]
  rfl) 9 Tryz.underlying9
 have h64:n < 18446744073709551616:=by
  obtain rfl|rfl|rfl|rfl|rfl|rfl:k=1∨k=2∨k=3∨k=4∨k=5∨k=6:=by omega
  all_goals omega
 clear h1
 obtain rfl|rfl|rfl|rfl|rfl|rfl:k=1∨k=2∨k=3∨k=4∨k=5∨k=6:=by omega
 all_goals
  simp [Qcw,List.range_succ] at hcv
  go_enter Tryz.func115,Tryz.ntmps115
  go_wp2_with fail
  go_ret
  exact ⟨rfl,(Below.refl _ _).alloc (Nat.le_refl _) _⟩
set_option maxHeartbeats 4000000 in
theorem Qha (k:Nat) (n:Int) (w:World) (hk:1≤k) (hk6:k≤6) (h0:0≤n) (h1:n < 256 ^ k):
  Calls Tryz.prog 114 #[.int .u64 n,.int .i64 k] w fun e w'=>e= .returned (.bool true)∧w=w':=by
 obtain rfl|rfl|rfl|rfl|rfl|rfl:k=1∨k=2∨k=3∨k=4∨k=5∨k=6:=by omega
 all_goals
  have h64:n < 18446744073709551616:=by omega
  simp at h1
  have hz:(n / 256 == 0∨n / 65536 == 0∨n / 16777216 == 0∨n / 4294967296 == 0∨n / 1099511627776 == 0∨n / 281474976710656 == 0):=by simp;omega
  clear hz
  go_enter Tryz.func114,Tryz.ntmps114
  go_wp2_with fail
  go_ret
  exact ⟨by simp;omega,rfl⟩
def Zh (l:List (Nat×Int)):List UInt8:=l.flatMap fun p=>(bytesOf p.1 p.2).map fun x=>UInt8.ofNat x.toNat
theorem Qjx:∀(l:List (Nat×Int)),(∀p∈l,p.1≤6)→(Zh l).length≤6 * l.length
 |[],_=>by simp [Zh]
 |p::l,h=>by
  have:=Qjx l (fun q hq=>h q (by simp [hq]))
  have hp:=h p (by simp)
  have e:(Zh (p::l)).length=p.1+(Zh l).length:=by simp [Zh,bytesOf_length]
  rw [e,List.length_cons];omega
theorem Qyj {l:List (Nat×Int)} {j:Nat} {p:Nat×Int} (h:l[j]? =some p):Zh (l.take (j+1))=Zh (l.take j)++(bytesOf p.1 p.2).map fun x=>UInt8.ofNat x.toNat:=by
 unfold Zh
 rw [List.take_add_one,h]
 simp
theorem Qq6 {l:List (Nat×Int)} {j:Nat} {p:Nat×Int} (h:l[j]? =some p):Lib.byteCells (Zh (l.take (j+1)))=Lib.byteCells (Zh (l.take j))++Lib.strCells (strOfNums (bytesOf p.1 p.2)):=by
 rw [Qyj h]
 simp [Lib.byteCells,Lib.strCells,strOfNums_data]
theorem Ie {T e:TypeId} {B b:Nat} {bs:List Value} {w w':World} (h:Lib.IsBuilder T e B b bs w) (hb:Below w.heap.size w w'):Lib.IsBuilder T e B b bs w':=by
 have h1:∀p,Lib.BuilderAt T e B b p bs w→Lib.BuilderAt T e B b p bs w':=by
  rintro p ⟨hB,v,hbk,hown,hne⟩
  exact ⟨hB,v,(hb.block b (Array.getElem?_eq_some_iff.1 hbk).1).trans hbk,own_below hown hb,hne⟩
 exact h.imp (h1 _) (h1 _)
def WidAt (w:World) (g:Nat) (l:List (Nat×Int)):Prop:=∀(j:Nat) (p:Nat×Int),l[j]? =some p→w.cell? ⟨g,j,none⟩=some (.int .i64 p.1)
def Oc (w:World) (g:Nat) (l:List (Nat×Int)):Prop:=∀(j:Nat) (p:Nat×Int),l[j]? =some p→w.cell? ⟨g,j,none⟩=some (.int .u64 p.2)
theorem WidAt.below {w w':World} {g:Nat} {l:List (Nat×Int)} (h:WidAt w g l) (hb:Below w.heap.size w w'):WidAt w' g l:=fun j p hp=>Qq hb (h j p hp)
structure Qqo (l:List (Nat×Int)):Prop where
 lo:∀p∈l,1≤p.1
 hi:∀p∈l,p.1≤6
 ps:∀p∈l,0≤p.2
 up:∀p∈l,p.2 < 256 ^ p.1
 len:l.length≤8
set_option maxHeartbeats 1000000 in
theorem Qcf (g c:Nat) (l:List (Nat×Int)) (w:World) (hw:WidAt w g l) (hf:Qqo l) (n:Nat) (hn:l.length=n):
  Calls Tryz.prog 183 #[.slice (some ⟨g,0,none⟩) n c,.func (.func 113) #[] #[]] w fun e w'=>e= .returned (.int .i64 (-1))∧w=w':=by
 have HW:=Ql4 hw
 have HF:=Ql4 hf
 have HN:=Ql4 hn
 have hn8:(n:Int)≤8:=by have:=hf.len;omega
 clear hw hf hn
 go_enter Tryz.func183,Tryz.ntmps183
 go_wp2_with fail
 go_loopw [8] (fun i wr=>∃j:Nat,j≤n∧i= .int .i64 j∧w=wr) (fun i _=>n - (intOf i).toNat)
 case atStart=>exact ⟨0,Nat.zero_le _,rfl,rfl⟩
 case round=>
  obtain ⟨j,hj,rfl,rfl⟩:=hrel
  by_cases hlt:j < n
  ·have hji:(j:Int) < (n:Int):=by omega
   obtain ⟨p,hp⟩:∃p,l[j]? =some p:=⟨_,List.getElem?_eq_getElem (by rw [HN.out];exact hlt)⟩
   have c0:=HW.out j p hp
   have h1:(1:Int)≤(p.1:Int):=by have:=HF.out.lo p (List.mem_of_getElem? hp);omega
   have h2:(p.1:Int)≤8:=by have:=HF.out.hi p (List.mem_of_getElem? hp);omega
   have HWR:Hid (∀wq,Calls Tryz.prog 113 #[.int .i64 p.1] wq fun e w'=>e= .returned (.bool false)∧wq=w'):=by
    intro wq
    have:=Qxd p.1 wq
    simpa [h1,h2] using this
   clear hp h1 h2
   obtain ⟨pw,hpw⟩:∃pw:Nat,p.1=pw:=⟨_,rfl⟩
   rw [hpw] at c0 HWR
   clear hpw
   go_wp2_with fail
   with_reducible refine (HWR.out _).mono ?_
   rintro e w2 ⟨rfl,rfl⟩
   go_wp2_with fail
   go_roundw
   case rel=>exact ⟨j+1,by omega,by go_num,trivial⟩
   case measure=>simp [intOf];omega
  ·obtain rfl:j=n:=by omega
   go_wp2_with fail
   go_ret
   exact ⟨rfl,rfl⟩
theorem Pq (g c:Nat) (l:List (Nat×Int)) (w:World) (hw:WidAt w g l) (hf:Qqo l) (n:Nat) (hn:l.length=n):
  Calls Tryz.prog 112 #[.slice (some ⟨g,0,none⟩) n c,.func (.func 113) #[] #[]] w fun e w'=>e= .returned (.bool false)∧w=w':=by
 have H:=Ql4 (Qcf g c l w hw hf n hn)
 clear hw hf hn
 go_enter Tryz.func112,Tryz.ntmps112
 go_wp2_with fail
 with_reducible refine H.out.mono ?_
 rintro e w2 ⟨rfl,rfl⟩
 go_wp2_with fail
 go_ret
 exact ⟨rfl,rfl⟩
set_option maxHeartbeats 4000000 in
set_option maxRecDepth 100000 in
theorem Qoy (l:List (Nat×Int)) (gn cn gw cw:Nat) (w:World) (hw:WidAt w gw l) (hn:Oc w gn l) (hf:Qqo l) (n:Nat) (hl:l.length=n):
  Calls Tryz.prog 54 #[.slice (some ⟨gn,0,none⟩) n cn,.slice (some ⟨gw,0,none⟩) n cw] w fun e w'=>e= .returned (.tuple #[.string ⟨(Zh l).toArray⟩,.int .i64 0])∧Below w.heap.size w w':=by
 have HCO:=Ql4 (Pq gw cw l w hw hf n hl)
 have HW:=Ql4 hw
 have HN:=Ql4 hn
 have HF:=Ql4 hf
 have HL:=Ql4 hl
 have hn8:(n:Int)≤8:=by have:=hf.len;omega
 clear hw hn hf hl
 go_enter Tryz.func54,Tryz.ntmps54
 go_wp2_with fail
 with_reducible refine HCO.out.mono ?_
 rintro e w2 ⟨rfl,rfl⟩
 go_wp2_with fail
 go_loopw [20] (fun i wr=>∃j:Nat,j≤n∧i= .int .i64 j∧Hid (Lib.IsBuilder 129 5 w.heap.size w.heap.size (Lib.byteCells (Zh (l.take j))) wr)∧Hid (Below w.heap.size w wr)) (fun i _=>n - (intOf i).toNat)
 case atStart=>exact ⟨0,Nat.zero_le _,rfl,by exact Lib.fresh_isBuilder _ _ w,(Below.refl _ _).alloc (Nat.le_refl _) _⟩
 case round=>
  obtain ⟨j,hj,rfl,HB,HBEL⟩:=hrel
  by_cases hlt:j < n
  ·have hji:(j:Int) < (n:Int):=by omega
   obtain ⟨p,hp⟩:∃p,l[j]? =some p:=⟨_,List.getElem?_eq_getElem (by rw [HL.out];exact hlt)⟩
   have c0:=Qq HBEL.out (HW.out j p hp)
   have c1:=Qq HBEL.out (HN.out j p hp)
   have hpm:=List.mem_of_getElem? hp
   have p1:=HF.out.lo p hpm
   have p2:=HF.out.hi p hpm
   have p3:=HF.out.ps p hpm
   have p4:=HF.out.up p hpm
   have HFI:=Ql4 (fun wq=>Qha p.1 p.2 wq p1 p2 p3 p4)
   have HLA:=Ql4 (fun wq=>Qf5 p.1 p.2 wq p1 p2 p3 p4)
   have HSZ:Hid ((Lib.byteCells (Zh (l.take j))).length+(strOfNums (bytesOf p.1 p.2)).size≤140737488355328):=by
    show _≤_
    have:=Qjx (l.take j) (fun q hq=>HF.out.hi q (List.mem_of_mem_take hq))
    have h2:(l.take j).length≤8:=by rw [List.length_take];have:=HF.out.len;omega
    rw [strOfNums_size,bytesOf_length,Lib.byteCells_length]
    omega
   have HCE:=Ql4 (Qq6 hp)
   have hk5:(p.1:Int)≤6:=by omega
   have hk1:(1:Int)≤(p.1:Int):=by omega
   have h64:p.2 < 281474976710656:=by
    obtain h|h|h|h|h|h:p.1=1∨p.1=2∨p.1=3∨p.1=4∨p.1=5∨p.1=6:=by omega
    all_goals (rw [h] at p4;omega)
   obtain ⟨pk,pn⟩:=p
   simp only at c0 c1 HFI HLA HSZ HCE hk5 hk1 h64 p3
   clear hp hpm p1 p2 p4
   go_wp2_with fail
   with_reducible refine (HFI.out _).mono ?_
   rintro e w2 ⟨rfl,rfl⟩
   go_wp2_with fail
   with_reducible refine (HLA.out _).mono ?_
   rintro e w2 ⟨rfl,hb2⟩
   have HB2:=Ql4 (Ie HB.out hb2)
   have HBEL2:=Ql4 (HBEL.out.trans (hb2.mono HBEL.out.size))
   clear hb2
   go_wp2_with fail
   refine (Tryz.Builder_WriteString _ _ _ _ _ HB2.out HSZ.out (by have:=HBEL2.out.size;omega)).mono ?_
   rintro e w3 ⟨rfl,hb3,hbel3⟩
   have HB3:Hid (Lib.IsBuilder 129 5 w.heap.size w.heap.size (Lib.byteCells (Zh (l.take (j+1)))) w3):=by
    show Lib.IsBuilder _ _ _ _ _ _
    rw [HCE.out]
    exact .inr hb3
   have HBEL3:=Ql4 (HBEL2.out.trans hbel3)
   clear hb3 hbel3
   go_wp2_with fail
   go_roundw
   case rel=>exact ⟨j+1,by omega,by go_num,HB3,HBEL3⟩
   case measure=>simp [intOf];omega
  ·obtain rfl:j=n:=by omega
   have hfull:l.take j=l:=by rw [←HL.out];exact List.take_length
   rw [hfull] at HB
   clear hfull
   go_wp2_with fail
   refine (Tryz.Builder_String_any _ _ _ _ HB.out HBEL.out.size).mono ?_
   rintro e w2 ⟨rfl,hb2⟩
   have HBF:=Ql4 (HBEL.out.trans hb2)
   clear hb2
   go_wp2_with fail
   refine bodyPost_ret (v:= .tuple #[.string ⟨(Zh l).toArray⟩,.int .i64 0]) (by simp [results,Tryz.results54,go_sem]) rfl ⟨rfl,HBF.out⟩
end er
end Go.Proofs.YtfialjmemcobjaaGreatDoor
