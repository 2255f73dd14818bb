/- A part of the proof. -/
import Derived.Test.YtfialjmemcobjaaGreatDoorPrFlB
import Derived.Laws.BytesArg
import Derived.Laws.Closers25b
set_option linter.unusedVariables false
set_option linter.unusedSimpArgs false
namespace Go.Proofs.YtfialjmemcobjaaGreatDoor
namespace ck
open Go.RowKit er
def Qbf (c b:Int):Int:=bits .xor .u32 c (b * 16777216)
def Ym (x:Int):Int:=if (x / 2147483648 == 1)=true then bits .xor .u32 (x * 2 % 4294967296) 79764919 else x * 2 % 4294967296
def Re:Nat→Int→Int
 |0,x=>x
 |k+1,x=>Ym (Re k x)
def U2 (c b:Int):Int:=Re 8 (Qbf c b)
theorem Et (x:Int):0≤Ym x∧Ym x < 4294967296:=by
 unfold Ym
 split
 ·have h1:=bits_lo_u32 .xor (x * 2 % 4294967296) 79764919
  have h2:=bits_hi_u32 .xor (x * 2 % 4294967296) 79764919
  omega
 ·omega
theorem Qke (c b:Int):0≤U2 c b∧U2 c b < 4294967296:=Et _
set_option maxHeartbeats 4000000 in
set_option maxRecDepth 100000 in
theorem Qo1 (c b:Int) (w:World) (hc0:0≤c) (hc1:c < 4294967296) (hb0:0≤b) (hb1:b < 256):
  Calls Tryz.prog 241 #[.int .u32 c,.int .u8 b] w fun e w'=>e= .returned (.int .u32 (U2 c b))∧w=w':=by
 go_enter Tryz.func241,Tryz.ntmps241
 go_wp2_with fail
 go_loopw [0,10] (fun cv i wr=>∃(k:Nat) (x:Int),k≤8∧i= .int .i64 k∧cv= .int .u32 x∧0≤x∧x < 4294967296∧Hid (x=Re k (Qbf c b))∧w=wr) (fun _ i _=>8 - (intOf i).toNat)
 case atStart=>
  have h1:=bits_lo_u32 .xor c (b * 16777216)
  have h2:=bits_hi_u32 .xor c (b * 16777216)
  exact ⟨0,_,by omega,rfl,rfl,h1,by omega,rfl,rfl⟩
 case round=>
  obtain ⟨k,x,hk,rfl,rfl,hx0,hx1,hx,rfl⟩:=hrel
  by_cases hlt:k < 8
  ·have hki:(k:Int) < 8:=by omega
   cases hbit:(x / 2147483648 == 1) with
   |true=>
    have HB:Hid (Ym x=bits .xor .u32 (x * 2 % 4294967296) 79764919):=by show _=_;unfold Ym;rw [if_pos hbit]
    have HL:=Ql4 (Et x)
    go_wp2_with fail
    go_roundw
    case rel=>exact ⟨k+1,_,by omega,by go_num,rfl,by rw [←HB.out];exact HL.out.1,by rw [←HB.out];exact HL.out.2,by show _=Ym _;rw [←hx.out,HB.out],trivial⟩
    case measure=>simp [intOf];omega
   |false=>
    have HB:Hid (Ym x=x * 2 % 4294967296):=by show _=_;unfold Ym;rw [if_neg (by rw [hbit];simp)]
    have HL:=Ql4 (Et x)
    go_wp2_with fail
    go_roundw
    case rel=>exact ⟨k+1,_,by omega,by go_num,rfl,by rw [←HB.out];exact HL.out.1,by rw [←HB.out];exact HL.out.2,by show _=Ym _;rw [←hx.out,HB.out],trivial⟩
    case measure=>simp [intOf];omega
  ·obtain rfl:k=8:=by omega
   have HX:Hid (x=U2 c b):=hx.out
   clear hx
   go_wp2_with fail
   go_ret
   exact ⟨by rw [←HX.out];rfl,rfl⟩
def U1 (c:Int):Int:=bits .xor .u32 IntKind.u32.max c
def U3 (s:ByteArray):Nat→Int→Int
 |0,x=>x
 |k+1,x=>U2 (U3 s k x) (if h:k < s.size then s[k].toNat else 0)
def Jr (c:Int) (s:ByteArray):Int:=U1 (U3 s s.size (U1 c))
set_option maxHeartbeats 4000000 in
set_option maxRecDepth 100000 in
theorem Qo7 (c:Int) (s:ByteArray) (w:World) (hc0:0≤c) (hc1:c < 4294967296) (hs:s.size≤9223372036854775807):
  Calls Tryz.prog 185 #[.int .u32 c,.string s] w fun e w'=>e= .returned (.int .u32 (Jr c s))∧w=w':=by
 go_enter Tryz.func185,Tryz.ntmps185
 go_wp2_with fail
 rename_i hsg
 go_loopw [5,11] (fun cv i wr=>∃(k:Nat) (x:Int),k≤s.size∧i= .int .i64 k∧cv= .int .u32 x∧0≤x∧x < 4294967296∧Hid (x=U3 s k (U1 c))∧w=wr) (fun _ i _=>s.size - (intOf i).toNat)
 case atStart=>
  have h1:=bits_lo_u32 .xor IntKind.u32.max c
  have h2:=bits_hi_u32 .xor IntKind.u32.max c
  exact ⟨0,_,by omega,rfl,rfl,h1,by omega,rfl,rfl⟩
 case round=>
  obtain ⟨k,x,hk,rfl,rfl,hx0,hx1,hx,rfl⟩:=hrel
  by_cases hlt:k < s.size
  ·have hki:(k:Int) < (s.size:Int):=by omega
   have hk0:(0:Int)≤(k:Int):=by omega
   have HN:Hid (U2 x s[k].toNat=U3 s (k+1) (U1 c)):=by show _=U2 _ _;rw [dif_pos hlt,←hx.out]
   have HL:=Ql4 (Qke x s[k].toNat)
   have hb0:(0:Int)≤(s[k].toNat:Int):=by omega
   have hb1:(s[k].toNat:Int) < 256:=by have:=s[k].toNat_lt;omega
   go_wp2_with fail
   refine (Qo1 x s[k].toNat _ hx0 hx1 hb0 hb1).mono ?_
   rintro e w' ⟨rfl,rfl⟩
   go_wp2_with fail
   go_roundw
   case rel=>exact ⟨k+1,_,by omega,by go_num,rfl,HL.out.1,HL.out.2,HN.out,trivial⟩
   case measure=>simp [intOf];omega
  ·obtain rfl:k=s.size:=by omega
   have HX:Hid (U1 x=Jr c s):=by show _=U1 _;rw [←hx.out]
   clear hx
   go_wp2_with fail
   go_ret
   exact ⟨by rw [←HX.out];rfl,rfl⟩
set_option maxHeartbeats 4000000 in
theorem Qdj (s:ByteArray) (w:World) (hs:s.size≤9223372036854775807):
  Calls Tryz.prog 116 #[.string s] w fun e w'=>e= .returned (.int .u32 (Jr 0 s))∧w=w':=by
 go_enter Tryz.func116,Tryz.ntmps116
 go_wp2_with fail
 refine (Qo7 0 s _ (by omega) (by omega) hs).mono ?_
 rintro e w' ⟨rfl,rfl⟩
 go_wp2_with fail
 go_ret
 exact ⟨rfl,rfl⟩
theorem Qkb (c:Int) (s:ByteArray):0≤Jr c s∧Jr c s < 4294967296:=by
 have h1:=bits_lo_u32 .xor IntKind.u32.max (U3 s s.size (U1 c))
 have h2:=bits_hi_u32 .xor IntKind.u32.max (U3 s s.size (U1 c))
 exact ⟨h1,by show bits .xor .u32 IntKind.u32.max (U3 s s.size (U1 c)) < _;omega⟩
def Ae (x:Int):List Int:=[x / 16777216 % 256,x / 65536 % 256,x / 256 % 256,x % 256]
def Y4 (s:ByteArray):ByteArray:=s++strOfNums (Ae (Jr 0 s))
theorem strOfNums_size (l:List Int):(strOfNums l).size=l.length:=by simp [strOfNums,ByteArray.size]
theorem Qqm (w:World) (x:Int) (t:TypeId):∀i,i < 4→(w.alloc (.cells #[.int .u8 (x / 16777216 % 256),.int .u8 (x / 65536 % 256),.int .u8 (x / 256 % 256),.int .u8 (x % 256)] t)).cell? ⟨w.heap.size,0+i,none⟩=some (.int .u8 ((Ae x).getD i 0)):=by
 intro i hi
 have hw:=Whole.new w t #[.int .u8 (x / 16777216 % 256),.int .u8 (x / 65536 % 256),.int .u8 (x / 256 % 256),.int .u8 (x % 256)]
 rw [Nat.zero_add,hw.cell i]
 match i,hi with
 |0,_=>rfl
 |1,_=>rfl
 |2,_=>rfl
 |3,_=>rfl
set_option maxHeartbeats 4000000 in
set_option maxRecDepth 100000 in
theorem Cw (s:ByteArray) (w:World) (hs:s.size≤70368744177664):
  Calls Tryz.prog 56 #[.string s] w fun e w'=>e= .returned (.string (Y4 s))∧Below w.heap.size w w':=by
 have HL:=Ql4 (Qkb 0 s)
 have hz:(strOfNums (Ae (Jr 0 s))).size=4:=strOfNums_size _
 have hcv:=run_convert_bytes_arg (P:=Tryz.prog) (w.alloc (.cells #[.int .u8 (Jr 0 s / 16777216 % 256),.int .u8 (Jr 0 s / 65536 % 256),.int .u8 (Jr 0 s / 256 % 256),.int .u8 (Jr 0 s % 256)] 5)) 127 5 Tryz.underlying127 Tryz.underlying5 w.heap.size 0 4 4 (Ae (Jr 0 s)) rfl (Qqm w _ _) 9 Tryz.underlying9
 go_enter Tryz.func56,Tryz.ntmps56
 go_wp2_with fail
 refine (Qdj s _ (by omega)).mono ?_
 rintro e w' ⟨rfl,rfl⟩
 go_wp2_with fail
 go_ret
 exact ⟨rfl,(Below.refl _ _).alloc (Nat.le_refl _) _⟩
def Xq (s:ByteArray):ByteArray×Int:=
 if s.size < 4 then (⟨#[]⟩,5) else if ((Y4 (s.extract 0 (s.size - 4))).toList == s.toList)=true then (s.extract 0 (s.size - 4),0) else (⟨#[]⟩,6)
set_option maxHeartbeats 4000000 in
set_option maxRecDepth 100000 in
theorem Vj (s:ByteArray) (w:World) (hs:s.size≤70368744177664):
  Calls Tryz.prog 103 #[.string s] w fun e w'=>e= .returned (.tuple #[.string (Xq s).1,.int .i64 (Xq s).2])∧Below w.heap.size w w':=by
 by_cases h4:s.size < 4
 ·have HE:Hid (Xq s=(⟨#[]⟩,5)):=by show _=_;unfold Xq;rw [if_pos h4]
  have h4i:(s.size:Int) < 4:=by omega
  go_enter Tryz.func103,Tryz.ntmps103
  go_wp2_with fail
  refine bodyPost_ret (v:= .tuple #[.string ⟨#[]⟩,.int .i64 5]) (by simp [results,Tryz.results103,go_sem]) rfl ⟨by rw [HE.out],Below.refl _ _⟩
 ·have h4i:(4:Int)≤(s.size:Int):=by omega
  have hsz:(s.extract 0 (s.size - 4)).size≤70368744177664:=by simp;omega
  cases hq:((Y4 (s.extract 0 (s.size - 4))).toList == s.toList) with
  |true=>
   have HE:Hid (Xq s=(s.extract 0 (s.size - 4),0)):=by show _=_;unfold Xq;rw [if_neg h4,if_pos hq]
   go_enter Tryz.func103,Tryz.ntmps103
   go_wp2_with fail
   refine (Cw _ _ hsz).mono ?_
   rintro e w1 ⟨rfl,hb⟩
   go_wp2_with fail
   refine bodyPost_ret (v:= .tuple #[.string (s.extract 0 (s.size - 4)),.int .i64 0]) (by simp [results,Tryz.results103,go_sem]) rfl ⟨by rw [HE.out],hb⟩
  |false=>
   have HE:Hid (Xq s=(⟨#[]⟩,6)):=by show _=_;unfold Xq;rw [if_neg h4,if_neg (by rw [hq];simp)]
   go_enter Tryz.func103,Tryz.ntmps103
   go_wp2_with fail
   refine (Cw _ _ hsz).mono ?_
   rintro e w1 ⟨rfl,hb⟩
   go_wp2_with fail
   refine bodyPost_ret (v:= .tuple #[.string ⟨#[]⟩,.int .i64 6]) (by simp [results,Tryz.results103,go_sem]) rfl ⟨by rw [HE.out],hb⟩
end ck
end Go.Proofs.YtfialjmemcobjaaGreatDoor
