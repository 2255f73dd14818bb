/- A part of the proof. -/
import Derived.Test.YtfialjmemcobjaaGreatDoorPoFwA
import Derived.Laws.BitsAllLaws
set_option linter.unusedVariables false
set_option linter.unusedSimpArgs false
namespace Go.Proofs.YtfialjmemcobjaaGreatDoor.er
open Go.RowKit
set_option linter.unusedVariables false
set_option linter.unusedSimpArgs false
def byteAt (s:ByteArray) (i:Nat):Int:=if h:i < s.size then s[i].toNat else 0
def getStep (x b:Int):Int:=bits .or .u64 (IntKind.u64.wrap (x * 256)) (IntKind.u64.wrap b)
def getN (s:ByteArray) (a k:Nat):Nat→Int
 |0=>0
 |d+1=>getStep (getN s a k d) (byteAt s (a+(k - 1 - d)))
set_option maxHeartbeats 4000000 in
set_option maxRecDepth 100000 in
theorem get_short (s:ByteArray) (a k:Nat) (w:World) (hk:1≤k) (hk8:k≤8) (ha:a≤s.size) (hs:s.size≤70368744177664) (h:s.size < a+k):
  Calls Tryz.prog 177 #[.string s,.int .i64 a,.int .i64 k] w fun e w'=>e= .returned (.tuple #[.int .u64 0,.int .i64 5])∧w=w':=by
 have k1:(1:Int)≤(k:Int):=by omega
 have k8:(k:Int)≤8:=by omega
 have a0:(0:Int)≤(a:Int):=by omega
 have a1:(a:Int)≤(s.size:Int):=by omega
 have h1:(s.size:Int) - (a:Int) < (k:Int):=by omega
 go_enter Tryz.func177,Tryz.ntmps177
 go_wp2_with fail
 refine (width_any k _).mono ?_
 rintro e w' ⟨rfl,rfl⟩
 go_wp2_with fail
 refine bodyPost_ret (v:= .tuple #[.int .u64 0,.int .i64 5]) (by simp [results,Tryz.results177,go_sem]) rfl ⟨rfl,rfl⟩
set_option maxHeartbeats 4000000 in
set_option maxRecDepth 100000 in
theorem get_some (s:ByteArray) (a k:Nat) (w:World) (hk:1≤k) (hk8:k≤8) (hs:s.size≤70368744177664) (h:a+k≤s.size):
  Calls Tryz.prog 177 #[.string s,.int .i64 a,.int .i64 k] w fun e w'=>e= .returned (.tuple #[.int .u64 (getN s a k k),.int .i64 0])∧w=w':=by
 have k1:(1:Int)≤(k:Int):=by omega
 have k8:(k:Int)≤8:=by omega
 have a0:(0:Int)≤(a:Int):=by omega
 have a1:(a:Int)≤(s.size:Int):=by omega
 have h1:(k:Int)≤(s.size:Int) - (a:Int):=by omega
 have hb0:decide ((a:Int) < 0)=false:=by simp
 have hb1:decide (s.size < a)=false:=by simp;omega
 have hb2:decide ((s.size:Int) - (a:Int) < (k:Int))=false:=by simp;omega
 go_enter Tryz.func177,Tryz.ntmps177
 go_wp2_with fail
 refine (width_any k _).mono ?_
 rintro e w' ⟨rfl,rfl⟩
 go_wp2_with fail
 go_loopw [8,9] (fun nv i wr=>∃(d:Nat) (x:Int),d≤k∧i= .int .i64 ((k:Int) - 1 - (d:Int))∧nv= .int .u64 x∧0≤x∧x < 18446744073709551616∧Hid (x=getN s a k d)∧w=wr) (fun _ i _=>(intOf i+1).toNat)
 case atStart=>exact ⟨0,0,by omega,by simp,rfl,by omega,by omega,rfl,rfl⟩
 case round=>
  obtain ⟨d,x,hd,rfl,rfl,hx0,hx1,hx,rfl⟩:=hrel
  by_cases hlt:d < k
  ·obtain ⟨i,hi⟩:∃i:Nat,a+i < s.size∧(k:Int) - 1 - (d:Int)=(i:Int)∧k - 1 - d=i:=⟨k - 1 - d,by omega,by omega,rfl⟩
   obtain ⟨hi1,hi2,hi3⟩:=hi
   rw [hi2]
   have HN:Hid (getStep x s[a+i].toNat=getN s a k (d+1)):=by show _=getStep _ _;rw [hi3,←hx.out];unfold byteAt;rw [dif_pos hi1]
   have HI2:=Lib.hid hi2
   have HL1:=Lib.hid (bits_within .or .u64 (IntKind.u64.wrap (x * 256)) (IntKind.u64.wrap s[a+i].toNat))
   clear hi2 hi3
   have i0:(0:Int)≤(i:Int):=by omega
   have i1:(a:Int)+(i:Int) < (s.size:Int):=by omega
   go_wp2_with fail
   go_roundw
   case rel=>exact ⟨d+1,getStep x s[a+i].toNat,by omega,by rw [←HI2.out];congr 1;push_cast;omega,rfl,HL1.out.1,by have:=HL1.out.2;exact Int.lt_of_le_of_lt this (by decide),HN.out,trivial⟩
   case measure=>simp [intOf] <;> omega
  ·obtain rfl:d=k:=by omega
   have HX:Hid (x=getN s a d d):=hx.out
   clear hx
   have e:(d:Int) - 1 - (d:Int)= -1:=by omega
   rw [e]
   go_wp2_with fail
   refine bodyPost_ret (v:= .tuple #[.int .u64 x,.int .i64 0]) (by simp [results,Tryz.results177,go_sem]) rfl ⟨by rw [HX.out],rfl⟩
theorem wrap_u64 {n:Int} (h0:0≤n) (h1:n < 18446744073709551616):IntKind.u64.wrap n=n:=by
 show n % 18446744073709551616=n
 omega
theorem getStep_eq (x b:Int) (h0:0≤x) (h1:x < 72057594037927936) (h2:0≤b) (h3:b < 256):getStep x b=x * 256+b:=by
 unfold getStep
 rw [wrap_u64 (by omega) (by omega),wrap_u64 (by omega) (by omega),u64_or _ _ (by omega) (by omega) h2 (by omega)]
 obtain ⟨m,rfl⟩:∃m:Nat,x=(m:Int):=⟨x.toNat,by omega⟩
 obtain ⟨c,rfl⟩:∃c:Nat,b=(c:Int):=⟨b.toNat,by omega⟩
 have e1:((m:Int) * 256).toNat=m <<< 8:=by rw [Nat.shiftLeft_eq];omega
 rw [e1,Int.toNat_natCast,←Nat.shiftLeft_add_eq_or_of_lt (show c < 2 ^ 8 by omega),Nat.shiftLeft_eq,show (2:Nat) ^ 8=256 from rfl]
 omega
theorem pow256_pos (k:Nat):(0:Int) < 256 ^ k:=Int.pow_pos (by decide)
theorem getN_bytes (s:ByteArray) (a k:Nat) (n:Int) (h0:0≤n) (h1:n < 256 ^ k) (hk:k≤7) (hb:∀i,i < k→byteAt s (a+i)=n / 256 ^ i % 256):∀d,d≤k→getN s a k d=n / 256 ^ (k - d)
 |0,_=>by
  show 0=n / 256 ^ k
  rw [Int.ediv_eq_zero_of_lt h0 h1]
 |d+1,hd=>by
  have ih:=getN_bytes s a k n h0 h1 hk hb d (by omega)
  show getStep (getN s a k d) (byteAt s (a+(k - 1 - d)))=_
  rw [ih,hb _ (by omega)]
  have e:k - d=(k - 1 - d)+1:=by omega
  have e2:k - (d+1)=k - 1 - d:=by omega
  rw [e2,e,Int.pow_succ,←Int.ediv_ediv_of_nonneg (Int.le_of_lt (pow256_pos _))]
  obtain ⟨y,hy⟩:∃y,n / 256 ^ (k - 1 - d)=y:=⟨_,rfl⟩
  have hy0:0≤y:=by rw [←hy];exact Int.ediv_nonneg h0 (Int.le_of_lt (pow256_pos _))
  have hy1:y≤n:=by rw [←hy];exact Int.ediv_le_self _ h0
  have hn:n < 72057594037927936:=by
   have h7:∀k,k≤7→(256:Int) ^ k≤72057594037927936:=by decide
   have:=h7 k hk
   omega
  rw [hy,getStep_eq _ _ (by omega) (by omega) (by omega) (by omega)]
  omega
theorem byteAt_data (l:List UInt8) (r:ByteArray) (i:Nat) (h:i < l.length):byteAt ((⟨l.toArray⟩:ByteArray)++r) i=(l[i].toNat:Int):=by
 have hs:i < ((⟨l.toArray⟩:ByteArray)++r).size:=by rw [ByteArray.size_append];show i < l.toArray.size+_;simp;omega
 unfold byteAt
 rw [dif_pos hs]
 have:((⟨l.toArray⟩:ByteArray)++r)[i]=l[i]:=by
  rw [ByteArray.getElem_append_left (by show i < l.toArray.size;simpa using h)]
  show l.toArray[i]=l[i]
  simp
 rw [this]
theorem byte_mod (x:Int) (h0:0≤x) (h1:x < 256):((UInt8.ofNat x.toNat).toNat:Int)=x:=by
 rw [UInt8.toNat_ofNat']
 omega
def leN (s:ByteArray):Nat→Nat→Int
 |_,0=>0
 |a,k+1=>byteAt s a+256 * leN s (a+1) k
theorem byteAt_rng (s:ByteArray) (i:Nat):0≤byteAt s i∧byteAt s i < 256:=by
 unfold byteAt
 split
 ·have:=UInt8.toNat_lt s[i]
  omega
 ·omega
theorem leN_rng (s:ByteArray):∀(k a:Nat),0≤leN s a k∧leN s a k < 256 ^ k
 |0,a=>by show (0:Int)≤0∧(0:Int) < 256 ^ 0;omega
 |k+1,a=>by
  have ih:=leN_rng s k (a+1)
  have hb:=byteAt_rng s a
  show 0≤byteAt s a+256 * leN s (a+1) k∧byteAt s a+256 * leN s (a+1) k < 256 ^ (k+1)
  rw [Int.pow_succ]
  omega
theorem leN_digit (s:ByteArray):∀(k a i:Nat),i < k→byteAt s (a+i)=leN s a k / 256 ^ i % 256
 |0,a,i,h=>by omega
 |k+1,a,0,h=>by
  have hb:=byteAt_rng s a
  show byteAt s a=(byteAt s a+256 * leN s (a+1) k) / 256 ^ 0 % 256
  rw [Int.pow_zero,Int.ediv_one]
  omega
 |k+1,a,i+1,h=>by
  have ih:=leN_digit s k (a+1) i (by omega)
  have hb:=byteAt_rng s a
  show byteAt s (a+(i+1))=(byteAt s a+256 * leN s (a+1) k) / 256 ^ (i+1) % 256
  rw [show a+(i+1)=a+1+i by omega,ih,Int.pow_succ,Int.mul_comm (256 ^ i) 256,←Int.ediv_ediv_of_nonneg (by omega)]
  congr 2
  omega
theorem getN_le (s:ByteArray) (a k:Nat) (hk:k≤7):getN s a k k=leN s a k:=by
 have h:=leN_rng s k a
 have:=getN_bytes s a k (leN s a k) h.1 h.2 hk (fun i hi=>leN_digit s k a i hi) k (Nat.le_refl _)
 rw [this,Nat.sub_self,Int.pow_zero,Int.ediv_one]
theorem leN_of (s:ByteArray) (a k:Nat) (n:Int) (h0:0≤n) (h1:n < 256 ^ k) (hk:k≤7) (hb:∀i,i < k→byteAt s (a+i)=n / 256 ^ i % 256):leN s a k=n:=by
 rw [←getN_le s a k hk,getN_bytes s a k n h0 h1 hk hb k (Nat.le_refl _),Nat.sub_self,Int.pow_zero,Int.ediv_one]
theorem byteAt_extract (s:ByteArray) (a i:Nat) (h:a+i < s.size):byteAt (s.extract a s.size) i=byteAt s (a+i):=by
 unfold byteAt
 have h1:i < (s.extract a s.size).size:=by rw [ByteArray.size_extract];omega
 rw [dif_pos h1,dif_pos h]
 congr 2
 exact ByteArray.getElem_extract h1
theorem leN_extract (s:ByteArray) (a:Nat):∀(k o:Nat),a+o+k≤s.size→leN (s.extract a s.size) o k=leN s (a+o) k
 |0,_,_=>rfl
 |k+1,o,h=>by
  show byteAt _ o+256 * leN _ (o+1) k=byteAt s (a+o)+256 * leN s (a+o+1) k
  rw [byteAt_extract s a o (by omega),leN_extract s a k (o+1) (by omega)]
  rfl
def offW (ws:List Nat) (j:Nat):Nat:=(ws.take j).sum
def numsW (s:ByteArray) (ws:List Nat) (j:Nat):List Value:=(List.range j).map fun i=>.int .u64 (leN s (offW ws i) (ws.getD i 0))
theorem offW_succ {ws:List Nat} {j k:Nat} (h:ws[j]? =some k):offW ws (j+1)=offW ws j+k:=by
 unfold offW
 rw [List.take_add_one,h]
 simp
theorem offW_le {ws:List Nat} (h:∀k∈ws,k≤6):∀j,offW ws j≤6 * j
 |0=>by simp [offW]
 |j+1=>by
  have ih:=offW_le h j
  cases hk:ws[j]? with
  |none=>unfold offW at ih ⊢;rw [List.take_add_one,hk];simp;omega
  |some k=>rw [offW_succ hk];have:=h k (List.mem_of_getElem? hk);omega
theorem offW_all (ws:List Nat) (n:Nat) (h:ws.length=n):offW ws n=ws.sum:=by unfold offW;rw [←h,List.take_length]
theorem offW_mono (ws:List Nat):∀(i d:Nat),offW ws i≤offW ws (i+d)
 |i,0=>Nat.le_refl _
 |i,d+1=>by
  have:=offW_mono ws i d
  unfold offW at this ⊢
  rw [←Nat.add_assoc,List.take_add_one,List.sum_append]
  omega
theorem numsW_succ {s:ByteArray} {ws:List Nat} {j k:Nat} (h:ws[j]? =some k):numsW s ws (j+1)=numsW s ws j++[.int .u64 (leN s (offW ws j) k)]:=by
 unfold numsW
 rw [List.range_succ,List.map_append]
 simp [List.getD,h]
theorem u64Info:(Tryz.prog.info? 98).map (fun i=>(i.zero,i.size,i.bytes))=some (some (.int .u64 0),1,8):=by kernel_rfl
def TakeRet (s:ByteArray) (ws:List Nat) (w:World) (x:Ending) (w':World):Prop:=
 (ws.sum≤s.size∧∃A c,x= .returned (.tuple #[.slice A ws.length c,.string (s.extract ws.sum s.size),.int .i64 0])∧w'.ownsRow w.heap.size 98 1 (.slice A ws.length c) ws.length (numsW s ws ws.length)∧Below w.heap.size w w')∨
 (s.size < ws.sum∧x= .returned (.tuple #[.slice none 0 0,.string ⟨#[]⟩,.int .i64 5])∧Below w.heap.size w w')
set_option maxHeartbeats 4000000 in
set_option maxRecDepth 100000 in
theorem takeW_any (s:ByteArray) (ws:List Nat) (gw cw:Nat) (w:World) (hw:WidAt w gw (ws.map fun k=>(k,0))) (h1:∀k∈ws,1≤k) (h4:∀k∈ws,k≤6) (h8:ws.length≤8) (hs:s.size≤70368744177664):
  Calls Tryz.prog 104 #[.string s,.slice (some ⟨gw,0,none⟩) ws.length cw] w (TakeRet s ws w):=by
 have hfit:FitL (ws.map fun k=>(k,(0:Int))):=by
  refine ⟨fun p hp=>?_,fun p hp=>?_,fun p hp=>?_,fun p hp=>?_,by rw [List.length_map];exact h8⟩
  all_goals (obtain ⟨k,hk,rfl⟩:=List.mem_map.1 hp)
  ·exact h1 k hk
  ·exact h4 k hk
  ·exact Int.le_refl _
  ·exact Int.pow_pos (by decide)
 have HCO:=Lib.hid (containsW gw cw _ w hw hfit ws.length (by rw [List.length_map]))
 have HW:Hid (∀(j k:Nat),ws[j]? =some k→w.cell? ⟨gw,j,none⟩=some (.int .i64 k)):=fun j k hk=>hw j (k,0) (by rw [List.getElem?_map,hk];rfl)
 have HK:=Lib.hid (fun (j k:Nat) (h:ws[j]? =some k)=>(show 1≤k∧k≤6 from ⟨h1 k (List.mem_of_getElem? h),h4 k (List.mem_of_getElem? h)⟩))
 have HLE:=Lib.hid (offW_le h4)
 have HALL:=Lib.hid (offW_all ws ws.length rfl)
 have HMO:Hid (∀j,j≤ws.length→offW ws j≤ws.sum):=fun j hj=>by
  rw [←offW_all ws ws.length rfl]
  have:=offW_mono ws j (ws.length - j)
  rw [show j+(ws.length - j)=ws.length by omega] at this
  exact this
 have HRET:Hid (∀x w',TakeRet s ws w x w'↔((ws.sum≤s.size∧∃A c,x= .returned (.tuple #[.slice A ws.length c,.string (s.extract ws.sum s.size),.int .i64 0])∧w'.ownsRow w.heap.size 98 1 (.slice A ws.length c) ws.length (numsW s ws ws.length)∧Below w.heap.size w w')∨
 (s.size < ws.sum∧x= .returned (.tuple #[.slice none 0 0,.string ⟨#[]⟩,.int .i64 5])∧Below w.heap.size w w'))):=fun x w'=>Iff.rfl
 obtain ⟨n,hn⟩:∃n,ws.length=n:=⟨_,rfl⟩
 have HN:=Lib.hid hn
 rw [hn] at HCO h8 HALL HMO HRET ⊢
 have h8i:(n:Int)≤8:=by omega
 obtain ⟨i0,hi0,hz0,hz1,hz2⟩:=info_parts u64Info
 have HI0:=Lib.hid hi0
 have HZ0:=Lib.hid hz0
 have HZ1:=Lib.hid hz1
 have HZ2:=Lib.hid hz2
 have HS:=Lib.hid hs
 have hsi:(s.size:Int)≤70368744177664:=by omega
 clear hw h1 h4 hfit hn hi0 hz0 hz1 hz2 hs
 go_enter Tryz.func104,Tryz.ntmps104
 go_wp2_with fail
 with_reducible refine HCO.out.mono ?_
 rintro e w2 ⟨rfl,rfl⟩
 go_wp2_with fail
 go_loopw [4,7,9,10,11,16] (fun nv av s9 s10 s11 i wr=>∃(j:Nat) (A:Option Addr) (c o:Nat),j≤n∧nv= .slice A j c∧av= .int .i64 o∧Hid (o=offW ws j)∧o≤s.size∧i= .int .i64 j∧Hid (wr.ownsRow w.heap.size 98 1 (.slice A j c) j (numsW s ws j))∧Hid (Below w.heap.size w wr)) (fun _ _ _ _ _ i _=>n - (intOf i).toNat)
 case atStart=>exact ⟨0,none,0,0,Nat.zero_le _,rfl,rfl,rfl,Nat.zero_le _,rfl,⟨rfl,.inl ⟨rfl,rfl⟩⟩,Below.refl _ _⟩
 case round=>
  obtain ⟨j,A,c,o,hj,rfl,rfl,HOF,hos,rfl,HOWN,HBEL⟩:=hrel
  have hosi:(o:Int)≤(s.size:Int):=by omega
  by_cases hlt:j < n
  ·have hji:(j:Int) < (n:Int):=by omega
   obtain ⟨k,hk⟩:∃k,ws[j]? =some k:=⟨_,List.getElem?_eq_getElem (by rw [HN.out];exact hlt)⟩
   have c0:=below_c HBEL.out (HW.out j k hk)
   obtain ⟨k1,k4⟩:=HK.out j k hk
   have HOS:Hid (o+k=offW ws (j+1)):=by show _=_;rw [offW_succ hk,HOF.out]
   have HNS:Hid (numsW s ws (j+1)=numsW s ws j++[.int .u64 (leN s o k)]):=by show _=_;rw [numsW_succ hk,HOF.out]
   have k4i:(k:Int)≤6:=by omega
   have k1i:(1:Int)≤(k:Int):=by omega
   clear hk
   by_cases hsk:o+k≤s.size
   ·have HG:Hid (Calls Tryz.prog 177 #[.string s,.int .i64 o,.int .i64 k] wr fun e w'=>e= .returned (.tuple #[.int .u64 (leN s o k),.int .i64 0])∧wr=w'):=by
     have:=get_some s o k wr k1 (by omega) HS.out hsk
     rw [getN_le s o k (by omega)] at this
     exact this
    obtain ⟨x,hx⟩:∃x,leN s o k=x:=⟨_,rfl⟩
    rw [hx] at HG HNS
    have hone:∀u∈[Value.int .u64 x],u.oneCell'=true:=by simp [Value.oneCell']
    have HONE:=Lib.hid hone
    have HO1:=Lib.hid (HOWN.out.alloc (.cells #[.int .u64 x] 98))
    have HSZ:Hid (w.heap.size≤(wr.alloc (.cells #[.int .u64 x] 98)).heap.size):=by show _≤_;have:=HBEL.out.size;simp only [World.size_alloc];omega
    have hoki:(o:Int)+(k:Int)≤(s.size:Int):=by omega
    clear hone hx
    go_wp2_with fail
    refine HG.out.mono ?_
    rintro e w2 ⟨rfl,rfl⟩
    go_wp2_with (at_builtin;go_must (refine wpList_append_own _ rfl (.tmp 30) (.tmp 32) 99 rfl w.heap.size 98 i0 _ 1 8 Tryz.underlying99 HI0.out HZ0.out HZ1.out HZ2.out rfl (by omega) (.slice A j c) j (numsW s ws j) rfl HO1.out ⟨wr.heap.size,0,none⟩ 1 1 [.int .u64 x] rfl rfl (cell_one_new' _ _ _) HONE.out (by simp only [maxLen];omega) (by omega) HSZ.out ?_;intro v2 w2 hown2 hg2 _;have HO2:=Lib.hid hown2;have HB2:=Lib.hid (below_append HOWN.out hg2 HBEL.out.size);obtain ⟨A2,c2,e2⟩:=own_slice hown2;subst e2;clear hown2 hg2))
    go_roundw
    case rel=>exact ⟨j+1,A2,c2,o+k,by omega,rfl,by show _=Value.int .i64 _;push_cast;go_num,HOS.out,by omega,by go_num,by rw [HNS.out];with_reducible exact HO2,HBEL.out.trans (HB2.out)⟩
    case measure=>simp [intOf];omega
   ·have HG:Hid (Calls Tryz.prog 177 #[.string s,.int .i64 o,.int .i64 k] wr fun e w'=>e= .returned (.tuple #[.int .u64 0,.int .i64 5])∧wr=w'):=get_short s o k wr k1 (by omega) hos HS.out (by omega)
    have HEND:Hid (TakeRet s ws w (.returned (.tuple #[.slice none 0 0,.string ⟨#[]⟩,.int .i64 5])) wr):=by
     refine (HRET.out _ _).2 (.inr ⟨?_,rfl,HBEL.out⟩)
     have:=HMO.out (j+1) (by omega)
     have:=HOS.out
     omega
    go_wp2_with fail
    refine HG.out.mono ?_
    rintro e w2 ⟨rfl,rfl⟩
    go_wp2_with fail
    refine bodyPost_ret (v:= .tuple #[.slice none 0 0,.string ⟨#[]⟩,.int .i64 5]) (by simp [results,Tryz.results104,go_sem]) rfl HEND.out
  ·obtain rfl:j=n:=by omega
   have HEND:Hid (∀m,TakeRet s ws w (.returned (.tuple #[.slice A j c,.string (s.extract o s.size),.int .i64 0])) (wr.drewN m)):=by
    intro m
    have h1:=HALL.out
    have h2:=HOF.out
    refine (HRET.out _ _).2 (.inl ⟨by omega,A,c,by rw [show o=ws.sum by omega],?_,below_drewN HBEL.out m⟩)
    exact own_keep HOWN.out (Keep.drewN (Keep.refl (fun _=>False) _) m) (fun _ _ h=>h)
   go_wp2_with fail
   go_quiet (fail)
   go_wp2_with fail
   refine bodyPost_ret (v:= .tuple #[.slice A j c,.string (s.extract o s.size),.int .i64 0]) (by simp [results,Tryz.results104,go_sem]) rfl (HEND.out _)
end Go.Proofs.YtfialjmemcobjaaGreatDoor.er
namespace Go.Proofs.YtfialjmemcobjaaGreatDoor.fd
open Go.RowKit Go.Proofs.YtfialjmemcobjaaGreatDoor.er
set_option linter.unusedVariables false
def WidthsAt (w:World) (g:Nat):Prop:=Whole w g 3 #[.int .i64 1,.int .i64 2,.int .i64 4,.int .i64 6,.int .i64 1]
def widN:Nat→Nat|0=>1|1=>2|2=>4|3=>6|_=>1
def rowL (n:Nat→Int):Nat→List UInt8
 |0=>[]
 |k+1=>rowL n k++(bytesOf (widN k) (n k)).map fun x=>UInt8.ofNat x.toNat
def numL (n:Nat→Int):List (Nat×Int):=[(1,n 0),(2,n 1),(4,n 2),(6,n 3),(1,n 4)]
theorem WidthsAt.wid {w:World} {g:Nat} (h:WidthsAt w g) (l:List (Nat×Int)) (hl:l.map (·.1)=[1,2,4,6,1]):WidAt w g l:=fun j p hp=>by
 rw [Whole.cell h j]
 have:(l.map (·.1))[j]? =some p.1:=by rw [List.getElem?_map,hp];rfl
 rw [hl] at this
 match j with
 |0=>simp at this;simp [←this]
 |1=>simp at this;simp [←this]
 |2=>simp at this;simp [←this]
 |3=>simp at this;simp [←this]
 |4=>simp at this;simp [←this]
 |j+5=>simp at this
theorem row_any (gn gw:Nat) (n:Nat→Int) (w:World) (hw:WidthsAt w gw) (hn:∀j,j < 5→w.cell? ⟨gn,j,none⟩=some (.int .u64 (n j))) (h0:∀j,j < 5→0≤n j) (h1:∀j,j < 5→n j < 256 ^ widN j):
  Calls Tryz.prog 54 #[.slice (some ⟨gn,0,none⟩) 5 5,.slice (some ⟨gw,0,none⟩) 5 5] w fun e w'=>e= .returned (.tuple #[.string ⟨(rowL n 5).toArray⟩,.int .i64 0])∧Below w.heap.size w w':=by
 have e:rowB (numL n)=rowL n 5:=by simp [rowB,numL,rowL,widN]
 rw [←e]
 refine rowW (numL n) gn 5 gw 5 w (hw.wid _ rfl) (fun j p hp=>?_) ⟨?_,?_,?_,?_,by simp [numL]⟩ 5 rfl
 ·match j with
  |0=>simp [numL] at hp;rw [←hp];exact hn 0 (by omega)
  |1=>simp [numL] at hp;rw [←hp];exact hn 1 (by omega)
  |2=>simp [numL] at hp;rw [←hp];exact hn 2 (by omega)
  |3=>simp [numL] at hp;rw [←hp];exact hn 3 (by omega)
  |4=>simp [numL] at hp;rw [←hp];exact hn 4 (by omega)
  |j+5=>simp [numL] at hp
 all_goals
  intro p hp
  simp only [numL,List.mem_cons,List.not_mem_nil,or_false] at hp
  rcases hp with rfl|rfl|rfl|rfl|rfl
 iterate 10 (· simp)
 ·exact h0 0 (by omega)
 ·exact h0 1 (by omega)
 ·exact h0 2 (by omega)
 ·exact h0 3 (by omega)
 ·exact h0 4 (by omega)
 ·exact h1 0 (by omega)
 ·exact h1 1 (by omega)
 ·exact h1 2 (by omega)
 ·exact h1 3 (by omega)
 ·exact h1 4 (by omega)
def offN:Nat→Nat
 |0=>0
 |k+1=>offN k+widN k
def tookL (s:ByteArray):Nat→List Value
 |0=>[]
 |k+1=>tookL s k++[.int .u64 (getN s (offN k) (widN k) (widN k))]
theorem take_any (s:ByteArray) (gw:Nat) (w:World) (hw:WidthsAt w gw) (h14:14≤s.size) (hs:s.size≤70368744177664):
  Calls Tryz.prog 104 #[.string s,.slice (some ⟨gw,0,none⟩) 5 5] w fun e w'=>∃A cap,e= .returned (.tuple #[.slice A 5 cap,.string (s.extract 14 s.size),.int .i64 0])∧w'.ownsRow w.heap.size 98 1 (.slice A 5 cap) 5 (tookL s 5)∧Below w.heap.size w w':=by
 refine (takeW_any s [1,2,4,6,1] gw 5 w (hw.wid _ rfl) (by decide) (by decide) (by decide) hs).mono ?_
 rintro e w' (⟨_,A,c,rfl,h2,h3⟩|⟨h1,_⟩)
 ·refine ⟨A,c,rfl,?_,h3⟩
  have e:tookL s 5=numsW s [1,2,4,6,1] 5:=by
   simp only [tookL,numsW,List.range_succ,List.range_zero,List.nil_append,List.map_cons,List.map_append,List.map_nil,List.cons_append,offN,widN,offW]
   rw [getN_le _ _ 1 (by omega),getN_le _ _ 2 (by omega),getN_le _ _ 4 (by omega),getN_le _ _ 6 (by omega),getN_le _ _ 1 (by omega)]
   rfl
  rw [e]
  exact h2
 ·exact absurd h1 (by simp;omega)
end Go.Proofs.YtfialjmemcobjaaGreatDoor.fd
namespace Go.Proofs.YtfialjmemcobjaaGreatDoor.rt
open Go.RowKit Go.Proofs.YtfialjmemcobjaaGreatDoor.er
set_option linter.unusedVariables false
set_option linter.unusedSimpArgs false
structure Space where
 id:Int
 size:Int
 top:Int
 high:Int
def spB (s:Space):Bool:=decide (1≤s.id) && decide (s.id≤65535) && decide (0≤s.size) && decide (s.size≤16777216) && decide (0≤s.high) && decide (s.high≤6) && (if s.high=0 then decide (s.top= -1) else decide (0≤s.top) && decide (s.top≤2047))
def upB:List Space→Bool
 |a::b::r=>decide (a.id < b.id) && upB (b::r)
 |_=>true
def mayR (g:Int) (l:List Space):Bool:=decide (0≤g) && decide (g≤1099511627775) && decide (l.length≤8) && l.all spB && upB l
def topP (s:Space):Int:=if s.top < 0 then 0 else s.top
def spNums (s:Space):List (Nat×Int):=[(2,s.id),(4,s.size),(2,topP s),(1,s.high)]
def headNums (g:Int) (k:Int):List (Nat×Int):=[(5,g),(1,k)]
def rootB (g:Int) (l:List Space):ByteArray:=⟨(rowB (headNums g l.length++l.flatMap spNums)).toArray⟩
def spOf (s:ByteArray) (a:Nat):Space:=⟨leN s a 2,leN s (a+2) 4,if leN s (a+8) 1=0 then -1 else leN s (a+6) 2,leN s (a+8) 1⟩
def spsOf (s:ByteArray) (k:Nat):List Space:=(List.range k).map fun i=>spOf s (6+9 * i)
def decR (s:ByteArray):Option (Int×List Space):=
 if s.size < 6 then none else
 if 8 < leN s 5 1 then none else
 if s.size < 6+9 * (leN s 5 1).toNat then none else
 if mayR (leN s 0 5) (spsOf s (leN s 5 1).toNat) && (rootB (leN s 0 5) (spsOf s (leN s 5 1).toNat)).toList == s.toList then some (leN s 0 5,spsOf s (leN s 5 1).toNat) else none
theorem rowB_len:∀L:List (Nat×Int),(rowB L).length=(L.map (·.1)).sum
 |[]=>rfl
 |p::L=>by
  have:=rowB_len L
  have e:rowB (p::L)=((bytesOf p.1 p.2).map fun x=>UInt8.ofNat x.toNat)++rowB L:=by simp [rowB]
  rw [e,List.length_append,this]
  simp [bytesOf_length]
theorem leN_row (A B:List (Nat×Int)) (k:Nat) (n:Int) (hk:k≤7) (h0:0≤n) (h1:n < 256 ^ k):leN ⟨(rowB (A++(k,n)::B)).toArray⟩ (A.map (·.1)).sum k=n:=by
 refine leN_of _ _ k n h0 h1 hk (fun i hi=>?_)
 have e:rowB (A++(k,n)::B)=rowB A++(((bytesOf k n).map fun x=>UInt8.ofNat x.toNat)++rowB B):=by simp [rowB]
 have hl:(rowB A).length+i < (rowB (A++(k,n)::B)).length:=by
  rw [e,List.length_append,List.length_append,List.length_map,bytesOf_length];omega
 have hb:=byteAt_data (rowB (A++(k,n)::B)) ⟨#[]⟩ ((rowB A).length+i) hl
 have he:(⟨(rowB (A++(k,n)::B)).toArray⟩:ByteArray)++⟨#[]⟩=⟨(rowB (A++(k,n)::B)).toArray⟩:=by
  apply ByteArray.ext;simp
 rw [he] at hb
 rw [←rowB_len,hb]
 have hg:(rowB (A++(k,n)::B))[(rowB A).length+i]? =some (UInt8.ofNat (n / 256 ^ i % 256).toNat):=by
  rw [e,List.getElem?_append_right (by omega),Nat.add_sub_cancel_left,List.getElem?_append_left (by simp [bytesOf_length];exact hi),List.getElem?_map]
  simp [bytesOf,hi]
 have hg2:=(List.getElem?_eq_some_iff.1 hg).2
 rw [hg2]
 exact byte_mod _ (Int.emod_nonneg _ (by decide)) (Int.emod_lt_of_pos _ (by decide))
theorem spB_yes {s:Space} (h:spB s=true):1≤s.id∧s.id≤65535∧0≤s.size∧s.size≤16777216∧0≤s.high∧s.high≤6∧(s.high=0→s.top= -1)∧(s.high≠0→0≤s.top∧s.top≤2047):=by
 simp only [spB,Bool.and_eq_true,decide_eq_true_eq] at h
 obtain ⟨⟨⟨⟨⟨⟨h1,h2⟩,h3⟩,h4⟩,h5⟩,h6⟩,h7⟩:=h
 refine ⟨h1,h2,h3,h4,h5,h6,fun e=>?_,fun e=>?_⟩
 ·rw [if_pos e] at h7;simpa using h7
 ·rw [if_neg e] at h7;simpa using h7
theorem mayR_yes {g:Int} {l:List Space} (h:mayR g l=true):0≤g∧g≤1099511627775∧l.length≤8∧(∀s∈l,spB s=true)∧upB l=true:=by
 simp only [mayR,Bool.and_eq_true,decide_eq_true_eq,List.all_eq_true] at h
 obtain ⟨⟨⟨⟨h1,h2⟩,h3⟩,h4⟩,h5⟩:=h
 exact ⟨h1,h2,h3,h4,h5⟩
theorem topP_rng {s:Space} (h:spB s=true):0≤topP s∧topP s≤2047:=by
 have:=spB_yes h
 unfold topP
 by_cases e:s.high=0
 ·have:=this.2.2.2.2.2.2.1 e;split <;> omega
 ·have:=this.2.2.2.2.2.2.2 e;split <;> omega
theorem sp_sum (l:List Space):((l.flatMap spNums).map (·.1)).sum=9 * l.length:=by
 induction l with
 |nil=>rfl
 |cons s r ih=>
  rw [List.flatMap_cons,List.map_append,List.sum_append,ih]
  simp [spNums]
  omega
theorem root_size (g:Int) (l:List Space):(rootB g l).size=6+9 * l.length:=by
 show (rowB _).toArray.size=_
 rw [List.size_toArray,rowB_len,List.map_append,List.sum_append,sp_sum]
 rfl
theorem root_gen {g:Int} {l:List Space} (h0:0≤g) (h1:g≤1099511627775):leN (rootB g l) 0 5=g:=
 leN_row [] ((1,(l.length:Int))::l.flatMap spNums) 5 g (by omega) h0 (by omega)
theorem root_cnt {g:Int} {l:List Space} (h:l.length≤8):leN (rootB g l) 5 1=(l.length:Int):=
 leN_row [(5,g)] (l.flatMap spNums) 1 l.length (by omega) (by omega) (by omega)
theorem root_sp {g:Int} (A B:List Space) (s:Space) (h:spB s=true):spOf (rootB g (A++s::B)) (6+9 * A.length)=s:=by
 have hs:=spB_yes h
 have ht:=topP_rng h
 have e:headNums g ((A++s::B).length:Nat)++(A++s::B).flatMap spNums=(headNums g ((A++s::B).length:Nat)++A.flatMap spNums)++((2,s.id)::(4,s.size)::(2,topP s)::(1,s.high)::B.flatMap spNums):=by simp [spNums]
 have hA:((headNums g ((A++s::B).length:Nat)++A.flatMap spNums).map (·.1)).sum=6+9 * A.length:=by
  rw [List.map_append,List.sum_append,sp_sum];rfl
 obtain ⟨H,hH⟩:∃H,headNums g ((A++s::B).length:Nat)++A.flatMap spNums=H:=⟨_,rfl⟩
 rw [hH] at hA e
 have hr:rootB g (A++s::B)=⟨(rowB (H++((2,s.id)::(4,s.size)::(2,topP s)::(1,s.high)::B.flatMap spNums))).toArray⟩:=by unfold rootB;rw [e]
 have q1:=leN_row H ((4,s.size)::(2,topP s)::(1,s.high)::B.flatMap spNums) 2 s.id (by omega) (by omega) (by omega)
 have q2:=leN_row (H++[(2,s.id)]) ((2,topP s)::(1,s.high)::B.flatMap spNums) 4 s.size (by omega) (by omega) (by omega)
 have q3:=leN_row (H++[(2,s.id),(4,s.size)]) ((1,s.high)::B.flatMap spNums) 2 (topP s) (by omega) (by omega) (by omega)
 have q4:=leN_row (H++[(2,s.id),(4,s.size),(2,topP s)]) (B.flatMap spNums) 1 s.high (by omega) (by omega) (by omega)
 simp only [List.append_assoc,List.cons_append,List.nil_append,List.map_append,List.sum_append,List.map_cons,List.map_nil,List.sum_cons,List.sum_nil,hA] at q1 q2 q3 q4
 rw [←hr] at q1 q2 q3 q4
 unfold spOf
 rw [q1,show 6+9 * A.length+2=6+9 * A.length+(2+0) from rfl,q2,show 6+9 * A.length+8=6+9 * A.length+(2+(4+(2+0))) from rfl,q4,show 6+9 * A.length+6=6+9 * A.length+(2+(4+0)) from rfl,q3]
 obtain ⟨a,b,c,d⟩:=s
 simp only at hs ht ⊢
 congr 1
 by_cases ed:d=0
 ·rw [if_pos ed,hs.2.2.2.2.2.2.1 ed]
 ·rw [if_neg ed]
  have:=hs.2.2.2.2.2.2.2 ed
  unfold topP
  simp only
  rw [if_neg (by omega)]
theorem root_sps {g:Int} {l:List Space} (h:∀s∈l,spB s=true):spsOf (rootB g l) l.length=l:=by
 unfold spsOf
 apply List.ext_getElem?
 intro i
 by_cases hi:i < l.length
 ·rw [List.getElem?_map,List.getElem?_range hi,List.getElem?_eq_getElem hi,Option.map_some]
  have:=root_sp (g:=g) (l.take i) (l.drop (i+1)) l[i] (h _ (List.getElem_mem hi))
  rw [List.length_take,Nat.min_eq_left (by omega),List.getElem_cons_drop,List.take_append_drop] at this
  rw [this]
 ·rw [List.getElem?_eq_none (by simp;omega),List.getElem?_eq_none (by omega)]
theorem dec_root {g:Int} {l:List Space} (h:mayR g l=true):decR (rootB g l)=some (g,l):=by
 obtain ⟨h1,h2,h3,h4,h5⟩:=mayR_yes h
 unfold decR
 rw [root_gen h1 h2,root_cnt h3,Int.toNat_natCast,root_sps h4,root_size]
 rw [if_neg (by omega),if_neg (by omega),if_neg (by omega),if_pos (by simp [h])]
end Go.Proofs.YtfialjmemcobjaaGreatDoor.rt
namespace Go.Proofs.YtfialjmemcobjaaGreatDoor.rt
open Go.RowKit Go.Proofs.YtfialjmemcobjaaGreatDoor.er
set_option linter.unusedVariables false
set_option linter.unusedSimpArgs false
def inR (n a b:Int):Bool:=decide (a≤n) && decide (n≤b)
theorem in_any (n a b:Int) (w:World):
  Calls Tryz.prog 255 #[.int .i64 n,.int .i64 a,.int .i64 b] w fun e w'=>e= .returned (.bool (inR n a b))∧w=w':=by
 unfold inR
 go_enter Tryz.func255,Tryz.ntmps255
 by_cases h1:a≤n
 ·by_cases h2:n≤b
  ·go_wp2_with fail
   go_ret
   exact ⟨by simp [h1,h2],rfl⟩
  ·go_wp2_with fail
   go_ret
   exact ⟨by simp [h1,h2],rfl⟩
 ·have h1':n < a:=by omega
  go_wp2_with fail
  go_ret
  exact ⟨by simp;omega,rfl⟩
theorem head_any (w:World):
  Calls Tryz.prog 191 #[] w fun e w'=>∃g,e= .returned (.slice (some ⟨g,0,none⟩) 2 2)∧(∀l:List (Nat×Int),l.map (·.1)=[5,1]→WidAt w' g l)∧w.heap.size≤g∧Below w.heap.size w w':=by
 go_enter Tryz.func191,Tryz.ntmps191
 go_wp2_with fail
 go_ret
 refine ⟨w.heap.size,rfl,fun l hl j p hp=>?_,Nat.le_refl _,(Below.refl _ _).alloc (Nat.le_refl _) _⟩
 have:(l.map (·.1))[j]? =some p.1:=by rw [List.getElem?_map,hp];rfl
 rw [hl] at this
 rw [(Whole.new w 3 _).cell j]
 match j with
 |0=>simp at this;simp [←this]
 |1=>simp at this;simp [←this]
 |j+2=>simp at this
theorem each_any (w:World):
  Calls Tryz.prog 192 #[] w fun e w'=>∃g,e= .returned (.slice (some ⟨g,0,none⟩) 4 4)∧(∀l:List (Nat×Int),l.map (·.1)=[2,4,2,1]→WidAt w' g l)∧w.heap.size≤g∧Below w.heap.size w w':=by
 go_enter Tryz.func192,Tryz.ntmps192
 go_wp2_with fail
 go_ret
 refine ⟨w.heap.size,rfl,fun l hl j p hp=>?_,Nat.le_refl _,(Below.refl _ _).alloc (Nat.le_refl _) _⟩
 have:(l.map (·.1))[j]? =some p.1:=by rw [List.getElem?_map,hp];rfl
 rw [hl] at this
 rw [(Whole.new w 3 _).cell j]
 match j with
 |0=>simp at this;simp [←this]
 |1=>simp at this;simp [←this]
 |2=>simp at this;simp [←this]
 |3=>simp at this;simp [←this]
 |j+4=>simp at this
theorem top_any (at_ high:Int) (w:World) (h0:0≤at_) (h1:at_ < 9223372036854775808):
  Calls Tryz.prog 193 #[.int .u64 at_,.int .u64 high] w fun e w'=>e= .returned (.int .i64 (if high=0 then -1 else at_))∧w=w':=by
 have hw:IntKind.i64.wrap at_=at_:=by rw [IntKind.wrap_i64];omega
 go_enter Tryz.func193,Tryz.ntmps193
 by_cases h:high=0
 ·subst h
  go_wp2_with fail
  go_ret
  exact ⟨rfl,rfl⟩
 ·have hh:(high == 0)=false:=by simpa using h
  go_wp2_with fail
  go_ret
  exact ⟨rfl,rfl⟩
def Space.val (s:Space):Value:= .agg #[.int .i64 s.id,.int .i64 s.size,.int .i64 s.top,.int .i64 s.high]
theorem spB_in (s:Space):spB s=(inR s.id 1 65535 && inR s.size 0 16777216 && inR s.high 0 6 && (if s.high=0 then decide (s.top= -1) else inR s.top 0 2047)):=by
 unfold spB inR
 simp only [Bool.and_assoc]
set_option maxHeartbeats 4000000 in
set_option maxRecDepth 100000 in
theorem space_any (s:Space) (w:World):
  Calls Tryz.prog 256 #[s.val] w fun e w'=>e= .returned (.bool (spB s))∧Below w.heap.size w w':=by
 rw [spB_in]
 obtain ⟨i,z,t,h⟩:=s
 show Calls Tryz.prog 256 #[.agg #[.int .i64 i,.int .i64 z,.int .i64 t,.int .i64 h]] w _
 have HB:=Lib.hid ((Below.refl w.heap.size w).alloc (Nat.le_refl _) (.cells #[.int .i64 i,.int .i64 z,.int .i64 t,.int .i64 h] 206))
 obtain ⟨b1,hb1⟩:∃b,inR i 1 65535=b:=⟨_,rfl⟩
 obtain ⟨b2,hb2⟩:∃b,inR z 0 16777216=b:=⟨_,rfl⟩
 obtain ⟨b3,hb3⟩:∃b,inR h 0 6=b:=⟨_,rfl⟩
 obtain ⟨b4,hb4⟩:∃b,inR t 0 2047=b:=⟨_,rfl⟩
 have H1:=Lib.hid hb1
 have H2:=Lib.hid hb2
 have H3:=Lib.hid hb3
 have H4:=Lib.hid hb4
 simp only
 rw [hb1,hb2,hb3,hb4]
 clear hb1 hb2 hb3 hb4
 by_cases hz:h=0
 ·subst hz
  rw [if_pos rfl]
  cases b1 <;> cases b2 <;> cases b3
  all_goals
   go_enter Tryz.func256,Tryz.ntmps256
   go_wp2_with (go_at_call 255;refine (in_any _ _ _ _).mono ?_;(first|rw [H1.out]|rw [H2.out]|rw [H3.out]);rintro e w' ⟨rfl,rfl⟩)
   go_ret
   exact ⟨by simp <;> rfl,HB.out⟩
 ·rw [if_neg hz]
  have hh:(h == 0)=false:=by simpa using hz
  cases b1 <;> cases b2 <;> cases b3 <;> cases b4
  all_goals
   go_enter Tryz.func256,Tryz.ntmps256
   go_wp2_with (go_at_call 255;refine (in_any _ _ _ _).mono ?_;(first|rw [H1.out]|rw [H2.out]|rw [H3.out]|rw [H4.out]);rintro e w' ⟨rfl,rfl⟩)
   go_ret
   exact ⟨by simp <;> rfl,HB.out⟩
end Go.Proofs.YtfialjmemcobjaaGreatDoor.rt
namespace Go.Proofs.YtfialjmemcobjaaGreatDoor.rt
open Go.RowKit Go.Proofs.YtfialjmemcobjaaGreatDoor.er
set_option linter.unusedVariables false
set_option linter.unusedSimpArgs false
def spCells (l:List Space):List Value:=l.flatMap fun s=>[.int .i64 s.id,.int .i64 s.size,.int .i64 s.top,.int .i64 s.high]
theorem spCells_snoc (l:List Space) (s:Space):spCells (l++[s])=spCells l++[.int .i64 s.id,.int .i64 s.size,.int .i64 s.top,.int .i64 s.high]:=by simp [spCells]
theorem spCells_at:∀(l:List Space) (j:Nat) (s:Space),l[j]? =some s→(spCells l)[j * 4]? =some (.int .i64 s.id)∧(spCells l)[j * 4+1]? =some (.int .i64 s.size)∧(spCells l)[j * 4+2]? =some (.int .i64 s.top)∧(spCells l)[j * 4+3]? =some (.int .i64 s.high)
 |[],j,s,h=>by simp at h
 |x::r,0,s,h=>by
  obtain rfl:x=s:=by simpa using h
  exact ⟨rfl,rfl,rfl,rfl⟩
 |x::r,j+1,s,h=>by
  have ih:=spCells_at r j s (by simpa using h)
  have e:∀i,(spCells (x::r))[(j+1) * 4+i]? =(spCells r)[j * 4+i]? :=fun i=>by
   show ([_,_,_,_]++spCells r)[_]? =_
   rw [List.getElem?_append_right (by simp;omega)]
   congr 1
   simp;omega
  exact ⟨(e 0).trans ih.1,(e 1).trans ih.2.1,(e 2).trans ih.2.2.1,(e 3).trans ih.2.2.2⟩
theorem upB_iff:∀l:List Space,upB l=true↔∀(i:Nat) a b,l[i]? =some a→l[i+1]? =some b→a.id < b.id
 |[]=>by simp [upB]
 |[a]=>by simp [upB]
 |a::b::r=>by
  have ih:=upB_iff (b::r)
  unfold upB
  rw [Bool.and_eq_true,ih,decide_eq_true_eq]
  constructor
  ·rintro ⟨h1,h2⟩ i x y hx hy
   cases i with
   |zero=>simp at hx hy;rw [←hx,←hy];exact h1
   |succ i=>exact h2 i x y (by simpa using hx) (by simpa using hy)
  ·intro h
   exact ⟨h 0 a b rfl rfl,fun i x y hx hy=>h (i+1) x y (by simpa using hx) (by simpa using hy)⟩
def SpJ (l:List Space) (j:Nat):Prop:=∀s,l[j]? =some s→spB s=true∧∀a i,i+1=j→l[i]? =some a→a.id < s.id
theorem mayR_iff {g:Int} {l:List Space}:mayR g l=true↔(inR g 0 1099511627775=true∧l.length≤8)∧∀j,j < l.length→SpJ l j:=by
 have hu:=upB_iff l
 unfold mayR inR SpJ
 simp only [Bool.and_eq_true,decide_eq_true_eq,List.all_eq_true,hu]
 constructor
 ·rintro ⟨⟨⟨⟨h1,h2⟩,h3⟩,h4⟩,h5⟩
  exact ⟨⟨⟨h1,h2⟩,h3⟩,fun j _ s hs=>⟨h4 s (List.mem_of_getElem? hs),fun a i hi ha=>h5 i a s ha (by rw [hi];exact hs)⟩⟩
 ·rintro ⟨⟨⟨h1,h2⟩,h3⟩,h4⟩
  refine ⟨⟨⟨⟨h1,h2⟩,h3⟩,fun s hs=>?_⟩,fun i a b ha hb=>?_⟩
  ·obtain ⟨j,hj,rfl⟩:=List.mem_iff_getElem.1 hs
   exact (h4 j hj _ (List.getElem?_eq_getElem hj)).1
  ·exact (h4 (i+1) (List.getElem?_eq_some_iff.1 hb).1 b hb).2 a i rfl ha
set_option maxHeartbeats 8000000 in
set_option maxRecDepth 100000 in
theorem may_any (g:Int) (l:List Space) (v:Value) (w:World) (h:w.ownsRow 0 206 4 v l.length (spCells l)) (hl:l.length≤1000000):
  Calls Tryz.prog 206 #[.int .i64 g,v] w fun e w'=>e= .returned (.bool (mayR g l))∧Below w.heap.size w w':=by
 obtain ⟨A,c,rfl⟩:=own_slice h
 have HM:=Lib.hid (mayR_iff (g:=g) (l:=l))
 obtain ⟨m,hm⟩:∃m,mayR g l=m:=⟨_,rfl⟩
 rw [hm] at HM ⊢
 obtain ⟨b1,hb1⟩:∃b,inR g 0 1099511627775=b:=⟨_,rfl⟩
 have HI:=Lib.hid (fun wq=>in_any g 0 1099511627775 wq)
 rw [hb1] at HI HM
 obtain ⟨n,hn⟩:∃n,l.length=n:=⟨_,rfl⟩
 rw [hn] at HM hl h ⊢
 have HN:=Lib.hid hn
 have H:=Lib.hid h
 have hli:(n:Int)≤1000000:=by omega
 clear hm hb1 hn h
 cases b1 with
 |false=>
  have hmf:m=false:=by cases m;rfl;have:=(HM.out.1 rfl).1.1;cases this
  subst hmf
  go_enter Tryz.func206,Tryz.ntmps206
  go_wp2_with fail
  with_reducible refine (HI.out _).mono ?_
  rintro e w1 ⟨rfl,rfl⟩
  go_wp2_with fail
  go_ret
  exact ⟨rfl,Below.refl _ _⟩
 |true=>
  by_cases h8:8 < n
  ·have hmf:m=false:=by cases m;rfl;have:=(HM.out.1 rfl).1.2;omega
   subst hmf
   have h8i:(8:Int) < (n:Int):=by omega
   go_enter Tryz.func206,Tryz.ntmps206
   go_wp2_with fail
   with_reducible refine (HI.out _).mono ?_
   rintro e w1 ⟨rfl,rfl⟩
   go_wp2_with fail
   go_ret
   exact ⟨rfl,Below.refl _ _⟩
  ·have h8i:(n:Int)≤8:=by omega
   have h8':n≤8:=by omega
   clear h8
   go_enter Tryz.func206,Tryz.ntmps206
   go_wp2_with fail
   with_reducible refine (HI.out _).mono ?_
   rintro e w1 ⟨rfl,rfl⟩
   go_wp2_with fail
   go_loopw [5,6,17] (fun _ _ i wr=>∃j:Nat,j≤n∧i= .int .i64 j∧Hid (∀k,k < j→SpJ l k)∧Hid (Below w.heap.size w wr)) (fun _ _ i _=>n - (intOf i).toNat)
   case atStart=>exact ⟨0,Nat.zero_le _,rfl,by show ∀k,k < 0→_;intro k hk;omega,Below.refl _ _⟩
   case round=>
    obtain ⟨j,hj,rfl,HJ,HB⟩:=hrel
    by_cases hlt:j < n
    ·have hji:(j:Int) < (n:Int):=by omega
     obtain ⟨gr,rfl,_,_,_,hc,_⟩:=own_cell H.out (by omega)
     obtain ⟨s,hs⟩:∃s,l[j]? =some s:=⟨_,List.getElem?_eq_getElem (by rw [HN.out];exact hlt)⟩
     obtain ⟨p0,p1,p2,p3⟩:=spCells_at l j s hs
     have c0:=below_c HB.out (hc _ _ p0)
     have c1:=below_c HB.out (hc _ _ p1)
     have c2:=below_c HB.out (hc _ _ p2)
     have c3:=below_c HB.out (hc _ _ p3)
     have HS:=Lib.hid hs
     have HCC:=Lib.hid hc
     obtain ⟨sb,hsb⟩:∃sb,spB s=sb:=⟨_,rfl⟩
     have HSA:=Lib.hid (fun wq=>space_any s wq)
     rw [hsb] at HSA
     have HSB:=Lib.hid hsb
     obtain ⟨i,z,t,h⟩:=s
     simp only [Space.val] at c0 c1 c2 c3 HSA
     clear hs p0 p1 p2 p3 hc hsb
     obtain ⟨qb,hqb⟩:∃qb,wr.heap.size=qb:=⟨_,rfl⟩
     have HQB:=Lib.hid hqb
     go_wp2_with fail
     obtain ⟨wx,hwx⟩:∃wx,wx=wr.alloc (.cells #[.int .i64 i,.int .i64 z,.int .i64 t,.int .i64 h] 206):=⟨_,rfl⟩
     have HWX:Hid (Whole wx qb 206 #[.int .i64 i,.int .i64 z,.int .i64 t,.int .i64 h]∧Below wr.heap.size wr wx∧qb < wx.heap.size):=by
      show _∧_∧_
      rw [hwx,←hqb]
      exact ⟨Whole.new _ _ _,(Below.refl _ _).alloc (Nat.le_refl _) _,by simp⟩
     have HKX:Hid (∀w',Below wx.heap.size wx w'→w'.cell? ⟨qb,0,none⟩=some (.int .i64 i)∧w'.cell? ⟨qb,1,none⟩=some (.int .i64 z)∧w'.cell? ⟨qb,2,none⟩=some (.int .i64 t)∧w'.cell? ⟨qb,3,none⟩=some (.int .i64 h)):=fun w' hb=>⟨below_c hb (HWX.out.1.cell 0),below_c hb (HWX.out.1.cell 1),below_c hb (HWX.out.1.cell 2),below_c hb (HWX.out.1.cell 3)⟩
     rw [←hwx]
     have HBX:Hid (Below w.heap.size w wx):=HB.out.trans (HWX.out.2.1.mono HB.out.size)
     obtain ⟨x0,x1,x2,x3⟩:=HKX.out wx (Below.refl _ _)
     try rw [hqb]
     clear hwx hqb
     cases sb with
     |false=>
      have hmf:m=false:=by
       cases m with
       |false=>rfl
       |true=>have:=((HM.out.1 rfl).2 j hlt _ HS.out).1;rw [HSB.out] at this;cases this
      subst hmf
      refine rg.rgB (fun w'=>w'.cell? ⟨qb,0,none⟩=some (.int .i64 i)∧w'.cell? ⟨qb,1,none⟩=some (.int .i64 z)∧w'.cell? ⟨qb,2,none⟩=some (.int .i64 t)∧w'.cell? ⟨qb,3,none⟩=some (.int .i64 h)) (by kernel_rfl) ⟨x0,x1,x2,x3⟩ (fun hHeld=>?_)
      iterate 1 (refine rg.rgT (oi:={dst:=_,op:=_,type:=_,pos:=_,after:=_,guard:=_}) ?_ rfl (by kernel_rfl) (fun _ _ _ h=>h) (by rfl) ?_ (by assumption) ?_;rotate_left;(focus (intro wz hSw;(try dsimp only at hSw);go_simp;(try with_reducible rfl)));(try simp only [Go.Act.put,List.setIfInBounds_toArray,List.set_cons_zero,List.set_cons_succ]))
      refine rg.rgC (oi:={dst:=_,op:=_,type:=_,pos:=_,after:=_,guard:=_}) rfl (by kernel_rfl) (fun K hK=>?_)
      rw [if_pos (by rfl)]
      go_simp
      with_reducible refine (HSA.out _).mono ?_
      rintro e w6 ⟨rfl,hb6⟩
      have HB6:Hid (Below wx.heap.size wx w6):=by exact Below.trans (by repeat (first|with_reducible exact Below.refl _ _|refine Below.drew ?_)) hb6
      clear hb6
      refine hK.out _ _ (HKX.out _ HB6.out) (fun hHeld=>?_)
      clear hK K
      try simp only [Go.Act.put,List.setIfInBounds_toArray,List.set_cons_zero,List.set_cons_succ]
      iterate 2 (refine rg.rgT (oi:={dst:=_,op:=_,type:=_,pos:=_,after:=_,guard:=_}) ?_ rfl (by kernel_rfl) (fun _ _ _ h=>h) (by rfl) ?_ (by assumption) ?_;rotate_left;(focus (intro wz hSw;(try dsimp only at hSw);go_simp;(try with_reducible rfl)));(try simp only [Go.Act.put,List.setIfInBounds_toArray,List.set_cons_zero,List.set_cons_succ]))
      iterate 13 (refine rg.rgS (oi:={dst:=_,op:=_,type:=_,pos:=_,after:=_,guard:=_}) rfl (by kernel_rfl) (fun _ _ _ h=>h) (by rfl) (by assumption) ?_;(try simp only [Go.Act.put,List.setIfInBounds_toArray,List.set_cons_zero,List.set_cons_succ]))
      iterate 1 (refine rg.rgT (oi:={dst:=_,op:=_,type:=_,pos:=_,after:=_,guard:=_}) ?_ rfl (by kernel_rfl) (fun _ _ _ h=>h) (by rfl) ?_ (by assumption) ?_;rotate_left;(focus (intro wz hSw;(try dsimp only at hSw);go_simp;(try with_reducible rfl)));(try simp only [Go.Act.put,List.setIfInBounds_toArray,List.set_cons_zero,List.set_cons_succ]))
      refine rg.rgD (by kernel_rfl) ?_
      go_wp2_with fail
      go_ret
      exact ⟨rfl,HBX.out.trans (HB6.out.mono HBX.out.size)⟩
     |true=>
      rcases Nat.eq_zero_or_pos j with hj0|hj0
      ·subst hj0
       have HJ1:Hid (∀k,k < 0+1→SpJ l k):=fun k hk=>by
        obtain rfl:k=0:=by omega
        intro s hs
        have:=HS.out
        rw [hs] at this
        injection this with this
        rw [this]
        exact ⟨HSB.out,fun a i hi=>by omega⟩
       refine rg.rgB (fun w'=>w'.cell? ⟨qb,0,none⟩=some (.int .i64 i)∧w'.cell? ⟨qb,1,none⟩=some (.int .i64 z)∧w'.cell? ⟨qb,2,none⟩=some (.int .i64 t)∧w'.cell? ⟨qb,3,none⟩=some (.int .i64 h)) (by kernel_rfl) ⟨x0,x1,x2,x3⟩ (fun hHeld=>?_)
       iterate 1 (refine rg.rgT (oi:={dst:=_,op:=_,type:=_,pos:=_,after:=_,guard:=_}) ?_ rfl (by kernel_rfl) (fun _ _ _ h=>h) (by rfl) ?_ (by assumption) ?_;rotate_left;(focus (intro wz hSw;(try dsimp only at hSw);go_simp;(try with_reducible rfl)));(try simp only [Go.Act.put,List.setIfInBounds_toArray,List.set_cons_zero,List.set_cons_succ]))
       refine rg.rgC (oi:={dst:=_,op:=_,type:=_,pos:=_,after:=_,guard:=_}) rfl (by kernel_rfl) (fun K hK=>?_)
       rw [if_pos (by rfl)]
       go_simp
       with_reducible refine (HSA.out _).mono ?_
       rintro e w6 ⟨rfl,hb6⟩
       have HB6:Hid (Below wx.heap.size wx w6):=by exact Below.trans (by repeat (first|with_reducible exact Below.refl _ _|refine Below.drew ?_)) hb6
       clear hb6
       refine hK.out _ _ (HKX.out _ HB6.out) (fun hHeld=>?_)
       clear hK K
       try simp only [Go.Act.put,List.setIfInBounds_toArray,List.set_cons_zero,List.set_cons_succ]
       iterate 5 (refine rg.rgT (oi:={dst:=_,op:=_,type:=_,pos:=_,after:=_,guard:=_}) ?_ rfl (by kernel_rfl) (fun _ _ _ h=>h) (by rfl) ?_ (by assumption) ?_;rotate_left;(focus (intro wz hSw;(try dsimp only at hSw);go_simp;(try with_reducible rfl)));(try simp only [Go.Act.put,List.setIfInBounds_toArray,List.set_cons_zero,List.set_cons_succ]))
       iterate 9 (refine rg.rgS (oi:={dst:=_,op:=_,type:=_,pos:=_,after:=_,guard:=_}) rfl (by kernel_rfl) (fun _ _ _ h=>h) (by rfl) (by assumption) ?_;(try simp only [Go.Act.put,List.setIfInBounds_toArray,List.set_cons_zero,List.set_cons_succ]))
       iterate 2 (refine rg.rgT (oi:={dst:=_,op:=_,type:=_,pos:=_,after:=_,guard:=_}) ?_ rfl (by kernel_rfl) (fun _ _ _ h=>h) (by rfl) ?_ (by assumption) ?_;rotate_left;(focus (intro wz hSw;(try dsimp only at hSw);go_simp;(try with_reducible rfl)));(try simp only [Go.Act.put,List.setIfInBounds_toArray,List.set_cons_zero,List.set_cons_succ]))
       refine rg.rgD (by kernel_rfl) ?_
       go_wp2_with fail
       have hmeas:n - (intOf (.int .i64 (((0:Nat):Int)+1))).toNat < n - (intOf (.int .i64 ((0:Nat):Int))).toNat:=by simp [intOf];omega
       refine ⟨⟨0+1,?_,?_,HJ1,HBX.out.trans (HB6.out.mono HBX.out.size)⟩,hmeas⟩
       ·omega
       ·go_num
      ·obtain ⟨k,hkj⟩:∃k,k+1=j:=⟨j - 1,by omega⟩
       obtain ⟨a,hxa⟩:∃a,l[k]? =some a:=⟨_,List.getElem?_eq_getElem (by rw [HN.out];omega)⟩
       have HXA:=Lib.hid hxa
       have hi1:(j:Int) - 1=(k:Int):=by omega
       have hw1:IntKind.i64.wrap ((j:Int) - 1)=(k:Int):=by rw [hi1,IntKind.wrap_i64];omega
       have hwi:IntKind.i64.wrap (k:Int)=(k:Int):=by rw [IntKind.wrap_i64];omega
       have hi2:(k:Int) < (n:Int):=by omega
       have hi0:(0:Int)≤(k:Int):=by omega
       have hj0i:(0:Int) < (j:Int):=by omega
       have HKA:Hid (∀w',Below wx.heap.size wx w'→(w'.cell? ⟨qb,0,none⟩=some (.int .i64 i)∧w'.cell? ⟨qb,1,none⟩=some (.int .i64 z)∧w'.cell? ⟨qb,2,none⟩=some (.int .i64 t)∧w'.cell? ⟨qb,3,none⟩=some (.int .i64 h))∧w'.cell? ⟨gr,k * 4,none⟩=some (.int .i64 a.id)):=fun w' hb=>⟨HKX.out w' hb,below_c (HBX.out.trans (hb.mono HBX.out.size)) (HCC.out _ _ (spCells_at l k a hxa).1)⟩
       have y0:=(HKA.out wx (Below.refl _ _)).2
       clear hxa
       obtain ⟨ai,az,at',ah⟩:=a
       simp only at y0 HKA
       obtain ⟨dg,hdg⟩:∃dg,decide (i≤ai)=dg:=⟨_,rfl⟩
       have HDG:=Lib.hid hdg
       cases dg with
       |true=>
        have hmf:m=false:=by
         cases m with
         |false=>rfl
         |true=>
          have:=((HM.out.1 rfl).2 j hlt _ HS.out).2 _ k hkj HXA.out
          have h2:=HDG.out
          simp at h2 this
          omega
        subst hmf
        go_wp2_with fail
        go_region_held3 (fun w'=>(w'.cell? ⟨qb,0,none⟩=some (.int .i64 i)∧w'.cell? ⟨qb,1,none⟩=some (.int .i64 z)∧w'.cell? ⟨qb,2,none⟩=some (.int .i64 t)∧w'.cell? ⟨qb,3,none⟩=some (.int .i64 h))∧w'.cell? ⟨gr,k * 4,none⟩=some (.int .i64 ai)) (first|exact HKA.out _ HB6.out|exact HKA.out _ (by repeat (first|with_reducible exact Below.refl _ _|with_reducible exact HB6.out|refine Below.drew ?_))) (((with_reducible refine (HSA.out _).mono ?_);rintro e w6 ⟨rfl,hb6⟩;have HB6:Hid (Below wx.heap.size wx w6):=Below.trans (by repeat (first|with_reducible exact Below.refl _ _|refine Below.drew ?_)) hb6;clear hb6))
        go_wp2_with fail
        go_ret
        exact ⟨rfl,HBX.out.trans (HB6.out.mono HBX.out.size)⟩
       |false=>
        have HJ1:Hid (∀k,k < j+1→SpJ l k):=fun q hq=>by
         by_cases hqj:q < j
         ·exact HJ.out q hqj
         ·obtain rfl:q=j:=by omega
          intro s hs
          have:=HS.out
          rw [hs] at this
          injection this with this
          rw [this]
          refine ⟨HSB.out,fun b i' hi hb=>?_⟩
          obtain rfl:i'=k:=by omega
          rw [HXA.out] at hb
          injection hb with hb
          rw [←hb]
          have h2:=HDG.out
          simp at h2
          exact h2
        go_wp2_with fail
        go_region_held3 (fun w'=>(w'.cell? ⟨qb,0,none⟩=some (.int .i64 i)∧w'.cell? ⟨qb,1,none⟩=some (.int .i64 z)∧w'.cell? ⟨qb,2,none⟩=some (.int .i64 t)∧w'.cell? ⟨qb,3,none⟩=some (.int .i64 h))∧w'.cell? ⟨gr,k * 4,none⟩=some (.int .i64 ai)) (first|exact HKA.out _ HB6.out|exact HKA.out _ (by repeat (first|with_reducible exact Below.refl _ _|with_reducible exact HB6.out|refine Below.drew ?_))) (((with_reducible refine (HSA.out _).mono ?_);rintro e w6 ⟨rfl,hb6⟩;have HB6:Hid (Below wx.heap.size wx w6):=Below.trans (by repeat (first|with_reducible exact Below.refl _ _|refine Below.drew ?_)) hb6;clear hb6))
        go_wp2_with fail
        have hmeas:n - (intOf (.int .i64 ((j:Int)+1))).toNat < n - (intOf (.int .i64 (j:Int))).toNat:=by simp [intOf];omega
        refine ⟨⟨j+1,?_,?_,HJ1,HBX.out.trans (HB6.out.mono HBX.out.size)⟩,hmeas⟩
        ·omega
        ·go_num
    ·obtain rfl:j=n:=by omega
     have hmt:m=true:=HM.out.2 ⟨⟨trivial,h8'⟩,fun k hk=>HJ.out k hk⟩
     subst hmt
     go_wp2_with fail
     go_ret
     exact ⟨rfl,HB.out⟩
end Go.Proofs.YtfialjmemcobjaaGreatDoor.rt
namespace Go.Proofs.YtfialjmemcobjaaGreatDoor.rt
open Go.RowKit Go.Proofs.YtfialjmemcobjaaGreatDoor.er
set_option linter.unusedVariables false
set_option linter.unusedSimpArgs false
theorem ba_app (a b:List UInt8):(⟨a.toArray⟩:ByteArray)++⟨b.toArray⟩=⟨(a++b).toArray⟩:=by
 apply ByteArray.ext;simp
set_option maxHeartbeats 4000000 in
theorem write_no (g:Int) (l:List Space) (v:Value) (w:World) (h:w.ownsRow 0 206 4 v l.length (spCells l)) (hl:l.length≤1000000) (hm:mayR g l=false):
  Calls Tryz.prog 144 #[.int .i64 g,v] w fun e w'=>e= .returned (.tuple #[.string ⟨#[]⟩,.int .i64 1])∧Below w.heap.size w w':=by
 have HM:=Lib.hid (may_any g l v w h hl)
 rw [hm] at HM
 obtain ⟨A,c,rfl⟩:=own_slice h
 clear h
 go_enter Tryz.func144,Tryz.ntmps144
 go_wp2_with fail
 with_reducible refine HM.out.mono ?_
 rintro e w1 ⟨rfl,hb1⟩
 go_wp2_with fail
 refine bodyPost_ret (v:= .tuple #[.string ⟨#[]⟩,.int .i64 1]) (by simp [results,Tryz.results144,go_sem]) rfl ⟨rfl,hb1⟩
theorem head_fit {g:Int} {n:Nat} (h0:0≤g) (h1:g≤1099511627775) (hn:n≤8):FitL (headNums g n):=by
 refine ⟨?_,?_,?_,?_,by simp [headNums]⟩
 all_goals
  intro p hp
  simp only [headNums,List.mem_cons,List.not_mem_nil,or_false] at hp
  rcases hp with rfl|rfl
 all_goals first|(simp;done)|(simp;omega)|omega
theorem sp_fit {s:Space} (h:spB s=true):FitL (spNums s):=by
 have h1:=spB_yes h
 have h2:=topP_rng h
 refine ⟨?_,?_,?_,?_,by simp [spNums]⟩
 all_goals
  intro p hp
  simp only [spNums,List.mem_cons,List.not_mem_nil,or_false] at hp
  rcases hp with rfl|rfl|rfl|rfl
 all_goals first|(simp;done)|(simp;omega)|omega
theorem topP_max (s:Space):max s.top 0=topP s:=by unfold topP;split <;> omega
theorem num2 {w:World} {q:Nat} {a b:Int} (h:Whole w q 98 #[.int .u64 a,.int .u64 b]) {x y:Nat}:NumAt w q [(x,a),(y,b)]:=fun j p hp=>by
 rw [h.cell j]
 match j with
 |0=>simp at hp;rw [←hp];rfl
 |1=>simp at hp;rw [←hp];rfl
 |j+2=>simp at hp
theorem num4 {w:World} {q:Nat} {a b c d:Int} (h:Whole w q 98 #[.int .u64 a,.int .u64 b,.int .u64 c,.int .u64 d]) {x y z t:Nat}:NumAt w q [(x,a),(y,b),(z,c),(t,d)]:=fun j p hp=>by
 rw [h.cell j]
 match j with
 |0=>simp at hp;rw [←hp];rfl
 |1=>simp at hp;rw [←hp];rfl
 |2=>simp at hp;rw [←hp];rfl
 |3=>simp at hp;rw [←hp];rfl
 |j+4=>simp at hp
set_option maxHeartbeats 8000000 in
set_option maxRecDepth 100000 in
theorem write_ok (g:Int) (l:List Space) (v:Value) (w:World) (h:w.ownsRow 0 206 4 v l.length (spCells l)) (hm:mayR g l=true):
  Calls Tryz.prog 144 #[.int .i64 g,v] w fun e w'=>e= .returned (.tuple #[.string (rootB g l),.int .i64 0])∧Below w.heap.size w w':=by
 obtain ⟨g0,g1,hl8,hsp,_⟩:=mayR_yes hm
 have HM:=Lib.hid (may_any g l v w h (by omega))
 rw [hm] at HM
 obtain ⟨A,c,rfl⟩:=own_slice h
 have H:=Lib.hid h
 have HSP:=Lib.hid hsp
 obtain ⟨n,hn⟩:∃n,l.length=n:=⟨_,rfl⟩
 have HFIT:=Lib.hid (head_fit (n:=n) g0 g1 (by omega))
 have HR:Hid (rootB g l=⟨(rowB (headNums g n++l.flatMap spNums)).toArray⟩):=by show _=_;unfold rootB;rw [hn]
 rw [hn] at H hl8 HM ⊢
 have HN:=Lib.hid hn
 have hli:(n:Int)≤8:=by omega
 have hwg:IntKind.u64.wrap g=g:=wrap_u64 g0 (by omega)
 have hwn:IntKind.u64.wrap (n:Int)=(n:Int):=wrap_u64 (by omega) (by omega)
 clear hm h hn hsp
 go_enter Tryz.func144,Tryz.ntmps144
 go_wp2_with fail
 with_reducible refine HM.out.mono ?_
 rintro e w1 ⟨rfl,hb1⟩
 have HB1:=Lib.hid hb1
 have HW2:=Lib.hid (Whole.new w1 98 #[.int .u64 g,.int .u64 n])
 clear hb1
 go_wp2_with fail
 with_reducible refine (head_any _).mono ?_
 rintro e w3 ⟨gh,rfl,hw3,hg3,hb3⟩
 have HRW:=Lib.hid (rowW (headNums g n) w1.heap.size 2 gh 2 w3 (hw3 _ rfl) (num2 (Whole.below HW2.out hb3 (by simp))) HFIT.out 2 rfl)
 have HB3:Hid (Below w.heap.size w w3):=HB1.out.trans (((Below.refl _ _).alloc (Nat.le_refl _) _).trans (hb3.mono (by simp)) |>.mono HB1.out.size)
 clear hw3 hg3 hb3
 go_wp2_with fail
 with_reducible refine HRW.out.mono ?_
 rintro e w4 ⟨rfl,hb4⟩
 have HB4:Hid (Below w.heap.size w w4):=HB3.out.trans (hb4.mono HB3.out.size)
 clear hb4 HRW
 go_wp2_with fail
 go_loopw [6,7,9,10,28] (fun o e _ _ i wr=>∃(j:Nat) (S:ByteArray),j≤n∧i= .int .i64 j∧e= .int .i64 0∧o= .string S∧Hid (S=⟨(rowB (headNums g n++(l.take j).flatMap spNums)).toArray⟩)∧S.size≤6+9 * j∧Hid (Below w.heap.size w wr)) (fun _ _ _ _ i _=>n - (intOf i).toNat)
 case atStart=>exact ⟨0,_,Nat.zero_le _,rfl,rfl,rfl,by show _=_;simp,by show (rowB (headNums g n)).toArray.size≤_;simp [rowB_len,headNums],HB4⟩
 case round=>
  obtain ⟨j,S,hj,rfl,rfl,rfl,HS,hsz,HB⟩:=hrel
  by_cases hlt:j < n
  ·have hji:(j:Int) < (n:Int):=by omega
   obtain ⟨gr,rfl,_,_,_,hc,_⟩:=own_cell H.out (by omega)
   obtain ⟨s,hs⟩:∃s,l[j]? =some s:=⟨_,List.getElem?_eq_getElem (by rw [HN.out];exact hlt)⟩
   obtain ⟨p0,p1,p2,p3⟩:=spCells_at l j s hs
   have c0:=below_c HB.out (hc _ _ p0)
   have c1:=below_c HB.out (hc _ _ p1)
   have c2:=below_c HB.out (hc _ _ p2)
   have c3:=below_c HB.out (hc _ _ p3)
   have hb:=HSP.out s (List.mem_of_getElem? hs)
   have HF:=Lib.hid (sp_fit hb)
   have HSN:Hid (S++⟨(rowB (spNums s)).toArray⟩=⟨(rowB (headNums g n++(l.take (j+1)).flatMap spNums)).toArray⟩):=by
    show _=_
    rw [HS.out,ba_app,List.take_add_one,hs]
    simp [rowB]
   have hrow:(⟨(rowB (spNums s)).toArray⟩:ByteArray).size=9:=by show (rowB (spNums s)).toArray.size=9;simp [rowB_len,spNums]
   obtain ⟨T,hT⟩:∃T:ByteArray,(⟨(rowB (spNums s)).toArray⟩:ByteArray)=T:=⟨_,rfl⟩
   have HT:=Lib.hid hT
   rw [hT] at HSN hrow
   have hy:=spB_yes hb
   have ht:=topP_rng hb
   obtain ⟨tp,htp⟩:∃tp,topP s=tp:=⟨_,rfl⟩
   have hmx:=topP_max s
   have HNM:Hid (spNums s=[(2,s.id),(4,s.size),(2,tp),(1,s.high)]):=by show _=_;rw [←htp];rfl
   rw [htp] at ht hmx
   rw [HNM.out] at HF
   rw [HNM.out] at HT
   obtain ⟨i,z,t,h⟩:=s
   simp only at c0 c1 c2 c3 hy hmx HF HT
   have hw0:IntKind.u64.wrap i=i:=wrap_u64 (by omega) (by omega)
   have hw1:IntKind.u64.wrap z=z:=wrap_u64 (by omega) (by omega)
   have hw2:IntKind.u64.wrap tp=tp:=wrap_u64 (by omega) (by omega)
   have hw3:IntKind.u64.wrap h=h:=wrap_u64 (by omega) (by omega)
   clear hs p0 p1 p2 p3 hc hb hT hy ht htp HNM
   obtain ⟨qb,hqb⟩:∃qb,wr.heap.size=qb:=⟨_,rfl⟩
   go_wp2_with fail
   obtain ⟨wx,hwx⟩:∃wx,wx=wr.alloc (.cells #[.int .i64 i,.int .i64 z,.int .i64 t,.int .i64 h] 206):=⟨_,rfl⟩
   have HWX:Hid (Whole wx qb 206 #[.int .i64 i,.int .i64 z,.int .i64 t,.int .i64 h]∧Below wr.heap.size wr wx∧qb < wx.heap.size):=by
    show _∧_∧_
    rw [hwx,←hqb]
    exact ⟨Whole.new _ _ _,(Below.refl _ _).alloc (Nat.le_refl _) _,by simp⟩
   have HK:Hid (∀w',Below wx.heap.size wx w'→w'.cell? ⟨qb,0,none⟩=some (.int .i64 i)∧w'.cell? ⟨qb,1,none⟩=some (.int .i64 z)∧w'.cell? ⟨qb,2,none⟩=some (.int .i64 t)∧w'.cell? ⟨qb,3,none⟩=some (.int .i64 h)):=fun w' hb=>⟨below_c hb (HWX.out.1.cell 0),below_c hb (HWX.out.1.cell 1),below_c hb (HWX.out.1.cell 2),below_c hb (HWX.out.1.cell 3)⟩
   rw [←hwx]
   try rw [hqb]
   have HBX:Hid (Below w.heap.size w wx):=HB.out.trans (HWX.out.2.1.mono HB.out.size)
   obtain ⟨x0,x1,x2,x3⟩:=HK.out wx (Below.refl _ _)
   have HN5:Hid (Whole (wx.alloc (.cells #[.int .u64 i,.int .u64 z,.int .u64 tp,.int .u64 h] 98)).drew wx.heap.size 98 #[.int .u64 i,.int .u64 z,.int .u64 tp,.int .u64 h]):=Whole.new wx 98 #[.int .u64 i,.int .u64 z,.int .u64 tp,.int .u64 h]
   have HLT:Hid (wx.heap.size < (wx.alloc (.cells #[.int .u64 i,.int .u64 z,.int .u64 tp,.int .u64 h] 98)).drew.heap.size):=by show _ < _;simp
   have HB5:=Lib.hid ((Below.refl wx.heap.size wx).alloc (Nat.le_refl _) (.cells #[.int .u64 i,.int .u64 z,.int .u64 tp,.int .u64 h] 98)).drew
   clear hwx hqb
   go_region_held3 (fun w'=>w'.cell? ⟨qb,0,none⟩=some (.int .i64 i)∧w'.cell? ⟨qb,1,none⟩=some (.int .i64 z)∧w'.cell? ⟨qb,2,none⟩=some (.int .i64 t)∧w'.cell? ⟨qb,3,none⟩=some (.int .i64 h)) (first|exact HK.out _ HB6.out|exact HK.out _ HB3.out|exact HK.out _ HB4.out|exact HK.out _ (by repeat (first|exact Below.refl _ _|refine Below.drew ?_|refine Below.alloc ?_ (by first|omega|(simp <;> omega)) _)))
    (first|(go_at_call 192;refine (each_any _).mono ?_;rintro e w4 ⟨ge,rfl,hw4,hg4,hb4⟩;have HW4:=Lib.hid hw4;have HN4:=Lib.hid (Whole.below HN5.out hb4 HLT.out);have HB4:=Lib.hid (HB5.out.trans (hb4.mono (Nat.le_of_lt HLT.out)));clear hw4 hg4 hb4)|(go_at_call 192;refine (each_any _).mono ?_;rintro e w4 ⟨ge,rfl,hw4,hg4,hb4⟩;have HW4:Hid (∀l:List (Nat×Int),l.map (·.1)=[2,4,2,1]→WidAt (w4.alloc (.cells #[.int .u64 i,.int .u64 z,.int .u64 tp,.int .u64 h] 98)) ge l):=fun l hl=>(hw4 l hl).below ((Below.refl _ _).alloc (Nat.le_refl _) _);have HN4:=Lib.hid (Whole.new w4 98 #[.int .u64 i,.int .u64 z,.int .u64 tp,.int .u64 h]);have HB3:=Lib.hid ((Below.refl wx.heap.size wx).drew.trans hb4);have HB4:=Lib.hid (HB3.out.alloc HB3.out.size (.cells #[.int .u64 i,.int .u64 z,.int .u64 tp,.int .u64 h] 98));clear hw4 hg4 hb4)|(go_at_call 54;refine (rowW [(2,i),(4,z),(2,tp),(1,h)] _ 4 ge 4 _ (HW4.out _ rfl) (num4 HN4.out) HF.out 4 rfl).mono ?_;rw [HT.out];rintro e w5 ⟨rfl,hb5⟩;have HB6:=Lib.hid (HB4.out.trans (hb5.mono HB4.out.size));clear hb5))
   all_goals
    have hs1:S.size≤100:=by omega
    have hs2:T.size≤100:=by omega
    have HZ:Hid ((S++T).size≤6+9 * (j+1)):=by show _≤_;rw [ByteArray.size_append];omega
    clear hrow hsz
    go_wp2_with fail
    have hmeas:n - (intOf (.int .i64 ((j:Int)+1))).toNat < n - (intOf (.int .i64 (j:Int))).toNat:=by simp [intOf];omega
    refine ⟨⟨j+1,S++T,?_,?_,rfl,rfl,HSN,HZ.out,HBX.out.trans (HB6.out.mono HBX.out.size)⟩,hmeas⟩
    ·omega
    ·go_num
  ·obtain rfl:j=n:=by omega
   have hfull:l.take j=l:=by rw [←HN.out];exact List.take_length
   rw [hfull,←HR.out] at HS
   obtain rfl:S=rootB g l:=HS.out
   go_wp2_with fail
   refine bodyPost_ret (v:= .tuple #[.string (rootB g l),.int .i64 0]) (by simp [results,Tryz.results144,go_sem]) rfl ⟨rfl,HB.out⟩
end Go.Proofs.YtfialjmemcobjaaGreatDoor.rt
