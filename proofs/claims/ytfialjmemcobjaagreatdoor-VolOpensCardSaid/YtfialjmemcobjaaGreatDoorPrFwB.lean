/- A part of the proof. -/
import Derived.Test.YtfialjmemcobjaaGreatDoorPrFwA
import Derived.Laws.BitsAllLaws
set_option linter.unusedVariables false
set_option linter.unusedSimpArgs false
namespace Go.Proofs.YtfialjmemcobjaaGreatDoor
namespace er
open Go.RowKit
def Qn (s:ByteArray) (i:Nat):Int:=if h:i < s.size then s[i].toNat else 0
def Uv (x b:Int):Int:=bits .or .u64 (IntKind.u64.wrap (x * 256)) (IntKind.u64.wrap b)
def Lm (s:ByteArray) (a k:Nat):Nat→Int
 |0=>0
 |d+1=>Uv (Lm s a k d) (Qn s (a+(k - 1 - d)))
set_option maxHeartbeats 4000000 in
set_option maxRecDepth 100000 in
theorem Qui (s:ByteArray) (a k:Nat) (w:World) (hk:1≤k) (hk8:k≤8) (ha:a≤s.size) (hs:s.size≤70368744177664) (h:s.size < a+k):
  Calls Tryz.prog 177 #[.string s,.int .i64 a,.int .i64 k] w fun e w'=>e= .returned (.tuple #[.int .u64 0,.int .i64 5])∧w=w':=by
 have k1:(1:Int)≤(k:Int):=by omega
 have k8:(k:Int)≤8:=by omega
 have a0:(0:Int)≤(a:Int):=by omega
 have a1:(a:Int)≤(s.size:Int):=by omega
 have h1:(s.size:Int) - (a:Int) < (k:Int):=by omega
 go_enter Tryz.func177,Tryz.ntmps177
 go_wp2_with fail
 refine (D5 k _).mono ?_
 rintro e w' ⟨rfl,rfl⟩
 go_wp2_with fail
 refine bodyPost_ret (v:= .tuple #[.int .u64 0,.int .i64 5]) (by simp [results,Tryz.results177,go_sem]) rfl ⟨rfl,rfl⟩
set_option maxHeartbeats 4000000 in
set_option maxRecDepth 100000 in
theorem Qin (s:ByteArray) (a k:Nat) (w:World) (hk:1≤k) (hk8:k≤8) (hs:s.size≤70368744177664) (h:a+k≤s.size):
  Calls Tryz.prog 177 #[.string s,.int .i64 a,.int .i64 k] w fun e w'=>e= .returned (.tuple #[.int .u64 (Lm s a k k),.int .i64 0])∧w=w':=by
 have k1:(1:Int)≤(k:Int):=by omega
 have k8:(k:Int)≤8:=by omega
 have a0:(0:Int)≤(a:Int):=by omega
 have a1:(a:Int)≤(s.size:Int):=by omega
 have h1:(k:Int)≤(s.size:Int) - (a:Int):=by omega
 have hb0:decide ((a:Int) < 0)=false:=by simp
 have hb1:decide (s.size < a)=false:=by simp;omega
 have hb2:decide ((s.size:Int) - (a:Int) < (k:Int))=false:=by simp;omega
 go_enter Tryz.func177,Tryz.ntmps177
 go_wp2_with fail
 refine (D5 k _).mono ?_
 rintro e w' ⟨rfl,rfl⟩
 go_wp2_with fail
 go_loopw [8,9] (fun nv i wr=>∃(d:Nat) (x:Int),d≤k∧i= .int .i64 ((k:Int) - 1 - (d:Int))∧nv= .int .u64 x∧0≤x∧x < 18446744073709551616∧Hid (x=Lm s a k d)∧w=wr) (fun _ i _=>(intOf i+1).toNat)
 case atStart=>exact ⟨0,0,by omega,by simp,rfl,by omega,by omega,rfl,rfl⟩
 case round=>
  obtain ⟨d,x,hd,rfl,rfl,hx0,hx1,hx,rfl⟩:=hrel
  by_cases hlt:d < k
  ·obtain ⟨i,hi⟩:∃i:Nat,a+i < s.size∧(k:Int) - 1 - (d:Int)=(i:Int)∧k - 1 - d=i:=⟨k - 1 - d,by omega,by omega,rfl⟩
   obtain ⟨hi1,hi2,hi3⟩:=hi
   rw [hi2]
   have HN:Hid (Uv x s[a+i].toNat=Lm s a k (d+1)):=by show _=Uv _ _;rw [hi3,←hx.out];unfold Qn;rw [dif_pos hi1]
   have HI2:=Ql4 hi2
   have HL1:=Ql4 (bits_within .or .u64 (IntKind.u64.wrap (x * 256)) (IntKind.u64.wrap s[a+i].toNat))
   clear hi2 hi3
   have i0:(0:Int)≤(i:Int):=by omega
   have i1:(a:Int)+(i:Int) < (s.size:Int):=by omega
   go_wp2_with fail
   go_roundw
   case rel=>exact ⟨d+1,Uv x s[a+i].toNat,by omega,by rw [←HI2.out];congr 1;push_cast;omega,rfl,HL1.out.1,by have:=HL1.out.2;exact Int.lt_of_le_of_lt this (by decide),HN.out,trivial⟩
   case measure=>simp [intOf] <;> omega
  ·obtain rfl:d=k:=by omega
   have HX:Hid (x=Lm s a d d):=hx.out
   clear hx
   have e:(d:Int) - 1 - (d:Int)= -1:=by omega
   rw [e]
   go_wp2_with fail
   refine bodyPost_ret (v:= .tuple #[.int .u64 x,.int .i64 0]) (by simp [results,Tryz.results177,go_sem]) rfl ⟨by rw [HX.out],rfl⟩
theorem wrap_u64 {n:Int} (h0:0≤n) (h1:n < 18446744073709551616):IntKind.u64.wrap n=n:=by
 show n % 18446744073709551616=n
 omega
theorem Qkq (x b:Int) (h0:0≤x) (h1:x < 72057594037927936) (h2:0≤b) (h3:b < 256):Uv x b=x * 256+b:=by
 unfold Uv
 rw [wrap_u64 (by omega) (by omega),wrap_u64 (by omega) (by omega),u64_or _ _ (by omega) (by omega) h2 (by omega)]
 obtain ⟨m,rfl⟩:∃m:Nat,x=(m:Int):=⟨x.toNat,by omega⟩
 obtain ⟨c,rfl⟩:∃c:Nat,b=(c:Int):=⟨b.toNat,by omega⟩
 have e1:((m:Int) * 256).toNat=m <<< 8:=by rw [Nat.shiftLeft_eq];omega
 rw [e1,Int.toNat_natCast,←Nat.shiftLeft_add_eq_or_of_lt (show c < 2 ^ 8 by omega),Nat.shiftLeft_eq,show (2:Nat) ^ 8=256 from rfl]
 omega
theorem Fe (k:Nat):(0:Int) < 256 ^ k:=Int.pow_pos (by decide)
theorem U0 (s:ByteArray) (a k:Nat) (n:Int) (h0:0≤n) (h1:n < 256 ^ k) (hk:k≤7) (hb:∀i,i < k→Qn s (a+i)=n / 256 ^ i % 256):∀d,d≤k→Lm s a k d=n / 256 ^ (k - d)
 |0,_=>by
  show 0=n / 256 ^ k
  rw [Int.ediv_eq_zero_of_lt h0 h1]
 |d+1,hd=>by
  have ih:=U0 s a k n h0 h1 hk hb d (by omega)
  show Uv (Lm s a k d) (Qn s (a+(k - 1 - d)))=_
  rw [ih,hb _ (by omega)]
  have e:k - d=(k - 1 - d)+1:=by omega
  have e2:k - (d+1)=k - 1 - d:=by omega
  rw [e2,e,Int.pow_succ,←Int.ediv_ediv_of_nonneg (Int.le_of_lt (Fe _))]
  obtain ⟨y,hy⟩:∃y,n / 256 ^ (k - 1 - d)=y:=⟨_,rfl⟩
  have hy0:0≤y:=by rw [←hy];exact Int.ediv_nonneg h0 (Int.le_of_lt (Fe _))
  have hy1:y≤n:=by rw [←hy];exact Int.ediv_le_self _ h0
  have hn:n < 72057594037927936:=by
   have h7:∀k,k≤7→(256:Int) ^ k≤72057594037927936:=by decide
   have:=h7 k hk
   omega
  rw [hy,Qkq _ _ (by omega) (by omega) (by omega) (by omega)]
  omega
theorem Bh (l:List UInt8) (r:ByteArray) (i:Nat) (h:i < l.length):Qn ((⟨l.toArray⟩:ByteArray)++r) i=(l[i].toNat:Int):=by
 have hs:i < ((⟨l.toArray⟩:ByteArray)++r).size:=by rw [ByteArray.size_append];show i < l.toArray.size+_;simp;omega
 unfold Qn
 rw [dif_pos hs]
 have:((⟨l.toArray⟩:ByteArray)++r)[i]=l[i]:=by
  rw [ByteArray.getElem_append_left (by show i < l.toArray.size;simpa using h)]
  show l.toArray[i]=l[i]
  simp
 rw [this]
theorem Dm (x:Int) (h0:0≤x) (h1:x < 256):((UInt8.ofNat x.toNat).toNat:Int)=x:=by
 rw [UInt8.toNat_ofNat']
 omega
def leN (s:ByteArray):Nat→Nat→Int
 |_,0=>0
 |a,k+1=>Qn s a+256 * leN s (a+1) k
theorem I8 (s:ByteArray) (i:Nat):0≤Qn s i∧Qn s i < 256:=by
 unfold Qn
 split
 ·have:=UInt8.toNat_lt s[i]
  omega
 ·omega
theorem Kl (s:ByteArray):∀(k a:Nat),0≤leN s a k∧leN s a k < 256 ^ k
 |0,a=>by show (0:Int)≤0∧(0:Int) < 256 ^ 0;omega
 |k+1,a=>by
  have ih:=Kl s k (a+1)
  have hb:=I8 s a
  show 0≤Qn s a+256 * leN s (a+1) k∧Qn s a+256 * leN s (a+1) k < 256 ^ (k+1)
  rw [Int.pow_succ]
  omega
theorem Ns (s:ByteArray):∀(k a i:Nat),i < k→Qn s (a+i)=leN s a k / 256 ^ i % 256
 |0,a,i,h=>by omega
 |k+1,a,0,h=>by
  have hb:=I8 s a
  show Qn s a=(Qn s a+256 * leN s (a+1) k) / 256 ^ 0 % 256
  rw [Int.pow_zero,Int.ediv_one]
  omega
 |k+1,a,i+1,h=>by
  have ih:=Ns s k (a+1) i (by omega)
  have hb:=I8 s a
  show Qn s (a+(i+1))=(Qn s a+256 * leN s (a+1) k) / 256 ^ (i+1) % 256
  rw [show a+(i+1)=a+1+i by omega,ih,Int.pow_succ,Int.mul_comm (256 ^ i) 256,←Int.ediv_ediv_of_nonneg (by omega)]
  congr 2
  omega
theorem Uw (s:ByteArray) (a k:Nat) (hk:k≤7):Lm s a k k=leN s a k:=by
 have h:=Kl s k a
 have:=U0 s a k (leN s a k) h.1 h.2 hk (fun i hi=>Ns s k a i hi) k (Nat.le_refl _)
 rw [this,Nat.sub_self,Int.pow_zero,Int.ediv_one]
theorem F8 (s:ByteArray) (a k:Nat) (n:Int) (h0:0≤n) (h1:n < 256 ^ k) (hk:k≤7) (hb:∀i,i < k→Qn s (a+i)=n / 256 ^ i % 256):leN s a k=n:=by
 rw [←Uw s a k hk,U0 s a k n h0 h1 hk hb k (Nat.le_refl _),Nat.sub_self,Int.pow_zero,Int.ediv_one]
theorem H9 (s:ByteArray) (a i:Nat) (h:a+i < s.size):Qn (s.extract a s.size) i=Qn s (a+i):=by
 unfold Qn
 have h1:i < (s.extract a s.size).size:=by rw [ByteArray.size_extract];omega
 rw [dif_pos h1,dif_pos h]
 congr 2
 exact ByteArray.getElem_extract h1
theorem Zb (s:ByteArray) (a:Nat):∀(k o:Nat),a+o+k≤s.size→leN (s.extract a s.size) o k=leN s (a+o) k
 |0,_,_=>rfl
 |k+1,o,h=>by
  show Qn _ o+256 * leN _ (o+1) k=Qn s (a+o)+256 * leN s (a+o+1) k
  rw [H9 s a o (by omega),Zb s a k (o+1) (by omega)]
  rfl
def Oq (ws:List Nat) (j:Nat):Nat:=(ws.take j).sum
def Yy (s:ByteArray) (ws:List Nat) (j:Nat):List Value:=(List.range j).map fun i=>.int .u64 (leN s (Oq ws i) (ws.getD i 0))
theorem Ng {ws:List Nat} {j k:Nat} (h:ws[j]? =some k):Oq ws (j+1)=Oq ws j+k:=by
 unfold Oq
 rw [List.take_add_one,h]
 simp
theorem Qja {ws:List Nat} (h:∀k∈ws,k≤6):∀j,Oq ws j≤6 * j
 |0=>by simp [Oq]
 |j+1=>by
  have ih:=Qja h j
  cases hk:ws[j]? with
  |none=>unfold Oq at ih ⊢;rw [List.take_add_one,hk];simp;omega
  |some k=>rw [Ng hk];have:=h k (List.mem_of_getElem? hk);omega
theorem Vy (ws:List Nat) (n:Nat) (h:ws.length=n):Oq ws n=ws.sum:=by unfold Oq;rw [←h,List.take_length]
theorem Ni (ws:List Nat):∀(i d:Nat),Oq ws i≤Oq ws (i+d)
 |i,0=>Nat.le_refl _
 |i,d+1=>by
  have:=Ni ws i d
  unfold Oq at this ⊢
  rw [←Nat.add_assoc,List.take_add_one,List.sum_append]
  omega
theorem Qzp {s:ByteArray} {ws:List Nat} {j k:Nat} (h:ws[j]? =some k):Yy s ws (j+1)=Yy s ws j++[.int .u64 (leN s (Oq ws j) k)]:=by
 unfold Yy
 rw [List.range_succ,List.map_append]
 simp [List.getD,h]
theorem Qa5:(Tryz.prog.info? 98).map (fun i=>(i.zero,i.size,i.bytes))=some (some (.int .u64 0),1,8):=by kernel_rfl
def Cu (s:ByteArray) (ws:List Nat) (w:World) (x:Ending) (w':World):Prop:=
 (ws.sum≤s.size∧∃A c,x= .returned (.tuple #[.slice A ws.length c,.string (s.extract ws.sum s.size),.int .i64 0])∧w'.ownsRow w.heap.size 98 1 (.slice A ws.length c) ws.length (Yy s ws ws.length)∧Below w.heap.size w w')∨
 (s.size < ws.sum∧x= .returned (.tuple #[.slice none 0 0,.string ⟨#[]⟩,.int .i64 5])∧Below w.heap.size w w')
set_option maxHeartbeats 4000000 in
set_option maxRecDepth 100000 in
theorem Y2 (s:ByteArray) (ws:List Nat) (gw cw:Nat) (w:World) (hw:WidAt w gw (ws.map fun k=>(k,0))) (h1:∀k∈ws,1≤k) (h4:∀k∈ws,k≤6) (h8:ws.length≤8) (hs:s.size≤70368744177664):
  Calls Tryz.prog 104 #[.string s,.slice (some ⟨gw,0,none⟩) ws.length cw] w (Cu s ws w):=by
 have hfit:Qqo (ws.map fun k=>(k,(0:Int))):=by
  refine ⟨fun p hp=>?_,fun p hp=>?_,fun p hp=>?_,fun p hp=>?_,by rw [List.length_map];exact h8⟩
  all_goals (obtain ⟨k,hk,rfl⟩:=List.mem_map.1 hp)
  ·exact h1 k hk
  ·exact h4 k hk
  ·exact Int.le_refl _
  ·exact Int.pow_pos (by decide)
 have HCO:=Ql4 (Pq gw cw _ w hw hfit ws.length (by rw [List.length_map]))
 have HW:Hid (∀(j k:Nat),ws[j]? =some k→w.cell? ⟨gw,j,none⟩=some (.int .i64 k)):=fun j k hk=>hw j (k,0) (by rw [List.getElem?_map,hk];rfl)
 have HK:=Ql4 (fun (j k:Nat) (h:ws[j]? =some k)=>(show 1≤k∧k≤6 from ⟨h1 k (List.mem_of_getElem? h),h4 k (List.mem_of_getElem? h)⟩))
 have HLE:=Ql4 (Qja h4)
 have HALL:=Ql4 (Vy ws ws.length rfl)
 have HMO:Hid (∀j,j≤ws.length→Oq ws j≤ws.sum):=fun j hj=>by
  rw [←Vy ws ws.length rfl]
  have:=Ni ws j (ws.length - j)
  rw [show j+(ws.length - j)=ws.length by omega] at this
  exact this
 have HRET:Hid (∀x w',Cu s ws w x w'↔((ws.sum≤s.size∧∃A c,x= .returned (.tuple #[.slice A ws.length c,.string (s.extract ws.sum s.size),.int .i64 0])∧w'.ownsRow w.heap.size 98 1 (.slice A ws.length c) ws.length (Yy s ws ws.length)∧Below w.heap.size w w')∨
 (s.size < ws.sum∧x= .returned (.tuple #[.slice none 0 0,.string ⟨#[]⟩,.int .i64 5])∧Below w.heap.size w w'))):=fun x w'=>Iff.rfl
 obtain ⟨n,hn⟩:∃n,ws.length=n:=⟨_,rfl⟩
 have HN:=Ql4 hn
 rw [hn] at HCO h8 HALL HMO HRET ⊢
 have h8i:(n:Int)≤8:=by omega
 obtain ⟨i0,hi0,hz0,hz1,hz2⟩:=info_parts Qa5
 have HI0:=Ql4 hi0
 have HZ0:=Ql4 hz0
 have HZ1:=Ql4 hz1
 have HZ2:=Ql4 hz2
 have HS:=Ql4 hs
 have hsi:(s.size:Int)≤70368744177664:=by omega
 clear hw h1 h4 hfit hn hi0 hz0 hz1 hz2 hs
 go_enter Tryz.func104,Tryz.ntmps104
 go_wp2_with fail
 with_reducible refine HCO.out.mono ?_
 rintro e w2 ⟨rfl,rfl⟩
 go_wp2_with fail
 go_loopw [4,7,9,10,11,16] (fun nv av s9 s10 s11 i wr=>∃(j:Nat) (A:Option Addr) (c o:Nat),j≤n∧nv= .slice A j c∧av= .int .i64 o∧Hid (o=Oq ws j)∧o≤s.size∧i= .int .i64 j∧Hid (wr.ownsRow w.heap.size 98 1 (.slice A j c) j (Yy s ws j))∧Hid (Below w.heap.size w wr)) (fun _ _ _ _ _ i _=>n - (intOf i).toNat)
 case atStart=>exact ⟨0,none,0,0,Nat.zero_le _,rfl,rfl,rfl,Nat.zero_le _,rfl,⟨rfl,.inl ⟨rfl,rfl⟩⟩,Below.refl _ _⟩
 case round=>
  obtain ⟨j,A,c,o,hj,rfl,rfl,HOF,hos,rfl,HOWN,HBEL⟩:=hrel
  have hosi:(o:Int)≤(s.size:Int):=by omega
  by_cases hlt:j < n
  ·have hji:(j:Int) < (n:Int):=by omega
   obtain ⟨k,hk⟩:∃k,ws[j]? =some k:=⟨_,List.getElem?_eq_getElem (by rw [HN.out];exact hlt)⟩
   have c0:=Qq HBEL.out (HW.out j k hk)
   obtain ⟨k1,k4⟩:=HK.out j k hk
   have HOS:Hid (o+k=Oq ws (j+1)):=by show _=_;rw [Ng hk,HOF.out]
   have HNS:Hid (Yy s ws (j+1)=Yy s ws j++[.int .u64 (leN s o k)]):=by show _=_;rw [Qzp hk,HOF.out]
   have k4i:(k:Int)≤6:=by omega
   have k1i:(1:Int)≤(k:Int):=by omega
   clear hk
   by_cases hsk:o+k≤s.size
   ·have HG:Hid (Calls Tryz.prog 177 #[.string s,.int .i64 o,.int .i64 k] wr fun e w'=>e= .returned (.tuple #[.int .u64 (leN s o k),.int .i64 0])∧wr=w'):=by
     have:=Qin s o k wr k1 (by omega) HS.out hsk
     rw [Uw s o k (by omega)] at this
     exact this
    obtain ⟨x,hx⟩:∃x,leN s o k=x:=⟨_,rfl⟩
    rw [hx] at HG HNS
    have hone:∀u∈[Value.int .u64 x],u.oneCell'=true:=by simp [Value.oneCell']
    have HONE:=Ql4 hone
    have HO1:=Ql4 (HOWN.out.alloc (.cells #[.int .u64 x] 98))
    have HSZ:Hid (w.heap.size≤(wr.alloc (.cells #[.int .u64 x] 98)).heap.size):=by show _≤_;have:=HBEL.out.size;simp only [World.size_alloc];omega
    have hoki:(o:Int)+(k:Int)≤(s.size:Int):=by omega
    clear hone hx
    go_wp2_with fail
    refine HG.out.mono ?_
    rintro e w2 ⟨rfl,rfl⟩
    go_wp2_with (at_builtin;go_must (refine wpList_append_own _ rfl (.tmp 30) (.tmp 32) 99 rfl w.heap.size 98 i0 _ 1 8 Tryz.underlying99 HI0.out HZ0.out HZ1.out HZ2.out rfl (by omega) (.slice A j c) j (Yy s ws j) rfl HO1.out ⟨wr.heap.size,0,none⟩ 1 1 [.int .u64 x] rfl rfl (Zr _ _ _) HONE.out (by simp only [maxLen];omega) (by omega) HSZ.out ?_;intro v2 w2 hown2 hg2 _;have HO2:=Ql4 hown2;have HB2:=Ql4 (Q4 HOWN.out hg2 HBEL.out.size);obtain ⟨A2,c2,e2⟩:=Qk hown2;subst e2;clear hown2 hg2))
    go_roundw
    case rel=>exact ⟨j+1,A2,c2,o+k,by omega,rfl,by show _=Value.int .i64 _;push_cast;go_num,HOS.out,by omega,by go_num,by rw [HNS.out];with_reducible exact HO2,HBEL.out.trans (HB2.out)⟩
    case measure=>simp [intOf];omega
   ·have HG:Hid (Calls Tryz.prog 177 #[.string s,.int .i64 o,.int .i64 k] wr fun e w'=>e= .returned (.tuple #[.int .u64 0,.int .i64 5])∧wr=w'):=Qui s o k wr k1 (by omega) hos HS.out (by omega)
    have HEND:Hid (Cu s ws w (.returned (.tuple #[.slice none 0 0,.string ⟨#[]⟩,.int .i64 5])) wr):=by
     refine (HRET.out _ _).2 (.inr ⟨?_,rfl,HBEL.out⟩)
     have:=HMO.out (j+1) (by omega)
     have:=HOS.out
     omega
    go_wp2_with fail
    refine HG.out.mono ?_
    rintro e w2 ⟨rfl,rfl⟩
    go_wp2_with fail
    refine bodyPost_ret (v:= .tuple #[.slice none 0 0,.string ⟨#[]⟩,.int .i64 5]) (by simp [results,Tryz.results104,go_sem]) rfl HEND.out
  ·obtain rfl:j=n:=by omega
   have HEND:Hid (∀m,Cu s ws w (.returned (.tuple #[.slice A j c,.string (s.extract o s.size),.int .i64 0])) (wr.drewN m)):=by
    intro m
    have h1:=HALL.out
    have h2:=HOF.out
    refine (HRET.out _ _).2 (.inl ⟨by omega,A,c,by rw [show o=ws.sum by omega],?_,below_drewN HBEL.out m⟩)
    exact Qj HOWN.out (Keep.drewN (Keep.refl (fun _=>False) _) m) (fun _ _ h=>h)
   go_wp2_with fail
   go_quiet (fail)
   go_wp2_with fail
   refine bodyPost_ret (v:= .tuple #[.slice A j c,.string (s.extract o s.size),.int .i64 0]) (by simp [results,Tryz.results104,go_sem]) rfl (HEND.out _)
end er
namespace fd
open Go.RowKit er
def WidthsAt (w:World) (g:Nat):Prop:=Whole w g 3 #[.int .i64 1,.int .i64 2,.int .i64 4,.int .i64 6,.int .i64 1]
def Ij:Nat→Nat|0=>1|1=>2|2=>4|3=>6|_=>1
def Gg (n:Nat→Int):Nat→List UInt8
 |0=>[]
 |k+1=>Gg n k++(bytesOf (Ij k) (n k)).map fun x=>UInt8.ofNat x.toNat
def Fs (n:Nat→Int):List (Nat×Int):=[(1,n 0),(2,n 1),(4,n 2),(6,n 3),(1,n 4)]
theorem WidthsAt.wid {w:World} {g:Nat} (h:WidthsAt w g) (l:List (Nat×Int)) (hl:l.map (·.1)=[1,2,4,6,1]):WidAt w g l:=fun j p hp=>by
 rw [Whole.cell h j]
 have:(l.map (·.1))[j]? =some p.1:=by rw [List.getElem?_map,hp];rfl
 rw [hl] at this
 match j with
 |0=>simp at this;simp [←this]
 |1=>simp at this;simp [←this]
 |2=>simp at this;simp [←this]
 |3=>simp at this;simp [←this]
 |4=>simp at this;simp [←this]
 |j+5=>simp at this
theorem Qda (gn gw:Nat) (n:Nat→Int) (w:World) (hw:WidthsAt w gw) (hn:∀j,j < 5→w.cell? ⟨gn,j,none⟩=some (.int .u64 (n j))) (h0:∀j,j < 5→0≤n j) (h1:∀j,j < 5→n j < 256 ^ Ij j):
  Calls Tryz.prog 54 #[.slice (some ⟨gn,0,none⟩) 5 5,.slice (some ⟨gw,0,none⟩) 5 5] w fun e w'=>e= .returned (.tuple #[.string ⟨(Gg n 5).toArray⟩,.int .i64 0])∧Below w.heap.size w w':=by
 have e:Zh (Fs n)=Gg n 5:=by simp [Zh,Fs,Gg,Ij]
 rw [←e]
 refine Qoy (Fs n) gn 5 gw 5 w (hw.wid _ rfl) (fun j p hp=>?_) ⟨?_,?_,?_,?_,by simp [Fs]⟩ 5 rfl
 ·match j with
  |0=>simp [Fs] at hp;rw [←hp];exact hn 0 (by omega)
  |1=>simp [Fs] at hp;rw [←hp];exact hn 1 (by omega)
  |2=>simp [Fs] at hp;rw [←hp];exact hn 2 (by omega)
  |3=>simp [Fs] at hp;rw [←hp];exact hn 3 (by omega)
  |4=>simp [Fs] at hp;rw [←hp];exact hn 4 (by omega)
  |j+5=>simp [Fs] at hp
 all_goals
  intro p hp
  simp only [Fs,List.mem_cons,List.not_mem_nil,or_false] at hp
  rcases hp with rfl|rfl|rfl|rfl|rfl
 iterate 10 (· simp)
 ·exact h0 0 (by omega)
 ·exact h0 1 (by omega)
 ·exact h0 2 (by omega)
 ·exact h0 3 (by omega)
 ·exact h0 4 (by omega)
 ·exact h1 0 (by omega)
 ·exact h1 1 (by omega)
 ·exact h1 2 (by omega)
 ·exact h1 3 (by omega)
 ·exact h1 4 (by omega)
def Ea:Nat→Nat
 |0=>0
 |k+1=>Ea k+Ij k
def Qk5 (s:ByteArray):Nat→List Value
 |0=>[]
 |k+1=>Qk5 s k++[.int .u64 (Lm s (Ea k) (Ij k) (Ij k))]
theorem Qgw (s:ByteArray) (gw:Nat) (w:World) (hw:WidthsAt w gw) (h14:14≤s.size) (hs:s.size≤70368744177664):
  Calls Tryz.prog 104 #[.string s,.slice (some ⟨gw,0,none⟩) 5 5] w fun e w'=>∃A cap,e= .returned (.tuple #[.slice A 5 cap,.string (s.extract 14 s.size),.int .i64 0])∧w'.ownsRow w.heap.size 98 1 (.slice A 5 cap) 5 (Qk5 s 5)∧Below w.heap.size w w':=by
 refine (Y2 s [1,2,4,6,1] gw 5 w (hw.wid _ rfl) (by decide) (by decide) (by decide) hs).mono ?_
 rintro e w' (⟨_,A,c,rfl,h2,h3⟩|⟨h1,_⟩)
 ·refine ⟨A,c,rfl,?_,h3⟩
  have e:Qk5 s 5=Yy s [1,2,4,6,1] 5:=by
   simp only [Qk5,Yy,List.range_succ,List.range_zero,List.nil_append,List.map_cons,List.map_append,List.map_nil,List.cons_append,Ea,Ij,Oq]
   rw [Uw _ _ 1 (by omega),Uw _ _ 2 (by omega),Uw _ _ 4 (by omega),Uw _ _ 6 (by omega),Uw _ _ 1 (by omega)]
   rfl
  rw [e]
  exact h2
 ·exact absurd h1 (by simp;omega)
end fd
namespace rt
open Go.RowKit er
structure Space where
 id:Int
 size:Int
 top:Int
 high:Int
def spB (s:Space):Bool:=decide (1≤s.id) && decide (s.id≤65535) && decide (0≤s.size) && decide (s.size≤16777216) && decide (0≤s.high) && decide (s.high≤6) && (if s.high=0 then decide (s.top= -1) else decide (0≤s.top) && decide (s.top≤2047))
def upB:List Space→Bool
 |a::b::r=>decide (a.id < b.id) && upB (b::r)
 |_=>true
def Ox (g:Int) (l:List Space):Bool:=decide (0≤g) && decide (g≤1099511627775) && decide (l.length≤8) && l.all spB && upB l
def Aa (s:Space):Int:=if s.top < 0 then 0 else s.top
def Zx (s:Space):List (Nat×Int):=[(2,s.id),(4,s.size),(2,Aa s),(1,s.high)]
def Z8 (g:Int) (k:Int):List (Nat×Int):=[(5,g),(1,k)]
def Jd (g:Int) (l:List Space):ByteArray:=⟨(Zh (Z8 g l.length++l.flatMap Zx)).toArray⟩
def Qg6 (s:ByteArray) (a:Nat):Space:=⟨leN s a 2,leN s (a+2) 4,if leN s (a+8) 1=0 then -1 else leN s (a+6) 2,leN s (a+8) 1⟩
def Xc (s:ByteArray) (k:Nat):List Space:=(List.range k).map fun i=>Qg6 s (6+9 * i)
def Xa (s:ByteArray):Option (Int×List Space):=
 if s.size < 6 then none else
 if 8 < leN s 5 1 then none else
 if s.size < 6+9 * (leN s 5 1).toNat then none else
 if Ox (leN s 0 5) (Xc s (leN s 5 1).toNat) && (Jd (leN s 0 5) (Xc s (leN s 5 1).toNat)).toList == s.toList then some (leN s 0 5,Xc s (leN s 5 1).toNat) else none
theorem Gv:∀L:List (Nat×Int),(Zh L).length=(L.map (·.1)).sum
 |[]=>rfl
 |p::L=>by
  have:=Gv L
  have e:Zh (p::L)=((bytesOf p.1 p.2).map fun x=>UInt8.ofNat x.toNat)++Zh L:=by simp [Zh]
  rw [e,List.length_append,this]
  simp [bytesOf_length]
theorem O7 (A B:List (Nat×Int)) (k:Nat) (n:Int) (hk:k≤7) (h0:0≤n) (h1:n < 256 ^ k):leN ⟨(Zh (A++(k,n)::B)).toArray⟩ (A.map (·.1)).sum k=n:=by
 refine F8 _ _ k n h0 h1 hk (fun i hi=>?_)
 have e:Zh (A++(k,n)::B)=Zh A++(((bytesOf k n).map fun x=>UInt8.ofNat x.toNat)++Zh B):=by simp [Zh]
 have hl:(Zh A).length+i < (Zh (A++(k,n)::B)).length:=by
  rw [e,List.length_append,List.length_append,List.length_map,bytesOf_length];omega
 have hb:=Bh (Zh (A++(k,n)::B)) ⟨#[]⟩ ((Zh A).length+i) hl
 have he:(⟨(Zh (A++(k,n)::B)).toArray⟩:ByteArray)++⟨#[]⟩=⟨(Zh (A++(k,n)::B)).toArray⟩:=by
  apply ByteArray.ext;simp
 rw [he] at hb
 rw [←Gv,hb]
 have hg:(Zh (A++(k,n)::B))[(Zh A).length+i]? =some (UInt8.ofNat (n / 256 ^ i % 256).toNat):=by
  rw [e,List.getElem?_append_right (by omega),Nat.add_sub_cancel_left,List.getElem?_append_left (by simp [bytesOf_length];exact hi),List.getElem?_map]
  simp [bytesOf,hi]
 have hg2:=(List.getElem?_eq_some_iff.1 hg).2
 rw [hg2]
 exact Dm _ (Int.emod_nonneg _ (by decide)) (Int.emod_lt_of_pos _ (by decide))
theorem Jp {s:Space} (h:spB s=true):1≤s.id∧s.id≤65535∧0≤s.size∧s.size≤16777216∧0≤s.high∧s.high≤6∧(s.high=0→s.top= -1)∧(s.high≠0→0≤s.top∧s.top≤2047):=by
 simp only [spB,Bool.and_eq_true,decide_eq_true_eq] at h
 obtain ⟨⟨⟨⟨⟨⟨h1,h2⟩,h3⟩,h4⟩,h5⟩,h6⟩,h7⟩:=h
 refine ⟨h1,h2,h3,h4,h5,h6,fun e=>?_,fun e=>?_⟩
 ·rw [if_pos e] at h7;simpa using h7
 ·rw [if_neg e] at h7;simpa using h7
theorem Oj {g:Int} {l:List Space} (h:Ox g l=true):0≤g∧g≤1099511627775∧l.length≤8∧(∀s∈l,spB s=true)∧upB l=true:=by
 simp only [Ox,Bool.and_eq_true,decide_eq_true_eq,List.all_eq_true] at h
 obtain ⟨⟨⟨⟨h1,h2⟩,h3⟩,h4⟩,h5⟩:=h
 exact ⟨h1,h2,h3,h4,h5⟩
theorem Cr {s:Space} (h:spB s=true):0≤Aa s∧Aa s≤2047:=by
 have:=Jp h
 unfold Aa
 by_cases e:s.high=0
 ·have:=this.2.2.2.2.2.2.1 e;split <;> omega
 ·have:=this.2.2.2.2.2.2.2 e;split <;> omega
theorem Qg5 (l:List Space):((l.flatMap Zx).map (·.1)).sum=9 * l.length:=by
 induction l with
 |nil=>rfl
 |cons s r ih=>
  rw [List.flatMap_cons,List.map_append,List.sum_append,ih]
  simp [Zx]
  omega
theorem Mc (g:Int) (l:List Space):(Jd g l).size=6+9 * l.length:=by
 show (Zh _).toArray.size=_
 rw [List.size_toArray,Gv,List.map_append,List.sum_append,Qg5]
 rfl
theorem Qog {g:Int} {l:List Space} (h0:0≤g) (h1:g≤1099511627775):leN (Jd g l) 0 5=g:=
 O7 [] ((1,(l.length:Int))::l.flatMap Zx) 5 g (by omega) h0 (by omega)
theorem Qoo {g:Int} {l:List Space} (h:l.length≤8):leN (Jd g l) 5 1=(l.length:Int):=
 O7 [(5,g)] (l.flatMap Zx) 1 l.length (by omega) (by omega) (by omega)
theorem Qde {g:Int} (A B:List Space) (s:Space) (h:spB s=true):Qg6 (Jd g (A++s::B)) (6+9 * A.length)=s:=by
 have hs:=Jp h
 have ht:=Cr h
 have e:Z8 g ((A++s::B).length:Nat)++(A++s::B).flatMap Zx=(Z8 g ((A++s::B).length:Nat)++A.flatMap Zx)++((2,s.id)::(4,s.size)::(2,Aa s)::(1,s.high)::B.flatMap Zx):=by simp [Zx]
 have hA:((Z8 g ((A++s::B).length:Nat)++A.flatMap Zx).map (·.1)).sum=6+9 * A.length:=by
  rw [List.map_append,List.sum_append,Qg5];rfl
 obtain ⟨H,hH⟩:∃H,Z8 g ((A++s::B).length:Nat)++A.flatMap Zx=H:=⟨_,rfl⟩
 rw [hH] at hA e
 have hr:Jd g (A++s::B)=⟨(Zh (H++((2,s.id)::(4,s.size)::(2,Aa s)::(1,s.high)::B.flatMap Zx))).toArray⟩:=by unfold Jd;rw [e]
 have q1:=O7 H ((4,s.size)::(2,Aa s)::(1,s.high)::B.flatMap Zx) 2 s.id (by omega) (by omega) (by omega)
 have q2:=O7 (H++[(2,s.id)]) ((2,Aa s)::(1,s.high)::B.flatMap Zx) 4 s.size (by omega) (by omega) (by omega)
 have q3:=O7 (H++[(2,s.id),(4,s.size)]) ((1,s.high)::B.flatMap Zx) 2 (Aa s) (by omega) (by omega) (by omega)
 have q4:=O7 (H++[(2,s.id),(4,s.size),(2,Aa s)]) (B.flatMap Zx) 1 s.high (by omega) (by omega) (by omega)
 simp only [List.append_assoc,List.cons_append,List.nil_append,List.map_append,List.sum_append,List.map_cons,List.map_nil,List.sum_cons,List.sum_nil,hA] at q1 q2 q3 q4
 rw [←hr] at q1 q2 q3 q4
 unfold Qg6
 rw [q1,show 6+9 * A.length+2=6+9 * A.length+(2+0) from rfl,q2,show 6+9 * A.length+8=6+9 * A.length+(2+(4+(2+0))) from rfl,q4,show 6+9 * A.length+6=6+9 * A.length+(2+(4+0)) from rfl,q3]
 obtain ⟨a,b,c,d⟩:=s
 simp only at hs ht ⊢
 congr 1
 by_cases ed:d=0
 ·rw [if_pos ed,hs.2.2.2.2.2.2.1 ed]
 ·rw [if_neg ed]
  have:=hs.2.2.2.2.2.2.2 ed
  unfold Aa
  simp only
  rw [if_neg (by omega)]
theorem Qou {g:Int} {l:List Space} (h:∀s∈l,spB s=true):Xc (Jd g l) l.length=l:=by
 unfold Xc
 apply List.ext_getElem?
 intro i
 by_cases hi:i < l.length
 ·rw [List.getElem?_map,List.getElem?_range hi,List.getElem?_eq_getElem hi,Option.map_some]
  have:=Qde (g:=g) (l.take i) (l.drop (i+1)) l[i] (h _ (List.getElem_mem hi))
  rw [List.length_take,Nat.min_eq_left (by omega),List.getElem_cons_drop,List.take_append_drop] at this
  rw [this]
 ·rw [List.getElem?_eq_none (by simp;omega),List.getElem?_eq_none (by omega)]
theorem Wl {g:Int} {l:List Space} (h:Ox g l=true):Xa (Jd g l)=some (g,l):=by
 obtain ⟨h1,h2,h3,h4,h5⟩:=Oj h
 unfold Xa
 rw [Qog h1 h2,Qoo h3,Int.toNat_natCast,Qou h4,Mc]
 rw [if_neg (by omega),if_neg (by omega),if_neg (by omega),if_pos (by simp [h])]
def inR (n a b:Int):Bool:=decide (a≤n) && decide (n≤b)
theorem Yo (n a b:Int) (w:World):
  Calls Tryz.prog 255 #[.int .i64 n,.int .i64 a,.int .i64 b] w fun e w'=>e= .returned (.bool (inR n a b))∧w=w':=by
 unfold inR
 go_enter Tryz.func255,Tryz.ntmps255
 by_cases h1:a≤n
 ·by_cases h2:n≤b
  ·go_wp2_with fail
   go_ret
   exact ⟨by simp [h1,h2],rfl⟩
  ·go_wp2_with fail
   go_ret
   exact ⟨by simp [h1,h2],rfl⟩
 ·have h1':n < a:=by omega
  go_wp2_with fail
  go_ret
  exact ⟨by simp;omega,rfl⟩
theorem V8 (w:World):
  Calls Tryz.prog 191 #[] w fun e w'=>∃g,e= .returned (.slice (some ⟨g,0,none⟩) 2 2)∧(∀l:List (Nat×Int),l.map (·.1)=[5,1]→WidAt w' g l)∧w.heap.size≤g∧Below w.heap.size w w':=by
 go_enter Tryz.func191,Tryz.ntmps191
 go_wp2_with fail
 go_ret
 refine ⟨w.heap.size,rfl,fun l hl j p hp=>?_,Nat.le_refl _,(Below.refl _ _).alloc (Nat.le_refl _) _⟩
 have:(l.map (·.1))[j]? =some p.1:=by rw [List.getElem?_map,hp];rfl
 rw [hl] at this
 rw [(Whole.new w 3 _).cell j]
 match j with
 |0=>simp at this;simp [←this]
 |1=>simp at this;simp [←this]
 |j+2=>simp at this
theorem Yd (w:World):
  Calls Tryz.prog 192 #[] w fun e w'=>∃g,e= .returned (.slice (some ⟨g,0,none⟩) 4 4)∧(∀l:List (Nat×Int),l.map (·.1)=[2,4,2,1]→WidAt w' g l)∧w.heap.size≤g∧Below w.heap.size w w':=by
 go_enter Tryz.func192,Tryz.ntmps192
 go_wp2_with fail
 go_ret
 refine ⟨w.heap.size,rfl,fun l hl j p hp=>?_,Nat.le_refl _,(Below.refl _ _).alloc (Nat.le_refl _) _⟩
 have:(l.map (·.1))[j]? =some p.1:=by rw [List.getElem?_map,hp];rfl
 rw [hl] at this
 rw [(Whole.new w 3 _).cell j]
 match j with
 |0=>simp at this;simp [←this]
 |1=>simp at this;simp [←this]
 |2=>simp at this;simp [←this]
 |3=>simp at this;simp [←this]
 |j+4=>simp at this
theorem Qa8 (at_ high:Int) (w:World) (h0:0≤at_) (h1:at_ < 9223372036854775808):
  Calls Tryz.prog 193 #[.int .u64 at_,.int .u64 high] w fun e w'=>e= .returned (.int .i64 (if high=0 then -1 else at_))∧w=w':=by
 have hw:IntKind.i64.wrap at_=at_:=by rw [IntKind.wrap_i64];omega
 go_enter Tryz.func193,Tryz.ntmps193
 by_cases h:high=0
 ·subst h
  go_wp2_with fail
  go_ret
  exact ⟨rfl,rfl⟩
 ·have hh:(high == 0)=false:=by simpa using h
  go_wp2_with fail
  go_ret
  exact ⟨rfl,rfl⟩
def Space.val (s:Space):Value:= .agg #[.int .i64 s.id,.int .i64 s.size,.int .i64 s.top,.int .i64 s.high]
theorem Qb3 (s:Space):spB s=(inR s.id 1 65535 && inR s.size 0 16777216 && inR s.high 0 6 && (if s.high=0 then decide (s.top= -1) else inR s.top 0 2047)):=by
 unfold spB inR
 simp only [Bool.and_assoc]
set_option maxHeartbeats 4000000 in
set_option maxRecDepth 100000 in
theorem Qx4 (s:Space) (w:World):
  Calls Tryz.prog 256 #[s.val] w fun e w'=>e= .returned (.bool (spB s))∧Below w.heap.size w w':=by
 rw [Qb3]
 obtain ⟨i,z,t,h⟩:=s
 show Calls Tryz.prog 256 #[.agg #[.int .i64 i,.int .i64 z,.int .i64 t,.int .i64 h]] w _
 have HB:=Ql4 ((Below.refl w.heap.size w).alloc (Nat.le_refl _) (.cells #[.int .i64 i,.int .i64 z,.int .i64 t,.int .i64 h] 206))
 obtain ⟨b1,hb1⟩:∃b,inR i 1 65535=b:=⟨_,rfl⟩
 obtain ⟨b2,hb2⟩:∃b,inR z 0 16777216=b:=⟨_,rfl⟩
 obtain ⟨b3,hb3⟩:∃b,inR h 0 6=b:=⟨_,rfl⟩
 obtain ⟨b4,hb4⟩:∃b,inR t 0 2047=b:=⟨_,rfl⟩
 have H1:=Ql4 hb1
 have H2:=Ql4 hb2
 have H3:=Ql4 hb3
 have H4:=Ql4 hb4
 simp only
 rw [hb1,hb2,hb3,hb4]
 clear hb1 hb2 hb3 hb4
 by_cases hz:h=0
 ·subst hz
  rw [if_pos rfl]
  cases b1 <;> cases b2 <;> cases b3
  all_goals
   go_enter Tryz.func256,Tryz.ntmps256
   go_wp2_with (go_at_call 255;refine (Yo _ _ _ _).mono ?_;(first|rw [H1.out]|rw [H2.out]|rw [H3.out]);rintro e w' ⟨rfl,rfl⟩)
   go_ret
   exact ⟨by simp <;> rfl,HB.out⟩
 ·rw [if_neg hz]
  have hh:(h == 0)=false:=by simpa using hz
  cases b1 <;> cases b2 <;> cases b3 <;> cases b4
  all_goals
   go_enter Tryz.func256,Tryz.ntmps256
   go_wp2_with (go_at_call 255;refine (Yo _ _ _ _).mono ?_;(first|rw [H1.out]|rw [H2.out]|rw [H3.out]|rw [H4.out]);rintro e w' ⟨rfl,rfl⟩)
   go_ret
   exact ⟨by simp <;> rfl,HB.out⟩
end rt
end Go.Proofs.YtfialjmemcobjaaGreatDoor
