/- A part of the proof. -/
import Derived.Test.YtfialjmemcobjaaGreatDoorPbFlB
import Derived.Laws.BytesArg
import Derived.Laws.Closers25b
set_option maxRecDepth 100000
set_option maxHeartbeats 16000000
set_option linter.unusedVariables false
set_option linter.unusedSimpArgs false
namespace Go.Proofs.YtfialjmemcobjaaGreatDoor
namespace ck
open Go.RowKit er
def Q30(c b:Int):Int:=bits .xor .u32 c (b*16777216)
def Fh(x:Int):Int:=if(x/2147483648==1)=true then bits .xor .u32 (x*2%4294967296) 79764919 else x*2%4294967296
def Qez:Nat->Int->Int
 |0,x=>x
 |k+1,x=>Fh (Qez k x)
def Nj(c b:Int):Int:=Qez 8 (Q30 c b)
theorem Qk7(x:Int):0<=Fh x/\Fh x<4294967296:=by
 unfold Fh;split
 ·have h1:=bits_lo_u32 .xor (x*2%4294967296) 79764919;have h2:=bits_hi_u32 .xor (x*2%4294967296) 79764919;omega
 ·omega
theorem Qla(c b:Int):0<=Nj c b/\Nj c b<4294967296:=Qk7 _
theorem Qv8(c b:Int)(w:World)(g:0<=c)(h:c<4294967296)(j:0<=b)(l:b<256):
  C 241 #[.int .u32 c,.int .u8 b] w λe w'=>e= .returned (.int .u32 (Nj c b))/\w=w':=by
 go_in
 go_wp2_with fail
 go_loopw [0,10] (λm i wr=>∃(k:Nat) (x:Int),k<=8/\i= I k/\m= .int .u32 x/\0<=x/\x<4294967296/\Hid (x=Qez k (Q30 c b))/\w=wr) (λ_ i _=>8-(intOf i).toNat)
 case atStart=>
  have h1:=bits_lo_u32 .xor c (b*16777216);have h2:=bits_hi_u32 .xor c (b*16777216);exact⟨0,_,O,rfl,rfl,h1,O,rfl,rfl⟩
 case round=>
  obtain⟨k,x,t,rfl,rfl,n,p,f,rfl⟩:=hrel;by_cases q:k<8
  ·have r:(k:Int)<8:=O;cases hbit:(x/2147483648==1)with
   |true=>
    have a:Hid (Fh x=bits .xor .u32 (x*2%4294967296) 79764919):=by show _=_;unfold Fh;rw[QqH hbit]
    have d:=Q7h (Qk7 x);go_wp2_with fail
    go_roundw
    case rel=>exact⟨k+1,_,O,by go_num,rfl,by rw[<-a.o];exact d.o.1,by rw[<-a.o];exact d.o.2,by show _=Fh _;rw[<-f.o,a.o],trivial⟩
    case measure=>simp[intOf];omega
   |false=>
    have a:Hid (Fh x=x*2%4294967296):=by show _=_;unfold Fh;rw[QqE (by rw[hbit];simp)]
    have d:=Q7h (Qk7 x);go_wp2_with fail
    go_roundw
    case rel=>exact⟨k+1,_,O,by go_num,rfl,by rw[<-a.o];exact d.o.1,by rw[<-a.o];exact d.o.2,by show _=Fh _;rw[<-f.o,a.o],trivial⟩
    case measure=>simp[intOf];omega
  ·obtain rfl:k=8:=O;have s:Hid (x=Nj c b):=f.o;clear f;go_wp2_with fail
   go_ret
   exact⟨by rw[<-s.o];rfl,rfl⟩
def Nk(c:Int):Int:=bits .xor .u32 IntKind.u32.max c
def Ny(s:ByteArray):Nat->Int->Int
 |0,x=>x
 |k+1,x=>Nj (Ny s k x) (if h:k<s.size then s[k].toNat else 0)
def Xr(c:Int)(s:ByteArray):Int:=Nk (Ny s s.size (Nk c))
theorem Qwx(c:Int)(s:ByteArray)(w:World)(l:0<=c)(m:c<4294967296)(v:s.size<=9223372036854775807):
  C 185 #[.int .u32 c,.string s] w λe w'=>e= .returned (.int .u32 (Xr c s))/\w=w':=by
 go_in
 go_wp2_with fail
 rename_i n;go_loopw [5,11] (λp i wr=>∃(k:Nat) (x:Int),k<=s.size/\i= I k/\p= .int .u32 x/\0<=x/\x<4294967296/\Hid (x=Ny s k (Nk c))/\w=wr) (λ_ i _=>s.size-(intOf i).toNat)
 case atStart=>
  have h1:=bits_lo_u32 .xor IntKind.u32.max c;have h2:=bits_hi_u32 .xor IntKind.u32.max c;exact⟨0,_,O,rfl,rfl,h1,O,rfl,rfl⟩
 case round=>
  obtain⟨k,x,y,rfl,rfl,a,b,d,rfl⟩:=hrel;by_cases f:k<s.size
  ·have q:(k:Int)<(s.size:Int):=O;have r:(0:Int)<=(k:Int):=O;have t:Hid (Nj x s[k].toNat=Ny s (k+1) (Nk c)):=by show _=Nj _ _;rw[dif_pos f,<-d.o]
   have j:=Q7h (Qla x s[k].toNat);have g:(0:Int)<=(s[k].toNat:Int):=O;have h:(s[k].toNat:Int)<256:=by have:=s[k].toNat_lt;omega
   go_wp2_with fail
   refine(Qv8 x s[k].toNat _ a b g h).mono ?_;rintro e w' ⟨rfl,rfl⟩;go_wp2_with fail
   go_roundw
   case rel=>exact⟨k+1,_,O,by go_num,rfl,j.o.1,j.o.2,t.o,trivial⟩
   case measure=>simp[intOf];omega
  ·obtain rfl:k=s.size:=O;have u:Hid (Nk x=Xr c s):=by show _=Nk _;rw[<-d.o]
   clear d;go_wp2_with fail
   go_ret
   exact⟨by rw[<-u.o];rfl,rfl⟩
theorem Qmk(s:ByteArray)(w:World)(a:s.size<=9223372036854775807):
  C 116 #[.string s] w λe w'=>e= .returned (.int .u32 (Xr 0 s))/\w=w':=by
 go_in
 go_wp2_with fail
 refine(Qwx 0 s _ O O a).mono ?_;rintro e w' ⟨rfl,rfl⟩;go_wp2_with fail
 go_ret
 exact⟨rfl,rfl⟩
theorem Qld(c:Int)(s:ByteArray):0<=Xr c s/\Xr c s<4294967296:=by
 have h1:=bits_lo_u32 .xor IntKind.u32.max (Ny s s.size (Nk c));have h2:=bits_hi_u32 .xor IntKind.u32.max (Ny s s.size (Nk c));exact⟨h1,by show bits .xor .u32 IntKind.u32.max (Ny s s.size (Nk c))<_;omega⟩
def F9(x:Int):List Int:=[x/16777216%256,x/65536%256,x/256%256,x%256]
def Bi(s:ByteArray):ByteArray:=s++strOfNums (F9 (Xr 0 s))
theorem strOfNums_size(l:List Int):(strOfNums l).size=l.length:=by simp[strOfNums,ByteArray.size]
theorem Qyn(w:World)(x:Int)(t:TypeId):∀i,i<4->(w.alloc (.cells #[.int .u8 (x/16777216%256),.int .u8 (x/65536%256),.int .u8 (x/256%256),.int .u8 (x%256)] t)).cell? (w,0+i)=some (.int .u8 ((F9 x).getD i 0)):=by
 intro i hi;have a:=Whole.new w t #[.int .u8 (x/16777216%256),.int .u8 (x/65536%256),.int .u8 (x/256%256),.int .u8 (x%256)];rw[QkG,a.cell i];match i,hi with
 |0,_=>rfl
 |1,_=>rfl
 |2,_=>rfl
 |3,_=>rfl
theorem Bo(s:ByteArray)(w:World)(b:s.size<=70368744177664):
  C 56 #[.string s] w λe w'=>e= .returned (.string (Bi s))/\Below w w w':=by
 have c:=Q7h (Qld 0 s);have hz:(strOfNums (F9 (Xr 0 s))).size=4:=strOfNums_size _;have a:=QyY (P:=Tryz.prog) (w.alloc (.cells #[.int .u8 (Xr 0 s/16777216%256),.int .u8 (Xr 0 s/65536%256),.int .u8 (Xr 0 s/256%256),.int .u8 (Xr 0 s%256)] 5)) 127 5 Tryz.underlying127 Tryz.underlying5 w.heap.size 0 4 4 (F9 (Xr 0 s)) rfl (Qyn w _ _) 9 Tryz.underlying9;go_in
 go_wp2_with fail
 refine(Qmk s _ O).mono ?_;rintro e w' ⟨rfl,rfl⟩;go_wp2_with fail
 go_ret
 exact⟨rfl,B0.alloc N0 _⟩
def Xl(s:ByteArray):ByteArray×Int:=
 if s.size<4 then(⟨#[]⟩,5)else if((Bi (s.extract 0 (s.size-4))).toList==s.toList)=true then(s.extract 0 (s.size-4),0)else(⟨#[]⟩,6)
theorem Pm(s:ByteArray)(w:World)(d:s.size<=70368744177664):
  C 103 #[.string s] w λe w'=>e= .returned (.tuple #[.string (Xl s).1,I (Xl s).2])/\Below w w w':=by
 by_cases h4:s.size<4
 ·have a:Hid (Xl s=(⟨#[]⟩,5)):=by show _=_;unfold Xl;rw[QqH h4]
  have c:(s.size:Int)<4:=O;go_enter Tryz.func103,Tryz.ntmps103
  go_wp2_with fail
  refine QqG (v:= .tuple #[.string ⟨#[]⟩,I 5]) (by simp[results,Tryz.results103,go_sem]) rfl ⟨by rw[a.o],QqA _ _⟩
 ·have c:(4:Int)<=(s.size:Int):=O;have b:(s.extract 0 (s.size-4)).size<=70368744177664:=by simp;omega
  cases hq:((Bi (s.extract 0 (s.size-4))).toList==s.toList)with
  |true=>
   have a:Hid (Xl s=(s.extract 0 (s.size-4),0)):=by show _=_;unfold Xl;rw[QqE h4,QqH hq]
   go_enter Tryz.func103,Tryz.ntmps103
   go_wp2_with fail
   refine(Bo _ _ b).mono ?_;rintro e w1 ⟨rfl,hb⟩;go_wp2_with fail
   refine QqG (v:= .tuple #[.string (s.extract 0 (s.size-4)),I 0]) (by simp[results,Tryz.results103,go_sem]) rfl ⟨by rw[a.o],hb⟩
  |false=>
   have a:Hid (Xl s=(⟨#[]⟩,6)):=by show _=_;unfold Xl;rw[QqE h4,QqE (by rw[hq];simp)]
   go_enter Tryz.func103,Tryz.ntmps103
   go_wp2_with fail
   refine(Bo _ _ b).mono ?_;rintro e w1 ⟨rfl,hb⟩;go_wp2_with fail
   refine QqG (v:= .tuple #[.string ⟨#[]⟩,I 6]) (by simp[results,Tryz.results103,go_sem]) rfl ⟨by rw[a.o],hb⟩
end ck
end Go.Proofs.YtfialjmemcobjaaGreatDoor
