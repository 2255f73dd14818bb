/- A part of the proof. -/
import Derived.Test.YtfialjmemcobjaaGreatDoorPbYsS
import Derived.Shelf.Slices.CompactI
set_option maxRecDepth 100000
set_option maxHeartbeats 16000000
set_option linter.unusedVariables false
set_option linter.unusedSimpArgs false
namespace Go.Proofs
open Go.Shelf
def Tryz.lays20_ren:Go.Shelf.Ren:=⟨fun|20=>88|n=>n,fun|0=>0|3=>3|4=>4|22=>39|n=>n,fun|n=>n⟩
theorem Tryz.lays20:Go.Proofs.Lays2.n20 Tryz.prog Tryz.lays20_ren:={
 mixed:=by kernel_rfl
 f20:=Tryz.func88.trans (congrArg some (by kernel_rfl))
 t0:=Tryz.underlying0
 a0:=Tryz.isAgg0
 z0:=Tryz.sizeOf0
 v0:=Tryz.zeroValue0
 t3:=Tryz.underlying3
 a3:=Tryz.isAgg3
 z3:=Tryz.sizeOf3
 v3:=Tryz.zeroValue3
 t4:=Tryz.underlying4
 a4:=Tryz.isAgg4
 z4:=Tryz.sizeOf4
 v4:=Tryz.zeroValue4
 t22:=Tryz.underlying39
 a22:=Tryz.isAgg39
 z22:=Tryz.sizeOf39
 v22:=Tryz.zeroValue39
 i3:=by kernel_rfl}
end Go.Proofs
namespace Go.Proofs.YtfialjmemcobjaaGreatDoor.vo
open Go.RowKit Go.Sort er tr
theorem Q13{w:World}{base k n c:Nat}{e:TypeId}{A:Option Addr}{xs:List Value}(h:w.ownsRow base e k (.slice A n c) n xs)(m:Nat)(b:m<=n):w.ownsRow base e k (.slice A m c) m (xs.take (m*k)):=by
 obtain⟨h1,h2⟩:=h;refine⟨by rw[QzJ,h1];exact QuR (QkV _ b),?_⟩;rcases h2 with⟨h2,h3⟩|⟨g,cap,a,h2,h3,h4,h5,d,f,i⟩
 ·injection h2 with a1 a2 a3;subst a1 a2 a3;obtain rfl:m=0:=O;exact .inl ⟨rfl,rfl⟩
 ·injection h2 with a1 a2 a3;subst a1 a3;refine .inr ⟨g,c,a,rfl,h3,h4,O,d,f,?_⟩;rw[<-i,List.take_take,QuR (QkV _ b)]
theorem Qg2(a:List Int):(Lib.compact a).length<=a.length:=by
 unfold Lib.compact Lib.compactUpTo;rw[QqT];exact QqR (QkE _ _) U
theorem Qj8(b:List Int)(base:Nat)(v:Value)(w:World)(h:w.ownsRow base 3 1 v b.length (b.map (Value.int .i64)))(z:b.length<=16777216):
  C 88 #[v] w λe w'=>∃A c,e= .returned (.slice A (Lib.compact b).length c)/\w'.ownsRow base 3 1 (.slice A (Lib.compact b).length c) (Lib.compact b).length ((Lib.compact b).map (Value.int .i64))/\w.grownBy w' v.ownBlock:=by
 have l:=h;obtain⟨h1,⟨h2,h3⟩|⟨g,cap,i,rfl,h3,h4,h5,p,s,m⟩⟩:=h
 ·subst h2;have e:b=[]:=by
   cases b with
   |nil=>rfl
   |cons a r=>simp at h3
  subst e;refine(Any.slices_Compact_int_empty Tryz.lays20 none 0 w).mono ?_;rintro x w' ⟨rfl,rfl⟩;exact⟨none,0,rfl,l,Je B0 _⟩
 ·have t:i.toList.take b.length=b.map (Value.int .i64):=by rw[QkN]at m;exact m
  have f:=Sz l;refine(Any.slices_Compact_int Tryz.lays20 g 0 cap b w (holds_of_blockI h4 t) O f.1).mono ?_;rintro x w' ⟨rfl,q,rfl⟩;have j:=Qg2 b;obtain⟨ts,d⟩:=Zx (Lib.compact b++List.replicate (b.length-(Lib.compact b).length) 0);have k:ts.length=b.length:=by rw[<-d];simp;omega
  have u:(putRow (Value.int .i64) (Sort.ahead w q) g 0 ts.toArray).ownsRow base 3 1 (.slice (some (g,0)) b.length cap) b.length (ts.map (Value.int .i64)):=by
   have:=ownsRow_sortedI (os:=#[]) (n:=q) (ss:=b) (ts:=ts) k h3 h4 h5 p s;rwa[grow_empty]at this
  have y:w.grownBy (putRow (Value.int .i64) (Sort.ahead w q) g 0 ts.toArray) (some g):=by
   have:=grownBy_sortedI (w:=w) (g:=g) (n:=q) (os:=#[]) ts.toArray;rwa[grow_empty]at this
  have o:=Q13 u _ j;rw[QkN,<-d,QqY,List.take_append_of_le_length U,QkT U,d]at o;rw[d];exact⟨_,cap,rfl,o,y⟩
end Go.Proofs.YtfialjmemcobjaaGreatDoor.vo
