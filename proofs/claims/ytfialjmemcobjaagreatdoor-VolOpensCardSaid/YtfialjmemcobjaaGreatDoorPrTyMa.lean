/- A part of the proof. -/
import Derived.Test.YtfialjmemcobjaaGreatDoorPrTxMb
import Derived.Lib.AppendZeros
import Derived.Lib.SliceRun
import Derived.Maps.AppendAt
set_option linter.unusedVariables false
set_option linter.unusedSimpArgs false
namespace Go.Proofs.YtfialjmemcobjaaGreatDoor
namespace tr
open Go.RowKit er
def SlAt (w:World) (v:Value) (n k:Nat) (xs:List Value):Prop:=
 xs.length=n * k∧((v= .slice none 0 0∧n=0)∨∃g o c,v= .slice (some ⟨g,o,none⟩) n c∧∀j u,xs[j]? =some u→w.cell? ⟨g,o+j,none⟩=some u)
theorem SlAt.keep {w w':World} {v:Value} {n k:Nat} {xs:List Value} (h:SlAt w v n k xs) (hk:∀(a:Addr) u,w.cell? a=some u→w'.cell? a=some u):SlAt w' v n k xs:=by
 obtain ⟨h1,h2|⟨g,o,c,h2,h3⟩⟩:=h
 ·exact ⟨h1,.inl h2⟩
 ·exact ⟨h1,.inr ⟨g,o,c,h2,fun j u hj=>hk _ _ (h3 j u hj)⟩⟩
theorem SlAt.below {w w':World} {v:Value} {n k:Nat} {xs:List Value} (h:SlAt w v n k xs) (hb:Below w.heap.size w w'):SlAt w' v n k xs:=h.keep fun a u ha=>Qq hb ha
theorem SlAt.own {w:World} {B n k:Nat} {t:TypeId} {v:Value} {xs:List Value} (h:w.ownsRow B t k v n xs):SlAt w v n k xs:=by
 refine ⟨h.1,?_⟩
 rcases h.2 with ⟨h1,h2⟩|⟨g,cap,cur,h1,h2,h3,h4,h5,h6,h7⟩
 ·exact .inl ⟨h1,h2⟩
 ·refine .inr ⟨g,0,cap,h1,fun j u hj=>?_⟩
  rw [Nat.zero_add,cell_of_row w g j cur t (0,0) h3]
  rw [←h7,List.getElem?_take] at hj
  split at hj
  ·simpa using hj
  ·cases hj
theorem SlAt.exts {w:World} {v:Value} {n:Nat} {l:List Ext} (h:SlAt w v n 4 (Qz l)):ExtsAt w v l∧l.length=n:=by
 obtain ⟨h1,h2⟩:=h
 have hn:l.length=n:=by rw [Xw] at h1;omega
 subst hn
 refine ⟨?_,rfl⟩
 rcases h2 with ⟨rfl,h2⟩|⟨g,o,c,rfl,h3⟩
 ·exact ⟨none,0,by rw [h2],fun h0=>by omega⟩
 ·refine ⟨_,c,rfl,fun _=>⟨g,o,rfl,fun j e he=>?_⟩⟩
  obtain ⟨k0,k1,k2,k3⟩:=Kb l j e he
  exact ⟨h3 _ _ k0,by have:=h3 _ _ k1;rwa [←Nat.add_assoc] at this,by have:=h3 _ _ k2;rwa [←Nat.add_assoc] at this,by have:=h3 _ _ k3;rwa [←Nat.add_assoc] at this⟩
theorem Cq {P:Program} (w:World) (base:Nat) (t ty e:TypeId) (i:TypeInfo) (z:Value) (size bytes:Nat) (ht:P.underlying t=some (.slice e)) (hi:P.info? e=some i) (hz:i.zero=some z)
  (hsize:i.size=size) (hby:i.bytes=bytes) (hzs:z.cells.size=size) (hsz:0 < size) (v:Value) (n:Nat) (xs:List Value) (hown:w.ownsRow base e size v n xs)
  (y:Value) (m:Nat) (news:List Value) (hs:SlAt w y m size news) (h1:∀u∈news,u.oneCell'=true) (h63:n+m≤100000000) (hbytes:bytes≤64) (hbase:base≤w.heap.size):
  ∃v' w',(Builtin.append_ #[t,t] ty #[v,y]).run P w= .ok v' w'∧w'.ownsRow base e size v' (n+m) (xs++news)∧w.grownBy w' v.ownBlock:=by
 obtain ⟨hl,⟨rfl,rfl⟩|⟨g,o,c,rfl,hc⟩⟩:=hs
 ·obtain rfl:news=[]:=List.eq_nil_of_length_eq_zero (by simpa using hl)
  exact ⟨v,w,run_append_owned_none w base t ty e i size ht hi v n xs hown,by simpa using hown,World.grownBy.refl w _⟩
 ·have hb:(n+m) * bytes≤140737488355328:=by
   have:=Nat.mul_le_mul h63 hbytes
   omega
  obtain ⟨v',w',h2,h3,h4,_⟩:=run_append_own (P:=P) w base t ty e i z size bytes ht hi hz hsize hby hzs hsz v n xs hown ⟨g,o,none⟩ m c news hl (fun j u hj=>by rw [Addr.add_lit];exact hc j u hj) h1 (by unfold maxLen;omega) hb hbase
  exact ⟨v',w',h2,h3,h4⟩
theorem Zn {α:Type} (f:α→Nat) (l:List α) (j:Nat) (x:α) (h:l[j]? =some x):((l.take (j+1)).map f).sum=((l.take j).map f).sum+f x:=by
 have hj:j < l.length:=(List.getElem?_eq_some_iff.1 h).1
 have he:l[j]=x:=by rw [List.getElem?_eq_getElem hj] at h;injection h
 rw [List.take_succ_eq_append_getElem hj,he]
 simp
theorem Ju {α β:Type} (f:α→List β) (l:List α) (j:Nat) (x:α) (h:l[j]? =some x):(l.take (j+1)).flatMap f=(l.take j).flatMap f++f x:=by
 have hj:j < l.length:=(List.getElem?_eq_some_iff.1 h).1
 have he:l[j]=x:=by rw [List.getElem?_eq_getElem hj] at h;injection h
 rw [List.take_succ_eq_append_getElem hj,he]
 simp
theorem Gn {α:Type} (f:α→Nat):∀(l:List α) (j:Nat),((l.take j).map f).sum≤(l.map f).sum
 |[],j=>by simp
 |a::l,0=>by simp
 |a::l,j+1=>by
  have:=Gn f l j
  simp only [List.take_succ_cons,List.map_cons,List.sum_cons]
  omega
theorem Qjm:(Tryz.prog.info? 255).map (fun i=>(i.zero,i.size,i.bytes))=some (some (.agg #[.int .i64 0,.int .i64 0,.int .i64 0,.int .i64 0]),4,32):=by kernel_rfl
set_option maxHeartbeats 4000000 in
set_option maxRecDepth 100000 in
theorem Qhx (n:Nat) (w:World) (hn:n≤100000000):Calls Tryz.prog 301 #[.slice none 0 0,.int .i64 n] w fun e w'=>∃v',e= .returned v'∧w'.ownsRow w.heap.size 255 4 v' 0 []∧Below w.heap.size w w':=by
 rcases Nat.eq_zero_or_pos n with rfl|h0
 ·go_enter Tryz.func301,Tryz.ntmps301
  go_wp2_with fail
  go_ret
  exact ⟨_,rfl,⟨rfl,.inl ⟨rfl,rfl⟩⟩,Below.refl _ _⟩
 ·obtain ⟨i0,hi0,hz0,hz1,hz2⟩:=info_parts Qjm
  have hrz:∀ty,(Builtin.append_ #[261,3] ty #[.slice none 0 0,.int .i64 (n:Int)]).run Tryz.prog w= .ok (.slice (some ⟨w.heap.size,0,none⟩) n (grownCap w n 0 255)) (w.drew.alloc (.cells (Builtin.zeroCells (Value.cells (.agg #[.int .i64 0,.int .i64 0,.int .i64 0,.int .i64 0])) n++Builtin.zeroCells (Value.cells (.agg #[.int .i64 0,.int .i64 0,.int .i64 0,.int .i64 0])) (grownCap w n 0 255 - n)) 255)):=fun ty=>
   Lib.run_append_nil_zeros w 261 3 ty 255 i0 _ .i64 .i64 Tryz.underlying261 Tryz.underlying3 hi0 hz0 n h0 (by omega) (by omega) (by rw [hz2];omega)
  have hge:=grownCap_ge w n 0 255
  have hle:=grownCap_le_maxLen w n 0 255 (by unfold maxLen;omega)
  obtain ⟨G,hG⟩:∃G,grownCap w n 0 255=G:=⟨_,rfl⟩
  rw [hG] at hrz hge hle
  have hle':=hle
  unfold maxLen at hle'
  have h1:(0:Int) < (n:Int):=by omega
  have h2:(n:Int) > 0:=by omega
  have hcs:(Builtin.zeroCells (Value.cells (.agg #[.int .i64 0,.int .i64 0,.int .i64 0,.int .i64 0])) n++Builtin.zeroCells (Value.cells (.agg #[.int .i64 0,.int .i64 0,.int .i64 0,.int .i64 0])) (G - n)).size=G * 4:=by
   rw [Array.size_append,size_zeroCells,size_zeroCells]
   show n * 4+(G - n) * 4=G * 4
   omega
  obtain ⟨cs,hcs0⟩:∃cs,Builtin.zeroCells (Value.cells (.agg #[.int .i64 0,.int .i64 0,.int .i64 0,.int .i64 0])) n++Builtin.zeroCells (Value.cells (.agg #[.int .i64 0,.int .i64 0,.int .i64 0,.int .i64 0])) (G - n)=cs:=⟨_,rfl⟩
  rw [hcs0] at hrz hcs
  have HRZ:=Ql4 hrz
  have HCS:=Ql4 hcs
  have HLE:=Ql4 hle
  clear hG hcs0 hcs hrz hi0 hz0 hz1 hz2 hle
  go_enter Tryz.func301,Tryz.ntmps301
  go_wp2_with (at_builtin;refine Lib.wpList_append_run _ rfl _ _ _ _ rfl _ _ rfl rfl _ _ (HRZ.out _) ?_)
  all_goals (go_ret;refine ⟨_,rfl,World.ownsRow_made w.drew cs G (Nat.le_refl _) HLE.out HCS.out,(Below.drew (Below.refl _ _)).alloc (Nat.le_refl _) _⟩)
set_option maxHeartbeats 4000000 in
set_option maxRecDepth 100000 in
theorem Qj3 (ys:List (Value×Nat×List Value)) (gb mc:Nat) (w:World) (hc:∀j y,ys[j]? =some y→w.cell? ⟨gb,j,none⟩=some y.1∧SlAt w y.1 y.2.1 4 y.2.2∧∀u∈y.2.2,u.oneCell'=true)
  (hs:(ys.map fun y=>y.2.1).sum≤100000000) (hm:ys.length≤1000) (h0:0 < ys.length):
  Calls Tryz.prog 268 #[.slice (some ⟨gb,0,none⟩) ys.length mc] w fun e w'=>∃v',e= .returned v'∧w'.ownsRow w.heap.size 255 4 v' (ys.map fun y=>y.2.1).sum (ys.flatMap fun y=>y.2.2)∧Below w.heap.size w w':=by
 obtain ⟨m,hm0⟩:∃m,ys.length=m:=⟨_,rfl⟩
 have HN:=Ql4 hm0
 have HC:=Ql4 hc
 rw [hm0] at hm
 rw [hm0]
 obtain ⟨i0,hi0,hz0,hz1,hz2⟩:=info_parts Qjm
 have HS:=Ql4 (fun j=>Nat.le_trans (Gn (fun y:Value×Nat×List Value=>y.2.1) ys j) hs)
 have HG:=Ql4 (fun (n:Nat) (hn:n≤100000000)=>Qhx n w hn)
 have HAP:=Ql4 (fun (wq:World) (v:Value) (n:Nat) (xs:List Value) (hown:wq.ownsRow w.heap.size 255 4 v n xs) (y:Value×Nat×List Value) (hq:SlAt wq y.1 y.2.1 4 y.2.2) (h1:∀u∈y.2.2,u.oneCell'=true) (h63:n+y.2.1≤100000000) (hb:w.heap.size≤wq.heap.size) (ty:TypeId)=>Cq (P:=Tryz.prog) wq w.heap.size 261 ty 255 i0 _ 4 32 Tryz.underlying261 hi0 hz0 hz1 hz2 rfl (by omega) v n xs hown y.1 y.2.1 y.2.2 hq h1 h63 (by omega) hb)
 have H0:Hid (0 < m):=by show 0 < m;omega
 clear hm0 hc hs h0 hi0 hz0 hz1 hz2
 go_enter Tryz.func268,Tryz.ntmps268
 go_wp2_with fail
 go_loop [3,11] (fun s i=>∃j:Nat,j≤m∧i= .int .i64 j∧s= .int .i64 (((ys.take j).map fun y=>y.2.1).sum:Nat)) (fun _ i=>m - (intOf i).toNat)
 case atStart=>exact ⟨0,Nat.zero_le _,rfl,rfl⟩
 case round=>
  obtain ⟨j,hj,rfl,rfl⟩:=hrel
  by_cases hlt:j < m
  ·have hji:(j:Int) < (m:Int):=by omega
   have hln:=HN.out
   obtain ⟨y,hy⟩:∃y,ys[j]? =some y:=⟨ys[j]'(by omega),List.getElem?_eq_getElem (by omega)⟩
   have hsum:=HS.out (j+1)
   rw [Zn _ _ _ _ hy] at hsum
   have HSUM:=Ql4 (Zn (fun y:Value×Nat×List Value=>y.2.1) _ _ _ hy)
   obtain ⟨c0,hsl,_⟩:=HC.out j y hy
   obtain ⟨S,hS⟩:∃S,((ys.take j).map fun y=>y.2.1).sum=S:=⟨_,rfl⟩
   rw [hS] at hsum
   have HS2:=Ql4 hS
   rw [hS]
   obtain ⟨yv,yn,yx⟩:=y
   dsimp only at c0 hsl hsum HSUM
   obtain ⟨_,⟨rfl,rfl⟩|⟨yg,yo,yc,rfl,_⟩⟩:=hsl
   all_goals
    clear hy hln hS
    go_wp2_with fail
    go_round
    case rel=>exact ⟨j+1,by omega,by go_num,by rw [HSUM.out,HS2.out];first|go_num|(congr 1;omega)|(simp;done)⟩
    case measure=>simp [intOf];omega
  ·obtain rfl:j=m:=by omega
   have hfull:ys.take j=ys:=by rw [←HN.out];exact List.take_length
   rw [hfull]
   have hsum:=HS.out j
   rw [hfull] at hsum
   obtain ⟨S,hS⟩:∃S,(ys.map fun y=>y.2.1).sum=S:=⟨_,rfl⟩
   rw [hS] at hsum
   have HS2:=Ql4 hS
   have HG2:=Ql4 (HG.out S hsum)
   rw [hS]
   clear hS hfull
   go_wp2_with fail
   refine HG2.out.mono ?_
   rintro e w2 ⟨v2,rfl,hown2,hb2⟩
   obtain ⟨A2,c2,e2⟩:=Qk hown2
   subst e2
   have HO2:=Ql4 hown2
   have HB2:=Ql4 hb2
   clear hown2 hb2
   go_wp2_with fail
   go_loopw [6,27] (fun s i wr=>∃(j2 nn:Nat) (A:Option Addr) (c:Nat),j2≤j∧i= .int .i64 j2∧s= .slice A nn c∧Hid (((ys.take j2).map fun y=>y.2.1).sum=nn)∧Hid (wr.ownsRow w.heap.size 255 4 (.slice A nn c) nn ((ys.take j2).flatMap fun y=>y.2.2))∧Hid (Below w.heap.size w wr)) (fun _ i _=>j - (intOf i).toNat)
   case atStart=>exact ⟨0,0,A2,c2,Nat.zero_le _,rfl,rfl,rfl,HO2.out,HB2.out⟩
   case round=>
    obtain ⟨j2,nn,A,c,hj2,rfl,rfl,HM,HO,HB⟩:=hrel
    by_cases hlt2:j2 < j
    ·have hji:(j2:Int) < (j:Int):=by omega
     have hln:=HN.out
     obtain ⟨y,hy⟩:∃y,ys[j2]? =some y:=⟨ys[j2]'(by omega),List.getElem?_eq_getElem (by omega)⟩
     have hsum:=HS.out (j2+1)
     rw [Zn _ _ _ _ hy,HM.out] at hsum
     have HSUM:=Ql4 (Zn (fun y:Value×Nat×List Value=>y.2.1) _ _ _ hy)
     have HFL:=Ql4 (Ju (fun y:Value×Nat×List Value=>y.2.2) _ _ _ hy)
     obtain ⟨c0,hsl,h1⟩:=HC.out j2 y hy
     have c0':=Qq HB.out c0
     obtain ⟨v3,w3,hrun,hown3,hg3⟩:=HAP.out wr _ _ _ HO.out y (hsl.below HB.out) h1 (by omega) HB.out.size 261
     have HR:=Ql4 hrun
     have HO3:=Ql4 hown3
     have HB3:=Ql4 (HB.out.grown hg3 HB.out.size (fun k hk=>(HO.out.lt k hk).1))
     obtain ⟨A3,c3,e3⟩:=Qk hown3
     subst e3
     clear hy hln hsum hsl h1 c0 hrun hown3 hg3
     go_wp2_with (at_builtin;refine Lib.wpList_append_run _ rfl _ _ _ _ rfl _ _ rfl rfl _ _ HR.out ?_)
     have hmeas:j - (intOf (.int .i64 ((j2:Int)+1))).toNat < j - (intOf (.int .i64 (j2:Int))).toNat:=by simp [intOf];omega
     refine ⟨⟨j2+1,nn+y.2.1,A3,c3,?_,?_,rfl,?_,?_,?_⟩,hmeas⟩
     ·omega
     ·go_num
     ·show _=_;rw [HSUM.out,HM.out]
     ·rw [HFL.out];with_reducible exact HO3
     ·with_reducible exact HB3
    ·obtain rfl:j2=j:=by omega
     go_wp2_with fail
     go_ret
     have hfull:ys.take j2=ys:=by rw [←HN.out];exact List.take_length
     rw [hfull] at HO HM
     refine ⟨_,rfl,?_,HB.out⟩
     have hs1:=HM.out
     rw [←HS2.out,hs1]
     exact HO.out
theorem Qbc:(Tryz.prog.info? 226).map (fun i=>(i.zero,i.size,i.bytes))=some (some .nilIface,1,16):=by kernel_rfl
theorem Qa {a b c:World} (h:Below a.heap.size a b) (k:Below b.heap.size b c):Below a.heap.size a c:=h.trans (k.mono h.size)
theorem SlAt.form {w:World} {v:Value} {n k:Nat} {xs:List Value} (h:SlAt w v n k xs):∃A c,v= .slice A n c:=by
 obtain ⟨h1,⟨rfl,rfl⟩|⟨g,o,c,rfl,h3⟩⟩:=h
 ·exact ⟨none,0,rfl⟩
 ·exact ⟨_,c,rfl⟩
theorem Xk (l:List Ext):∀u∈Qz l,u.oneCell'=true:=by
 intro u hu
 simp only [Qz,List.mem_flatMap,Ext.cells] at hu
 obtain ⟨e,_,hu⟩:=hu
 simp at hu
 rcases hu with rfl|rfl|rfl|rfl <;> rfl
def LfAt (w:World) (b g c:Nat) (a:Int) (l:List Ext):Prop:=Whole w b 350 #[.int .i64 a,.slice (some ⟨g,0,none⟩) l.length c]∧Row w g c 4 255 (Qz l)
abbrev Kd (h:Nat):=List Nat×Value×Nd h
def dsF {h:Nat} (ds:List (Kd h)):List Nat:=ds.flatMap fun d=>d.1
def Qkv (w:World) {h:Nat} (b g c:Nat) (a:Int) (ds:List (Kd h)):Prop:=Whole w b 300 #[.int .i64 a,.slice (some ⟨g,0,none⟩) ds.length c]∧Row w g c 1 226 (ds.map fun d=>d.2.1)∧∀d∈ds,NdAt w d.1 d.2.1 d.2.2
def Zl (h b:Nat):Value:= .iface (ndT h) (.pointer (some ⟨b,0,none⟩))
theorem P6 {w:World} {b g c:Nat} {a:Int} {l:List Ext} (h:LfAt w b g c a l):NdAt w [b,g] (Zl 0 b) (mkL a l):=⟨b,g,c,rfl,rfl,h.1,h.2⟩
theorem Vw {w:World} {h b g c:Nat} {a:Int} {ds:List (Kd h)} (hh:Qkv w b g c a ds):NdAt w (b::g::dsF ds) (Zl (h+1) b) (mkI a (ds.map fun d=>d.2.2)):=
 ⟨b,g,c,ds,rfl,rfl,by have:=hh.1;simpa [mkI,Nd.ks,Nd.at_] using this,rfl,hh.2.1,hh.2.2⟩
theorem X4 {w:World} {F:List Nat} {v:Value} {n:Nd 0} (h:NdAt w F v n):∃b g c,F=[b,g]∧v=Zl 0 b∧LfAt w b g c n.at_ n.l:=by
 obtain ⟨b,g,c,h1,h2,h3,h4⟩:=h
 exact ⟨b,g,c,h1,h2,h3,h4⟩
theorem Jv {w:World} {h:Nat} {F:List Nat} {v:Value} {n:Nd (h+1)} (hh:NdAt w F v n):∃b g c,∃ds:List (Kd h),F=b::g::dsF ds∧v=Zl (h+1) b∧Qkv w b g c n.at_ ds∧n.ks=ds.map fun d=>d.2.2:=by
 obtain ⟨b,g,c,ds,h1,h2,h3,h4,h5,h6⟩:=hh
 refine ⟨b,g,c,ds,h1,h2,⟨?_,h5,h6⟩,h4⟩
 rw [h4,List.length_map] at h3
 exact h3
theorem LfAt.keep {G:Nat→Prop} {w w':World} {b g c:Nat} {a:Int} {l:List Ext} (h:LfAt w b g c a l) (hk:Keep G w w') (h1:¬G b) (h2:¬G g):LfAt w' b g c a l:=⟨h.1.keep hk h1,h.2.keep hk h2⟩
theorem Hm {h:Nat} (p q:List (Kd h)):dsF (p++q)=dsF p++dsF q:=by simp [dsF]
theorem Wh {h:Nat} (d:Kd h) (q:List (Kd h)):dsF (d::q)=d.1++dsF q:=by simp [dsF]
theorem Xz {h:Nat} {ds:List (Kd h)} {d:Kd h} {k:Nat} (hd:d∈ds) (hk:k∈d.1):k∈dsF ds:=List.mem_flatMap.2 ⟨d,hd,hk⟩
theorem O8 {G:Nat→Prop} {w w':World} {h:Nat} {ds:List (Kd h)} (hk:Keep G w w') (hd:∀d∈ds,NdAt w d.1 d.2.1 d.2.2) (hG:∀k∈dsF ds,¬G k):∀d∈ds,NdAt w' d.1 d.2.1 d.2.2:=
 fun d hm=>(hd d hm).keep hk (fun k hkm=>hG k (Xz hm hkm))
theorem Qjh {w:World} {h:Nat} {ds:List (Kd h)} (hd:∀d∈ds,NdAt w d.1 d.2.1 d.2.2):∀k∈dsF ds,k < w.heap.size:=by
 intro k hk
 obtain ⟨d,hm,hkm⟩:=List.mem_flatMap.1 hk
 exact (hd d hm).lt k hkm
theorem Qbi (p:Option Addr) (w:World):(Instr.typeAssert (.iface 348 (.pointer p)) 226 348 true).run Tryz.prog w= .ok (.tuple #[.pointer p,.bool true]) w:=by kernel_rfl
theorem Sr (p:Option Addr) (w:World):(Instr.typeAssert (.iface 297 (.pointer p)) 226 297 true).run Tryz.prog w= .ok (.tuple #[.pointer p,.bool true]) w:=by kernel_rfl
theorem Qk7 (p:Option Addr) (w:World):(Instr.typeAssert (.iface 348 (.pointer p)) 226 297 true).run Tryz.prog w= .ok (.tuple #[.pointer none,.bool false]) w:=by kernel_rfl
theorem Qba (p:Option Addr) (w:World):(Instr.typeAssert (.iface 297 (.pointer p)) 226 348 true).run Tryz.prog w= .ok (.tuple #[.pointer none,.bool false]) w:=by kernel_rfl
end tr
namespace tr
open Go.RowKit er
end tr
namespace tr
open Go.RowKit er
end tr
namespace vo
open Go.RowKit er tr
theorem Dy:(Tryz.prog.info? 3).map (fun i=>(i.zero,i.size,i.bytes))=some (some (.int .i64 0),1,8):=by kernel_rfl
set_option maxHeartbeats 4000000 in
set_option maxRecDepth 100000 in
theorem Qhj (n:Nat) (w:World) (hn:n≤100000000):Calls Tryz.prog 162 #[.slice none 0 0,.int .i64 n] w fun e w'=>∃v',e= .returned v'∧w'.ownsRow w.heap.size 3 1 v' 0 []∧Below w.heap.size w w':=by
 rcases Nat.eq_zero_or_pos n with rfl|h0
 ·go_enter Tryz.func162,Tryz.ntmps162
  go_wp2_with fail
  go_ret
  exact ⟨_,rfl,⟨rfl,.inl ⟨rfl,rfl⟩⟩,Below.refl _ _⟩
 ·obtain ⟨i0,hi0,hz0,hz1,hz2⟩:=info_parts Dy
  have hrz:∀ty,(Builtin.append_ #[39,3] ty #[.slice none 0 0,.int .i64 (n:Int)]).run Tryz.prog w= .ok (.slice (some ⟨w.heap.size,0,none⟩) n (grownCap w n 0 3)) (w.drew.alloc (.cells (Builtin.zeroCells (Value.cells (.int .i64 0)) n++Builtin.zeroCells (Value.cells (.int .i64 0)) (grownCap w n 0 3 - n)) 3)):=fun ty=>
   Lib.run_append_nil_zeros w 39 3 ty 3 i0 _ .i64 .i64 Tryz.underlying39 Tryz.underlying3 hi0 hz0 n h0 (by omega) (by omega) (by rw [hz2];omega)
  have hge:=grownCap_ge w n 0 3
  have hle:=grownCap_le_maxLen w n 0 3 (by unfold maxLen;omega)
  obtain ⟨G,hG⟩:∃G,grownCap w n 0 3=G:=⟨_,rfl⟩
  rw [hG] at hrz hge hle
  have hle':=hle
  unfold maxLen at hle'
  have h1:(0:Int) < (n:Int):=by omega
  have h2:(n:Int) > 0:=by omega
  have hcs:(Builtin.zeroCells (Value.cells (.int .i64 0)) n++Builtin.zeroCells (Value.cells (.int .i64 0)) (G - n)).size=G * 1:=by
   rw [Array.size_append,size_zeroCells,size_zeroCells]
   show n * 1+(G - n) * 1=G * 1
   omega
  obtain ⟨cs,hcs0⟩:∃cs,Builtin.zeroCells (Value.cells (.int .i64 0)) n++Builtin.zeroCells (Value.cells (.int .i64 0)) (G - n)=cs:=⟨_,rfl⟩
  rw [hcs0] at hrz hcs
  have HRZ:=Ql4 hrz
  have HCS:=Ql4 hcs
  have HLE:=Ql4 hle
  clear hG hcs0 hcs hrz hi0 hz0 hz1 hz2 hle
  go_enter Tryz.func162,Tryz.ntmps162
  go_wp2_with (at_builtin;refine Lib.wpList_append_run _ rfl _ _ _ _ rfl _ _ rfl rfl _ _ (HRZ.out _) ?_)
  all_goals (go_ret;refine ⟨_,rfl,World.ownsRow_made w.drew cs G (Nat.le_refl _) HLE.out HCS.out,(Below.drew (Below.refl _ _)).alloc (Nat.le_refl _) _⟩)
set_option maxHeartbeats 4000000 in
set_option maxRecDepth 100000 in
theorem Qe1 (ys:List (Value×Nat×List Value)) (gb mc:Nat) (w:World) (hc:∀j y,ys[j]? =some y→w.cell? ⟨gb,j,none⟩=some y.1∧SlAt w y.1 y.2.1 1 y.2.2∧∀u∈y.2.2,u.oneCell'=true)
  (hs:(ys.map fun y=>y.2.1).sum≤100000000) (hm:ys.length≤1000) (h0:0 < ys.length):
  Calls Tryz.prog 85 #[.slice (some ⟨gb,0,none⟩) ys.length mc] w fun e w'=>∃v',e= .returned v'∧w'.ownsRow w.heap.size 3 1 v' (ys.map fun y=>y.2.1).sum (ys.flatMap fun y=>y.2.2)∧Below w.heap.size w w':=by
 obtain ⟨m,hm0⟩:∃m,ys.length=m:=⟨_,rfl⟩
 have HN:=Ql4 hm0
 have HC:=Ql4 hc
 rw [hm0] at hm
 rw [hm0]
 obtain ⟨i0,hi0,hz0,hz1,hz2⟩:=info_parts Dy
 have HS:=Ql4 (fun j=>Nat.le_trans (Gn (fun y:Value×Nat×List Value=>y.2.1) ys j) hs)
 have HG:=Ql4 (fun (n:Nat) (hn:n≤100000000)=>Qhj n w hn)
 have HAP:=Ql4 (fun (wq:World) (v:Value) (n:Nat) (xs:List Value) (hown:wq.ownsRow w.heap.size 3 1 v n xs) (y:Value×Nat×List Value) (hq:SlAt wq y.1 y.2.1 1 y.2.2) (h1:∀u∈y.2.2,u.oneCell'=true) (h63:n+y.2.1≤100000000) (hb:w.heap.size≤wq.heap.size) (ty:TypeId)=>Cq (P:=Tryz.prog) wq w.heap.size 39 ty 3 i0 _ 1 8 Tryz.underlying39 hi0 hz0 hz1 hz2 rfl (by omega) v n xs hown y.1 y.2.1 y.2.2 hq h1 h63 (by omega) hb)
 have H0:Hid (0 < m):=by show 0 < m;omega
 clear hm0 hc hs h0 hi0 hz0 hz1 hz2
 go_enter Tryz.func85,Tryz.ntmps85
 go_wp2_with fail
 go_loop [3,11] (fun s i=>∃j:Nat,j≤m∧i= .int .i64 j∧s= .int .i64 (((ys.take j).map fun y=>y.2.1).sum:Nat)) (fun _ i=>m - (intOf i).toNat)
 case atStart=>exact ⟨0,Nat.zero_le _,rfl,rfl⟩
 case round=>
  obtain ⟨j,hj,rfl,rfl⟩:=hrel
  by_cases hlt:j < m
  ·have hji:(j:Int) < (m:Int):=by omega
   have hln:=HN.out
   obtain ⟨y,hy⟩:∃y,ys[j]? =some y:=⟨ys[j]'(by omega),List.getElem?_eq_getElem (by omega)⟩
   have hsum:=HS.out (j+1)
   rw [Zn _ _ _ _ hy] at hsum
   have HSUM:=Ql4 (Zn (fun y:Value×Nat×List Value=>y.2.1) _ _ _ hy)
   obtain ⟨c0,hsl,_⟩:=HC.out j y hy
   obtain ⟨S,hS⟩:∃S,((ys.take j).map fun y=>y.2.1).sum=S:=⟨_,rfl⟩
   rw [hS] at hsum
   have HS2:=Ql4 hS
   rw [hS]
   obtain ⟨yv,yn,yx⟩:=y
   dsimp only at c0 hsl hsum HSUM
   obtain ⟨_,⟨rfl,rfl⟩|⟨yg,yo,yc,rfl,_⟩⟩:=hsl
   all_goals
    clear hy hln hS
    go_wp2_with fail
    go_round
    case rel=>exact ⟨j+1,by omega,by go_num,by rw [HSUM.out,HS2.out];first|go_num|(congr 1;omega)|(simp;done)⟩
    case measure=>simp [intOf];omega
  ·obtain rfl:j=m:=by omega
   have hfull:ys.take j=ys:=by rw [←HN.out];exact List.take_length
   rw [hfull]
   have hsum:=HS.out j
   rw [hfull] at hsum
   obtain ⟨S,hS⟩:∃S,(ys.map fun y=>y.2.1).sum=S:=⟨_,rfl⟩
   rw [hS] at hsum
   have HS2:=Ql4 hS
   have HG2:=Ql4 (HG.out S hsum)
   rw [hS]
   clear hS hfull
   go_wp2_with fail
   refine HG2.out.mono ?_
   rintro e w2 ⟨v2,rfl,hown2,hb2⟩
   obtain ⟨A2,c2,e2⟩:=Qk hown2
   subst e2
   have HO2:=Ql4 hown2
   have HB2:=Ql4 hb2
   clear hown2 hb2
   go_wp2_with fail
   go_loopw [6,27] (fun s i wr=>∃(j2 nn:Nat) (A:Option Addr) (c:Nat),j2≤j∧i= .int .i64 j2∧s= .slice A nn c∧Hid (((ys.take j2).map fun y=>y.2.1).sum=nn)∧Hid (wr.ownsRow w.heap.size 3 1 (.slice A nn c) nn ((ys.take j2).flatMap fun y=>y.2.2))∧Hid (Below w.heap.size w wr)) (fun _ i _=>j - (intOf i).toNat)
   case atStart=>exact ⟨0,0,A2,c2,Nat.zero_le _,rfl,rfl,rfl,HO2.out,HB2.out⟩
   case round=>
    obtain ⟨j2,nn,A,c,hj2,rfl,rfl,HM,HO,HB⟩:=hrel
    by_cases hlt2:j2 < j
    ·have hji:(j2:Int) < (j:Int):=by omega
     have hln:=HN.out
     obtain ⟨y,hy⟩:∃y,ys[j2]? =some y:=⟨ys[j2]'(by omega),List.getElem?_eq_getElem (by omega)⟩
     have hsum:=HS.out (j2+1)
     rw [Zn _ _ _ _ hy,HM.out] at hsum
     have HSUM:=Ql4 (Zn (fun y:Value×Nat×List Value=>y.2.1) _ _ _ hy)
     have HFL:=Ql4 (Ju (fun y:Value×Nat×List Value=>y.2.2) _ _ _ hy)
     obtain ⟨c0,hsl,h1⟩:=HC.out j2 y hy
     have c0':=Qq HB.out c0
     obtain ⟨v3,w3,hrun,hown3,hg3⟩:=HAP.out wr _ _ _ HO.out y (hsl.below HB.out) h1 (by omega) HB.out.size 39
     have HR:=Ql4 hrun
     have HO3:=Ql4 hown3
     have HB3:=Ql4 (HB.out.grown hg3 HB.out.size (fun k hk=>(HO.out.lt k hk).1))
     obtain ⟨A3,c3,e3⟩:=Qk hown3
     subst e3
     clear hy hln hsum hsl h1 c0 hrun hown3 hg3
     go_wp2_with (at_builtin;refine Lib.wpList_append_run _ rfl _ _ _ _ rfl _ _ rfl rfl _ _ HR.out ?_)
     have hmeas:j - (intOf (.int .i64 ((j2:Int)+1))).toNat < j - (intOf (.int .i64 (j2:Int))).toNat:=by simp [intOf];omega
     refine ⟨⟨j2+1,nn+y.2.1,A3,c3,?_,?_,rfl,?_,?_,?_⟩,hmeas⟩
     ·omega
     ·go_num
     ·show _=_;rw [HSUM.out,HM.out]
     ·rw [HFL.out];with_reducible exact HO3
     ·with_reducible exact HB3
    ·obtain rfl:j2=j:=by omega
     go_wp2_with fail
     go_ret
     have hfull:ys.take j2=ys:=by rw [←HN.out];exact List.take_length
     rw [hfull] at HO HM
     refine ⟨_,rfl,?_,HB.out⟩
     have hs1:=HM.out
     rw [←HS2.out,hs1]
     exact HO.out
set_option maxHeartbeats 4000000 in
set_option maxRecDepth 100000 in
theorem Qcv (n:Nat) (v:Value) (xs:List Value) (w:World) (h:SlAt w v n 1 xs) (hn:n≤100000000) (h1:∀u∈xs,u.oneCell'=true):
  Calls Tryz.prog 66 #[v] w fun e w'=>∃v',e= .returned v'∧w'.ownsRow w.heap.size 3 1 v' n xs∧Below w.heap.size w w':=by
 have hq:=fun (w:World) (a:Option Addr) (n c n' c':Nat)=>Lib.run_eql_slice_nil (P:=Tryz.prog) w 39 3 a n c n' c' Tryz.underlying39
 obtain ⟨i0,hi0,hz0,hz1,hz2⟩:=info_parts Dy
 have h':=h
 obtain ⟨hl,⟨rfl,rfl⟩|⟨g,o,c,rfl,hc⟩⟩:=h'
 ·obtain rfl:xs=[]:=List.eq_nil_of_length_eq_zero (by simpa using hl)
  clear h hl h1 hi0 hz0 hz1 hz2
  go_enter Tryz.func66,Tryz.ntmps66
  go_wp2_with fail
  go_ret
  exact ⟨_,rfl,⟨rfl,.inl ⟨rfl,rfl⟩⟩,Below.refl _ _⟩
 ·obtain ⟨v3,w3,hrun,hown3,hg3⟩:=Cq (P:=Tryz.prog) (w.alloc (.cells #[] 3)) w.heap.size 39 39 3 i0 _ 1 8 Tryz.underlying39 hi0 hz0 hz1 hz2 rfl (by omega) _ 0 [] (World.ownsRow_made w #[] 0 (Nat.le_refl _) (Nat.zero_le _) (by simp)) _ n xs (h.below ((Below.refl _ _).alloc (Nat.le_refl _) _)) h1 (by omega) (by omega) (by simp)
  have HR:=Ql4 hrun
  have HO3:Hid (w3.ownsRow w.heap.size 3 1 v3 n xs):=by show World.ownsRow _ _ _ _ _ _ _;simpa using hown3
  have HB3:Hid (Below w.heap.size w w3):=((Below.refl _ _).alloc (Nat.le_refl _) _).grown hg3 (by simp) (fun k hk=>by simp [Value.ownBlock] at hk;omega)
  clear h hl h1 hc hrun hown3 hg3 hi0 hz0 hz1 hz2
  go_enter Tryz.func66,Tryz.ntmps66
  go_wp2_with (at_builtin;refine Lib.wpList_append_run _ rfl _ _ _ _ rfl _ _ rfl rfl _ _ HR.out ?_)
  go_ret
  exact ⟨_,rfl,HO3.out,HB3.out⟩
end vo
namespace tr
open Go.RowKit er
theorem Qe8 (a b:Int):(a == b)=decide (a=b):=by
 by_cases h:a=b <;> simp [h]
theorem Qel (e:Ext) (p:Nat) (s:Int) (w:World) (h:Qf e=true) (hs:-9223372036854775808≤s) (hs2:s≤9223372036854775807) (hp:w.cell? ⟨p,0,none⟩=some (.int .i64 s)):Calls Tryz.prog 261 #[e.val,.pointer (some ⟨p,0,none⟩)] w fun x w'=>x= .returned (.bool (hasB s e))∧Below w.heap.size w w':=by
 obtain ⟨k1,k2,k3,k4⟩:=Qy h
 obtain ⟨f,n,k,t⟩:=e
 simp only at k1 k2 k3
 show Calls Tryz.prog 261 #[.agg #[.int .i64 f,.int .i64 n,.int .i64 k,.int .i64 t],_] w _
 have hbl:=(Below.refl w.heap.size w).alloc (Nat.le_refl _) (.cells #[.int .i64 f,.int .i64 n,.int .i64 k,.int .i64 t] 255)
 have hp2:=Qq hbl hp
 have HB:=Ql4 hbl
 clear hbl h k4
 by_cases h1:f≤s
 ·have hw:wrap64 (s - f)=s - f:=by unfold wrap64;omega
  have HR:Hid (hasB s ⟨f,n,k,t⟩=decide (s - f < n)):=by show _=_;unfold hasB;simp [h1]
  go_enter Tryz.func261,Tryz.ntmps261
  go_wp2_with fail
  go_ret
  exact ⟨by rw [HR.out];rfl,HB.out⟩
 ·have HR:Hid (hasB s ⟨f,n,k,t⟩=false):=by show _=_;unfold hasB;simp [h1]
  go_enter Tryz.func261,Tryz.ntmps261
  go_wp2_with fail
  go_ret
  exact ⟨by rw [HR.out];rfl,HB.out⟩
theorem Qd9 (e:Ext) (w:World):Calls Tryz.prog 311 #[e.val] w fun x w'=>x= .returned (.bool (decide (2048≤e.at_)))∧Below w.heap.size w w':=by
 obtain ⟨f,n,k,t⟩:=e
 show Calls Tryz.prog 311 #[.agg #[.int .i64 f,.int .i64 n,.int .i64 k,.int .i64 t]] w _
 have HB:=Ql4 ((Below.refl w.heap.size w).alloc (Nat.le_refl _) (.cells #[.int .i64 f,.int .i64 n,.int .i64 k,.int .i64 t] 255))
 go_enter Tryz.func311,Tryz.ntmps311
 go_wp2_with fail
 go_ret
 exact ⟨rfl,HB.out⟩
def Gi (p:Ext→Bool) (l:List Ext):Int:=match l.findIdx? p with|some i=>i|none=> -1
theorem V4 {p:Ext→Bool} {l:List Ext} {j:Nat} {e:Ext} (h:l[j]? =some e) (hp:p e=true) (hn:∀i x,i < j→l[i]? =some x→p x=false):Gi p l=j:=by
 have hj:=(List.getElem?_eq_some_iff.1 h).1
 have:l.findIdx? p=some j:=by
  rw [List.findIdx?_eq_some_iff_getElem]
  refine ⟨hj,?_,fun i hi=>?_⟩
  ·rw [List.getElem?_eq_getElem hj] at h;injection h with h;rw [h];exact hp
  ·have:=hn i _ hi (List.getElem?_eq_getElem (by omega))
   simpa using this
 unfold Gi
 rw [this]
theorem Nv {p:Ext→Bool} {l:List Ext} (hn:∀i x,i < l.length→l[i]? =some x→p x=false):Gi p l= -1:=by
 have:l.findIdx? p=none:=by
  rw [List.findIdx?_eq_none_iff]
  intro x hx
  obtain ⟨i,hi,rfl⟩:=List.mem_iff_getElem.1 hx
  exact hn i _ hi (List.getElem?_eq_getElem hi)
 unfold Gi
 rw [this]
theorem V5 (p:Ext→Bool) (l:List Ext):decide (0≤Gi p l)=l.any p:=by
 unfold Gi
 cases h:l.findIdx? p with
 |none=>
  rw [List.findIdx?_eq_none_iff] at h
  have:l.any p=false:=by rw [List.any_eq_false];intro x hx;rw [h x hx];simp
  rw [this];rfl
 |some i=>
  obtain ⟨hi,h1,h2⟩:=List.findIdx?_eq_some_iff_getElem.1 h
  have:l.any p=true:=List.any_eq_true.2 ⟨_,List.getElem_mem hi,h1⟩
  rw [this]
  simp
set_option maxHeartbeats 4000000 in
set_option maxRecDepth 100000 in
theorem V6 (p:Ext→Bool) (g:Nat) (lb:Array Value) (l:List Ext) (v:Value) (w:World) (eg:∀args w,(callFunc g args).run Tryz.prog w= .ok (.enter g args) w) (h:ExtsAt w v l) (hl:l.length≤100000000)
  (hp:∀e wq,e∈l→Below w.heap.size w wq→Calls Tryz.prog g (#[e.val]++lb) wq fun x w'=>x= .returned (.bool (p e))∧Below wq.heap.size wq w'):
  Calls Tryz.prog 260 #[v,.func (.func g) #[] lb] w fun x w'=>x= .returned (.int .i64 (Gi p l))∧Below w.heap.size w w':=by
 obtain ⟨A,c,rfl,hc⟩:=h
 have HC:=Ql4 hc
 have HP:=Ql4 hp
 obtain ⟨n,hn⟩:∃n,l.length=n:=⟨_,rfl⟩
 rw [hn] at hl
 have HN:=Ql4 hn
 rw [hn]
 clear hc hn hp
 go_enter Tryz.func260,Tryz.ntmps260
 go_wp2_with fail
 go_loopw [5,8] (fun s5 i wr=>∃(j:Nat),j≤n∧i= .int .i64 j∧Hid (∀i x,i < j→l[i]? =some x→p x=false)∧Hid (Below w.heap.size w wr)) (fun _ i _=>n - (intOf i).toNat)
 case atStart=>exact ⟨0,Nat.zero_le _,rfl,fun i x hi=>by omega,Below.refl _ _⟩
 case round=>
  obtain ⟨j,hj,rfl,HM,HB⟩:=hrel
  by_cases hlt:j < n
  ·have hji:(j:Int) < (n:Int):=by omega
   have hln:=HN.out
   obtain ⟨g2,o,rfl,hcc⟩:=HC.out (by omega)
   obtain ⟨e,hx⟩:∃e,l[j]? =some e:=⟨l[j]'(by omega),List.getElem?_eq_getElem (by omega)⟩
   obtain ⟨c0,c1,c2,c3⟩:=(hcc j e hx).below HB.out
   have HX:=Ql4 hx
   have HCL:=Ql4 (HP.out e wr (List.mem_of_getElem? hx) HB.out)
   cases hpe:p e
   ·have HM2:Hid (∀i x,i < j+1→l[i]? =some x→p x=false):=by
     show ∀i x,i < j+1→l[i]? =some x→p x=false
     intro i x hi hxi
     by_cases h2:i < j
     ·exact HM.out i x h2 hxi
     ·obtain rfl:i=j:=by omega
      rw [HX.out] at hxi;injection hxi with hxi;rw [←hxi];exact hpe
    rw [hpe] at HCL
    obtain ⟨f,en,k,t⟩:=e
    simp only at c0 c1 c2 c3
    simp only [Ext.val] at HCL
    clear hcc hx hln hpe
    go_wp2_with fail
    refine (HCL.out).mono ?_
    rintro e w5 ⟨rfl,hb5⟩
    have HB5:=Ql4 hb5
    clear hb5
    go_wp2_with fail
    go_roundw
    case rel=>exact ⟨j+1,by omega,by go_num,HM2,HB.out.trans (HB5.out.mono HB.out.size)⟩
    case measure=>simp [intOf];omega
   ·have HI:Hid (Gi p l=j):=V4 HX.out hpe HM.out
    rw [hpe] at HCL
    obtain ⟨f,en,k,t⟩:=e
    simp only at c0 c1 c2 c3
    simp only [Ext.val] at HCL
    clear hcc hx hln hpe
    go_wp2_with fail
    refine (HCL.out).mono ?_
    rintro e w5 ⟨rfl,hb5⟩
    have HB5:=Ql4 hb5
    clear hb5
    go_wp2_with fail
    go_ret
    exact ⟨by rw [HI.out];rfl,HB.out.trans (HB5.out.mono HB.out.size)⟩
  ·obtain rfl:j=n:=by omega
   have HI:Hid (Gi p l= -1):=Nv (fun i x hi=>HM.out i x (by have:=HN.out;omega))
   go_wp2_with fail
   go_ret
   exact ⟨by rw [HI.out];rfl,HB.out⟩
theorem Qi6 (p:Ext→Bool) (g:Nat) (lb:Array Value) (l:List Ext) (v:Value) (w:World) (eg:∀args w,(callFunc g args).run Tryz.prog w= .ok (.enter g args) w) (h:ExtsAt w v l) (hl:l.length≤100000000)
  (hp:∀e wq,e∈l→Below w.heap.size w wq→Calls Tryz.prog g (#[e.val]++lb) wq fun x w'=>x= .returned (.bool (p e))∧Below wq.heap.size wq w'):
  Calls Tryz.prog 310 #[v,.func (.func g) #[] lb] w fun x w'=>x= .returned (.bool (l.any p))∧Below w.heap.size w w':=by
 have HI:=Ql4 (V6 p g lb l v w eg h hl hp)
 have HA:=Ql4 (V5 p l)
 obtain ⟨z,hz⟩:∃z,Gi p l=z:=⟨_,rfl⟩
 rw [hz] at HI HA
 clear h hp eg hz
 go_enter Tryz.func310,Tryz.ntmps310
 go_wp2_with fail
 refine (HI.out).mono ?_
 rintro e w5 ⟨rfl,hb5⟩
 have HB5:=Ql4 hb5
 clear hb5
 go_wp2_with fail
 go_ret
 exact ⟨by rw [←HA.out];rfl,HB5.out⟩
theorem Qid (p:Ext→Bool) (l:List Ext):(Gi p l= -1∧l.find? p=none)∨∃(j:Nat) (e:Ext),Gi p l=j∧l[j]? =some e∧l.find? p=some e∧p e=true:=by
 unfold Gi
 cases h:l.findIdx? p with
 |none=>
  rw [List.findIdx?_eq_none_iff] at h
  exact .inl ⟨rfl,List.find?_eq_none.2 (fun x hx=>by rw [h x hx];simp)⟩
 |some j=>
  rw [List.findIdx?_eq_some_iff_getElem] at h
  obtain ⟨hj,h1,h2⟩:=h
  refine .inr ⟨j,l[j],rfl,List.getElem?_eq_getElem hj,?_,h1⟩
  rw [List.find?_eq_some_iff_getElem]
  exact ⟨h1,j,hj,rfl,fun i hi=>by have:=h2 i hi;simpa using this⟩
set_option maxHeartbeats 4000000 in
set_option maxRecDepth 100000 in
theorem Qub (l:List Ext) (v:Value) (s:Int) (w:World) (h:ExtsAt w v l) (h1:∀e∈l,Qf e=true) (hl:l.length≤16777216) (hs:-9223372036854775808≤s) (hs2:s≤9223372036854775807):
  Calls Tryz.prog 210 #[v,.int .i64 s] w fun x w'=>x= .returned (.tuple #[.int .i64 (Zp l s).1,.int .i64 (Zp l s).2])∧Below w.heap.size w w':=by
 obtain ⟨w1,hw1⟩:∃w1,w.alloc (.cells #[.int .i64 s] 3)=w1:=⟨_,rfl⟩
 have b1:Whole w1 w.heap.size 3 #[.int .i64 s]:=by rw [←hw1];exact Whole.new _ _ _
 have hb1:Below w.heap.size w w1:=by rw [←hw1];exact (Below.refl _ _).alloc (Nat.le_refl _) _
 have c0:w1.cell? ⟨w.heap.size,0,none⟩=some (.int .i64 s):=b1.cell 0
 have HIX:Hid (Calls Tryz.prog 260 #[v,.func (.func 261) #[] #[.pointer (some ⟨w.heap.size,0,none⟩)]] w1 fun x w'=>x= .returned (.int .i64 (Gi (hasB s) l))∧Below w.heap.size w w'∧w'.cell? ⟨w.heap.size,0,none⟩=some (.int .i64 s)):=by
  refine (V6 (hasB s) 261 #[.pointer (some ⟨w.heap.size,0,none⟩)] l v w1 (fun _ _=>by kernel_rfl) (h.below hb1) (by omega) (fun e wq he hb=>Qel e w.heap.size s wq (h1 e he) hs hs2 (Qq hb c0))).mono ?_
  rintro x w' ⟨rfl,hb⟩
  exact ⟨rfl,Qa hb1 hb,Qq hb c0⟩
 have HIF:=Qid (hasB s) l
 obtain ⟨A,c,rfl,hc⟩:=h
 have hfl:Zp l s=sayOf s (l.find? (hasB s)):=rfl
 rw [hfl]
 rcases HIF with ⟨e1,e2⟩|⟨j,e,e1,e2,e3,e4⟩
 ·rw [e1] at HIX
  rw [e2]
  have HZ:Hid ((sayOf s none).1=0∧(sayOf s none).2=0):=⟨rfl,rfl⟩
  rw [HZ.out.1,HZ.out.2]
  clear e1 e2 hfl hc h1 hb1 b1
  go_enter Tryz.func210,Tryz.ntmps210
  go_wp2_with fail
  with_reducible refine HIX.out.mono ?_
  rintro x w5 ⟨rfl,hb5,d0⟩
  have HB5:=Ql4 hb5
  clear hb5 c0
  go_wp2_with fail
  refine bodyPost_ret (v:= .tuple #[.int .i64 0,.int .i64 0]) (by simp [results,Tryz.results210,go_sem]) rfl ?_
  exact ⟨rfl,HB5.out⟩
 ·rw [e1] at HIX
  rw [e3]
  have hj:=(List.getElem?_eq_some_iff.1 e2).1
  have hjl:(j:Int) < (l.length:Int):=by omega
  have hj0:¬(j:Int) < 0:=by omega
  have hj00:(0:Int)≤(j:Int):=by omega
  have hsp:=Qy (h1 e (List.mem_of_getElem? e2))
  have hhas:e.fr≤s∧s - e.fr < e.n:=by unfold hasB at e4;simpa using e4
  obtain ⟨g,o,rfl,hcc⟩:=hc (by omega)
  have HCE:Hid (∀wq,Below w.heap.size w wq→ExtAt wq g (o+j * 4) e):=fun wq hb=>(hcc j e e2).below hb
  have hsay:sayOf s (some e)=(e.kind,if e.kind=2 then e.at_+s - e.fr else 0):=rfl
  rw [hsay]
  obtain ⟨f,en,k,t⟩:=e
  simp only at hsp hhas
  obtain ⟨n,hn⟩:∃n,l.length=n:=⟨_,rfl⟩
  rw [hn] at hjl hl HIX ⊢
  have hli:(n:Int)≤16777216:=by omega
  by_cases hk:k=2
  ·have hw1':IntKind.i64.wrap (t+s)=t+s:=by rw [IntKind.wrap_i64];obtain ⟨q1,q2,q3,q4⟩:=hsp;have:=q4;simp [hk] at this;omega
   have hw2':IntKind.i64.wrap (t+s - f)=t+s - f:=by rw [IntKind.wrap_i64];obtain ⟨q1,q2,q3,q4⟩:=hsp;have:=q4;simp [hk] at this;omega
   simp only [hk,if_true]
   subst hk
   clear e1 e2 e3 e4 hfl hc h1 hb1 b1 hsp hhas hcc hsay hn hj
   go_enter Tryz.func210,Tryz.ntmps210
   go_wp2_with fail
   with_reducible refine HIX.out.mono ?_
   rintro x w5 ⟨rfl,hb5,d0⟩
   have HB5:=Ql4 hb5
   clear c0
   obtain ⟨x0,x1,x2,x3⟩:=HCE.out _ hb5
   simp only at x0 x1 x2 x3
   clear hb5
   go_wp2_with fail
   go_quiet (fail)
   generalize hwq:World.drewN _ _=wq
   have HB6:Hid (Below w.heap.size w wq):=by show Below _ _ _;rw [←hwq];exact below_drewN HB5.out _
   clear hwq
   go_wp2_with fail
   refine bodyPost_ret (v:= .tuple #[.int .i64 2,.int .i64 (t+s - f)]) (by simp [results,Tryz.results210,go_sem]) rfl ?_
   exact ⟨rfl,HB6.out⟩
  ·have hk2:(k != 2)=true:=by simpa using hk
   simp only [hk,if_false]
   clear e1 e2 e3 e4 hfl hc h1 hb1 b1 hsp hhas hcc hsay hn hj hk
   go_enter Tryz.func210,Tryz.ntmps210
   go_wp2_with fail
   with_reducible refine HIX.out.mono ?_
   rintro x w5 ⟨rfl,hb5,d0⟩
   have HB5:=Ql4 hb5
   clear c0
   obtain ⟨x0,x1,x2,x3⟩:=HCE.out _ hb5
   simp only at x0 x1 x2 x3
   clear hb5
   go_wp2_with fail
   refine bodyPost_ret (v:= .tuple #[.int .i64 k,.int .i64 0]) (by simp [results,Tryz.results210,go_sem]) rfl ?_
   exact ⟨rfl,HB5.out⟩
set_option maxHeartbeats 4000000 in
set_option maxRecDepth 100000 in
theorem Qib (y:Ext) (l:List Ext) (v:Value) (w:World) (h:ExtsAt w v l) (hl:l.length≤100000000):
  Calls Tryz.prog 303 #[v,y.val] w fun x w'=>x= .returned (.int .i64 (Gi (fun x=>decide (y=x)) l))∧Below w.heap.size w w':=by
 obtain ⟨A,c,rfl,hc⟩:=h
 have HC:=Ql4 hc
 obtain ⟨n,hn⟩:∃n,l.length=n:=⟨_,rfl⟩
 rw [hn] at hl
 have HN:=Ql4 hn
 rw [hn]
 obtain ⟨p,hp⟩:∃p:Ext→Bool,(fun x=>decide (y=x))=p:=⟨_,rfl⟩
 have HP:Hid (∀x,p x=decide (y=x)):=fun x=>by rw [←hp]
 rw [hp]
 clear hp hc hn
 obtain ⟨f',n',k',t'⟩:=y
 have hgt:=Qil
 have HB1:=Ql4 ((Below.refl w.heap.size w).alloc (Nat.le_refl _) (.cells #[.int .i64 f',.int .i64 n',.int .i64 k',.int .i64 t'] 255))
 have hy0:=Whole.new w 255 #[.int .i64 f',.int .i64 n',.int .i64 k',.int .i64 t']
 have HY:Hid (∀wr,Below (w.heap.size+1) (w.alloc (.cells #[.int .i64 f',.int .i64 n',.int .i64 k',.int .i64 t'] 255)) wr→w.heap.size < wr.heap.size∧Below w.heap.size w wr∧wr.cell? ⟨w.heap.size,0,none⟩=some (.int .i64 f')∧wr.cell? ⟨w.heap.size,1,none⟩=some (.int .i64 n')∧wr.cell? ⟨w.heap.size,2,none⟩=some (.int .i64 k')∧wr.cell? ⟨w.heap.size,3,none⟩=some (.int .i64 t')):=fun wr hb=>by
  have h1:=hy0.below hb (by omega)
  exact ⟨h1.lt,HB1.out.trans (hb.mono (by omega)),h1.cell 0,h1.cell 1,h1.cell 2,h1.cell 3⟩
 clear hy0
 show Calls Tryz.prog 303 #[.slice A n c,.agg #[.int .i64 f',.int .i64 n',.int .i64 k',.int .i64 t']] w _
 go_enter Tryz.func303,Tryz.ntmps303
 go_wp2_with fail
 go_loopw [5,8] (fun s5 i wr=>∃(j:Nat),j≤n∧i= .int .i64 j∧Hid (∀i x,i < j→l[i]? =some x→p x=false)∧Hid (Below (w.heap.size+1) (w.alloc (.cells #[.int .i64 f',.int .i64 n',.int .i64 k',.int .i64 t'] 255)) wr)) (fun _ i _=>n - (intOf i).toNat)
 case atStart=>exact ⟨0,Nat.zero_le _,rfl,fun i x hi=>by omega,Below.refl _ _⟩
 case round=>
  obtain ⟨j,hj,rfl,HM,HB⟩:=hrel
  by_cases hlt:j < n
  ·have hji:(j:Int) < (n:Int):=by omega
   have hj0:(0:Int)≤(j:Int):=by omega
   have hln:=HN.out
   obtain ⟨g2,o,rfl,hcc⟩:=HC.out (by omega)
   obtain ⟨e,hx⟩:∃e,l[j]? =some e:=⟨l[j]'(by omega),List.getElem?_eq_getElem (by omega)⟩
   obtain ⟨hlt2,hbw,y0,y1,y2,y3⟩:=HY.out wr HB.out
   obtain ⟨c0,c1,c2,c3⟩:=(hcc j e hx).below hbw
   have HX:=Ql4 hx
   have HBW:=Ql4 hbw
   have HPE:=Ql4 (HP.out e)
   cases hpe:p e
   ·have HM2:Hid (∀i x,i < j+1→l[i]? =some x→p x=false):=by
     show ∀i x,i < j+1→l[i]? =some x→p x=false
     intro i x hi hxi
     by_cases h2:i < j
     ·exact HM.out i x h2 hxi
     ·obtain rfl:i=j:=by omega
      rw [HX.out] at hxi;injection hxi with hxi;rw [←hxi];exact hpe
    have hd:decide ((⟨f',n',k',t'⟩:Ext)=e)=false:=by rw [←HPE.out];exact hpe
    obtain ⟨f,en,k,t⟩:=e
    simp only at c0 c1 c2 c3
    have heq:∀w,(binOp .eql 255 (.agg #[.int .i64 f',.int .i64 n',.int .i64 k',.int .i64 t']) (.agg #[.int .i64 f,.int .i64 en,.int .i64 k,.int .i64 t])).run Tryz.prog w= .ok (.bool false) w:=fun w=>by rw [Qkg,hd]
    clear hcc hx hln hpe hbw hd
    go_wp2_with fail
    go_quiet (fail)
    go_wp2_with fail
    go_roundw
    case rel=>exact ⟨j+1,by omega,by go_num,HM2,below_drewN HB.out _⟩
    case measure=>simp [intOf];omega
   ·have HI:Hid (Gi p l=j):=V4 HX.out hpe HM.out
    have hd:decide ((⟨f',n',k',t'⟩:Ext)=e)=true:=by rw [←HPE.out];exact hpe
    obtain ⟨f,en,k,t⟩:=e
    simp only at c0 c1 c2 c3
    have heq:∀w,(binOp .eql 255 (.agg #[.int .i64 f',.int .i64 n',.int .i64 k',.int .i64 t']) (.agg #[.int .i64 f,.int .i64 en,.int .i64 k,.int .i64 t])).run Tryz.prog w= .ok (.bool true) w:=fun w=>by rw [Qkg,hd]
    clear hcc hx hln hpe hbw hd
    go_wp2_with fail
    go_quiet (fail)
    go_wp2_with fail
    go_ret
    exact ⟨by rw [HI.out];rfl,below_drewN HBW.out _⟩
  ·obtain rfl:j=n:=by omega
   have HI:Hid (Gi p l= -1):=Nv (fun i x hi=>HM.out i x (by have:=HN.out;omega))
   have HBW:=Ql4 (HY.out wr HB.out).2.1
   go_wp2_with fail
   go_ret
   exact ⟨by rw [HI.out];rfl,HBW.out⟩
theorem Qi7 (y:Ext) (l:List Ext) (v:Value) (w:World) (h:ExtsAt w v l) (hl:l.length≤100000000):
  Calls Tryz.prog 271 #[v,y.val] w fun x w'=>x= .returned (.bool (decide (y∈l)))∧Below w.heap.size w w':=by
 have HB1:=(Below.refl w.heap.size w).alloc (Nat.le_refl _) (.cells #[.int .i64 y.fr,.int .i64 y.n,.int .i64 y.kind,.int .i64 y.at_] 255)
 have HI:=Ql4 (Qib y l v _ (h.below HB1) hl)
 have HA:=Ql4 (V5 (fun x=>decide (y=x)) l)
 have HA2:Hid (l.any (fun x=>decide (y=x))=decide (y∈l)):=by
  show _=_
  rw [Bool.eq_iff_iff]
  simp [List.any_eq_true]
 obtain ⟨z,hz⟩:∃z,Gi (fun x=>decide (y=x)) l=z:=⟨_,rfl⟩
 rw [hz] at HI HA
 have HBH:=Ql4 HB1
 obtain ⟨f',n',k',t'⟩:=y
 simp only [Ext.val] at HI
 simp only at HBH
 clear HB1 h hl hz
 show Calls Tryz.prog 271 #[v,.agg #[.int .i64 f',.int .i64 n',.int .i64 k',.int .i64 t']] w _
 go_enter Tryz.func271,Tryz.ntmps271
 go_wp2_with fail
 with_reducible refine (HI.out).mono ?_
 rintro e w5 ⟨rfl,hb5⟩
 have HB5:=Ql4 hb5
 clear hb5
 go_wp2_with fail
 go_ret
 exact ⟨by rw [←HA2.out,←HA.out];rfl,Qa HBH.out HB5.out⟩
end tr
end Go.Proofs.YtfialjmemcobjaaGreatDoor
