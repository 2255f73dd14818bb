/- A part of the proof. -/
import Derived.Test.YtfialjmemcobjaaGreatDoorPrVoI
import Derived.Test.YtfialjmemcobjaaGreatDoorPrVoR
set_option linter.unusedVariables false
set_option linter.unusedSimpArgs false
namespace Go.Proofs.YtfialjmemcobjaaGreatDoor
namespace vo
open Go.RowKit Go.Maps er st tr nd pg
set_option maxRecDepth 100000
set_option maxHeartbeats 8000000
abbrev Dt:ByteArray:=⟨(List.replicate 32 (0:UInt8)).toArray⟩
def Gu (s:Sto) (T:Tree) (i:Int):ByteArray:=if (Zp T.flat i).1=2 then (Qx s.n (Zp T.flat i).2).1.body else Dt
theorem Qx8 (w:World) (v:Nat) (c:Pt) (X:XL) (V:Vo) (x:Sp×Bl) (i:Int) (h:VoIn w v c X V) (hx:x∈X) (hi:I64 i) (hr:(Zp x.1.tr.flat i).1=2→(Qx V.s.n (Zp x.1.tr.flat i).2).2=0) (ht:∀a,(V.s.n.read a).2.size≤70368744177664):
  Calls Tryz.prog 75 #[.pointer (some ⟨v,0,none⟩),.int .i64 x.1.id,.int .i64 i] w fun e w'=>e= .returned (.tuple #[.string (Gu V.s x.1.tr i),.nilIface])∧Below w.heap.size w w':=by
 have c0:=h.obj.cell 0
 have c2:=h.obj.cell 2
 simp [Qi] at c0 c2
 obtain ⟨t1,t2,t3⟩:=h.tre x hx
 have HF:=Ql4 (Qx0 w x.2.F x.2.p x.1.tr i t1 t2 t3 hi.1 hi.2)
 have hlk:=h.lookT hx
 have HS:Hid (Gu V.s x.1.tr i=if (Zp x.1.tr.flat i).1=2 then (Qx V.s.n (Zp x.1.tr.flat i).2).1.body else Dt):=rfl
 obtain ⟨⟨k,a⟩,hka⟩:∃ka,Zp x.1.tr.flat i=ka:=⟨_,rfl⟩
 rw [hka] at HF HS hr
 simp only at HF HS hr
 obtain ⟨R,hR⟩:∃R,Gu V.s x.1.tr i=R:=⟨_,rfl⟩
 rw [hR] at HS ⊢
 have HRD:Hid (∀W,Below w.heap.size w W→Calls Tryz.prog 148 #[.pointer (some ⟨c.q,0,none⟩),.int .i64 a] W fun e w'=>∃u,e= .returned (.tuple #[(Qx V.s.n a).1.val,u])∧Below W.heap.size W w'∧Yt w' (fun _=>False) [(Tm,a)] (Qx V.s.n a).2 u):=fun W hb=>Ev W _ _ _ _ _ _ a (h.below hb).sto (h.below hb).laid (ht a)
 have HV0:Hid (∀W,Below w.heap.size w W→W.cell? ⟨v,0,none⟩=some (.pointer (some ⟨c.q,0,none⟩))):=fun W hb=>Qq hb c0
 clear h hx t1 t2 t3 hR hka ht
 go_enter Tryz.func75,Tryz.ntmps75
 go_wp2_with fail
 with_reducible refine HF.out.mono ?_
 rintro e w1 ⟨rfl,hb1⟩
 have HB1:=Ql4 hb1
 clear hb1
 by_cases hk:k=2
 ·subst hk
  have hr0:=hr rfl
  have d0:=HV0.out _ HB1.out
  have HR2:Hid (R=(Qx V.s.n a).1.body):=by show _=_;rw [HS.out,if_pos rfl]
  obtain ⟨pg,hpg⟩:∃pg,(Qx V.s.n a).1=pg:=⟨_,rfl⟩
  rw [hpg,hr0] at HRD
  rw [hpg] at HR2
  obtain ⟨p0,p1,p2,p3,p4⟩:=pg
  clear hr hr0 hpg HS
  go_wp2_with fail
  refine (HRD.out _ HB1.out).mono ?_
  rintro e w2 ⟨u,rfl,hb2,hu⟩
  have HB2:Hid (Below w.heap.size w w2):=HB1.out.trans (hb2.mono HB1.out.size)
  obtain rfl:u= .nilIface:=by simpa [Yt] using hu
  clear hu hb2
  have HPV:Hid (Page.val ⟨p0,p1,p2,p3,p4⟩= .agg #[.int .i64 p0,.int .i64 p1,.int .i64 p2,.int .i64 p3,.string p4]):=rfl
  rw [HPV.out]
  go_wp2_with fail
  refine bodyPost_ret (v:= .tuple #[.string R,.nilIface]) (by simp [results,Tryz.results75,go_sem,HR2.out]) rfl ⟨rfl,?_⟩
  exact HB2.out.alloc HB2.out.size _
 ·have hk1:(k == 2)=false:=by simpa using hk
  have HR2:Hid (R=Dt):=by show _=_;rw [HS.out,if_neg hk]
  clear hr HS
  go_wp2_with fail
  refine (Tryz.repeat32 _).mono ?_
  rintro e w2 ⟨rfl,hb2⟩
  have HB2:Hid (Below w.heap.size w w2):=HB1.out.trans (hb2.mono HB1.out.size)
  clear hb2
  obtain ⟨Z,hZ⟩:∃Z,(⟨(List.replicate 32 (0:UInt8)).toArray⟩:ByteArray)=Z:=⟨_,rfl⟩
  rw [hZ]
  have HZ:Hid (R=Z):=by show _=_;rw [HR2.out,←hZ]
  clear hZ HR2
  go_wp2_with fail
  refine bodyPost_ret (v:= .tuple #[.string R,.nilIface]) (by simp [results,Tryz.results75,go_sem,HZ.out]) rfl ⟨rfl,HB2.out⟩
end vo
namespace vo
open Go.RowKit Go.Maps er st tr nd pg
set_option maxRecDepth 100000
set_option maxHeartbeats 8000000
def Y7 (s:Sto) (T:Tree) (f:Int) (n:Nat):List UInt8:=(List.range n).flatMap fun k=>(Gu s T (f+(k:Nat))).data.toList
theorem Um (s:Sto) (T:Tree) (f:Int) (n:Nat):Y7 s T f (n+1)=Y7 s T f n++(Gu s T (f+n)).data.toList:=by
 unfold Y7
 rw [List.range_succ,List.flatMap_append]
 simp
theorem Qgg (w:World) (v:Nat) (c:Pt) (X:XL) (V:Vo) (x:Sp×Bl) (f:Int) (n:Nat) (h:VoIn w v c X V) (hx:x∈X) (hf:0≤f) (h1:1≤n) (h8:n≤8) (hfn:f+n≤x.1.size) (hr:∀k:Nat,k < n→(Zp x.1.tr.flat (f+k)).1=2→(Qx V.s.n (Zp x.1.tr.flat (f+k)).2).2=0) (ht:∀a,(V.s.n.read a).2.size≤70368744177664) (h32:∀k:Nat,k < n→(Gu V.s x.1.tr (f+k)).size=32):
  Calls Tryz.prog 24 #[.pointer (some ⟨v,0,none⟩),.int .i64 x.1.id,.int .i64 f,.int .i64 n] w fun e w'=>e= .returned (.tuple #[.string ⟨(Y7 V.s x.1.tr f n).toArray⟩,.nilIface])∧Below w.heap.size w w':=by
 have ha:=h.acc hx
 have HW:Hid (Calls Tryz.prog 74 #[.pointer (some ⟨v,0,none⟩),.int .i64 x.1.id,.int .i64 f,.int .i64 n,.bool true] w fun e w'=>e= .returned .nilIface∧Below w.heap.size w w'):=by
  have:=Ew w v c X V x f n true h hx (by unfold I64;omega) (by unfold I64;omega)
  rw [show Ay x.1.size f n true=0 by unfold Ay;rw [if_neg (by simp;omega),if_neg (by omega)]] at this
  exact this
 have HS:Hid (∀W (k:Nat),Below w.heap.size w W→k < n→Calls Tryz.prog 75 #[.pointer (some ⟨v,0,none⟩),.int .i64 x.1.id,.int .i64 (f+k)] W fun e w'=>e= .returned (.tuple #[.string (Gu V.s x.1.tr (f+k)),.nilIface])∧Below W.heap.size W w'):=fun W k hb hk=>Qx8 W v c X V x (f+k) (h.below hb) hx (by unfold I64;omega) (hr k hk) ht
 have HL:Hid (∀k,k≤n→(Y7 V.s x.1.tr f k).length≤32 * k):=by
  intro k
  induction k with
  |zero=>intro _;simp [Y7]
  |succ k ih=>
   intro hk
   have h2:=ih (by omega)
   have h3:(Gu V.s x.1.tr (f+k)).data.toList.length=32:=h32 k (by omega)
   rw [Um,List.length_append]
   omega
 have H32:Hid (∀k:Nat,k < n→(Gu V.s x.1.tr (f+k)).size=32):=h32
 have HRS:Hid (∀k,Y7 V.s x.1.tr f (k+1)=Y7 V.s x.1.tr f k++(Gu V.s x.1.tr (f+k)).data.toList):=fun k=>Um _ _ _ k
 have HR0:Hid (Y7 V.s x.1.tr f 0=[]):=rfl
 obtain ⟨R,hR⟩:∃R,Y7 V.s x.1.tr f=R:=⟨_,rfl⟩
 obtain ⟨S,hS⟩:∃S:Nat→ByteArray,(fun k:Nat=>Gu V.s x.1.tr (f+k))=S:=⟨_,rfl⟩
 have hSk:∀k:Nat,Gu V.s x.1.tr (f+k)=S k:=fun k=>congrFun hS k
 simp only [hSk] at HS H32 HRS
 rw [hR] at HL HRS HR0 ⊢
 have hni:(n:Int)≤8:=by omega
 have hfh:f+n≤16777216:=by omega
 clear h hx hr ht h32 hR hS hSk ha hfn
 go_enter Tryz.func24,Tryz.ntmps24
 go_wp2_with fail
 with_reducible refine HW.out.mono ?_
 rintro e w1 ⟨rfl,hb1⟩
 have HB1:=Ql4 hb1
 clear hb1
 go_wp2_with fail
 go_loopw [28] (fun i wr=>∃j:Nat,j≤n∧i= .int .i64 j∧Hid (Lib.IsBuilder 129 5 w1.heap.size w1.heap.size (Lib.byteCells (R j)) wr)∧Hid (Below w1.heap.size w1 wr)) (fun i _=>n - (intOf i).toNat)
 case atStart=>exact ⟨0,Nat.zero_le _,rfl,by rw [HR0.out];exact Lib.fresh_isBuilder _ _ w1,(Below.refl _ _).alloc (Nat.le_refl _) _⟩
 case round=>
  obtain ⟨j,hj,rfl,HB,HBEL⟩:=hrel
  by_cases hlt:j < n
  ·have hji:(j:Int) < (n:Int):=by omega
   have hj0:(0:Int)≤(j:Int):=Int.natCast_nonneg _
   have HBW:Hid (Below w.heap.size w wr):=HB1.out.trans (HBEL.out.mono HB1.out.size)
   have HSJ:=Ql4 (HS.out wr j HBW.out hlt)
   have HSZ:Hid ((Lib.byteCells (R j)).length+(S j).size≤140737488355328):=by
    show _≤_
    have h1:=HL.out j (by omega)
    have h2:=H32.out j hlt
    rw [Lib.byteCells_length]
    omega
   have HCE:Hid (Lib.byteCells (R (j+1))=Lib.byteCells (R j)++Lib.strCells (S j)):=by
    show _=_
    rw [HRS.out]
    simp [Lib.byteCells,Lib.strCells]
   obtain ⟨sj,hsj⟩:∃s,S j=s:=⟨_,rfl⟩
   rw [hsj] at HSJ HSZ HCE
   clear hsj
   go_wp2_with fail
   with_reducible refine HSJ.out.mono ?_
   rintro e w2 ⟨rfl,hb2⟩
   have HB2:=Ql4 (Ie HB.out hb2)
   have HBEL2:=Ql4 (HBEL.out.trans (hb2.mono HBEL.out.size))
   clear hb2
   go_wp2_with fail
   refine (Tryz.Builder_WriteString _ _ _ _ _ HB2.out HSZ.out (by have:=HBEL2.out.size;omega)).mono ?_
   rintro e w3 ⟨rfl,hb3,hbel3⟩
   have HB3:Hid (Lib.IsBuilder 129 5 w1.heap.size w1.heap.size (Lib.byteCells (R (j+1))) w3):=by
    show Lib.IsBuilder _ _ _ _ _ _
    rw [HCE.out]
    exact .inr hb3
   have HBEL3:=Ql4 (HBEL2.out.trans hbel3)
   clear hb3 hbel3
   go_wp2_with fail
   go_roundw
   case rel=>exact ⟨j+1,by omega,by go_num,HB3,HBEL3⟩
   case measure=>simp [intOf];omega
  ·obtain rfl:j=n:=by omega
   go_wp2_with fail
   refine (Tryz.Builder_String_any _ _ _ _ HB.out HBEL.out.size).mono ?_
   rintro e w2 ⟨rfl,hb2⟩
   have HBF:=Ql4 (HB1.out.trans ((HBEL.out.trans hb2).mono HB1.out.size))
   clear hb2
   go_wp2_with fail
   refine bodyPost_ret (v:= .tuple #[.string ⟨(R j).toArray⟩,.nilIface]) (by simp [results,Tryz.results24,go_sem]) rfl ⟨rfl,HBF.out⟩
end vo
namespace vo
open Go.RowKit Go.Maps er st tr nd pg
set_option maxRecDepth 100000
set_option maxHeartbeats 8000000
def Iu:Pg→Int
 |.leaf (e::_)=>e.fr
 |.inner (k::_)=>k.key
 |_=>0
theorem O9:{h:Nat}→(m:Nd h)→Qb m=Iu (pgN m)
 |0,m=>by cases hl:m.l <;> simp [Qb,pgN,Iu,hl]
 |h+1,m=>by cases hl:m.ks <;> simp [Qb,pgN,Iu,Xr,hl]
def Ap (id:Int) (pg:Pg):Page:=⟨G7 pg,id,Iu pg,0,Fh pg⟩
def Pi (f:Nat) (id:Int) (s:Sto) (pg:Pg) (a:Int) (s':Sto):Prop:=Ja f s (Ap id pg)=some (s',a,0)
def Qfb (q:Nat) (sv vv:Value) (f:Nat) (id:Int) (s s':Sto) (y:Value) (w:World):Prop:=∃(h:Nat) (m:Nd h) (a er:Int) (N:Nat→Prop),Qqy m∧er≠0∧Ja f s (Ap id (pgN m))=some (s',a,er)∧Yt w (foot q sv vv N) [(Iq,Iu (pgN m))] er y
structure StAt (q p:Nat) (sv vv:Value) (v:Nat) (cs:Array Value) (b1 b2:Nat) (id:Int) (o:Option Obj) (N:Nat→Prop) (s:Sto) (w:World):Prop where
 sto:StoIn w q p sv vv N s
 laid:LaidT w
 obj:Whole w v 115 cs
 o1:Whole w b1 24 #[.pointer (some ⟨v,0,none⟩)]
 o2:Whole w b2 3 #[.int .i64 id]
 n0:¬foot q sv vv N 0
 nv:¬foot q sv vv N v
 n1:¬foot q sv vv N b1
 n2:¬foot q sv vv N b2
 hz:w.heap[0]? =o
def StG (q:Nat) (sv vv:Value) (v b1 b2:Nat) (N:Nat→Prop):Nat→Prop:=fun k=>foot q sv vv N k∨k=v∨k=b1∨k=b2∨k=0
def Qfc (q p:Nat) (sv vv:Value) (v:Nat) (cs:Array Value) (b1 b2:Nat) (id:Int) (o:Option Obj) (s:Sto) (G:Nat→Prop) (w:World):Prop:=∃N,G=StG q sv vv v b1 b2 N∧StAt q p sv vv v cs b1 b2 id o N s w
section
variable {q p:Nat} {sv vv:Value} {v:Nat} {cs:Array Value} {b1 b2:Nat} {id:Int} {o:Option Obj} {N:Nat→Prop} {s:Sto} {w:World}
theorem StAt.keep {Y:Nat→Prop} {w':World} (h:StAt q p sv vv v cs b1 b2 id o N s w) (hk:Keep Y w w') (hd:∀k,StG q sv vv v b1 b2 N k→¬Y k):StAt q p sv vv v cs b1 b2 id o N s w':=
 ⟨h.sto.keep hk (fun k hf=>hd k (.inl hf)),hk.cell h.laid (hd 0 (.inr (.inr (.inr (.inr rfl))))),h.obj.keep hk (hd _ (.inr (.inl rfl))),h.o1.keep hk (hd _ (.inr (.inr (.inl rfl)))),h.o2.keep hk (hd _ (.inr (.inr (.inr (.inl rfl))))),h.n0,h.nv,h.n1,h.n2,(hk.block 0 h.laid.lt (hd 0 (.inr (.inr (.inr (.inr rfl)))))).trans h.hz⟩
theorem StAt.lt (h:StAt q p sv vv v cs b1 b2 id o N s w):∀k,StG q sv vv v b1 b2 N k→k < w.heap.size:=by
 rintro k (hk|rfl|rfl|rfl|rfl)
 ·exact h.sto.lt k hk
 ·exact h.obj.lt
 ·exact h.o1.lt
 ·exact h.o2.lt
 ·exact h.laid.lt
theorem Wz {w':World} {N':Nat→Prop} (hm:Moved w q sv vv N w' N'):∀k,foot q sv vv N' k→foot q sv vv N k∨w.heap.size≤k:=by
 rintro k (hk|hk|hk|hk)
 ·exact .inl (.inl hk)
 ·exact .inl (.inr (.inl hk))
 ·exact .inl (.inr (.inr (.inl hk)))
 ·exact (hm.sub k hk).imp (fun e=>.inr (.inr (.inr e))) id
theorem StAt.moved {w':World} {N':Nat→Prop} {s':Sto} (h:StAt q p sv vv v cs b1 b2 id o N s w) (hs:StoIn w' q p sv vv N' s') (hm:Moved w q sv vv N w' N'):StAt q p sv vv v cs b1 b2 id o N' s' w':=by
 have hn:∀k,k < w.heap.size→¬foot q sv vv N k→¬foot q sv vv N' k:=fun k hk hf hf'=>(Wz hm k hf').elim hf (fun h=>by omega)
 exact ⟨hs,hm.keep.cell h.laid h.n0,h.obj.keep hm.keep h.nv,h.o1.keep hm.keep h.n1,h.o2.keep hm.keep h.n2,hn _ h.laid.lt h.n0,hn _ h.obj.lt h.nv,hn _ h.o1.lt h.n1,hn _ h.o2.lt h.n2,(hm.keep.block 0 h.laid.lt h.n0).trans h.hz⟩
theorem Qg4 {w':World} {N':Nat→Prop} (hm:Moved w q sv vv N w' N'):Mv (StG q sv vv v b1 b2 N) w (StG q sv vv v b1 b2 N') w':=
 ⟨hm.keep.mono (fun k _ hk=>.inl hk),fun k hk=>hk.elim (fun hk=>(Wz hm k hk).imp .inl id) (fun hk=>.inl (.inr hk))⟩
end
theorem Qzk (w:World) (q p:Nat) (sv vv:Value) (v:Nat) (cs:Array Value) (b1 b2:Nat) (id:Int) (o:Option Obj) (N:Nat→Prop) (s:Sto) (k key:Int) (b:ByteArray) (f:Nat) (r:Sto×Int×Int) (h:StAt q p sv vv v cs b1 b2 id o N s w) (hcs:cs[0]? =some (.pointer (some ⟨q,0,none⟩))) (hr:Ja f s ⟨k,id,key,0,b⟩=some r) (ho:s.n.ops+f≤1000000000000000000) (hq:s.seq≤281474976710655):
  Calls Tryz.prog 205 #[.int .i64 k,.int .i64 key,.string b,.pointer (some ⟨b1,0,none⟩),.pointer (some ⟨b2,0,none⟩)] w fun e w'=>∃u N',e= .returned (.tuple #[.int .i64 r.2.1,u])∧StAt q p sv vv v cs b1 b2 id o N' r.1 w'∧Moved w q sv vv N w' N'∧Yt w' (foot q sv vv N') [(Iq,key)] r.2.2 u:=by
 have c0:=(h.obj.cell 0).trans hcs
 have d1:=h.o1.cell 0
 have d2:=h.o2.cell 0
 simp at d1 d2
 have HA:Hid (∀W,Below w.heap.size w W→Calls Tryz.prog 145 #[.pointer (some ⟨q,0,none⟩),.agg #[.int .i64 k,.int .i64 id,.int .i64 key,.int .i64 0,.string b]] W fun e w'=>∃u,e= .returned (.tuple #[.int .i64 r.2.1,u])∧(w'.cell? ⟨b1,0,none⟩=some (.pointer (some ⟨v,0,none⟩))∧w'.cell? ⟨v,0,none⟩=some (.pointer (some ⟨q,0,none⟩))∧w'.cell? ⟨b2,0,none⟩=some (.int .i64 id))∧∃N',StAt q p sv vv v cs b1 b2 id o N' r.1 w'∧Moved w q sv vv N w' N'∧Yt w' (foot q sv vv N') [(Iq,key)] r.2.2 u):=by
  intro W hb
  have hW:=h.keep (Y:=fun _=>False) (Keep.below hb) (fun _ _ h=>h)
  refine (Lb W q p sv vv N s ⟨k,id,key,0,b⟩ f r hW.sto hW.laid hW.n0 hr ho hq).mono ?_
  rintro e w' ⟨u,N',rfl,hs,hm,he⟩
  have hW2:=hW.moved hs hm
  have hbm:Moved w q sv vv N W N:=Moved.below hb
  exact ⟨u,rfl,⟨hW2.o1.cell 0,(hW2.obj.cell 0).trans hcs,hW2.o2.cell 0⟩,N',hW2,hbm.trans hm,he⟩
 have HK:Hid (∀W,Below w.heap.size w W→W.cell? ⟨b1,0,none⟩=some (.pointer (some ⟨v,0,none⟩))∧W.cell? ⟨v,0,none⟩=some (.pointer (some ⟨q,0,none⟩))∧W.cell? ⟨b2,0,none⟩=some (.int .i64 id)):=fun W hb=>⟨Qq hb d1,Qq hb c0,Qq hb d2⟩
 clear h hr hcs
 obtain ⟨r0,r1,r2⟩:=r
 simp only at HA ⊢
 go_enter Tryz.func205,Tryz.ntmps205
 go_wp2_with fail
 go_region_held3 (fun w'=>w'.cell? ⟨b1,0,none⟩=some (.pointer (some ⟨v,0,none⟩))∧w'.cell? ⟨v,0,none⟩=some (.pointer (some ⟨q,0,none⟩))∧w'.cell? ⟨b2,0,none⟩=some (.int .i64 id)) (first|with_reducible exact HC3.out|with_reducible exact HK.out _ (Below.refl _ _)|with_reducible exact HK.out _ (Below.refl _ _).drew) ((go_at_call 145;refine (HA.out _ (Below.refl _ _).drew).mono ?_;rintro e w3 ⟨u,rfl,hc3,N',hp3,hm3,he3⟩;have HC3:=Ql4 hc3;have HP3:=Ql4 hp3;have HM3:=Ql4 hm3;have HE3:=Ql4 he3;clear hc3 hp3 hm3 he3))
 go_wp2_with fail
 refine bodyPost_ret (v:= .tuple #[.int .i64 r1,u]) (by simp [results,Tryz.results205,go_sem]) rfl ⟨u,N',rfl,HP3.out,HM3.out,HE3.out⟩
def Le (f:Nat) (id:Int) (Z:List Int) (M:Nat) (s0:Sto):Prop:=∀l s (h:Nat) (m:Nd h),Qqy m→Run (Pi f id) s0 l s→l.length < M→∃r,Ja f s (Ap id (pgN m))=some r∧s.n.ops+f≤1000000000000000000∧s.seq≤281474976710655∧(r.2.2=0→(0≤r.2.1∧r.2.1 < 2048)∧r.2.1∉Z∧r.2.1∉l.map (·.2))
theorem Qb0 (q p:Nat) (sv vv:Value) (v:Nat) (cs:Array Value) (b1 b2:Nat) (id:Int) (o:Option Obj) (f:Nat) (Z:List Int) (M:Nat) (s0:Sto) (hcs:cs[0]? =some (.pointer (some ⟨q,0,none⟩))) (hcan:Le f id Z M s0):
  Snk 205 #[] #[.pointer (some ⟨b1,0,none⟩),.pointer (some ⟨b2,0,none⟩)] (Pi f id) (Qfb q sv vv f id) (Qfc q p sv vv v cs b1 b2 id o) Z M s0 where
 eg:=fun _ _=>by kernel_rfl
 keep:=by
  rintro s G w Y w' ⟨N,rfl,h⟩ hk hd
  exact ⟨N,rfl,h.keep hk hd⟩
 lt:=by
  rintro s G w ⟨N,rfl,h⟩
  exact h.lt
 put:=by
  rintro l s G w h m hrun hl hpo _ _ _ ⟨N,rfl,hb⟩
  obtain ⟨r,hr,ho,hq,hz⟩:=hcan l s h m hpo hrun hl
  have hr':Ja f s ⟨G7 (pgN m),id,Qb m,0,Fh (pgN m)⟩=some r:=by rw [O9];exact hr
  refine (Qzk w q p sv vv v cs b1 b2 id o N s _ _ _ f r hb hcs hr' ho hq).mono ?_
  rintro e w' ⟨u,N',rfl,h1,h2,h3⟩
  by_cases hc:r.2.2=0
  ·rcases h3 with ⟨_,rfl⟩|⟨h3,_⟩
   ·obtain ⟨z1,z2,z3⟩:=hz hc
    refine .inl ⟨r.2.1,r.1,_,rfl,?_,z1,z2,z3,⟨N',rfl,h1⟩,Qg4 h2⟩
    show Ja f s (Ap id (pgN m))=_
    rw [hr,←hc]
   ·exact absurd hc h3
  ·have h3':=h3
   rcases h3 with ⟨h3,_⟩|⟨_,bs,he,hbs⟩
   ·exact absurd h3 hc
   ·obtain ⟨et,ex,rfl⟩:=he.iface
    refine .inr ⟨_,et,ex,r.1,_,rfl,⟨h,m,r.2.1,r.2.2,N',hpo,hc,hr,?_⟩,⟨N',rfl,h1⟩,Qg4 h2⟩
    rw [←O9]
    exact h3'
theorem F4 {id:Int} {h:Nat} {m:Nd h} (hm:Qqy m) (h0:0≤id) (h1:id≤65535):Zj {Ap id (pgN m) with seq:=0}=true:=by
 have key:0≤Iu (pgN m)∧Iu (pgN m)≤16777216:=by
  cases h with
  |zero=>
   obtain ⟨q1,q2,_⟩:=hm
   cases hl:m.l with
   |nil=>rw [hl] at q2;simp at q2
   |cons e l=>
    have ho:=Qy (q1.one e (by rw [hl];simp))
    simp only [pgN,Iu,hl]
    omega
  |succ h=>
   obtain ⟨_,q2,_,q4⟩:=hm
   cases hl:Xr m with
   |nil=>
    have:(Xr m).length=m.ks.length:=by unfold Xr;simp
    rw [hl] at this
    simp at this
    omega
   |cons e l=>
    have ho:=q4.each e (by rw [hl];simp)
    simp only [Og,Bool.and_eq_true,decide_eq_true_eq] at ho
    simp only [pgN,Iu,hl]
    omega
 have size:(Fh (pgN m)).size≤100∧1≤G7 (pgN m)∧G7 (pgN m)≤4:=by
  cases h with
  |zero=>
   obtain ⟨_,_,q3⟩:=hm
   refine ⟨?_,by show (1:Int)≤2;omega,by show (2:Int)≤4;omega⟩
   show (Ky m.l).toArray.size≤100
   unfold Ky
   have:=Ta m.l
   simp only [List.size_toArray,List.length_cons]
   omega
  |succ h=>
   obtain ⟨_,_,q3,_⟩:=hm
   have:(Xr m).length=m.ks.length:=by unfold Xr;simp
   refine ⟨?_,by show (1:Int)≤3;omega,by show (3:Int)≤4;omega⟩
   show (Xi (Xr m)).toArray.size≤100
   unfold Xi
   have:=Me (Xr m)
   simp only [List.size_toArray,List.length_cons]
   omega
 show Zj ⟨G7 (pgN m),id,Iu (pgN m),0,Fh (pgN m)⟩=true
 simp only [Zj,inB,Bool.and_eq_true,decide_eq_true_eq]
 obtain ⟨a1,a2,a3⟩:=size
 omega
end vo
namespace vo
open Go.RowKit Go.Maps er st tr nd pg
set_option maxRecDepth 100000
theorem Sq (X:XL) (id:Int) (T T':Tree) (F F':List Nat):Qc (Qc X id T F) id T' F'=Qc X id T' F':=by
 unfold Qc
 rw [List.map_map]
 refine List.map_congr_left fun y hy=>?_
 by_cases h:y.1.id=id <;> simp [h]
theorem Dk {g:Sp×Bl→Sp×Bl}:∀{A:XL},(∀y∈A,g y=y)→A.map g=A
 |[],_=>rfl
 |a::A,h=>by rw [List.map_cons,h a (by simp),Dk (fun y hy=>h y (by simp [hy]))]
theorem Qxu {A B:XL} {x:Sp×Bl} {T:Tree} {F:List Nat} (hp:(A++x::B).Pairwise fun a b=>a.1.id < b.1.id):Qc (A++x::B) x.1.id T F=A++({x.1 with tr:=T},{x.2 with F:=F})::B:=by
 obtain ⟨_,h2,h3⟩:=List.pairwise_append.1 hp
 obtain ⟨h4,_⟩:=List.pairwise_cons.1 h2
 unfold Qc
 rw [List.map_append,List.map_cons,if_pos rfl,Dk (A:=A) (fun y hy=>if_neg (by have:=h3 y hy x (by simp);omega)),Dk (A:=B) (fun y hy=>if_neg (by have:=h4 y hy;omega))]
theorem Cb {X:XL} {x:Sp×Bl} (hup:X.Pairwise fun a b=>a.1.id < b.1.id) (hx:x∈X):Qc X x.1.id x.1.tr x.2.F=X:=by
 unfold Qc
 refine Dk fun y hy=>?_
 by_cases h:y.1.id=x.1.id
 ·obtain rfl:=Us hup hy hx h
  simp
 ·rw [if_neg h]
theorem Qg9 {X:XL} {x:Sp×Bl} {T:Tree} (hup:X.Pairwise fun a b=>a.1.id < b.1.id) (hx:x∈X):(Qc X x.1.id T x.2.F).map (·.2)=X.map (·.2):=by
 unfold Qc
 rw [List.map_map]
 refine List.map_congr_left fun y hy=>?_
 by_cases h:y.1.id=x.1.id
 ·have:=Us hup hy hx h
  subst this
  simp
 ·simp [h]
theorem Ww (X:XL):Zd X=(X.map (·.2)).flatMap fun b=>b.a::b.F:=by unfold Zd;rw [List.flatMap_map]
theorem R8 {v:Nat} {c:Pt} {X:XL} {x:Sp×Bl} {T:Tree} (hup:X.Pairwise fun a b=>a.1.id < b.1.id) (hx:x∈X):Dl v c (Qc X x.1.id T x.2.F)=Dl v c X:=by
 unfold Dl
 rw [Ww,Qg9 hup hx,←Ww]
section
variable {w:World} {v:Nat} {c:Pt} {X:XL} {V:Vo}
theorem VoIn.apart {x:Sp×Bl} (h:VoIn w v c X V) (hx:x∈X):(∀y∈X,¬y.2.a∈x.2.F)∧(∀y∈X,y.1.id≠x.1.id→∀k∈y.2.F,¬k∈x.2.F)∧(∀k,(k=v∨k=c.lb∨k=c.mb∨k=c.tb∨k∈Kh c.lv)→¬k∈x.2.F):=by
 have hup:=h.up
 have hnd:=h.nd
 have hxb:∀k∈x.2.F,k∈Zd X:=fun k hk=>List.mem_flatMap.2 ⟨x,hx,by simp [hk]⟩
 unfold Dl at hnd
 simp only [List.nodup_cons,List.mem_cons,List.mem_append,not_or] at hnd
 obtain ⟨⟨n1,n2,n3,n4,n5⟩,⟨n6,n7,n8,n9⟩,⟨n10,n11,n12⟩,⟨n13,n14⟩,n15⟩:=hnd
 obtain ⟨m1,m2,m3⟩:=List.nodup_append.1 n15
 unfold Zd at m2
 obtain ⟨p1,p2⟩:=List.pairwise_flatMap.1 m2
 refine ⟨?_,?_,?_⟩
 ·intro y hy hk
  by_cases he:y.1.id=x.1.id
  ·obtain rfl:=Us hup hy hx he
   exact (List.nodup_cons.1 (p1 y hy)).1 hk
  ·obtain ⟨i,hi,hxi⟩:=List.getElem_of_mem hx
   obtain ⟨j,hj,hyj⟩:=List.getElem_of_mem hy
   have hp:=List.pairwise_iff_getElem.1 p2
   have hij:i≠j:=fun e=>by subst e;exact he (by rw [←hxi,←hyj])
   rcases Nat.lt_or_ge i j with hl|hg
   ·have:=hp i j hi hj hl
    rw [hxi,hyj] at this
    exact this y.2.a (by simp [hk]) y.2.a (by simp) rfl
   ·have:=hp j i hj hi (by omega)
    rw [hxi,hyj] at this
    exact this y.2.a (by simp) y.2.a (by simp [hk]) rfl
 ·intro y hy he k hk hkx
  obtain ⟨i,hi,hxi⟩:=List.getElem_of_mem hx
  obtain ⟨j,hj,hyj⟩:=List.getElem_of_mem hy
  have hp:=List.pairwise_iff_getElem.1 p2
  have hij:i≠j:=fun e=>by subst e;exact he (by rw [←hxi,←hyj])
  rcases Nat.lt_or_ge i j with hl|hg
  ·have:=hp i j hi hj hl
   rw [hxi,hyj] at this
   exact this k (by simp [hkx]) k (by simp [hk]) rfl
  ·have:=hp j i hj hi (by omega)
   rw [hxi,hyj] at this
   exact this k (by simp [hk]) k (by simp [hkx]) rfl
 ·intro k hk e
  have hb:=hxb k e
  rcases hk with rfl|rfl|rfl|rfl|hk
  ·exact n5 hb
  ·exact n9 hb
  ·exact n12 hb
  ·exact n14 hb
  ·exact m3 _ hk _ hb rfl
theorem VoIn.vne (h:VoIn w v c X V):∀k∈c.lb::c.mb::c.tb::(Kh c.lv++Zd X),k≠v:=fun k hk e=>(List.nodup_cons.1 h.nd).1 (e▸hk)
theorem VoIn.written {w':World} {x:Sp×Bl} {T:Tree} {N' G:Nat→Prop} {s':Sto} (h:VoIn w v c X V) (hx:x∈X) (ht:TrAt w' x.2.F x.2.p T) (hok:T.Ok) (hc:Chk T.flat) (hs:StoIn w' c.q c.p c.sv c.vv N' s') (ho:Whole w' v 115 (Qi c V)) (hl:LaidT w') (hk:Keep G w w') (hG:∀k,k∈Dl v c X→G k→k∈x.2.F∨k=v) (hN:∀k,N' k→stF c k∨w.heap.size≤k):
  VoIn w' v {c with N:=N'} (Qc X x.1.id T x.2.F) {V with s:=s',l:=(Qc X x.1.id T x.2.F).map (·.1)}:=by
 obtain ⟨a1,a2,a3⟩:=h.apart hx
 have hvn:=h.vne
 have hlt:=h.lt
 have hup:=h.up
 have hfar:=h.far
 have hD:∀k,k∈Dl v c X→¬k∈x.2.F→k≠v→¬G k:=fun k h1 h2 h3 h4=>(hG k h1 h4).elim h2 h3
 have hN':∀k,k < w.heap.size→¬stF c k→¬stF {c with N:=N'} k:=fun k hk hf hf'=>by
  rcases hf' with e|e|e|e
  ·exact hf (.inl e)
  ·exact hf (.inr (.inl e))
  ·exact hf (.inr (.inr (.inl e)))
  ·rcases hN k e with e|e
   ·exact hf e
   ·omega
 have hmem:∀k,(k=c.lb∨k=c.mb∨k=c.tb∨k∈Kh c.lv)→¬G k:=fun k hk=>by
  have e1:k∈c.lb::c.mb::c.tb::(Kh c.lv++Zd X):=by
   simp only [List.mem_cons,List.mem_append]
   rcases hk with hk|hk|hk|hk
   ·exact .inl hk
   ·exact .inr (.inl hk)
   ·exact .inr (.inr (.inl hk))
   ·exact .inr (.inr (.inr (.inl hk)))
  exact hD k (List.mem_cons_of_mem _ e1) (a3 k (.inr hk)) (hvn k e1)
 have hacc:∀y∈X,¬G y.2.a:=fun y hy=>by
  have e1:y.2.a∈c.lb::c.mb::c.tb::(Kh c.lv++Zd X):=by
   simp only [List.mem_cons,List.mem_append]
   exact .inr (.inr (.inr (.inr (List.mem_flatMap.2 ⟨y,hy,by simp⟩))))
  exact hD _ (List.mem_cons_of_mem _ e1) (a1 y hy) (hvn _ e1)
 have htr:∀y∈X,y.1.id≠x.1.id→∀k∈y.2.F,¬G k:=fun y hy he k hk=>by
  have e1:k∈c.lb::c.mb::c.tb::(Kh c.lv++Zd X):=by
   simp only [List.mem_cons,List.mem_append]
   exact .inr (.inr (.inr (.inr (List.mem_flatMap.2 ⟨y,hy,by simp [hk]⟩))))
  exact hD _ (List.mem_cons_of_mem _ e1) (a2 y hy he k hk) (hvn _ e1)
 refine ⟨ho,hs,?_,?_,fun z hz=>?_,Qj h.lst hk (fun g hg=>hmem g (.inr (.inr (.inr (Jf.2 hg))))),rfl,?_,fun k hk=>?_,hN' 0 h.laid.lt h.zero,hl⟩
 ·rw [Pk]
  refine h.led.keep hk (fun k hk=>?_)
  rcases hk with rfl|rfl|⟨y,hy,rfl⟩
  ·exact hmem _ (.inl rfl)
  ·exact hmem _ (.inr (.inl rfl))
  ·obtain ⟨z,hz,rfl⟩:=List.mem_map.1 hy
   exact hacc z hz
 ·rw [Cn]
  exact h.trs.keep hk (hmem _ (.inr (.inr (.inl rfl))))
 ·obtain ⟨y,hy,⟨he,rfl⟩|⟨he,rfl⟩⟩:=Ol hz
  ·obtain rfl:=Us hup hy hx he
   exact ⟨ht,hok,hc⟩
  ·exact ⟨TrAt.keep (h.tre z hy).1 hk (htr z hy he),(h.tre z hy).2⟩
 ·show (Dl v c (Qc X x.1.id T x.2.F)).Nodup
  rw [R8 hup hx]
  exact h.nd
 ·have hk':k∈Dl v c X:=by
   rw [←R8 (T:=T) hup hx]
   exact hk
  exact ⟨hN' k (hlt k (.inr hk')) (hfar k hk').1,(hfar k hk').2⟩
end
def Wrt (f:Nat) (id:Int) (T:Tree) (s:Sto) (T':Tree) (s':Sto):Prop:=
 match T with
 |.no=>T'= .no∧s'=s
 |.top h n=>∃n',T'= .top h n'∧WrS (Pi f id) n s (ats n).length n' s'
def Qqh:Tree→Int
 |.no=> -1
 |.top _ n=>n.at_
theorem Qym {h:Nat} {n n':Nd h} (hs:strip n'=strip n) (ho:(Tree.top h n).Ok):(Tree.top h n').Ok:=by
 have h1:n'.size=n.size:=by rw [←X8,hs,X8]
 have h2:Kw n'↔Kw n:=by rw [←Gp,hs,Gp]
 cases h with
 |zero=>exact (show 1≤n'.size∧n'.size≤8 by rw [h1];exact ho)
 |succ h=>exact (show (2≤n'.size∧n'.size≤8)∧Kw n' by rw [h1,h2];exact ho)
theorem Wx {h:Nat} {n n':Nd h} (hs:strip n'=strip n):flat n'=flat n:=by rw [←X9,hs,X9]
end vo
namespace vo
open Go.RowKit Go.Maps er st tr nd pg
set_option maxRecDepth 100000
def Bt (f:Nat) (id:Int) (T:Tree) (s:Sto) (T':Tree) (s':Sto):Prop:=
 match T with
 |.no=>False
 |.top h n=>∃(n':Nd h) (j:Nat) (s1:Sto) (h2:Nat) (m:Nd h2) (a er:Int),T'= .top h n'∧WrS (Pi f id) n s j n' s1∧Qqy m∧er≠0∧Ja f s1 (Ap id (pgN m))=some (s',a,er)
def Qxx (f:Nat) (id:Int) (T:Tree) (s:Sto):Prop:=
 match T with
 |.no=>True
 |.top h n=>Le f id (nfs n) (frN n) s∧(nfs n).Nodup∧(∀a∈nfs n,0≤a∧a < 2048)∧Zc n≤16777216
abbrev vZ (v:Nat) (c:Pt) (X:XL):Nat→Prop:=vF v c X
def Qbm (f:Nat) (w:World) (v:Nat) (c:Pt) (X:XL) (V:Vo) (x:Sp×Bl) (b1 b2:Nat) (e:Ending) (w':World):Prop:=
 ∃T s' N',VoIn w' v {c with N:=N'} (Qc X x.1.id T x.2.F) {V with s:=s',l:=(Qc X x.1.id T x.2.F).map (·.1)}∧Mv (fun k=>vZ v c X k∨k=b1∨k=b2) w (vF v {c with N:=N'} (Qc X x.1.id T x.2.F)) w'∧
 ((e= .returned (.tuple #[.int .i64 (Qqh T),.nilIface])∧Wrt f x.1.id x.1.tr V.s T s')∨(∃et ex,e= .returned (.tuple #[.int .i64 (-1),.iface et ex])∧Bt f x.1.id x.1.tr V.s T s'))
theorem Quq {F:Nat→Prop} {w w':World} (hk:Keep (fun k=>F k∨k=0) w w') (hz:w'.heap[0]? =w.heap[0]?):Keep F w w':=⟨hk.os,hk.tape,hk.output,hk.size,fun k hl hn=>by
 by_cases h:k=0
 ·subst h;exact hz
 ·exact hk.block k hl (fun e=>e.elim hn h)⟩
theorem Qfo {w w':World} {v:Nat} {c:Pt} {X:XL} {x:Sp×Bl} {T:Tree} {b1 b2:Nat} {N':Nat→Prop} (hup:X.Pairwise fun a b=>a.1.id < b.1.id) (hx:x∈X) (hk:Keep (fun k=>k∈x.2.F∨StG c.q c.sv c.vv v b1 b2 c.N k) w w') (hz:w'.heap[0]? =w.heap[0]?) (hs:∀k,StG c.q c.sv c.vv v b1 b2 N' k→StG c.q c.sv c.vv v b1 b2 c.N k∨w.heap.size≤k) (hn:∀k,stF {c with N:=N'} k→k≠v∧k≠b1∧k≠b2∧k≠0):
  Mv (fun k=>vZ v c X k∨k=b1∨k=b2) w (vF v {c with N:=N'} (Qc X x.1.id T x.2.F)) w':=by
 refine ⟨Quq (hk.mono (fun k _ h=>?_)) hz,fun k hk=>?_⟩
 ·rcases h with h|h|rfl|rfl|rfl|rfl
  ·exact .inl (.inl (.inr (Uz hx h)))
  ·exact .inl (.inl (.inl h))
  ·exact .inl (.inl (.inr (by simp [Dl])))
  ·exact .inl (.inr (.inl rfl))
  ·exact .inl (.inr (.inr rfl))
  ·exact .inr rfl
 ·rcases hk with hk|hk
  ·obtain ⟨e1,e2,e3,e4⟩:=hn k hk
   rcases hs k (.inl hk) with (h|h|h|h|h)|h
   ·exact .inl (.inl (.inl h))
   ·exact absurd h e1
   ·exact absurd h e2
   ·exact absurd h e3
   ·exact absurd h e4
   ·exact .inr h
  ·refine .inl (.inl (.inr ?_))
   have hk':k∈Dl v c (Qc X x.1.id T x.2.F):=hk
   rw [R8 hup hx] at hk'
   exact hk'
set_option maxHeartbeats 4000000 in
theorem Qbr (w:World) (v:Nat) (c:Pt) (X:XL) (V:Vo) (x:Sp×Bl) (b1 b2 f:Nat) (h:VoIn w v c X V) (hx:x∈X) (h1:Whole w b1 24 #[.pointer (some ⟨v,0,none⟩)]) (h2:Whole w b2 3 #[.int .i64 x.1.id]) (n1:¬vF v c X b1) (n2:¬vF v c X b2) (hcan:Qxx f x.1.id x.1.tr V.s):
  Calls Tryz.prog 141 #[.pointer (some ⟨x.2.p,0,none⟩),.func (.func 205) #[] #[.pointer (some ⟨b1,0,none⟩),.pointer (some ⟨b2,0,none⟩)]] w (Qbm f w v c X V x b1 b2):=by
 obtain ⟨t1,t2,t3⟩:=h.tre x hx
 have hup:=h.up
 unfold Qbm
 cases hT:x.1.tr with
 |no=>
  rw [hT] at t1
  refine (Qxr w x.2.F x.2.p _ t1).mono ?_
  rintro e w' ⟨rfl,hb⟩
  have hX:Qc X x.1.id .no x.2.F=X:=by rw [←hT];exact Cb hup hx
  refine ⟨.no,V.s,c.N,?_,?_,.inl ⟨rfl,rfl,rfl⟩⟩
  ·rw [hX,h.spl]
   exact h.below hb
  ·rw [hX]
   exact ⟨(Keep.below hb),fun k hk=>.inl (.inl hk)⟩
 |top hh n=>
  rw [hT] at t1 t2 t3 hcan
  obtain ⟨k1,k2,k3,k4⟩:=hcan
  have hcs:(Qi c V)[0]? =some (.pointer (some ⟨c.q,0,none⟩)):=rfl
  have hsn:=Qb0 c.q c.p c.sv c.vv v (Qi c V) b1 b2 x.1.id (w.heap[0]?) f (nfs n) (frN n) V.s hcs k1
  have hfv:∀k∈Dl v c X,¬stF c k∧k≠0:=h.far
  have hat:StAt c.q c.p c.sv c.vv v (Qi c V) b1 b2 x.1.id (w.heap[0]?) c.N V.s w:=⟨h.sto,h.laid,h.obj,h1,h2,h.zero,(hfv v (by simp [Dl])).1,fun e=>n1 (.inl e),fun e=>n2 (.inl e),rfl⟩
  have hd:∀k∈x.2.F,¬StG c.q c.sv c.vv v b1 b2 c.N k:=by
   intro k hk hg
   have hkD:k∈Dl v c X:=Uz hx hk
   rcases hg with hg|rfl|rfl|rfl|rfl
   ·exact (hfv k hkD).1 hg
   ·exact (h.apart hx).2.2 k (.inl rfl) hk
   ·exact n1 (.inr hkD)
   ·exact n2 (.inr hkD)
   ·exact (hfv _ hkD).2 rfl
  have hG:∀k,k∈Dl v c X→(k∈x.2.F∨StG c.q c.sv c.vv v b1 b2 c.N k)→k∈x.2.F∨k=v:=by
   intro k hk hg
   rcases hg with hg|hg|rfl|rfl|rfl|rfl
   ·exact .inl hg
   ·exact absurd hg (hfv k hk).1
   ·exact .inr rfl
   ·exact absurd (.inr hk) n1
   ·exact absurd (.inr hk) n2
   ·exact absurd rfl (hfv _ hk).2
  have hend:∀{n':Nd hh} {s':Sto} {G':Nat→Prop} {w':World},strip n'=strip n→TrAt w' x.2.F x.2.p (.top hh n')→Qfc c.q c.p c.sv c.vv v (Qi c V) b1 b2 x.1.id (w.heap[0]?) s' G' w'→(∀k,G' k→StG c.q c.sv c.vv v b1 b2 c.N k∨w.heap.size≤k)→Keep (fun k=>k∈x.2.F∨StG c.q c.sv c.vv v b1 b2 c.N k) w w'→∃N',VoIn w' v {c with N:=N'} (Qc X x.1.id (.top hh n') x.2.F) {V with s:=s',l:=(Qc X x.1.id (.top hh n') x.2.F).map (·.1)}∧Mv (fun k=>vZ v c X k∨k=b1∨k=b2) w (vF v {c with N:=N'} (Qc X x.1.id (.top hh n') x.2.F)) w':=by
   rintro n' s' G' w' hst ht ⟨N',rfl,ha⟩ hs hk
   have hne:∀k,stF {c with N:=N'} k→k≠v∧k≠b1∧k≠b2∧k≠0:=fun k hk=>⟨fun e=>ha.nv (e▸hk),fun e=>ha.n1 (e▸hk),fun e=>ha.n2 (e▸hk),fun e=>ha.n0 (e▸hk)⟩
   refine ⟨N',h.written hx ht (Qym hst t2) (by show Chk (flat n');rw [Wx hst];exact t3) ha.sto ha.obj ha.laid hk hG (fun k hk=>?_),Qfo hup hx hk ha.hz hs hne⟩
   obtain ⟨e1,e2,e3,e4⟩:=hne k (.inr (.inr (.inr hk)))
   rcases hs k (.inl (.inr (.inr (.inr hk)))) with (h|h|h|h|h)|h
   ·exact .inl h
   ·exact absurd h e1
   ·exact absurd h e2
   ·exact absurd h e3
   ·exact absurd h e4
   ·exact .inr h
  refine (Qxe w x.2.F x.2.p hh n (StG c.q c.sv c.vv v b1 b2 c.N) V.s hsn t1 t2 t3 ⟨c.N,rfl,hat⟩ hd k2 k3 k4).mono ?_
  rintro e w' (⟨n',s,G',rfl,g1,g2,g3,g4,g5⟩|⟨n',j,s,s',G',b,fk,et,ex,w9,rfl,g1,g2,g3,g4,g5,g6,g7,g8,g9⟩)
  ·obtain ⟨N',q1,q2⟩:=hend g1.strip g2 g3 g4 g5
   exact ⟨.top hh n',s,N',q1,q2,.inl ⟨rfl,n',rfl,g1⟩⟩
  ·obtain ⟨N',q1,q2⟩:=hend g4.strip g6 g7 g8 g9
   obtain ⟨h2,m,a,er,N2,z0,z1,z2,z3⟩:=g2
   exact ⟨.top hh n',s',N',q1,q2,.inr ⟨_,_,rfl,n',j,s,h2,m,a,er,rfl,g4,z0,z1,z2⟩⟩
def U6 (f:Nat):XL→Sto→XL→Sto→Prop
 |[],s,Y,s'=>Y=[]∧s'=s
 |x::X,s,Y,s'=>∃T s1 Y',Y=({x.1 with tr:=T},x.2)::Y'∧Wrt f x.1.id x.1.tr s T s1∧U6 f X s1 Y' s'
theorem Lv {f:Nat}:∀{A:XL} {s s1 s2:Sto} {Y:XL} {x:Sp×Bl} {T:Tree},U6 f A s Y s1→Wrt f x.1.id x.1.tr s1 T s2→U6 f (A++[x]) s (Y++[({x.1 with tr:=T},x.2)]) s2
 |[],s,s1,s2,Y,x,T,h,h2=>by
  obtain ⟨rfl,rfl⟩:=h
  exact ⟨T,s2,[],rfl,h2,rfl,rfl⟩
 |a::A,s,s1,s2,Y,x,T,⟨T',u,Y',h1,h3,h4⟩,h2=>by
  subst h1
  exact ⟨T',u,_,rfl,h3,Lv h4 h2⟩
end vo
namespace vo
open Go.RowKit er tr
set_option maxRecDepth 100000
set_option maxHeartbeats 8000000
theorem Qkm (w:World) (F:List Nat) (p:Nat) (y:Ext) (vw vi:Value) (ht:TrAt w F p .no) (hw:ListBy w F vw []) (hi:ListBy w F vi [y]):
  Calls Tryz.prog 221 #[.pointer (some ⟨p,0,none⟩),vw,vi] w fun x w'=>x= .returned (.tuple #[])∧Oe w F p (Tree.no.put y) w':=by
 have HPN:Hid (∀W,Below w.heap.size w W→Calls Tryz.prog 273 #[.pointer (some ⟨p,0,none⟩),y.val] W fun x w'=>x= .returned (.tuple #[])∧Oe w F p (Tree.no.put y) w'):=fun W hb=>by
  refine (Qcq W F p y (ht.keep (Keep.below (F:=fun _=>False) hb) (fun _ _ h=>h))).mono ?_
  rintro x w' ⟨rfl,F',h1,h2⟩
  exact ⟨rfl,F',h1,(Mv.below hb).trans h2⟩
 have HCW:Hid (∀wr,Below w.heap.size w wr→Calls Tryz.prog 271 #[vw,y.val] wr fun x w'=>x= .returned (.bool false)∧Below wr.heap.size wr w'):=fun wr hb=>by
  have:=Qi7 y [] vw wr (hw.keep (Keep.below hb)) (by simp)
  rwa [show decide (y∈([]:List Ext))=false by simp] at this
 obtain ⟨Aw,cw,ew,_⟩:=hw.exts
 obtain ⟨Ai,ci,ei,hci⟩:=hi.exts
 have ew':vw= .slice Aw 0 cw:=ew
 have ei':vi= .slice Ai 1 ci:=ei
 clear ew ei
 subst ew' ei'
 obtain ⟨g,o,rfl,hcc⟩:=hci (by simp)
 obtain ⟨c0,c1,c2,c3⟩:=hcc 0 y rfl
 have HB0:Hid (Below w.heap.size w (w.alloc (.cells #[.int .i64 y.fr,.int .i64 y.n,.int .i64 y.kind,.int .i64 y.at_] 255))):=(Below.refl _ _).alloc (Nat.le_refl _) _
 have HWE:=Ql4 (Whole.new w 255 #[.int .i64 y.fr,.int .i64 y.n,.int .i64 y.kind,.int .i64 y.at_])
 obtain ⟨P,hP⟩:∃P,Oe w F p (Tree.no.put y)=P:=⟨_,rfl⟩
 rw [hP] at HPN ⊢
 clear hw hi ht hci hcc hP
 obtain ⟨f,en,k,t⟩:=y
 simp only [Nat.zero_mul,Nat.add_zero] at c0 c1 c2 c3
 simp only [Ext.val] at HPN HCW
 go_enter Tryz.func221,Tryz.ntmps221
 go_wp2_with fail
 go_loopw [7,12] (fun s7 i wr=>i= .int .i64 0∧wr=w) (fun _ _ _=>0)
 case atStart=>exact ⟨rfl,rfl⟩
 case round=>
  obtain ⟨rfl,rfl⟩:=hrel
  go_wp2_with fail
  obtain ⟨wo,hwo⟩:∃wo,wo=wr:=⟨_,rfl⟩
  subst hwo
  go_loopw [9,27] (fun s9 i wr=>(i= .int .i64 0∧wr=wo)∨(i= .int .i64 1∧Hid (P wr))) (fun _ i _=>1 - (intOf i).toNat)
  case atStart=>exact .inl ⟨rfl,rfl⟩
  case round=>
   rcases hrel with ⟨rfl,rfl⟩|⟨rfl,HP⟩
   ·go_wp2_with fail
    with_reducible refine (HCW.out _ HB0.out).mono ?_
    rintro e w5 ⟨rfl,hb5⟩
    have HP5:=Ql4 (HPN.out w5 (HB0.out.trans (hb5.mono HB0.out.size)))
    obtain ⟨⟨q0,q1,q2,q3⟩,_⟩:=Je (HWE.out.below hb5 (by simp))
    clear hb5
    go_wp2_with fail
    with_reducible refine HP5.out.mono ?_
    rintro e w6 ⟨rfl,hp6⟩
    have HP6:=Ql4 hp6
    clear hp6
    go_wp2_with fail
    go_roundw
    case rel=>exact .inr ⟨rfl,HP6⟩
    case measure=>simp [intOf]
   ·go_wp2_with fail
    go_end0
    exact ⟨rfl,HP.out⟩
theorem Qgf (w:World) (F:List Nat) (p:Nat) (y:Ext) (ht:TrAt w F p .no) (hy:Qf y=true) (ho:Vk [] y=[y]):
  Calls Tryz.prog 158 #[.pointer (some ⟨p,0,none⟩),y.val] w fun e w'=>e= .returned (.int .i64 0)∧Oe w F p (.top 0 (mkL (-1) [y])) w':=by
 have hsp:=Qy hy
 obtain ⟨z,hz⟩:∃z,y.end_=z:=⟨_,rfl⟩
 have hz2:y.fr+y.n=z:=hz
 have HON:Hid (∀wq,Calls Tryz.prog 223 #[y.val] wq fun x w'=>x= .returned (.bool true)∧Below wq.heap.size wq w'):=fun wq=>by have:=Pn y wq;rw [hy] at this;exact this
 have hb0:Below w.heap.size w (w.alloc (.cells #[.int .i64 y.fr,.int .i64 y.n,.int .i64 y.kind,.int .i64 y.at_] 255)):=(Below.refl _ _).alloc (Nat.le_refl _) _
 have hTW:∀wq,Below w.heap.size w wq→TrAt wq F p .no:=fun wq hb=>ht.keep (Keep.below (F:=fun _=>False) hb) (fun _ _ h=>h)
 have hFl:=ht.lt
 have HNR:Hid (∀wq,Below w.heap.size w wq→Calls Tryz.prog 220 #[.pointer (some ⟨p,0,none⟩),.int .i64 y.fr,.int .i64 (y.fr+y.n)] wq fun x w'=>∃v',x= .returned v'∧ListBy w' F v' []∧Below wq.heap.size wq w'):=by
  intro wq hb
  have h:=Vd wq F p .no y.fr (y.fr+y.n) (hTW wq hb) trivial Df (by omega) (by omega)
  exact h.mono fun x w' ⟨v',q1,q2,q3⟩=>⟨v',q1,F7 q2 (fun k hk=>Nat.lt_of_lt_of_le (hFl k hk) hb.size),q3⟩
 have HOV:Hid (∀wq v',Below w.heap.size w wq→ListBy wq F v' []→Calls Tryz.prog 224 #[v',y.val] wq fun e w'=>∃v2,e= .returned (.tuple #[v2,.int .i64 0])∧ListBy w' F v2 [y]∧ListBy w' F v' []∧Below wq.heap.size wq w'):=by
  intro wq v' hb hl
  have h:=Qyl [] v' y wq hl.exts (by simp) rfl hy
  rw [ho] at h
  exact h.mono fun e w' ⟨v2,q1,q2,q3⟩=>⟨v2,q1,F7 q2 (fun k hk=>Nat.lt_of_lt_of_le (hFl k hk) hb.size),P5 hl q3,q3⟩
 have HCH:Hid (∀wq v1 v2,Below w.heap.size w wq→ListBy wq F v1 []→ListBy wq F v2 [y]→Calls Tryz.prog 221 #[.pointer (some ⟨p,0,none⟩),v1,v2] wq fun x w'=>x= .returned (.tuple #[])∧Oe w F p (.top 0 (mkL (-1) [y])) w'):=by
  intro wq v1 v2 hb h1 h2
  refine (Qkm wq F p y v1 v2 (hTW wq hb) h1 h2).mono ?_
  rintro x w' ⟨rfl,F',k1,k2⟩
  exact ⟨rfl,F',k1,(Mv.below hb).trans k2⟩
 have hxc:=Whole.new w 255 #[.int .i64 y.fr,.int .i64 y.n,.int .i64 y.kind,.int .i64 y.at_]
 obtain ⟨f,en,k,t⟩:=y
 simp only [Ext.val] at HON HOV
 simp only at HNR hb0 hxc hsp
 have HX0:Hid (∀wq,Below (w.heap.size+1) (w.alloc (.cells #[.int .i64 f,.int .i64 en,.int .i64 k,.int .i64 t] 255)) wq→(wq.cell? ⟨w.heap.size,0,none⟩=some (.int .i64 f)∧wq.cell? ⟨w.heap.size,1,none⟩=some (.int .i64 en)∧wq.cell? ⟨w.heap.size,2,none⟩=some (.int .i64 k)∧wq.cell? ⟨w.heap.size,3,none⟩=some (.int .i64 t))∧Below w.heap.size w wq):=fun wq hb=>⟨(Je (hxc.below hb (by omega))).1,hb0.trans (hb.mono (by omega))⟩
 have HB1s:Hid (∀a b,Below (w.heap.size+1) (w.alloc (.cells #[.int .i64 f,.int .i64 en,.int .i64 k,.int .i64 t] 255)) a→Below a.heap.size a b→Below (w.heap.size+1) (w.alloc (.cells #[.int .i64 f,.int .i64 en,.int .i64 k,.int .i64 t] 255)) b):=fun a b h1 h2=>h1.trans (h2.mono (by have:=h1.size;simpa using this))
 have hwz:wrap64 (f+en)=f+en:=by unfold wrap64;omega
 obtain ⟨s1,s2,s3,s4⟩:=hsp
 clear s4 hFl hTW hz hz2 ht hy ho hxc hb0
 show Calls Tryz.prog 158 #[.pointer (some ⟨p,0,none⟩),.agg #[.int .i64 f,.int .i64 en,.int .i64 k,.int .i64 t]] w _
 go_enter Tryz.func158,Tryz.ntmps158
 go_wp2_with fail
 with_reducible refine (HON.out _).mono ?_
 rintro e w2 ⟨rfl,hb2⟩
 have HB2:=Ql4 (HB1s.out _ _ (Below.refl _ _) hb2)
 obtain ⟨⟨y0,y1,y2,y3⟩,hbw⟩:=HX0.out _ HB2.out
 have HBW:=Ql4 hbw
 clear hb2 hbw
 go_wp2_with fail
 with_reducible refine (HNR.out _ HBW.out).mono ?_
 rintro e w3 ⟨v1,rfl,hl1,hb3⟩
 have HB3:=Ql4 (HB1s.out _ _ HB2.out hb3)
 have HL1:=Ql4 hl1
 clear y0 y1 y2 y3
 obtain ⟨⟨y0,y1,y2,y3⟩,hbw⟩:=HX0.out _ HB3.out
 have HBW3:=Ql4 hbw
 clear hb3 hbw hl1
 go_wp2_with fail
 with_reducible refine (HOV.out _ _ HBW3.out HL1.out).mono ?_
 rintro e w4 ⟨v2,rfl,hl2,hl1,hb4⟩
 have HL2:=Ql4 hl2
 have HL1':=Ql4 hl1
 have HBW4:=Ql4 (Qa HBW3.out hb4)
 clear y0 y1 y2 y3 hl2 hl1 hb4
 go_wp2_with fail
 with_reducible refine (HCH.out _ _ _ HBW4.out HL1'.out HL2.out).mono ?_
 rintro e w5 ⟨rfl,hs5⟩
 have HS5:=Ql4 hs5
 clear hs5
 go_wp2_with fail
 go_ret
 exact ⟨rfl,HS5.out⟩
end vo
end Go.Proofs.YtfialjmemcobjaaGreatDoor
