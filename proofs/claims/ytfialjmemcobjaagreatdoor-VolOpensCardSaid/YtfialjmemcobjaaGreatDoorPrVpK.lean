/- A part of the proof. -/
import Derived.Test.YtfialjmemcobjaaGreatDoorPrVoP
import Derived.Defers
set_option linter.unusedVariables false
set_option linter.unusedSimpArgs false
namespace Go.Proofs.YtfialjmemcobjaaGreatDoor
namespace vo
open Go.RowKit Go.Maps er st tr nd pg
set_option maxRecDepth 100000
structure LpW (w:World) (v:Nat) (c:Pt) (X:XL) (b4 b5 b8 b11:Nat) (id d:Int) (rv:Value) (rl:List Int) (cj:Pt) (Y:XL) (V:Vo) (wr:World):Prop where
 vo:VoIn wr v cj Y V
 x4:Whole wr b4 24 #[.pointer (some ⟨v,0,none⟩)]
 x5:Whole wr b5 3 #[.int .i64 id]
 x8:Whole wr b8 34 #[.nilIface]
 x11:Whole wr b11 3 #[.int .i64 d]
 row:wr.ownsRow (b11+1) 3 1 rv rl.length (ints rl)
 far:∀k,(k=b4∨k=b5∨k=b8∨k=b11∨rv.ownBlock=some k)→¬vF v cj Y k
 le:b4 < b11∧b5 < b11∧b8 < b11∧w.heap.size≤b11
 mv:Mv (vF v c X) w (vF v cj Y) wr
section
variable {w:World} {v:Nat} {c:Pt} {X:XL} {b4 b5 b8 b11:Nat} {id d:Int} {rv:Value} {rl:List Int} {cj:Pt} {Y:XL} {V:Vo} {wr:World}
theorem LpW.lt (h:LpW w v c X b4 b5 b8 b11 id d rv rl cj Y V wr):∀k,(k=b4∨k=b5∨k=b8∨k=b11∨rv.ownBlock=some k)→k < wr.heap.size:=by
 rintro k (rfl|rfl|rfl|rfl|hk)
 ·exact h.x4.lt
 ·exact h.x5.lt
 ·exact h.x8.lt
 ·exact h.x11.lt
 ·exact (h.row.lt k hk).2
theorem LpW.move {w':World} {ck:Pt} {Z:XL} {U:Vo} (h:LpW w v c X b4 b5 b8 b11 id d rv rl cj Y V wr) (hv:VoIn w' v ck Z U) (hm:Mv (vF v cj Y) wr (vF v ck Z) w'):LpW w v c X b4 b5 b8 b11 id d rv rl ck Z U w':=by
 have hl:=h.lt
 have hf:=h.far
 refine ⟨hv,h.x4.keep hm.keep (hf _ (by simp)),h.x5.keep hm.keep (hf _ (by simp)),h.x8.keep hm.keep (hf _ (by simp)),h.x11.keep hm.keep (hf _ (by simp)),Qj h.row hm.keep (fun g hg=>hf g (by simp [hg])),fun k hk hv'=>?_,h.le,h.mv.trans hm⟩
 rcases hm.sub k hv' with e|e
 ·exact hf k hk e
 ·have:=hl k hk;omega
theorem LpW.below {w':World} (h:LpW w v c X b4 b5 b8 b11 id d rv rl cj Y V wr) (hb:Below wr.heap.size wr w'):LpW w v c X b4 b5 b8 b11 id d rv rl cj Y V w':=h.move (h.vo.below hb) (Mv.below hb)
theorem LpW.cells (h:LpW w v c X b4 b5 b8 b11 id d rv rl cj Y V wr):wr.cell? ⟨b4,0,none⟩=some (.pointer (some ⟨v,0,none⟩))∧wr.cell? ⟨b5,0,none⟩=some (.int .i64 id)∧wr.cell? ⟨b8,0,none⟩=some .nilIface∧wr.cell? ⟨b11,0,none⟩=some (.int .i64 d):=⟨h.x4.cell 0,h.x5.cell 0,h.x8.cell 0,h.x11.cell 0⟩
theorem LpW.grow {w':World} {g cap:Nat} {a:Int} (h:LpW w v c X b4 b5 b8 b11 id d rv rl cj Y V wr) (ho:w'.ownsRow (b11+1) 3 1 (.slice (some ⟨g,0,none⟩) (rl.length+1) cap) (rl.length+1) (ints rl++[.int .i64 a])) (hg:wr.grownBy w' rv.ownBlock) (hat:rv.ownBlock=some g∨g=wr.heap.size):LpW w v c X b4 b5 b8 b11 id d (.slice (some ⟨g,0,none⟩) (rl.length+1) cap) (rl++[a]) cj Y V w':=by
 have hl:=h.lt
 have hf:=h.far
 have hrow:=h.row
 have hk:Keep (fun k=>rv.ownBlock=some k) wr w':=Keep.grown (Keep.refl _ _) hg (fun g hg=>.inl hg)
 have hne:∀k,k≤b11→¬rv.ownBlock=some k:=fun k hk e=>by have:=(hrow.lt k e).1;omega
 obtain ⟨l1,l2,l3,l4⟩:=h.le
 have hrl:(rl++[a]).length=rl.length+1:=by simp
 have hvl:=h.vo.lt
 refine ⟨h.vo.keep hk (fun k hk e=>?_),h.x4.keep hk (hne _ (Nat.le_of_lt l1)),h.x5.keep hk (hne _ (Nat.le_of_lt l2)),h.x8.keep hk (hne _ (Nat.le_of_lt l3)),h.x11.keep hk (hne _ (Nat.le_refl _)),?_,fun k hk=>?_,h.le,⟨?_,fun k hk=>?_⟩⟩
 ·rcases hk with hk|rfl
  ·exact hf k (by simp [e]) hk
  ·exact hne 0 (Nat.zero_le _) e
 ·rw [hrl,show ints (rl++[a])=ints rl++[.int .i64 a] by simp [ints]]
  exact ho
 ·have hgf:¬vF v cj Y g:=by
   rcases hat with e|e
   ·exact hf g (by simp [e])
   ·intro hv
    have:=hvl g hv
    omega
  rcases hk with hk|hk|hk|hk|hk
  ·exact hf k (.inl hk)
  ·exact hf k (.inr (.inl hk))
  ·exact hf k (.inr (.inr (.inl hk)))
  ·exact hf k (.inr (.inr (.inr (.inl hk))))
  ·have:g=k:=by simpa [Value.ownBlock] using hk
   rw [←this]
   exact hgf
 ·exact h.mv.keep.trans hk (fun k hk=>.inr (by have:=(hrow.lt k hk).1;omega))
 ·exact h.mv.sub k hk
end
theorem LpW.start {w w2:World} {v:Nat} {c:Pt} {X Y:XL} {V:Vo} {b4 b5 b8:Nat} {id d:Int} (hv:VoIn w2 v c Y V) (hk:Keep (vF v c X) w w2) (hD:∀k,vF v c Y k↔vF v c X k) (hlt:∀k,vF v c X k→k < w.heap.size) (h0:0 < w.heap.size) (x4:Whole w2 b4 24 #[.pointer (some ⟨v,0,none⟩)]) (x5:Whole w2 b5 3 #[.int .i64 id]) (x8:Whole w2 b8 34 #[.nilIface]) (h4:w.heap.size≤b4) (h5:w.heap.size≤b5) (h8:w.heap.size≤b8) (n4:b4≠b8) (n5:b5≠b8):
  LpW w v c X b4 b5 b8 w2.heap.size id d (.slice none 0 0) [] c Y V ((w2.setCell ⟨b8,0,none⟩ .nilIface).alloc (.cells #[.int .i64 d] 3)):=by
 have hkk:Keep (fun k=>k=b8) w2 ((w2.setCell ⟨b8,0,none⟩ .nilIface).alloc (.cells #[.int .i64 d] 3)):=((Keep.refl (fun k=>k=b8) w2).setCell (p:=⟨b8,0,none⟩) (.inl rfl) _).alloc _
 have hne:∀k,vF v c Y k→k≠b8:=fun k hk e=>by have:=hlt k ((hD k).1 hk);omega
 have hsz:=hk.size
 have l4:=x4.lt
 have l5:=x5.lt
 have l8:=x8.lt
 refine ⟨hv.keep hkk (fun k hk e=>?_),x4.keep hkk n4,x5.keep hkk n5,?_,?_,⟨rfl,.inl ⟨rfl,rfl⟩⟩,fun k hk hv'=>?_,⟨by omega,by omega,by omega,hsz⟩,⟨hk.trans hkk (fun k hk=>.inr (by omega)),fun k hk=>.inl ((hD k).1 hk)⟩⟩
 ·rcases hk with hk|rfl
  ·exact hne k hk e
  ·omega
 ·simpa using (x8.set 0 .nilIface).alloc _
 ·exact Whole.new' _ _ _ _ (by simp)
 ·have:=hlt k ((hD k).1 hv')
  rcases hk with rfl|rfl|rfl|rfl|hk
  ·omega
  ·omega
  ·omega
  ·omega
  ·simp [Value.ownBlock] at hk
theorem Qaw (w:World) (b8 b4 b5 b11:Nat) (u:FrameMode) (h:w.cell? ⟨b8,0,none⟩=some .nilIface):
  CallsD Tryz.prog 157 #[.pointer (some ⟨b8,0,none⟩),.pointer (some ⟨b4,0,none⟩),.pointer (some ⟨b5,0,none⟩),.pointer (some ⟨b11,0,none⟩)] u w fun e u' w'=>u'=u∧e= .returned (.tuple #[])∧w'=w:=by
 go_enter_d Tryz.func157,Tryz.ntmps157
 go_wp2_with fail
 go_end0
 exact ⟨rfl,rfl⟩
set_option maxHeartbeats 8000000 in
theorem Qa0 (w:World) (b8 b4 b5 b11 v lb:Nat) (id d:Int) (u:FrameMode) (et:TypeId) (ex:Value) (P:World→Prop) (h8:w.cell? ⟨b8,0,none⟩=some (.iface et ex)) (h4:w.cell? ⟨b4,0,none⟩=some (.pointer (some ⟨v,0,none⟩))) (h5:w.cell? ⟨b5,0,none⟩=some (.int .i64 id)) (h11:w.cell? ⟨b11,0,none⟩=some (.int .i64 d)) (hv:w.cell? ⟨v,1,none⟩=some (.pointer (some ⟨lb,0,none⟩)))
  (hcr:∀W,Below w.heap.size w W→Calls Tryz.prog 155 #[.pointer (some ⟨lb,0,none⟩),.int .i64 id,.int .i64 d] W fun e w'=>e= .returned (.int .i64 0)∧(w'.cell? ⟨b4,0,none⟩=some (.pointer (some ⟨v,0,none⟩))∧w'.cell? ⟨b5,0,none⟩=some (.int .i64 id)∧w'.cell? ⟨b11,0,none⟩=some (.int .i64 d)∧w'.cell? ⟨v,1,none⟩=some (.pointer (some ⟨lb,0,none⟩)))∧P w'):
  CallsD Tryz.prog 157 #[.pointer (some ⟨b8,0,none⟩),.pointer (some ⟨b4,0,none⟩),.pointer (some ⟨b5,0,none⟩),.pointer (some ⟨b11,0,none⟩)] u w fun e u' w'=>u'=u∧e= .returned (.tuple #[])∧P w':=by
 have HCR:=Ql4 hcr
 have HK:Hid (∀W,Below w.heap.size w W→W.cell? ⟨b4,0,none⟩=some (.pointer (some ⟨v,0,none⟩))∧W.cell? ⟨b5,0,none⟩=some (.int .i64 id)∧W.cell? ⟨b11,0,none⟩=some (.int .i64 d)∧W.cell? ⟨v,1,none⟩=some (.pointer (some ⟨lb,0,none⟩))):=fun W hb=>⟨Qq hb h4,Qq hb h5,Qq hb h11,Qq hb hv⟩
 clear hcr
 go_enter_d Tryz.func157,Tryz.ntmps157
 go_wp2_with fail
 go_region_held3 (fun w'=>w'.cell? ⟨b4,0,none⟩=some (.pointer (some ⟨v,0,none⟩))∧w'.cell? ⟨b5,0,none⟩=some (.int .i64 id)∧w'.cell? ⟨b11,0,none⟩=some (.int .i64 d)∧w'.cell? ⟨v,1,none⟩=some (.pointer (some ⟨lb,0,none⟩))) (first|with_reducible exact HC3.out|with_reducible exact HK.out _ (Below.refl _ _)|with_reducible exact HK.out _ (Below.refl _ _).drew) ((go_at_call 155;refine (HCR.out _ (Below.refl _ _).drew).mono ?_;rintro e w3 ⟨rfl,hc3,hp3⟩;have HC3:=Ql4 hc3;have HP3:=Ql4 hp3;clear hc3 hp3))
 go_wp2_with fail
 go_end0
 exact ⟨rfl,HP3.out⟩
end vo
namespace vo
open Go.RowKit Go.Maps er st tr nd pg
set_option maxRecDepth 100000
set_option maxHeartbeats 8000000
def pgW (id f:Int) (b:ByteArray) (j:Nat):Page:=⟨1,id,f+j,0,b.extract (32 * j) (32 * j+32)⟩
def Zq (T:Tree) (f:Int) (A:Nat→Int):Nat→Tree
 |0=>T
 |j+1=>(Zq T f A j).over ⟨f+j,1,2,A j⟩
def upto (A:Nat→Int) (n:Nat):List Int:=(List.range n).map A
theorem Qxn (A:Nat→Int) (n:Nat):upto A (n+1)=upto A n++[A n]:=by simp [upto,List.range_succ]
theorem Gh (A:Nat→Int) (n:Nat):(upto A n).length=n:=by simp [upto]
def Od (w:World) (v:Nat) (c:Pt) (X:XL) (V:Vo) (x:Sp×Bl) (f d:Int) (S:Nat→Sto) (A:Nat→Int) (k n:Nat) (e:Ending) (w':World):Prop:=
 (V.cap - tot (Zu (Q5 X)) < d∧e= .returned (.iface 28 (.int .i64 71))∧Below w.heap.size w w')∨
 (k=n∧e= .returned .nilIface∧∃N' F,VoIn w' v {c with N:=N'} (Qc (Zi X x.1.id d) x.1.id (Zq x.1.tr f A n) F) {V with s:=S n,l:=(Qc (Zi X x.1.id d) x.1.id (Zq x.1.tr f A n) F).map (·.1)}∧Mv (vF v c X) w (vF v {c with N:=N'} (Qc (Zi X x.1.id d) x.1.id (Zq x.1.tr f A n) F)) w')∨
 (k < n∧∃et ex,e= .returned (.iface et ex)∧∃N',VoIn w' v {c with N:=N'} X {V with s:=S (k+1)}∧Mv (vF v c X) w (vF v {c with N:=N'} X) w')
theorem Qxg {X:XL} {id d:Int}:Yv (Zi X id d) id (fun s=>{s with used:=s.used - d})=X:=by
 unfold Zi Yv
 rw [List.map_map]
 refine Dk fun y hy=>?_
 by_cases h:y.1.id=id
 ·obtain ⟨⟨a,b,u,t⟩,z⟩:=y
  simp only at h
  simp [h,Int.add_sub_cancel]
 ·simp [h]
theorem Qu8 (X:XL) (id d:Int):Q5 (Yv X id fun s=>{s with used:=s.used - d})=Jn (Q5 X) id fun a=>{a with used:=a.used - d}:=by
 unfold Q5 Yv Jn
 rw [List.map_map,List.map_map]
 refine List.map_congr_left fun y hy=>?_
 show _=if y.1.id=id then _ else _
 by_cases h:y.1.id=id
 ·simp [h]
 ·simp [h]
theorem Wn {W:World} {v:Nat} {c:Pt} {X:XL} {V:Vo} {x:Sp×Bl} {d:Int} (h:VoIn W v c (Zi X x.1.id d) V) (hx:x∈X) (hu:0≤x.1.used) (hd:0≤d):Calls Tryz.prog 155 #[.pointer (some ⟨c.lb,0,none⟩),.int .i64 x.1.id,.int .i64 d] W fun e w'=>e= .returned (.int .i64 0)∧VoIn w' v c X {V with l:=X.map (·.1)}∧Keep (fun k=>k=x.2.a) W w':=by
 have hxi:=Ud (d:=d) hx
 refine (Qz3 W _ _ _ _ _ d h.led (Ye hxi) hd (by show d≤x.1.used+d;omega)).mono ?_
 rintro e w' ⟨rfl,hl,hk⟩
 have q:=VoIn.acct (f:=fun s=>{s with used:=s.used - d}) (g:=fun a=>{a with used:=a.used - d}) (fun _=>rfl) (fun _=>rfl) (Qu8 _ _ d) h hxi hk hl
 have e1:Yv (Zi X x.1.id d) x.1.id (fun s=>{s with used:=s.used - d})=X:=Qxg
 refine ⟨rfl,?_,hk⟩
 rw [←e1]
 exact q
set_option maxHeartbeats 16000000 in
theorem Qxb (w:World) (v:Nat) (c:Pt) (X:XL) (V:Vo) (x:Sp×Bl) (f:Int) (n:Nat) (b:ByteArray) (fu:Nat) (S:Nat→Sto) (A E:Nat→Int) (k:Nat) (h:VoIn w v c X V) (hx:x∈X) (hf:0≤f) (h1:1≤n) (h8:n≤8) (hb:b.size=32 * n) (hfn:f+n≤x.1.size) (hk:k≤n) (hS0:S 0=V.s) (hS:∀j,j≤k→j < n→Ja fu (S j) (pgW x.1.id f b j)=some (S (j+1),A j,E j)∧(S j).n.ops+fu≤1000000000000000000∧(S j).seq≤281474976710655) (hE0:∀j,j < k→E j=0) (hEk:k < n→E k≠0) (hA:∀j,j < k→0≤A j∧A j < 2048) (hok:∀j,j≤n→(Zq x.1.tr f A j).Ok∧Chk (Zq x.1.tr f A j).flat) (hov:∀(m:Nat) (W:World) (F:List Nat),k=n→m < n→TrAt W F x.2.p (Zq x.1.tr f A m)→(Zq x.1.tr f A m).Ok→Chk (Zq x.1.tr f A m).flat→Calls Tryz.prog 158 #[.pointer (some ⟨x.2.p,0,none⟩),.agg #[.int .i64 (f+m),.int .i64 1,.int .i64 2,.int .i64 (A m)]] W fun e w'=>e= .returned (.int .i64 0)∧∃F',TrAt w' F' x.2.p (Zq x.1.tr f A (m+1))∧Mv (fun k=>k∈F) W (fun k=>k∈F') w'):
  Calls Tryz.prog 82 #[.pointer (some ⟨v,0,none⟩),.int .i64 x.1.id,.int .i64 f,.string b] w (Od w v c X V x f (Kt x.1.tr f n) S A k n):=by
 have ha:=h.acc hx
 have hlt:=h.lt
 have h0:=h.laid.lt
 have HW:Hid (∀W,Below w.heap.size w W→Calls Tryz.prog 74 #[.pointer (some ⟨v,0,none⟩),.int .i64 x.1.id,.int .i64 f,.int .i64 n,.bool true] W fun e w'=>e= .returned .nilIface∧Below W.heap.size W w'):=by
  intro W hbW
  have:=Ew W v c X V x f n true (h.below hbW) hx (by unfold I64;omega) (by unfold I64;omega)
  rw [show Ay x.1.size f n true=0 by unfold Ay;rw [if_neg (by simp;omega),if_neg (by omega)]] at this
  exact this
 obtain ⟨X1,hX1⟩:∃X1,Zi X x.1.id (Kt x.1.tr f n)=X1:=⟨_,rfl⟩
 have HCH:Hid (∀W,Below w.heap.size w W→Calls Tryz.prog 156 #[.pointer (some ⟨v,0,none⟩),.int .i64 x.1.id,.int .i64 f,.int .i64 n] W fun e w'=>(e= .returned (.tuple #[.int .i64 (Kt x.1.tr f n),.nilIface])∧VoIn w' v c X1 (V.re X1)∧Keep (vF v c X) W w')∨(e= .returned (.tuple #[.int .i64 (Kt x.1.tr f n),.iface 28 (.int .i64 71)])∧V.cap - tot (Zu (Q5 X)) < Kt x.1.tr f n∧Below W.heap.size W w')):=fun W hbW=>(Qkl W v c X V x f n (h.below hbW) hx hf (by omega) (by omega)).mono (fun e w' hq=>by
  rw [←hX1]
  rcases hq with ⟨q1,q2,q3,q4⟩|⟨q1,q2,q3⟩
  ·exact .inl ⟨q1,q3,q4⟩
  ·exact .inr ⟨q1,q2,q3⟩)
 have hbd:=V7 (T:=x.1.tr) (f:=f) (n:=n) (h.tre x hx).2.2 hf (by omega) (by omega)
 obtain ⟨d,hd⟩:∃d,Kt x.1.tr f n=d:=⟨_,rfl⟩
 rw [hd] at HCH hX1 hbd ⊢
 have hD:∀q,vF v c X1 q↔vF v c X q:=fun q=>by rw [←hX1];unfold vF Zi;rw [Ld]
 have HCB:Hid (∀W N' s,VoIn W v {c with N:=N'} X1 {V.re X1 with s:=s}→Calls Tryz.prog 155 #[.pointer (some ⟨c.lb,0,none⟩),.int .i64 x.1.id,.int .i64 d] W fun e w'=>e= .returned (.int .i64 0)∧VoIn w' v {c with N:=N'} X {V with s:=s}∧Keep (fun k=>k=x.2.a) W w'):=fun W N' s hW=>by
  rw [←hX1] at hW
  refine (Wn hW hx ha.2.2.2.2 hbd.1).mono ?_
  rintro e w' ⟨rfl,q1,q2⟩
  refine ⟨rfl,?_,q2⟩
  have:=h.spl
  rw [show ({V with s:=s}:Vo)={({V.re X1 with s:=s}:Vo) with l:=X.map (·.1)} by rw [this];rfl]
  rw [←hX1]
  exact q1
 have HAP:Hid (∀(j:Nat) W N',j≤k→j < n→VoIn W v {c with N:=N'} X1 {V.re X1 with s:=S j}→Calls Tryz.prog 145 #[.pointer (some ⟨c.q,0,none⟩),.agg #[.int .i64 1,.int .i64 x.1.id,.int .i64 (f+j),.int .i64 0,.string (b.extract (32 * j) (32 * j+32))]] W fun e w'=>∃u N2,e= .returned (.tuple #[.int .i64 (A j),u])∧VoIn w' v {c with N:=N2} X1 {V.re X1 with s:=S (j+1)}∧Mv (vF v {c with N:=N'} X1) W (vF v {c with N:=N2} X1) w'∧((j < k∧u= .nilIface)∨(j=k∧∃et ex,u= .iface et ex))):=by
  intro j W N' hj hjn hW
  obtain ⟨r1,r2,r3⟩:=hS j hj hjn
  refine (Lg W v {c with N:=N'} X1 _ (pgW x.1.id f b j) fu _ hW r1 r2 r3).mono ?_
  rintro e w' ⟨u,N2,rfl,q1,q2,q3⟩
  refine ⟨u,N2,rfl,q1,Mx q2,?_⟩
  rcases Nat.lt_or_ge j k with hl|hg
  ·have:=hE0 j hl
   rcases q3 with ⟨_,rfl⟩|⟨q3,_⟩
   ·exact .inl ⟨hl,rfl⟩
   ·exact absurd this q3
  ·obtain rfl:j=k:=by omega
   have:=hEk hjn
   rcases q3 with ⟨q3,_⟩|⟨_,bs,q4,_⟩
   ·exact absurd q3 this
   ·exact .inr ⟨rfl,q4.iface⟩
 have HOV:Hid (∀(m:Nat) W N' F,k=n→m < n→VoIn W v {c with N:=N'} (Qc X1 x.1.id (Zq x.1.tr f A m) F) {V with s:=S n,l:=(Qc X1 x.1.id (Zq x.1.tr f A m) F).map (·.1)}→Calls Tryz.prog 158 #[.pointer (some ⟨x.2.p,0,none⟩),.agg #[.int .i64 (f+m),.int .i64 1,.int .i64 2,.int .i64 (A m)]] W fun e w'=>e= .returned (.int .i64 0)∧∃F',VoIn w' v {c with N:=N'} (Qc X1 x.1.id (Zq x.1.tr f A (m+1)) F') {V with s:=S n,l:=(Qc X1 x.1.id (Zq x.1.tr f A (m+1)) F').map (·.1)}∧Mv (vF v {c with N:=N'} (Qc X1 x.1.id (Zq x.1.tr f A m) F)) W (vF v {c with N:=N'} (Qc X1 x.1.id (Zq x.1.tr f A (m+1)) F')) w'):=by
  intro m W N' F hkn hm hW
  have hxi:(({({x.1 with used:=x.1.used+d}:Sp) with tr:=Zq x.1.tr f A m},{x.2 with F:=F}):Sp×Bl)∈Qc X1 x.1.id (Zq x.1.tr f A m) F:=by
   rw [←hX1]
   exact Sz (Ud (d:=d) hx)
  obtain ⟨t1,t2,t3⟩:=hW.tre _ hxi
  obtain ⟨o1,o2⟩:=hok (m+1) (by omega)
  refine (hov m W F hkn hm t1 t2 t3).mono ?_
  rintro e w' ⟨rfl,F',hF,hmv⟩
  have q:=VoIn.grown hW hxi hF hmv o1 o2
  have q2:=Qim (c:={c with N:=N'}) hW hxi (T:=Zq x.1.tr f A (m+1)) hmv
  have e1:Qc (Qc X1 x.1.id (Zq x.1.tr f A m) F) x.1.id (Zq x.1.tr f A (m+1)) F'=Qc X1 x.1.id (Zq x.1.tr f A (m+1)) F':=Sq _ _ _ _ _ _
  exact ⟨rfl,F',by rw [←e1];exact q,by rw [←e1];exact q2⟩
 have HLK:Hid (∀(m:Nat) W N' F,VoIn W v {c with N:=N'} (Qc X1 x.1.id (Zq x.1.tr f A m) F) {V with s:=S n,l:=(Qc X1 x.1.id (Zq x.1.tr f A m) F).map (·.1)}→(Instr.lookup 113 (.map (some c.tb)) (.int .i64 x.1.id) false).run Tryz.prog W= .ok (.pointer (some ⟨x.2.p,0,none⟩)) W∧W.cell? ⟨v,2,none⟩=some (.map (some c.tb))):=fun m W N' F hW=>by
  have hxi:(({({x.1 with used:=x.1.used+d}:Sp) with tr:=Zq x.1.tr f A m},{x.2 with F:=F}):Sp×Bl)∈Qc X1 x.1.id (Zq x.1.tr f A m) F:=by
   rw [←hX1]
   exact Sz (Ud (d:=d) hx)
  have q:=hW.lookT hxi
  exact ⟨q,hW.obj.cell 2⟩
 have hX10:∃F,X1=Qc X1 x.1.id (Zq x.1.tr f A 0) F:=by
  refine ⟨x.2.F,?_⟩
  rw [←hX1]
  have hup:(Zi X x.1.id d).Pairwise fun a b=>a.1.id < b.1.id:=by
   unfold Zi Yv
   rw [List.pairwise_map]
   refine h.up.imp (fun {a b} hab=>?_)
   have e:∀y:Sp×Bl,((if y.1.id=x.1.id then (({y.1 with used:=y.1.used+d}:Sp),y.2) else y):Sp×Bl).1.id=y.1.id:=fun y=>by split <;> rfl
   rw [e,e]
   exact hab
  exact (Cb hup (Ud (d:=d) hx)).symm
 have HX10:=Ql4 hX10
 have HD:=Ql4 hD
 have HLT:=Ql4 hlt
 have H0:=Ql4 h0
 have HFUL:Hid (∀w',V.cap - tot (Zu (Q5 X)) < d→Below w.heap.size w w'→Od w v c X V x f d S A k n (.returned (.iface 28 (.int .i64 71))) w'):=fun w' q1 q2=>.inl ⟨q1,rfl,q2⟩
 have HEND:Hid (∀w' N' F,k=n→VoIn w' v {c with N:=N'} (Qc X1 x.1.id (Zq x.1.tr f A n) F) {V with s:=S n,l:=(Qc X1 x.1.id (Zq x.1.tr f A n) F).map (·.1)}→Mv (vF v c X) w (vF v {c with N:=N'} (Qc X1 x.1.id (Zq x.1.tr f A n) F)) w'→Od w v c X V x f d S A k n (.returned .nilIface) w'):=fun w' N' F q1 q2 q3=>by
  rw [←hX1] at q2 q3
  exact .inr (.inl ⟨q1,rfl,N',F,q2,q3⟩)
 have HBAD:Hid (∀w' N' et ex,k < n→VoIn w' v {c with N:=N'} X {V with s:=S (k+1)}→Mv (vF v c X) w (vF v {c with N:=N'} X) w'→Od w v c X V x f d S A k n (.returned (.iface et ex)) w'):=fun w' N' et ex q1 q2 q3=>.inr (.inr ⟨q1,et,ex,rfl,N',q2,q3⟩)
 have HS0:Hid (({V.re X1 with s:=S 0}:Vo)=V.re X1):=by
  show _=_
  rw [hS0]
  rfl
 have hx2a:vF v c X x.2.a:= .inr (by simp only [Dl,List.mem_cons,List.mem_append];exact .inr (.inr (.inr (.inr (.inr (List.mem_flatMap.2 ⟨x,hx,by simp⟩))))))
 have hxa1:∀N',vF v {c with N:=N'} X1 x.2.a:=fun N'=>.inr (by
  have:x.2.a∈Dl v c X:=by simp only [Dl,List.mem_cons,List.mem_append];exact .inr (.inr (.inr (.inr (.inr (List.mem_flatMap.2 ⟨x,hx,by simp⟩)))))
  rw [←hX1]
  unfold Zi
  rw [Ld]
  exact this)
 have HXA1:=Ql4 hxa1
 have hDN:∀N' q,vF v {c with N:=N'} X q↔vF v {c with N:=N'} X1 q:=fun N' q=>by rw [←hX1];unfold vF Zi;rw [Ld]
 have HDN:=Ql4 hDN
 have hq32:IntKind.i64.wrap ((b.size:Int).tdiv 32)=n:=by rw [hb,Int.tdiv_eq_ediv_of_nonneg (by omega),IntKind.wrap_i64];omega
 have hr32:IntKind.i64.wrap ((b.size:Int).tmod 32)=0:=by rw [hb,Int.tmod_eq_emod_of_nonneg (by omega),IntKind.wrap_i64];omega
 have hni:(n:Int)≤8:=by omega
 have hfn2:f+n≤16777216:=by omega
 obtain ⟨id,hid⟩:∃id,x.1.id=id:=⟨_,rfl⟩
 obtain ⟨T,hTT⟩:∃T,x.1.tr=T:=⟨_,rfl⟩
 rw [hid] at HW HCH HCB HAP HOV HLK HX10 HEND
 rw [hTT] at HOV HLK HX10 HEND
 obtain ⟨P,hP⟩:∃P,Od w v c X V x f d S A k n=P:=⟨_,rfl⟩
 rw [hP] at HFUL HEND HBAD ⊢
 rw [hid]
 clear hov hok h hx ha hlt h0 hD hX1 hd hS hS0 hE0 hEk hX10 hbd hfn hx2a hxa1 hDN hP hTT hid
 obtain ⟨b4,hb4⟩:∃q,w.heap.size=q:=⟨_,rfl⟩
 obtain ⟨W3,hW3⟩:∃W3,(((w.alloc (.cells #[.pointer (some ⟨v,0,none⟩)] 24)).alloc (.cells #[.int .i64 id] 3)).alloc (.cells #[.nilIface] 34))=W3:=⟨_,rfl⟩
 have HB3:Hid (Below w.heap.size w W3):=by
  rw [←hW3]
  exact (((Below.refl _ _).alloc (Nat.le_refl _) _).alloc (by simp) _).alloc (by simp;omega) _
 have HX3:Hid (∀W,Below W3.heap.size W3 W→Below w.heap.size w W∧Whole W b4 24 #[.pointer (some ⟨v,0,none⟩)]∧Whole W (b4+1) 3 #[.int .i64 id]∧Whole W (b4+1+1) 34 #[.nilIface]):=fun W hbW=>by
  have y4:Whole W3 b4 24 #[.pointer (some ⟨v,0,none⟩)]:=by rw [←hW3];exact ((Whole.new' w _ _ _ hb4).alloc _).alloc _
  have y5:Whole W3 (b4+1) 3 #[.int .i64 id]:=by rw [←hW3];exact (Whole.new' _ _ _ _ (by simp [hb4])).alloc _
  have y8:Whole W3 (b4+1+1) 34 #[.nilIface]:=by rw [←hW3];exact Whole.new' _ _ _ _ (by simp [hb4])
  exact ⟨HB3.out.trans (hbW.mono HB3.out.size),y4.below hbW y4.lt,y5.below hbW y5.lt,y8.below hbW y8.lt⟩
 have HLT2:Hid (∀k,¬k < w.heap.size→¬vF v c X k):=fun k hk hv=>hk (HLT.out k hv)
 go_enter_defers Tryz.func82,Tryz.ntmps82
 obtain ⟨_,e4,e5,e8⟩:=HX3.out W3 (Below.refl _ _)
 have z4:W3.cell? ⟨b4,0,none⟩=some (.pointer (some ⟨v,0,none⟩)):=e4.cell 0
 have z5:W3.cell? ⟨b4+1,0,none⟩=some (.int .i64 id):=e5.cell 0
 clear e4 e5 e8
 go_wp2_with fail
 with_reducible refine (HW.out _ HB3.out).mono ?_
 rintro e w1 ⟨rfl,hb1⟩
 obtain ⟨hbw,x4,x5,x8⟩:=HX3.out w1 hb1
 have c4:w1.cell? ⟨b4,0,none⟩=some (.pointer (some ⟨v,0,none⟩)):=x4.cell 0
 have c5:w1.cell? ⟨b4+1,0,none⟩=some (.int .i64 id):=x5.cell 0
 have HX4:=Ql4 x4
 have HX5:=Ql4 x5
 have HX8:=Ql4 x8
 have HBW:=Ql4 hbw
 clear hb1 hbw x4 x5 x8 z4 z5 hW3
 go_wp2_with fail
 refine (HCH.out w1 HBW.out).mono ?_
 rintro e w2 (⟨rfl,hv2,hk2⟩|⟨rfl,hful,hb2⟩)
 ·have y4:=HX4.out.keep hk2 (HLT2.out _ (by omega))
  have y5:=HX5.out.keep hk2 (HLT2.out _ (by omega))
  have y8:=HX8.out.keep hk2 (HLT2.out _ (by omega))
  have HL0:=Ql4 (LpW.start (id:=id) (d:=d) hv2 ((Keep.below (F:=vF v c X) HBW.out).trans hk2 (fun k hk=>.inl hk)) HD.out HLT.out H0.out y4 y5 y8 (by omega) (by omega) (by omega) (by omega) (by omega))
  have d8:w2.cell? ⟨b4+1+1,0,none⟩=some .nilIface:=y8.cell 0
  have g8:=y8.fz 0
  have l8:=y8.lt
  clear hv2 hk2 y4 y5 y8 c4 c5
  go_wp2_with fail
  obtain ⟨b11,hb11⟩:∃q,w2.heap.size=q:=⟨_,rfl⟩
  rw [hb11] at HL0
  go_loopw [12,13,14,15,50] (fun rv _ _ _ iv wr=>∃(j:Nat) (Ar:Option Addr) (q:Nat) (N':Nat→Prop),j≤k∧j≤n∧iv= .int .i64 j∧rv= .slice Ar j q∧Hid (LpW w v c X b4 (b4+1) (b4+1+1) b11 id d (.slice Ar j q) (upto A j) {c with N:=N'} X1 {V.re X1 with s:=S j} wr)) (fun _ _ _ _ iv _=>n - (intOf iv).toNat)
  case atStart=>
   refine ⟨0,none,0,c.N,Nat.zero_le _,Nat.zero_le _,rfl,rfl,?_⟩
   rw [HS0.out]
   exact HL0.out
  case round=>
   obtain ⟨j,Ar,q,N',hjk,hjn,rfl,rfl,HL⟩:=hrel
   by_cases hlt:j < n
   ·have hji:(j:Int) < (n:Int):=by omega
    have hj0:(0:Int)≤(j:Int):=Int.natCast_nonneg _
    obtain ⟨z4,z5,z8,z11⟩:=HL.out.cells
    have zv:wr.cell? ⟨v,0,none⟩=some (.pointer (some ⟨c.q,0,none⟩)):=HL.out.vo.obj.cell 0
    have h1:IntKind.i64.wrap (f+(j:Int))=f+j:=by rw [IntKind.wrap_i64];omega
    have h2:IntKind.i64.wrap ((j:Int) * 32)=(j:Int) * 32:=by rw [IntKind.wrap_i64];omega
    have h3:IntKind.i64.wrap ((j:Int)+1)=(j:Int)+1:=by rw [IntKind.wrap_i64];omega
    have h4:IntKind.i64.wrap (((j:Int)+1) * 32)=((j:Int)+1) * 32:=by rw [IntKind.wrap_i64];omega
    have hl0:(0:Int)≤(j:Int) * 32:=by omega
    have hl1:(j:Int) * 32≤((j:Int)+1) * 32:=by omega
    have hl2:((j:Int)+1) * 32≤32 * (n:Int):=by omega
    have hl3:(0:Int)≤((j:Int)+1) * 32:=by omega
    have ht1:((j:Int) * 32).toNat=32 * j:=by omega
    have ht2:(((j:Int)+1) * 32).toNat=32 * j+32:=by omega
    have hsl:∀W,(Instr.slice 9 (.string b) (some (.int .i64 ((j:Int) * 32))) (some (.int .i64 (((j:Int)+1) * 32))) none).run Tryz.prog W= .ok (.string (b.extract (32 * j) (32 * j+32))) W:=fun W=>by rw [run_slice_string W 9 b .i64 .i64 _ _ Tryz.underlying9 hl0 hl1 (by omega),ht1,ht2]
    have HA2:=Ql4 (HAP.out j wr.drew N' hjk hlt (HL.out.vo.below (Below.refl _ _).drew))
    have HK:Hid (∀W,Below wr.heap.size wr W→W.cell? ⟨b4,0,none⟩=some (.pointer (some ⟨v,0,none⟩))∧W.cell? ⟨b4+1,0,none⟩=some (.int .i64 id)∧W.cell? ⟨v,0,none⟩=some (.pointer (some ⟨c.q,0,none⟩))):=fun W hbW=>⟨Qq hbW z4,Qq hbW z5,Qq hbW zv⟩
    clear z8 z11
    go_wp2_with fail
    go_region_held3 (fun w'=>w'.cell? ⟨b4,0,none⟩=some (.pointer (some ⟨v,0,none⟩))∧w'.cell? ⟨b4+1,0,none⟩=some (.int .i64 id)∧w'.cell? ⟨v,0,none⟩=some (.pointer (some ⟨c.q,0,none⟩))) (first|with_reducible exact HC3.out|with_reducible exact HK.out _ (Below.refl _ _)|with_reducible exact HK.out _ (Below.refl _ _).drew) ((go_at_call 145;refine HA2.out.mono ?_;rintro e w3 ⟨u,N2,rfl,hv3,hm3,hu3⟩;have HL3:=Ql4 ((HL.out.below (Below.refl _ _).drew).move hv3 hm3);have HU3:=Ql4 hu3;have HC3:Hid (w3.cell? ⟨b4,0,none⟩=some (.pointer (some ⟨v,0,none⟩))∧w3.cell? ⟨b4+1,0,none⟩=some (.int .i64 id)∧w3.cell? ⟨v,0,none⟩=some (.pointer (some ⟨c.q,0,none⟩))):=⟨HL3.out.cells.1,HL3.out.cells.2.1,HL3.out.vo.obj.cell 0⟩;clear hv3 hm3 hu3))
    rcases HU3.out with ⟨hjk2,rfl⟩|⟨rfl,et,ex,rfl⟩
    ·have HNW:Hid (∀(j':Nat) (u:Value),([.int .i64 (A j)]:List Value)[j']? =some u→(w3.alloc (.cells #[.int .i64 (A j)] 3)).cell? ((⟨w3.heap.size,0,none⟩:Addr).add j')=some u):=World.news_of_block (by simpa using heap_alloc_new w3 (.cells #[.int .i64 (A j)] 3))
     have hone:∀u∈([.int .i64 (A j)]:List Value),u.oneCell'=true:=by simp [Value.oneCell']
     have HONE:=Ql4 hone
     have HL4:=Ql4 (HL3.out.below ((Below.refl _ _).alloc (Nat.le_refl _) (.cells #[.int .i64 (A j)] 3)))
     have HO4:Hid ((w3.alloc (.cells #[.int .i64 (A j)] 3)).ownsRow (b11+1) 3 1 (.slice Ar j q) j (ints (upto A j))):=by
      have:=HL4.out.row
      rwa [Gh] at this
     have HSZ:Hid (b11+1≤(w3.alloc (.cells #[.int .i64 (A j)] 3)).heap.size):=HL4.out.x11.lt
     obtain ⟨i0,hi0,hz0,hz1,hz2⟩:=info_parts Dy
     have HI0:=Ql4 hi0
     have HZ0:=Ql4 hz0
     have HZ1:=Ql4 hz1
     have HZ2:=Ql4 hz2
     clear hone hi0 hz0 hz1 hz2
     go_wp2_with (at_builtin;go_must (refine wpList_append_lies _ rfl (.tmp 76) (.tmp 78) 39 rfl (b11+1) 3 i0 _ 1 8 Tryz.underlying39 HI0.out HZ0.out HZ1.out HZ2.out rfl (by omega) (.slice Ar j q) j (ints (upto A j)) rfl HO4.out ⟨w3.heap.size,0,none⟩ 1 1 [.int .i64 (A j)] rfl rfl HNW.out HONE.out (by omega) (by simp only [maxLen];omega) (by omega) HSZ.out _ rfl ?_;intro g2 q2 w6 hown6 hg6 hat6 _;have HO6:=Ql4 hown6;have HG6:=Ql4 hg6;have HAT6:=Ql4 hat6;clear hown6 hg6 hat6))
     have HL6:Hid (LpW w v c X b4 (b4+1) (b4+1+1) b11 id d (.slice (some ⟨g2,0,none⟩) (j+1) q2) (upto A (j+1)) {c with N:=N2} X1 {V.re X1 with s:=S (j+1)} w6):=by
      have q:=HL4.out.grow (w':=w6) (g:=g2) (cap:=q2) (a:=A j) (by rw [Gh];exact HO6.out) HG6.out HAT6.out
      rw [Gh,←Qxn] at q
      exact q
     have hmeas:n - (intOf (.int .i64 ((j:Int)+1))).toNat < n - (intOf (.int .i64 (j:Int))).toNat:=by simp [intOf];omega
     refine ⟨⟨_,_,_,_,_,⟨j+1,?_,?_,?_,some ⟨g2,0,none⟩,q2,rfl,N2,?_⟩,rfl,rfl,rfl,rfl,rfl⟩,hmeas⟩
     ·omega
     ·omega
     ·go_num
     ·with_reducible exact HL6
    ·obtain ⟨z4,z5,z8,z11⟩:=HL3.out.cells
     have g8:=HL3.out.x8.fz 0
     have l8:=HL3.out.x8.lt
     go_wp2_with fail
     have hsz3:w.heap.size≤w3.heap.size:=HL3.out.mv.keep.size
     have hk4:Keep (fun q=>q=b4+1+1) w3 (w3.setCell ⟨b4+1+1,0,none⟩ (.iface et ex)):=Keep.set1 w3 (b4+1+1) 0 _
     have hv4:=HL3.out.vo.keep hk4 (fun q hq e=>by
      rcases hq with hq|rfl
      ·exact HL3.out.far q (.inr (.inr (.inl e))) hq
      ·omega)
     have hx4:=HL3.out.x4.keep hk4 (by omega)
     have hx5:=HL3.out.x5.keep hk4 (by omega)
     have hx8:Whole (w3.setCell ⟨b4+1+1,0,none⟩ (.iface et ex)) (b4+1+1) 34 #[.iface et ex]:=by simpa using HL3.out.x8.set 0 (.iface et ex)
     have hle:=HL3.out.le
     have hx11:=HL3.out.x11.keep hk4 (by omega)
     refine leaves_cons (f:=157) (args:=#[.pointer (some ⟨b4+1+1,0,none⟩),.pointer (some ⟨b4,0,none⟩),.pointer (some ⟨b4+1,0,none⟩),.pointer (some ⟨b11,0,none⟩)]) (by simp) (by simp [go_sem]) ?_
     refine (Qa0 _ _ _ _ _ v c.lb id d _ et ex (fun w'=>VoIn w' v {c with N:=N2} X {V with s:=S (j+1)}∧Mv (vF v c X) w (vF v {c with N:=N2} X) w'∧Whole w' (b4+1+1) 34 #[.iface et ex]) (hx8.cell 0) (hx4.cell 0) (hx5.cell 0) (hx11.cell 0) (hv4.obj.cell 1) ?_).mono ?_
     ·intro W hbW
      have hW:=hv4.below hbW
      refine (HCB.out W N2 (S (j+1)) hW).mono ?_
      rintro e w' ⟨rfl,hv',hk'⟩
      have hfa:∀q,¬vF v {c with N:=N2} X1 q→q≠x.2.a:=fun q hq e=>hq (e▸HXA1.out N2)
      have y4:=(hx4.below hbW hx4.lt).keep hk' (hfa _ (HL3.out.far _ (by simp)))
      have y5:=(hx5.below hbW hx5.lt).keep hk' (hfa _ (HL3.out.far _ (by simp)))
      have y8:=(hx8.below hbW hx8.lt).keep hk' (hfa _ (HL3.out.far _ (by simp)))
      have y11:=(hx11.below hbW hx11.lt).keep hk' (hfa _ (HL3.out.far _ (by simp)))
      refine ⟨rfl,⟨y4.cell 0,y5.cell 0,y11.cell 0,hv'.obj.cell 1⟩,hv',?_,y8⟩
      refine ⟨((HL3.out.mv.keep.trans hk4 (fun q hq=>.inr (by omega))).transBelow hbW).trans hk' (fun q hq=>?_),fun q hq=>HL3.out.mv.sub q ((HDN.out N2 q).1 hq)⟩
      subst hq
      exact HL3.out.mv.sub _ (HXA1.out N2)
     ·rintro e u' w' ⟨rfl,rfl,hv',hm',hy8⟩
      have cy8:w'.cell? ⟨b4+1+1,0,none⟩=some (.iface et ex):=hy8.cell 0
      exact ⟨.iface et ex,by simp [results,Tryz.results82,go_sem,cy8],HBAD.out w' N2 et ex hlt hv' hm'⟩
   ·obtain rfl:j=n:=by omega
    obtain rfl:k=j:=by omega
    obtain ⟨F0,hF0⟩:=HX10.out
    have HL1:Hid (LpW w v c X b4 (b4+1) (b4+1+1) b11 id d (.slice Ar k q) (upto A k) {c with N:=N'} (Qc X1 id (Zq T f A 0) F0) {V with s:=S k,l:=(Qc X1 id (Zq T f A 0) F0).map (·.1)} wr):=by
     show LpW _ _ _ _ _ _ _ _ _ _ _ _ _ _ _ _
     rw [←hF0]
     exact HL.out
    have hrow:wr.ownsRow (b11+1) 3 1 (.slice Ar k q) k (ints (upto A k)):=by
     have:=HL.out.row
     rwa [Gh] at this
    obtain ⟨gi,rfl,_,_,_,hcell,_⟩:=Qo hrow (by omega)
    clear hrow hcell HL
    go_wp2_with fail
    go_loopw [16,17,83] (fun _ _ iv wr=>∃(m:Nat) (F:List Nat),m≤k∧iv= .int .i64 m∧Hid (LpW w v c X b4 (b4+1) (b4+1+1) b11 id d (.slice (some ⟨gi,0,none⟩) k q) (upto A k) {c with N:=N'} (Qc X1 id (Zq T f A m) F) {V with s:=S k,l:=(Qc X1 id (Zq T f A m) F).map (·.1)} wr)) (fun _ _ iv _=>k - (intOf iv).toNat)
    case atStart=>exact ⟨0,F0,Nat.zero_le _,rfl,HL1.out⟩
    case round=>
     obtain ⟨m,F,hmk,rfl,HM⟩:=hrel
     by_cases hlm:m < k
     ·have hmi:(m:Int) < (k:Int):=by omega
      have hm0:(0:Int)≤(m:Int):=Int.natCast_nonneg _
      obtain ⟨z4,z5,z8,z11⟩:=HM.out.cells
      have hrow:wr.ownsRow (b11+1) 3 1 (.slice (some ⟨gi,0,none⟩) k q) k (ints (upto A k)):=by
       have:=HM.out.row
       rwa [Gh] at this
      obtain ⟨g',hg',_,_,_,hcell,_⟩:=Qo hrow (by omega)
      injection hg' with hg'
      injection hg' with hg'
      subst hg'
      have ci:wr.cell? ⟨gi,m,none⟩=some (.int .i64 (A m)):=by
       have:=hcell m (.int .i64 (A m)) (by simp [ints,upto,hlm])
       simpa using this
      have hl:=HLK.out m wr.drew N' F (HM.out.vo.below (Below.refl _ _).drew)
      obtain ⟨hl1,hl2'⟩:=hl
      have zv:wr.cell? ⟨v,2,none⟩=some (.map (some c.tb)):=hl2'
      have h1:IntKind.i64.wrap (f+(m:Int))=f+m:=by rw [IntKind.wrap_i64];omega
      have HO2:=Ql4 (HOV.out m wr.drew N' F trivial hlm (HM.out.vo.below (Below.refl _ _).drew))
      have HK:Hid (∀W,Below wr.heap.size wr W→W.cell? ⟨b4,0,none⟩=some (.pointer (some ⟨v,0,none⟩))∧W.cell? ⟨b4+1,0,none⟩=some (.int .i64 id)∧W.cell? ⟨v,2,none⟩=some (.map (some c.tb))):=fun W hbW=>⟨Qq hbW z4,Qq hbW z5,Qq hbW zv⟩
      clear z8 z11 hrow hcell hl2'
      go_wp2_with fail
      go_region_held3 (fun w'=>w'.cell? ⟨b4,0,none⟩=some (.pointer (some ⟨v,0,none⟩))∧w'.cell? ⟨b4+1,0,none⟩=some (.int .i64 id)∧w'.cell? ⟨v,2,none⟩=some (.map (some c.tb))) (first|with_reducible exact HC3.out|with_reducible exact HK.out _ (Below.refl _ _)|with_reducible exact HK.out _ (Below.refl _ _).drew) ((go_at_call 158;refine HO2.out.mono ?_;rintro e w3 ⟨rfl,F',hv3,hm3⟩;have HM3:=Ql4 ((HM.out.below (Below.refl _ _).drew).move hv3 hm3);have HC3:Hid (w3.cell? ⟨b4,0,none⟩=some (.pointer (some ⟨v,0,none⟩))∧w3.cell? ⟨b4+1,0,none⟩=some (.int .i64 id)∧w3.cell? ⟨v,2,none⟩=some (.map (some c.tb))):=⟨HM3.out.cells.1,HM3.out.cells.2.1,HM3.out.vo.obj.cell 2⟩;clear hv3 hm3))
      go_wp2_with fail
      have hmeas:k - (intOf (.int .i64 ((m:Int)+1))).toNat < k - (intOf (.int .i64 (m:Int))).toNat:=by simp [intOf];omega
      exact ⟨⟨m+1,F',by omega,by go_num,HM3.out⟩,hmeas⟩
     ·obtain rfl:m=k:=by omega
      obtain ⟨z4,z5,z8,z11⟩:=HM.out.cells
      have g8:=HM.out.x8.fz 0
      have l8:=HM.out.x8.lt
      go_wp2_with fail
      have hk4:Keep (fun q=>q=b4+1+1) wr (wr.setCell ⟨b4+1+1,0,none⟩ .nilIface):=Keep.set1 wr (b4+1+1) 0 _
      have hx8:Whole (wr.setCell ⟨b4+1+1,0,none⟩ .nilIface) (b4+1+1) 34 #[.nilIface]:=by simpa using HM.out.x8.set 0 .nilIface
      have cx8:(wr.setCell ⟨b4+1+1,0,none⟩ .nilIface).cell? ⟨b4+1+1,0,none⟩=some .nilIface:=hx8.cell 0
      have hwl:=HM.out.mv.keep.size
      have hv4:=HM.out.vo.keep hk4 (fun q hq e=>by
       rcases hq with hq|rfl
       ·exact HM.out.far q (.inr (.inr (.inl e))) hq
       ·omega)
      refine leaves_cons (f:=157) (args:=#[.pointer (some ⟨b4+1+1,0,none⟩),.pointer (some ⟨b4,0,none⟩),.pointer (some ⟨b4+1,0,none⟩),.pointer (some ⟨b11,0,none⟩)]) (by simp) (by simp [go_sem]) ?_
      refine (Qaw _ _ _ _ _ _ cx8).mono ?_
      rintro e u' w' ⟨rfl,rfl,rfl⟩
      exact ⟨.nilIface,by simp [results,Tryz.results82,go_sem,cx8],HEND.out _ N' F trivial hv4 ⟨HM.out.mv.keep.trans hk4 (fun q hq=>.inr (by omega)),HM.out.mv.sub⟩⟩
 ·have y8:=HX8.out.below hb2 HX8.out.lt
  have d8:w2.cell? ⟨b4+1+1,0,none⟩=some .nilIface:=y8.cell 0
  have g8:=y8.fz 0
  have l8:=y8.lt
  have HB2:Hid (Below w.heap.size w w2):=HBW.out.trans (hb2.mono HBW.out.size)
  have HF2:=Ql4 hful
  clear hful hb2 y8 c4 c5
  go_wp2_with fail
  refine ⟨.iface 28 (.int .i64 71),by simp [results,Tryz.results82,go_sem,d8,l8],HFUL.out _ HF2.out ?_⟩
  have hs:=HB2.out.size
  exact HB2.out.trans (Keep.toBelow ((((Keep.refl (fun k=>k=b4+1+1) w2).setCell (p:=⟨b4+1+1,0,none⟩) (.inl rfl) _).setCell (p:=⟨b4+1+1,0,none⟩) (.inl rfl) _).alloc _) hs (fun k hk=>by omega))
end vo
namespace vo
open Go.RowKit Go.Maps er st tr nd pg
set_option maxRecDepth 100000
set_option maxHeartbeats 8000000
abbrev Qxc:ByteArray:=⟨#[119,114,105,116,101]⟩
def Dv (X:XL) (x:Sp×Bl) (f d:Int) (A:Nat→Int) (n:Nat) (F:List Nat):XL:=Qc (Zi X x.1.id d) x.1.id (Zq x.1.tr f A n) F
def Qc4 (w:World) (v:Nat) (c:Pt) (X:XL) (V:Vo) (x:Sp×Bl) (f d:Int) (S:Nat→Sto) (A:Nat→Int) (k n:Nat) (e:Ending) (w':World):Prop:=
 (V.cap - tot (Zu (Q5 X)) < d∧Qan w Qxc x.1.id 71 e w')∨
 (k=n∧e= .returned .nilIface∧∃N' F,VoIn w' v {c with N:=N'} (Dv X x f d A n F) (Vo.kept {V with s:=S n,l:=(Dv X x f d A n F).map (·.1),sure:=false} (Dv X x f d A n F))∧Mv (vF v c X) w (vF v {c with N:=N'} (Dv X x f d A n F)) w')∨
 (k < n∧∃b et ex,e= .returned (.iface 183 (.pointer (some ⟨b,0,none⟩)))∧Whole w' b 187 #[.string Qxc,.int .i64 x.1.id,.iface et ex]∧∃N',VoIn w' v {c with N:=N'} X {V with s:=S (k+1)}∧Mv (vF v c X) w (vF v {c with N:=N'} X) w')
theorem Qqc (w:World) (v:Nat) (c:Pt) (X:XL) (V:Vo) (x:Sp×Bl) (f:Int) (n:Nat) (b:ByteArray) (fu:Nat) (S:Nat→Sto) (A E:Nat→Int) (k:Nat) (h:VoIn w v c X V) (hx:x∈X) (hf:0≤f) (h1:1≤n) (h8:n≤8) (hb:b.size=32 * n) (hfn:f+n≤x.1.size) (hk:k≤n) (hS0:S 0=V.s) (hS:∀j,j≤k→j < n→Ja fu (S j) (pgW x.1.id f b j)=some (S (j+1),A j,E j)∧(S j).n.ops+fu≤1000000000000000000∧(S j).seq≤281474976710655) (hE0:∀j,j < k→E j=0) (hEk:k < n→E k≠0) (hA:∀j,j < k→0≤A j∧A j < 2048) (hok:∀j,j≤n→(Zq x.1.tr f A j).Ok∧Chk (Zq x.1.tr f A j).flat) (hov:∀(m:Nat) (W:World) (F:List Nat),k=n→m < n→TrAt W F x.2.p (Zq x.1.tr f A m)→(Zq x.1.tr f A m).Ok→Chk (Zq x.1.tr f A m).flat→Calls Tryz.prog 158 #[.pointer (some ⟨x.2.p,0,none⟩),.agg #[.int .i64 (f+m),.int .i64 1,.int .i64 2,.int .i64 (A m)]] W fun e w'=>e= .returned (.int .i64 0)∧∃F',TrAt w' F' x.2.p (Zq x.1.tr f A (m+1))∧Mv (fun k=>k∈F) W (fun k=>k∈F') w')
  (hsm:∀F,Yr (Dv X x f (Kt x.1.tr f n) A n F)) (hls:V.last.length≤100000):
  Calls Tryz.prog 28 #[.pointer (some ⟨v,0,none⟩),.int .i64 x.1.id,.int .i64 f,.string b] w (Qc4 w v c X V x f (Kt x.1.tr f n) S A k n):=by
 have HWR:=Ql4 (Qxb w v c X V x f n b fu S A E k h hx hf h1 h8 hb hfn hk hS0 hS hE0 hEk hA hok hov)
 obtain ⟨d,hd⟩:∃d,Kt x.1.tr f n=d:=⟨_,rfl⟩
 rw [hd] at HWR hsm ⊢
 have HSM:=Ql4 hsm
 have HLS:=Ql4 hls
 have HDN:Hid (∀w t y,Calls Tryz.prog 72 #[.pointer (some ⟨v,0,none⟩),.string Qxc,.int .i64 x.1.id,.iface t y] w fun x w'=>x= .returned (.iface 183 (.pointer (some ⟨w.heap.size,0,none⟩)))∧w.alloc (.cells #[.string Qxc,.int .i64 _,.iface t y] 187)=w'):=fun w t y=>Qev w _ _ _ t y
 clear hov hok h hx hS hE0 hEk hA hsm hls hd
 go_enter Tryz.func28,Tryz.ntmps28
 go_wp2_with fail
 refine HWR.out.mono ?_
 rintro e w1 (⟨q1,rfl,q2⟩|⟨q1,rfl,N',F,q2,q3⟩|⟨q1,et,ex,rfl,N',q2,q3⟩)
 ·have HQ1:=Ql4 q1
  have HQ2:=Ql4 q2
  clear q1 q2
  go_wp2_with fail
  with_reducible refine (HDN.out _ _ _).mono ?_
  rintro e w2 ⟨rfl,rfl⟩
  go_wp2_with fail
  go_ret
  exact .inl ⟨HQ1.out,_,rfl,Whole.new _ _ _,HQ2.out.alloc HQ2.out.size _⟩
 ·have HD:=Ql4 (Qj1 w1 v {c with N:=N'} _ _ Qxc x.1.id q2 ⟨HSM.out F,HLS.out⟩)
  have HQ1:=Ql4 q1
  have HQ3:=Ql4 q3
  clear q1 q2 q3
  go_wp2_with fail
  with_reducible refine HD.out.mono ?_
  rintro e w2 ⟨rfl,hv2,hk2⟩
  have HV2:=Ql4 hv2
  have HK2:=Ql4 hk2
  clear hv2 hk2
  go_wp2_with fail
  go_ret
  exact .inr (.inl ⟨HQ1.out,rfl,N',F,HV2.out,HQ3.out.trans ⟨HK2.out,fun k hk=>.inl hk⟩⟩)
 ·have HQ1:=Ql4 q1
  have HQ2:=Ql4 q2
  have HQ3:=Ql4 q3
  clear q1 q2 q3
  go_wp2_with fail
  with_reducible refine (HDN.out _ _ _).mono ?_
  rintro e w2 ⟨rfl,rfl⟩
  go_wp2_with fail
  go_ret
  have hb2:Below w1.heap.size w1 (w1.alloc (.cells #[.string Qxc,.int .i64 x.1.id,.iface et ex] 187)):=(Below.refl _ _).alloc (Nat.le_refl _) _
  exact .inr (.inr ⟨HQ1.out,_,et,ex,rfl,Whole.new _ _ _,N',HQ2.out.below hb2,HQ3.out.trans (Mv.below hb2)⟩)
end vo
end Go.Proofs.YtfialjmemcobjaaGreatDoor
