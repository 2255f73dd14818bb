/- A part of the proof. -/
import Derived.Test.YtfialjmemcobjaaGreatDoorPrVqC
import Derived.Laws.Concat
set_option linter.unusedVariables false
set_option linter.unusedSimpArgs false
namespace Go.Proofs.YtfialjmemcobjaaGreatDoor
namespace vo
open Go.RowKit Go.Maps er st tr nd pg ge
set_option maxRecDepth 100000
set_option maxHeartbeats 16000000
theorem After1.below {B:Nat} {w W W':World} {v:Nat} {c:Pt} (h:After1 B w v c W) (hB:B≤w.heap.size) (hb:Below W.heap.size W W'):After1 B w v c W':=by
 obtain ⟨b,vv,h1,h2⟩:=h
 exact ⟨b,vv,h1.below hb,G8 h2 hB (Mv.below hb)⟩
theorem Qu6 (w:World) (hl:LaidT w):Calls Tryz.prog 11 #[] w fun e w'=>e= .returned (.bool true)∧Below w.heap.size w w':=by
 have h00:=hl.lt
 have H0:=Ql4 h00
 have HFR:=Ql4 (Nw w hl)
 have HX:Hid (∀W,Calls Tryz.prog 52 #[.int .i64 1,.int .u8 120] W fun e w'=>e= .returned (.string xt)∧Below W.heap.size W w'):=fun W=>Mk 120 W (by decide) (by decide)
 have HZ:Hid (∀W,Calls Tryz.prog 52 #[.int .i64 1,.int .u8 0] W fun e w'=>e= .returned (.string (strOfNums (List.replicate 32 0)))∧Below W.heap.size W w'):=fun W=>Mk 0 W (by decide) (by decide)
 have HS2:Hid (∀W v c,After1 w.heap.size w v c W→Calls Tryz.prog 28 #[.pointer (some ⟨v,0,none⟩),.int .i64 1,.int .i64 3,.string xt] W fun e w'=>e= .returned .nilIface∧Qkw w.heap.size w v c w'):=fun W v c h=>step2 w W v c h
 have HS5:Hid (∀W v c b V,VoIn W v c [(spE,b)] V→V.s.n=nE→Calls Tryz.prog 24 #[.pointer (some ⟨v,0,none⟩),.int .i64 1,.int .i64 2,.int .i64 2] W fun e w'=>e= .returned (.tuple #[.string (strOfNums (List.replicate 32 0)++xt),.nilIface])∧Below W.heap.size W w'):=fun W v c b V h1 h2=>Qfa W v c b V h1 h2
 have hsz:(strOfNums (List.replicate 32 0)).size+xt.size≤100:=of_decide_eq_true (by kernel_rfl)
 obtain ⟨X,hX⟩:∃X,xt=X:=⟨_,rfl⟩
 obtain ⟨Z,hZ⟩:∃Z,strOfNums (List.replicate 32 0)=Z:=⟨_,rfl⟩
 rw [hX] at HX HS2 HS5 hsz
 rw [hZ] at HZ HS5 hsz
 clear hl h00 hX hZ
 go_enter Tryz.func11,Tryz.ntmps11
 go_wp2_with fail
 refine HFR.out.mono ?_
 rintro e w1 ⟨v,c,rfl,hv,hb,hn⟩
 have hvq:=Ag v
 have HC1:=Ql4 (step1 w w1 v c hv ⟨hb,hn⟩)
 clear hv hb hn
 go_wp2_with fail
 refine HC1.out.mono ?_
 rintro e w2 ⟨rfl,ha⟩
 have HA:=Ql4 ha
 clear ha
 go_wp2_with fail
 refine (HX.out _).mono ?_
 rintro e w3 ⟨rfl,hb3⟩
 have HW3:=Ql4 (HS2.out w3 v c (HA.out.below (Nat.le_refl _) hb3))
 clear hb3
 go_wp2_with fail
 refine HW3.out.mono ?_
 rintro e w4 ⟨rfl,ha⟩
 have HW4:=Ql4 (Qfe w w4 v c H0.out ha)
 clear ha
 go_wp2_with fail
 refine HW4.out.mono ?_
 rintro e w5 ⟨rfl,ha⟩
 have HW5:=Ql4 (Qfd w w5 c.p H0.out ha)
 clear ha
 go_wp2_with fail
 refine HW5.out.mono ?_
 rintro e w6 ⟨v2,c2,rfl,b,V,hv6,hn6,hg6,hb6⟩
 have HV6:=Ql4 hv6
 have HB6:=Ql4 hb6
 have HW6:=Ql4 (HS5.out w6 v2 c2 b V hv6 hn6)
 clear hv6 hn6 hb6 hvq
 go_wp2_with fail
 refine HW6.out.mono ?_
 rintro e w7 ⟨rfl,hb7⟩
 have HV7:=Ql4 (HV6.out.below hb7)
 have HB7:=Ql4 (HB6.out.trans (hb7.mono HB6.out.size))
 have HOF:Hid (Calls Tryz.prog 18 #[.pointer (some ⟨v2,0,none⟩),.int .i64 1] w7 fun e w'=>e= .returned (.tuple #[.int .i64 10,.int .i64 1,.nilIface])∧Below w7.heap.size w7 w'):=Sd w7 v2 c2 _ V (spE,b) HV7.out (by simp)
 clear hb7
 go_wp2_with fail
 refine HOF.out.mono ?_
 rintro e w8 ⟨rfl,hb8⟩
 have HV8:=Ql4 (HV7.out.below hb8)
 have HB8:=Ql4 (HB7.out.trans (hb8.mono HB7.out.size))
 clear hb8
 go_wp2_with fail
 refine (HZ.out _).mono ?_
 rintro e w9 ⟨rfl,hb9⟩
 have HV9:=Ql4 (HV8.out.below hb9)
 have HB9:=Ql4 (HB8.out.trans (hb9.mono HB8.out.size))
 clear hb9
 go_wp2_with fail
 refine (HX.out _).mono ?_
 rintro e w10 ⟨rfl,hb10⟩
 have HV10:=Ql4 (HV9.out.below hb10)
 have HB10:=Ql4 (HB9.out.trans (hb10.mono HB9.out.size))
 clear hb10
 have hcat:∀W,(binOp .add 9 (.string Z) (.string X)).run Tryz.prog W= .ok (.string (Z++X)) W:=fun W=>by rw [binOp_string_add];exact run_string_add_sum W Z X (by omega)
 have HGN:Hid (Calls Tryz.prog 21 #[.pointer (some ⟨v2,0,none⟩)] w10 fun e w'=>e= .returned (.int .i64 1)∧w10=w'):=by
  have:=Cf w10 v2 c2 _ V HV10.out
  rwa [hg6] at this
 go_wp2_with fail
 refine HGN.out.mono ?_
 rintro e w11 ⟨rfl,rfl⟩
 go_wp2_with fail
 go_ret
 exact ⟨rfl,HB10.out⟩
end vo
namespace vo
open Go.RowKit Go.Maps er st tr nd pg ge
set_option maxRecDepth 100000
set_option maxHeartbeats 16000000
def ArW (B:Nat) (w:World) (N:Nat→Prop) (p:Nat) (n:Nand) (w':World):Prop:=NandAt w' N p n∧LaidT w'∧Own B w N w'
theorem ArW.below {B:Nat} {w w' w'':World} {N:Nat→Prop} {p:Nat} {n:Nand} (h:ArW B w N p n w') (hB:B≤w.heap.size) (hb:Below w'.heap.size w' w''):ArW B w N p n w'':=
 ⟨h.1.below hb,(Keep.below (F:=fun _=>False) hb).cell h.2.1 (fun h=>h),G8 h.2.2 hB (Mv.below hb)⟩
theorem Qfn (w W:World) (N:Nat→Prop) (p:Nat) (xs:Nat→ByteArray) (m:Nat) (hw:0 < w.heap.size) (h:ArW w.heap.size w N p (Qh xs m) W) (hm:m < 60) (hx:(xs m).size≤128):Calls Tryz.prog 13 #[.pointer (some ⟨p,0,none⟩),.int .i64 (m:Int),.string (xs m)] W fun e w'=>e= .returned .nilIface∧∃N',ArW w.heap.size w N' p (Qh xs (m+1)) w':=by
 obtain ⟨h1,h2,h3⟩:=h
 refine (Ob W N p (Qh xs m) (m:Int) (xs m) h1 (by show ((m:Nat):Int)≤_;omega) (by omega)).mono ?_
 rintro e w' ⟨v,N',rfl,q1,q2,q3⟩
 rw [Qum xs m hm hx] at q1 q3
 rcases q3 with ⟨_,rfl⟩|⟨q3,_⟩
 ·exact ⟨rfl,N',q1,q2.keep.cell h2 (fun h=>by have:=h3.2 0 h;omega),G8 h3 (Nat.le_refl _) q2⟩
 ·exact absurd rfl q3
theorem Qbe (w W:World) (N:Nat→Prop) (p:Nat) (n:Nand) (hw:0 < w.heap.size) (h:ArW w.heap.size w N p n W) (hd:n.down=false) (hb:n.blocks=16) (hp:n.per=16) (ht:∀a,(n.read a).2.size≤128):Calls Tryz.prog 14 #[.pointer (some ⟨p,0,none⟩)] W fun e w'=>∃v c X V l,e= .returned (.tuple #[.pointer (some ⟨v,0,none⟩),.nilIface])∧c.p=p∧VoIn w' v c X V∧Own w.heap.size w (vF v c X) w'∧l.Perm (rt.Xy (Qu n 256))∧l.Pairwise rt.newer∧Qkt (Ka n) l X V∧Keep N W w':=by
 obtain ⟨h1,h2,h3⟩:=h
 refine (Qa1 W N p n h1 hd h2 (fun h=>by have:=h3.2 0 h;omega) hb hp ht).mono ?_
 rintro e w' ⟨v,c,X,V,l,rfl,q1,q2,q3,q4,q5,q6⟩
 have hm:n.blocks * n.per=256:=by rw [hb,hp]
 rw [hm] at q3
 exact ⟨v,c,X,V,l,rfl,q1,q2,G8 h3 (Nat.le_refl _) q6,q3,q4,q5,q6.keep⟩
theorem Qzv {X:XL} {id:Int} (h:∀x∈X,x.1.id≠id):K9 (key (Q5 X)) id=none:=by
 unfold K9
 rw [List.find?_eq_none.2 (fun y hy=>?_)]
 ·rfl
 ·obtain ⟨z,hz,rfl⟩:=List.mem_map.1 hy
  obtain ⟨x,hx,rfl⟩:=List.mem_map.1 hz
  simpa using h x hx
theorem Qhc (w W:World) (v:Nat) (c:Pt) (X:XL) (V:Vo) (id:Int) (n:Nand) (hv:VoIn W v c X V) (ho:Own w.heap.size w (vF v c X) W) (hop:Opd n X V) (hi:1≤id∧id≤65535) (hd:∀x∈X,x.1.id≠id) (h8:X.length < 8):Calls Tryz.prog 22 #[.pointer (some ⟨v,0,none⟩),.int .i64 id,.int .i64 9] W fun e w'=>e= .returned .nilIface∧∃b,VoIn w' v c (Qw X id b) (Dj V (Qw X id b))∧Own w.heap.size w (vF v c (Qw X id b)) w':=by
 refine (Ch W v c X V id 9 hv ⟨hop.sx,hop.last⟩ hi hd (Qzv hd) ⟨by decide,by decide⟩ h8).mono ?_
 rintro e w' ⟨rfl,ab,p,hv',hk,ha,hp⟩
 obtain ⟨h1,h2⟩:=ho
 have hs:=h1.size
 obtain t1:=hk.toBelow hs h2
 refine ⟨rfl,⟨ab,p,[p]⟩,hv',h1.trans t1,fun k hk=>?_⟩
 have hk':vF v c (Xx X ((⟨id,9,0,.no⟩:Sp),(⟨ab,p,[p]⟩:Bl))) k:=hk
 rcases hk' with hk'|hk'
 ·exact h2 k (.inl hk')
 ·have:=(Ri (v:=v) (c:=c) (X:=X) (s:=(⟨id,9,0,.no⟩:Sp)) (ab:=ab) (p:=p) hd).mem_iff.1 hk'
  simp only [List.mem_cons] at this
  rcases this with rfl|rfl|hk'
  ·omega
  ·omega
  ·exact h2 k (.inr hk')
theorem Qfw (w W:World) (v:Nat) (c:Pt) (X:XL) (V:Vo) (id:Int) (b:Bl) (xs:Nat→ByteArray) (k:Nat) (hk:k≤60) (hv:VoIn W v c (Qw X id b) (Dj V (Qw X id b))) (ho:Own w.heap.size w (vF v c (Qw X id b)) W) (hop:Opd (Qh xs k) X V) (hi:1≤id∧id≤65535) (hd:∀x∈X,x.1.id≠id) (h8:X.length < 8) (hg:V.gen < 1099511627775) (hq:V.s.seq≤281474976710556):Calls Tryz.prog 23 #[.pointer (some ⟨v,0,none⟩)] W fun e w'=>e= .returned .nilIface∧∃c' V',c'.p=c.p∧VoIn w' v c' (Qw X id b) V'∧V'.cap=10∧V'.gen=V.gen+1∧V'.s.n=Z6 xs k (U9 V (Qw X id b))∧Own w.heap.size w (vF v c' (Qw X id b)) w':=by
 have hs0:(Dj V (Qw X id b)).sure=false:=rfl
 have hg0:=hop.gen
 refine (E8 W v c _ _ 3 hv hg0 hg (fun _=>Qik hk hop hi hd h8 hg hq hv.up) hop.last (fun j x A s1 s T hx hA hno=>absurd hno (Qjb hk hop hi hx hA))).mono ?_
 rintro e w' (⟨⟨h,_⟩,_⟩|⟨Y,s,r,N',lv,L,rfl,q1,q2,q3,q4,q5,q6⟩|⟨_,_,_,Y,s,N',_,_,_,_,q⟩)
 ·rw [hs0] at h;cases h
 ·obtain ⟨rfl,hr,_⟩:=Nn hk hop hi hd h8 q1 q2
  exact ⟨rfl,{c with N:=N',lv:=lv},_,rfl,q5,hop.cap,rfl,hr,G8 ho (Nat.le_refl _) q6⟩
 ·exfalso
  rcases q with ⟨j,x,A,s1,T,z1,z2,z3,_⟩|⟨s1,a,er,z1,z2,z3⟩
  ·exact Qjb hk hop hi z1 z2 z3
  ·obtain ⟨_,_,hr⟩:=Nn hk hop hi hd h8 z1 z2
   exact z3 hr
theorem VoIn.side {w w':World} {v:Nat} {c:Pt} {X:XL} {V:Vo} (h:VoIn w v c X V) (hk:Keep c.N w w'):Whole w' v 115 (Qi c V)∧LedIn w' c.lb c.mb V.cap (Q5 X):=by
 have hf:∀k∈Dl v c X,¬c.N k:=fun k hk hn=>(h.far k hk).1 (.inr (.inr (.inr hn)))
 exact ⟨h.obj.keep hk (hf _ (by simp [Dl])),h.led.keep hk (fun k hl=>hf k (Pv hl))⟩
theorem Qgo (w:World) (v:Nat) (c:Pt) (V:Vo) (h:Whole w v 115 (Qi c V)):Calls Tryz.prog 21 #[.pointer (some ⟨v,0,none⟩)] w fun e w'=>e= .returned (.int .i64 V.gen)∧w=w':=by
 have hvq:=Ag v
 have c3:=h.cell 3
 simp [Qi] at c3
 clear h
 go_enter Tryz.func21,Tryz.ntmps21
 go_wp2_with fail
 go_ret
 exact ⟨rfl,rfl⟩
theorem D8 (w:World) (v:Nat) (c:Pt) (X:XL) (V:Vo) (h:Whole w v 115 (Qi c V)) (hl:LedIn w c.lb c.mb V.cap (Q5 X)):Calls Tryz.prog 15 #[.pointer (some ⟨v,0,none⟩)] w fun e w'=>e= .returned (.int .i64 (V.cap - Zw (X.map (·.1))))∧Below w.heap.size w w':=by
 have hvq:=Ag v
 have c1:=h.cell 1
 simp [Qi] at c1
 have HL0:=En w _ _ _ _ hl
 rw [Gl] at HL0
 have HL:=Ql4 HL0
 clear h hl HL0
 obtain ⟨q,hq⟩:∃q:Int,V.cap - Zw (X.map (·.1))=q:=⟨_,rfl⟩
 rw [hq] at HL ⊢
 go_enter Tryz.func15,Tryz.ntmps15
 go_wp2_with fail
 with_reducible refine HL.out.mono ?_
 rintro e w1 ⟨rfl,hb1⟩
 have HB1:=Ql4 hb1
 clear hb1
 go_wp2_with fail
 go_ret
 exact ⟨rfl,HB1.out⟩
theorem Qok (w:World) (q p:Nat) (sv vv:Value) (N:Nat→Prop) (s:Sto) (h:StoIn w q p sv vv N s):
  Calls Tryz.prog 20 #[.pointer (some ⟨q,0,none⟩)] w fun e w'=>e= .returned (.int .i64 s.seq)∧w=w':=by
 have c11:=h.cells.c11
 have hq:=Qx7 q
 clear h
 go_enter Tryz.func20,Tryz.ntmps20
 go_wp2_with fail
 go_ret
 exact ⟨rfl,rfl⟩
def Qj9 (w:World) (b off:Nat) (l:List Page):Prop:=∀(j:Nat) (p:Page),l[j]? =some p→w.cell? ⟨b,off+j * 5,none⟩=some (.int .i64 p.kind)∧w.cell? ⟨b,off+j * 5+1,none⟩=some (.int .i64 p.space)∧w.cell? ⟨b,off+j * 5+2,none⟩=some (.int .i64 p.key)∧w.cell? ⟨b,off+j * 5+3,none⟩=some (.int .i64 p.seq)∧w.cell? ⟨b,off+j * 5+4,none⟩=some (.string p.body)
def xsL (l:List Page):Nat→ByteArray:=fun j=>(((l.take 60).filter Zj).map Qp).getD j ⟨#[]⟩
def Hw (l:List Page) (i:Nat):Nat:=((l.take i).filter Zj).length
theorem Qct {l:List Page} {i:Nat} {p:Page} (h:l[i]? =some p) (hm:Zj p=false):Hw l (i+1)=Hw l i:=by
 unfold Hw
 rw [List.take_add_one,h,List.filter_append]
 simp [hm]
theorem Qe4 {l:List Page} {i:Nat} {p:Page} (h:l[i]? =some p) (hm:Zj p=true) (hi:i < 60):Hw l (i+1)=Hw l i+1∧xsL l (Hw l i)=Qp p∧(xsL l (Hw l i)).size≤128:=by
 have e1:(l.take (i+1)).filter Zj=(l.take i).filter Zj++[p]:=by
  rw [List.take_add_one,h,List.filter_append]
  simp [hm]
 have e2:xsL l (Hw l i)=Qp p:=by
  have e3:l.take 60=l.take (i+1)++(l.take 60).drop (i+1):=by
   conv=>lhs;rw [←List.take_append_drop (i+1) (l.take 60)]
   rw [List.take_take,Nat.min_eq_left (by omega)]
  unfold xsL Hw
  rw [e3,List.filter_append,e1,List.append_assoc,List.map_append,List.getD,List.getElem?_append_right (by rw [List.length_map];exact Nat.le_refl _),List.length_map,Nat.sub_self]
  rfl
 refine ⟨?_,e2,?_⟩
 ·unfold Hw
  rw [e1,List.length_append]
  rfl
 ·rw [e2]
  exact Mj hm
theorem Sk (l:List Page) (j:Nat):(xsL l j).size≤128:=by
 unfold xsL
 rw [List.getD]
 cases h:(((l.take 60).filter Zj).map Qp)[j]? with
 |none=>exact Nat.zero_le _
 |some t=>
  obtain ⟨p,hp,rfl⟩:=List.mem_map.1 (List.mem_of_getElem? h)
  exact Mj (List.mem_filter.1 hp).2
end vo
namespace vo
open Go.RowKit Go.Maps er st tr nd pg ge
set_option maxRecDepth 100000
set_option maxHeartbeats 16000000
def VW (w:World) (v:Nat) (c:Pt) (X:XL) (V:Vo) (wr:World):Prop:=VoIn wr v c X V∧Own w.heap.size w (vF v c X) wr
theorem VW.below {w wr w':World} {v:Nat} {c:Pt} {X:XL} {V:Vo} (h:VW w v c X V wr) (hb:Below wr.heap.size wr w'):VW w v c X V w':=⟨h.1.below hb,G8 h.2 (Nat.le_refl _) (Mv.below hb)⟩
theorem Qdi {X2:XL} {L:List Sp} (h:X2.map (·.1)=L):X2.length=L.length:=by rw [←h,List.length_map]
set_option maxHeartbeats 32000000 in
theorem Qzc (w:World) (hg:LaidT w) (A:Option Addr) (n c0:Nat) (l:List Page) (hl:l.length=n) (hn:n≤9223372036854775807) (ha:0 < n→∃b off,A=some ⟨b,off,none⟩∧b < w.heap.size∧Qj9 w b off l):
  Calls Tryz.prog 3 #[.slice A n c0] w fun e w'=>e= .returned (.bool true)∧Below w.heap.size w w':=by
 have h00:=hg.lt
 have HW0:=Ql4 h00
 have HAA:=Ql4 ha
 have HFR:=Ql4 (Nw w hg)
 clear hg ha h00
 go_enter Tryz.func3,Tryz.ntmps3
 go_wp2_with fail
 refine HFR.out.mono ?_
 rintro e w1 ⟨v0,c1,rfl,hv,hb,hn0⟩
 have hA1:ArW w.heap.size w c1.N c1.p (Qh (xsL l) 0) w1:=⟨by rw [Quh];exact hv.sto.arr,hv.laid,hb,fun k hk=>hn0 k (.inl (.inr (.inr (.inr hk))))⟩
 obtain ⟨p,hp⟩:∃p,c1.p=p:=⟨_,rfl⟩
 obtain ⟨N1,hN1⟩:∃N1,c1.N=N1:=⟨_,rfl⟩
 rw [hp,hN1] at hA1
 rw [hp]
 have HA1:=Ql4 hA1
 have hnq:∀w,(binOp .eql 23 (.pointer (some ⟨p,0,none⟩)) (.pointer none)).run Tryz.prog w= .ok (.bool false) w:=fun w=>by kernel_rfl
 clear hv hb hn0 hA1 hp hN1 HFR
 go_wp2_with fail
 refine (Qu6 _ HA1.out.2.1).mono ?_
 rintro e w2 ⟨rfl,hb2⟩
 have HA2:=Ql4 (HA1.out.below (Nat.le_refl _) hb2)
 clear hb2 HA1
 go_wp2_with fail
 go_loopw [5,6,7,8] (fun at_ iv _ _ wr=>∃(i m:Nat) (N:Nat→Prop),i≤n∧i≤60∧m≤i∧at_= .int .i64 m∧iv= .int .i64 i∧Hid (m=Hw l i)∧Hid (ArW w.heap.size w N p (Qh (xsL l) m) wr)) (fun _ iv _ _ _=>60 - (intOf iv).toNat)
 case atStart=>exact ⟨0,0,N1,Nat.zero_le _,Nat.zero_le _,Nat.le_refl _,rfl,rfl,rfl,HA2.out⟩
 case round=>
  clear HA2
  obtain ⟨i,m,N,hin,hi60,hmi,rfl,rfl,HM,HA⟩:=hrel
  by_cases hlt:i < n∧i < 60
  ·have hji:(i:Int) < (n:Int):=by omega
   have hj6:(i:Int) < 60:=by omega
   obtain ⟨b,off,rfl,hbw,hcb⟩:=HAA.out (by omega)
   obtain ⟨pg0,hx⟩:∃a,l[i]? =some a:=⟨l[i]'(by omega),List.getElem?_eq_getElem (by omega)⟩
   have HX:=Ql4 hx
   obtain ⟨a0,a1,a2,a3,a4⟩:=hcb i pg0 hx
   obtain ⟨k,sp,y,sq,bo⟩:=pg0
   simp only at a0 a1 a2 a3 a4
   have e0:=(HA.out.2.2.1.cell (p:=⟨b,_,none⟩) hbw).trans a0
   have e1:=(HA.out.2.2.1.cell (p:=⟨b,_,none⟩) hbw).trans a1
   have e2:=(HA.out.2.2.1.cell (p:=⟨b,_,none⟩) hbw).trans a2
   have e3:=(HA.out.2.2.1.cell (p:=⟨b,_,none⟩) hbw).trans a3
   have e4:=(HA.out.2.2.1.cell (p:=⟨b,_,none⟩) hbw).trans a4
   clear a0 a1 a2 a3 a4 hcb hx
   cases hmb:Zj ⟨k,sp,y,sq,bo⟩
   ·have HWR:Hid (∀W,Calls Tryz.prog 12 #[.agg #[.int .i64 k,.int .i64 sp,.int .i64 y,.int .i64 sq,.string bo]] W fun e w'=>e= .returned (.tuple #[.string ⟨#[]⟩,.int .i64 1])∧Below W.heap.size W w'):=fun W=>Aj ⟨k,sp,y,sq,bo⟩ W hmb
    have HC:=Ql4 (Qct HX.out hmb)
    clear hmb
    go_wp2_with fail
    refine (HWR.out _).mono ?_
    rintro e w3 ⟨rfl,hb3⟩
    have HA3:=Ql4 (HA.out.below (Nat.le_refl _) hb3)
    clear hb3 e0 e1 e2 e3 e4
    go_wp2_with fail
    go_roundw
    case rel=>exact ⟨i+1,m,N,by omega,by omega,by omega,rfl,by go_num,by show _=_;rw [HC.out];exact HM.out,HA3.out⟩
    case measure=>simp [intOf];omega
   ·obtain ⟨h1,h2,h3⟩:=Qe4 HX.out hmb (by omega)
    rw [←HM.out] at h1 h2 h3
    have HP:Hid (∀W,ArW w.heap.size w N p (Qh (xsL l) m) W→Calls Tryz.prog 13 #[.pointer (some ⟨p,0,none⟩),.int .i64 (m:Int),.string (Qp ⟨k,sp,y,sq,bo⟩)] W fun e w'=>e= .returned .nilIface∧∃N',ArW w.heap.size w N' p (Qh (xsL l) (m+1)) w'):=fun W h=>by rw [←h2];exact Qfn w W N p (xsL l) m HW0.out h (by omega) h3
    have HWR:Hid (∀W,Calls Tryz.prog 12 #[.agg #[.int .i64 k,.int .i64 sp,.int .i64 y,.int .i64 sq,.string bo]] W fun e w'=>e= .returned (.tuple #[.string (Qp ⟨k,sp,y,sq,bo⟩),.int .i64 0])∧Below W.heap.size W w'):=fun W=>Dw ⟨k,sp,y,sq,bo⟩ W hmb
    have HC:=Ql4 h1
    obtain ⟨t,ht⟩:∃t,Qp ⟨k,sp,y,sq,bo⟩=t:=⟨_,rfl⟩
    rw [ht] at HP HWR
    clear hmb h1 h2 h3 ht
    go_wp2_with fail
    refine (HWR.out _).mono ?_
    rintro e w3 ⟨rfl,hb3⟩
    have HP3:=Ql4 (HP.out w3 (HA.out.below (Nat.le_refl _) hb3))
    clear hb3 e0 e1 e2 e3 e4
    go_wp2_with fail
    refine HP3.out.mono ?_
    rintro e w4 ⟨rfl,N',ha4⟩
    have HA4:=Ql4 ha4
    clear ha4
    go_wp2_with fail
    go_roundw
    case rel=>exact ⟨i+1,m+1,N',by omega,by omega,by omega,by go_num,by go_num,by show _=_;rw [HC.out],HA4.out⟩
    case measure=>simp [intOf];omega
  ·have hm60:m≤60:=by omega
   have HOP:=Ql4 (Qbe w wr N p (Qh (xsL l) m) HW0.out HA.out rfl rfl rfl (N8 (Sk l) m))
   have hend:(¬(i:Int) < (n:Int))∨((i:Int) < (n:Int)∧¬(i:Int) < 60):=by omega
   clear hlt HAA HA HM
   rcases hend with hend|⟨hend,hend2⟩
   all_goals
    go_wp2_with fail
    refine HOP.out.mono ?_
    rintro e w5 ⟨v,c,X,V,l1,rfl,hcp,hv,ho,hp1,hpw,hop,_⟩
    have HOD:Hid (Opd (Qh (xsL l) m) X V):=Qcj rfl rfl hp1 hpw hop
    have HV:=Ql4 (show VW w v c X V w5 from ⟨hv,ho⟩)
    have HCP:=Ql4 hcp
    have hvq:=Ag v
    obtain ⟨q0,hq0⟩:∃q,V.cap - Zw (X.map (·.1))=q:=⟨_,rfl⟩
    have hq1:0≤q0:=by have:=hv.led.ok.sum;rw [Gl] at this;omega
    have HLF0:=D8 w5 v c X V hv.obj hv.led
    rw [hq0] at HLF0
    have HLF:=Ql4 HLF0
    clear hv ho hp1 hpw hop hcp hq0 HLF0 HOP
    go_wp2_with fail
    refine HLF.out.mono ?_
    rintro e w6 ⟨rfl,hb6⟩
    have HV6:=Ql4 (HV.out.below hb6)
    clear hb6 HLF HV
    go_wp2_with fail
    refine (Qxl w6 v c X V HV6.out.1).mono ?_
    rw [HOD.out.sure]
    rintro e w7 ⟨rfl,rfl⟩
    go_wp2_with fail
    refine (E5 w6 v c X V HV6.out.1).mono ?_
    rintro e w8 ⟨v',rfl,ho8,hb8⟩
    obtain ⟨A1,d1,rfl⟩:=Qk ho8
    have HV8:=Ql4 (HV6.out.below hb8)
    obtain ⟨nX,hnX⟩:∃nX,X.length=nX:=⟨_,rfl⟩
    have hx8:nX≤8:=by rw [←hnX];exact HOD.out.sx.1
    rw [hnX] at ho8 ⊢
    have HO8:=Ql4 ho8
    have HNX:=Ql4 hnX
    obtain ⟨B6,hB6⟩:∃B,w6.heap.size=B:=⟨_,rfl⟩
    rw [hB6] at HO8
    clear ho8 hb8 HV6 hnX hB6
    go_wp2_with fail
    go_loopw [12,13,14,15] (fun iv _ _ _ wr=>∃j:Nat,j≤nX∧iv= .int .i64 j∧Hid (VW w v c X V wr)∧Hid (wr.ownsRow B6 3 1 (.slice A1 nX d1) nX (ints (X.map (·.1.id))))) (fun iv _ _ _ _=>nX - (intOf iv).toNat)
    case atStart=>exact ⟨0,Nat.zero_le _,rfl,HV8.out,HO8.out⟩
    case round=>
     clear HV8 HO8
     obtain ⟨j,hj,rfl,HVr,HOr⟩:=hrel
     by_cases hlt:j < nX
     ·have hji:(j:Int) < (nX:Int):=by omega
      obtain ⟨x,hx⟩:∃x,X[j]? =some x:=⟨_,List.getElem?_eq_getElem (by have:=HNX.out;omega)⟩
      have hxm:=List.mem_of_getElem? hx
      obtain ⟨gi,rfl,_,_,_,hcell,_⟩:=Qo HOr.out (by omega)
      have ci:wr.cell? ⟨gi,j,none⟩=some (.int .i64 x.1.id):=by
       have:=hcell j (.int .i64 x.1.id) (by simp [ints,hx])
       simpa using this
      have HOF:Hid (∀W,VoIn W v c X V→Calls Tryz.prog 18 #[.pointer (some ⟨v,0,none⟩),.int .i64 x.1.id] W fun e w'=>e= .returned (.tuple #[.int .i64 x.1.size,.int .i64 x.1.used,.nilIface])∧Below W.heap.size W w'):=fun W h=>Sd W v c X V x h hxm
      obtain ⟨hu0,hu1⟩:=Nu HOD.out x hxm
      obtain ⟨y0,hy0⟩:∃y0,x.1.id=y0:=⟨_,rfl⟩
      obtain ⟨y1,hy1⟩:∃y1,x.1.size=y1:=⟨_,rfl⟩
      obtain ⟨y2,hy2⟩:∃y2,x.1.used=y2:=⟨_,rfl⟩
      rw [hy0,hy1,hy2] at HOF
      rw [hy0] at ci
      rw [hy2] at hu0
      rw [hy1,hy2] at hu1
      clear hx hxm hcell hy0 hy1 hy2
      go_wp2_with fail
      refine (HOF.out _ HVr.out.1).mono ?_
      rintro e w9 ⟨rfl,hb9⟩
      have HV9:=Ql4 (HVr.out.below hb9)
      have HO9:=Ql4 (own_below HOr.out hb9)
      clear hb9 ci
      go_wp2_with fail
      go_roundw
      case rel=>exact ⟨j+1,by omega,by go_num,HV9.out,HO9.out⟩
      case measure=>simp [intOf];omega
     ·obtain rfl:j=nX:=by omega
      clear hlt
      go_wp2_with fail
      refine (Qqf _ v c X V HVr.out.1).mono ?_
      rintro e w9 ⟨rfl,rfl⟩
      go_wp2_with fail
      refine (Qok _ _ _ _ _ _ _ HVr.out.1.sto).mono ?_
      rintro e w9 ⟨rfl,rfl⟩
      have HSQ0:=Ql4 HVr.out.1.sto.q0
      obtain ⟨sq,hsq⟩:∃sq,V.s.seq=sq:=⟨_,rfl⟩
      rw [hsq] at HSQ0 ⊢
      have HSQ:=Ql4 hsq
      clear hsq
      by_cases hs1:281474976710556 < sq
      ·go_wp2_with fail
       go_ret
       exact ⟨rfl,HVr.out.2.1⟩
      ·go_wp2_with fail
       refine (Cf _ v c X V HVr.out.1).mono ?_
       rintro e w9 ⟨rfl,rfl⟩
       obtain ⟨g,hgg⟩:∃g,V.gen=g:=⟨_,rfl⟩
       rw [hgg]
       have HGG:=Ql4 hgg
       clear hgg
       by_cases hg1:1099511627775≤g
       ·go_wp2_with fail
        go_ret
        exact ⟨rfl,HVr.out.2.1⟩
       ·by_cases hn8:8≤j
        ·have hn8i:(8:Int)≤(j:Int):=by omega
         go_wp2_with fail
         go_ret
         exact ⟨rfl,HVr.out.2.1⟩
        ·have hn8i:(j:Int) < 8:=by omega
         go_wp2_with fail
         go_loopw [16,17] (fun dv iv wr=>∃(i d:Nat),i≤j∧1≤d∧d≤i+1∧dv= .int .i64 d∧iv= .int .i64 i∧Hid (∀x∈X.take i,x.1.id≠(d:Int))∧Hid (VW w v c X V wr)∧Hid (wr.ownsRow B6 3 1 (.slice A1 j d1) j (ints (X.map (·.1.id))))) (fun _ iv _=>j - (intOf iv).toNat)
         case atStart=>exact ⟨0,1,Nat.zero_le _,Nat.le_refl _,Nat.le_refl _,rfl,rfl,fun x hx=>by simp at hx,HVr.out,HOr.out⟩
         case round=>
          clear HVr HOr
          obtain ⟨i2,d,hi2,hd1,hd2,rfl,rfl,HD,HVr,HOr⟩:=hrel
          by_cases hlt:i2 < j
          ·have hji:(i2:Int) < (j:Int):=by omega
           obtain ⟨x,hx⟩:∃x,X[i2]? =some x:=⟨_,List.getElem?_eq_getElem (by have:=HNX.out;omega)⟩
           obtain ⟨gi,rfl,_,_,_,hcell,_⟩:=Qo HOr.out (by omega)
           have ci:wr.cell? ⟨gi,i2,none⟩=some (.int .i64 x.1.id):=by
            have:=hcell i2 (.int .i64 x.1.id) (by simp [ints,hx])
            simpa using this
           have HUP:=Ql4 HVr.out.1.up
           have HX:=Ql4 hx
           obtain ⟨y0,hy0⟩:∃y0,x.1.id=y0:=⟨_,rfl⟩
           rw [hy0] at ci
           have HY:=Ql4 hy0
           have htk:X.take (i2+1)=X.take i2++[x]:=by rw [List.take_add_one,hx];rfl
           have HTK:=Ql4 htk
           clear hx hcell hy0 htk
           by_cases hyd:y0=(d:Int)
           ·have hydb:(y0 == (d:Int))=true:=by simpa using hyd
            have HN1:Hid (∀x∈X.take (i2+1),x.1.id≠((d+1:Nat):Int)):=by
             intro z hz
             rw [HTK.out] at hz
             rcases List.mem_append.1 hz with hz|hz
             ·obtain ⟨k,hk,rfl⟩:=List.mem_iff_getElem.1 hz
              rw [List.length_take] at hk
              have h1:=List.pairwise_iff_getElem.1 HUP.out k i2 (by omega) (List.getElem?_eq_some_iff.1 HX.out).1 (by omega)
              rw [(List.getElem?_eq_some_iff.1 HX.out).2,HY.out] at h1
              rw [List.getElem_take]
              omega
             ·simp only [List.mem_singleton] at hz
              rw [hz,HY.out]
              omega
            clear hyd
            go_wp2_with fail
            go_roundw
            case rel=>exact ⟨i2+1,d+1,by omega,by omega,by omega,by go_num,by go_num,HN1.out,HVr.out,HOr.out⟩
            case measure=>simp [intOf];omega
           ·have hydb:(y0 == (d:Int))=false:=by simpa using hyd
            have HN1:Hid (∀x∈X.take (i2+1),x.1.id≠(d:Int)):=by
             intro z hz
             rw [HTK.out] at hz
             rcases List.mem_append.1 hz with hz|hz
             ·exact HD.out z hz
             ·simp only [List.mem_singleton] at hz
              rw [hz,HY.out]
              exact hyd
            clear hyd
            go_wp2_with fail
            go_roundw
            case rel=>exact ⟨i2+1,d,by omega,by omega,by omega,rfl,by go_num,HN1.out,HVr.out,HOr.out⟩
            case measure=>simp [intOf];omega
          ·obtain rfl:i2=j:=by omega
           have hdX:∀x∈X,x.1.id≠(d:Int):=fun x hx=>HD.out x (by rw [List.take_of_length_le (by have:=HNX.out;omega)];exact hx)
           have hdi:1≤(d:Int)∧(d:Int)≤65535:=by omega
           have h8:X.length < 8:=by have:=HNX.out;omega
           have HCR:=Ql4 (Qhc w wr v c X V d (Qh (xsL l) m) HVr.out.1 HVr.out.2 HOD.out hdi hdX h8)
           have HCM:Hid (∀W b,VoIn W v c (Qw X d b) (Dj V (Qw X d b))→Own w.heap.size w (vF v c (Qw X d b)) W→Calls Tryz.prog 23 #[.pointer (some ⟨v,0,none⟩)] W fun e w'=>e= .returned .nilIface∧∃c' V',c'.p=c.p∧VoIn w' v c' (Qw X d b) V'∧V'.cap=10∧V'.gen=V.gen+1∧V'.s.n=Z6 (xsL l) m (U9 V (Qw X d b))∧Own w.heap.size w (vF v c' (Qw X d b)) w'):=fun W b h1 h2=>Qfw w W v c X V d b (xsL l) m hm60 h1 h2 HOD.out hdi hdX h8 (by rw [HGG.out];omega) (by rw [HSQ.out];omega)
           have HUL:Hid (∀W v' c' b V',VoIn W v' c' (Qw X d b) V'→V'.cap=10→Zw ((Qw X d b).map (·.1))≤10):=fun W v' c' b V' h hc=>by have:=h.led.ok.sum;rw [Gl,hc] at this;exact this
           have HAG:Hid (∀(b:Bl) (l2:List Fnd) (X2:XL) (V2:Vo),((Qw X d b).Pairwise fun a b=>a.1.id < b.1.id)→Zw ((Qw X d b).map (·.1))≤10→l2.Perm (rt.Xy (Qu (Z6 (xsL l) m (U9 V (Qw X d b))) 256))→l2.Pairwise rt.newer→Qkt (Ka (Z6 (xsL l) m (U9 V (Qw X d b)))) l2 X2 V2→X2.map (·.1)=(Qw X d b).map (·.1)∧V2.gen=V.gen+1∧V2.cap=10):=fun b l2 X2 V2 h1 h2 h3 h4 h5=>again hm60 HOD.out hdi hdX h8 (by rw [HGG.out];omega) (by rw [HSQ.out];exact HSQ0.out) (by rw [HSQ.out];omega) h1 h2 h3 h4 h5
           have HLN:Hid (∀b,(Qw X d b).length=i2+1∧(U9 V (Qw X d b)).size≤128):=fun b=>by
            have h1:(Qw X d b).length=X.length+1:=(Yw (y:=((⟨d,9,0,.no⟩:Sp),b)) hdX).length_eq
            refine ⟨by rw [h1,HNX.out],(Td (by omega) (by rw [HSQ.out];exact HSQ0.out) (by rw [HSQ.out];omega)).2⟩
           clear hdX h8 HD HOD
           go_wp2_with fail
           refine HCR.out.mono ?_
           rintro e w10 ⟨rfl,b,hv10,ho10⟩
           have HCM1:=Ql4 (HCM.out w10 b hv10 ho10)
           clear hv10 ho10 HCM HCR
           go_wp2_with fail
           refine HCM1.out.mono ?_
           rintro e w11 ⟨rfl,c',V',z1,z2,z3,z4,z5,z6⟩
           have ha11:ArW w.heap.size w c'.N p (Z6 (xsL l) m (U9 V (Qw X d b))) w11:=⟨by rw [←z5,←HCP.out,←z1];exact z2.sto.arr,z2.laid,z6.1,fun k hk=>z6.2 k (.inl (.inr (.inr (.inr hk))))⟩
           have HOP2:=Ql4 (Qbe w w11 c'.N p _ HW0.out ha11 rfl rfl rfl (Qq7 (Sk l) (by omega) (HLN.out b).2))
           have HUU:=Ql4 (HUL.out w11 v c' b V' z2 z3)
           have HUP2:=Ql4 z2.up
           have HZ2:=Ql4 z2
           have HZ3:=Ql4 z3
           have HZ4:=Ql4 z4
           clear z1 z2 z3 z4 z5 z6 ha11 HCM1 HUL
           go_wp2_with fail
           refine HOP2.out.mono ?_
           rintro e w12 ⟨v2,c2,X2,V2,l2,rfl,_,hv12,ho12,hp2,hpw2,hop2,hk12⟩
           obtain ⟨f1,f2,f3⟩:=HAG.out b l2 X2 V2 HUP2.out HUU.out hp2 hpw2 hop2
           obtain ⟨s1,s2⟩:=HZ2.out.side hk12
           have HB12:=Ql4 ho12.1
           have HV12:=Ql4 hv12
           have hln2:X2.length=i2+1:=by rw [Qdi f1,List.length_map];exact (HLN.out b).1
           have HQ2:Hid (V2.cap - Zw (X2.map (·.1))=V'.cap - Zw ((Qw X d b).map (·.1))):=by show _=_;rw [f1,f3,HZ3.out]
           have HG2:Hid (V2.gen=V'.gen):=by show _=_;rw [f2,HZ4.out]
           have HS1:=Ql4 s1
           have HS2:=Ql4 s2
           have hvq2:=Ag v2
           have hvn2:∀w,(binOp .neq 24 (.pointer (some ⟨v2,0,none⟩)) (.pointer none)).run Tryz.prog w= .ok (.bool true) w:=fun w=>by kernel_rfl
           have HSP:=E5 w12 v2 c2 X2 V2 hv12
           rw [hln2] at HSP
           have HSPP:=Ql4 HSP
           clear hv12 ho12 hp2 hpw2 hop2 hk12 f1 f2 f3 s1 s2 hln2 HSP HOP2 HAG HZ2 HUP2 HUU
           go_wp2_with fail
           refine HSPP.out.mono ?_
           rintro e w13 ⟨v',rfl,ho13,hb13⟩
           obtain ⟨A3,d3,rfl⟩:=Qk ho13
           have HV13:=Ql4 (HV12.out.below hb13)
           have HS13:=Ql4 (HS1.out.below hb13 HS1.out.lt)
           have HL13:=Ql4 (HS2.out.below hb13)
           have HB13:=Ql4 (HB12.out.trans (hb13.mono HB12.out.size))
           have hcast:(((i2+1:Nat):Int))=(i2:Int)+1:=by omega
           clear ho13 hb13 HV12 HS1 HS2 HB12 HSPP
           go_wp2_with fail
           have HLA:=D8 w13 v2 c2 X2 V2 HV13.out.obj HV13.out.led
           rw [HQ2.out] at HLA
           obtain ⟨q3,hq3⟩:∃q,V'.cap - Zw ((Qw X d b).map (·.1))=q:=⟨_,rfl⟩
           rw [hq3] at HLA
           refine HLA.mono ?_
           rintro e w14 ⟨rfl,hb14⟩
           have HV14:=Ql4 (HV13.out.below hb14)
           have HS14:=Ql4 (HS13.out.below hb14 HS13.out.lt)
           have HL14:=Ql4 (HL13.out.below hb14)
           have HB14:=Ql4 (HB13.out.trans (hb14.mono HB13.out.size))
           have HQ3:=Ql4 hq3
           clear hb14 hq3 HLA
           go_wp2_with fail
           have HLB:=D8 w14 v c' (Qw X d b) V' HS14.out HL14.out
           rw [HQ3.out] at HLB
           refine HLB.mono ?_
           rintro e w15 ⟨rfl,hb15⟩
           have HV15:=Ql4 (HV14.out.below hb15)
           have HS15:=Ql4 (HS14.out.below hb15 HS14.out.lt)
           have HB15:=Ql4 (HB14.out.trans (hb15.mono HB14.out.size))
           clear hb15 HLB
           go_wp2_with fail
           refine (Cf w15 v2 c2 X2 V2 HV15.out).mono ?_
           rintro e w16 ⟨rfl,rfl⟩
           rw [HG2.out]
           go_wp2_with fail
           refine (Qgo w15 v c' V' HS15.out).mono ?_
           rintro e w16 ⟨rfl,rfl⟩
           obtain ⟨g3,hg3⟩:∃q,V'.gen=q:=⟨_,rfl⟩
           rw [hg3]
           clear hg3
           go_wp2_with fail
           go_ret
           exact ⟨rfl,HB15.out⟩
end vo
end Go.Proofs.YtfialjmemcobjaaGreatDoor
