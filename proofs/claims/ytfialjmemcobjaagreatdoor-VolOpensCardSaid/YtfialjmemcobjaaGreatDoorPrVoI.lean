/- A part of the proof. -/
import Derived.Test.YtfialjmemcobjaaGreatDoorPrTqB
import Derived.Test.YtfialjmemcobjaaGreatDoorPrTwF
import Derived.Test.YtfialjmemcobjaaGreatDoorPrVoC
set_option linter.unusedVariables false
set_option linter.unusedSimpArgs false
namespace Go.Proofs.YtfialjmemcobjaaGreatDoor
namespace vo
open Go.RowKit Go.Maps er st tr
theorem Qd0 {e x:Ext} {a b:Int} (h:partOf e a b=some x):a≤x.fr∧x.end_≤b:=by
 unfold partOf at h
 by_cases hq:min e.end_ b≤max e.fr a
 ·rw [if_pos hq] at h
  cases h
 ·rw [if_neg hq] at h
  injection h with h
  subst h
  show a≤max e.fr a∧max e.fr a+(min e.end_ b - max e.fr a)≤b
  omega
theorem Qg3:∀(l:List Ext) (a b:Int),Chk l→a≤b→(∀e∈l,a≤e.fr∧e.end_≤b)→0≤Jz l∧Jz l≤b - a
 |[],a,b,_,h1,_=>by simp [Jz];omega
 |e::l,a,b,hc,h1,hl=>by
  have ho:=Qy (hc.one e (by simp))
  have hp:=List.pairwise_cons.1 hc.ord
  have he:e.end_=e.fr+e.n:=rfl
  have h2:=hl e (by simp)
  have:=Qg3 l e.end_ b hc.tail (by omega) (fun x hx=>⟨(hp.1 x hx).1,(hl x (by simp [hx])).2⟩)
  simp only [Jz,List.map_cons,List.sum_cons] at this ⊢
  omega
def Kt (T:Tree) (f n:Int):Int:=n - Jz (parts T.flat f (f+n))
theorem V7 {T:Tree} {f n:Int} (hc:Chk T.flat) (h0:0≤f) (h1:0≤n) (h2:f+n≤16777216):0≤Kt T f n∧Kt T f n≤n:=by
 have:=Qg3 (parts T.flat f (f+n)) f (f+n) (Nk hc h0 h2) (by omega) (fun e he=>by
  obtain ⟨x,_,hx⟩:=J4 he
  exact Qd0 hx)
 unfold Kt
 omega
def Yv (X:XL) (id:Int) (f:Sp→Sp):XL:=X.map fun y=>if y.1.id=id then (f y.1,y.2) else y
theorem Qfy (w:World):(zeroValue 123).run Tryz.prog w= .ok (.pointer none) w:=by kernel_rfl
theorem VoIn.find {w:World} {v:Nat} {c:Pt} {X:XL} {V:Vo} (h:VoIn w v c X V) {x:Sp×Bl} (hx:x∈X):K9 (Zm X) x.1.id=some x.2.p:=Dq h.trs.2 (List.mem_map.2 ⟨x,hx,rfl⟩)
theorem VoIn.lookT {w:World} {v:Nat} {c:Pt} {X:XL} {V:Vo} (h:VoIn w v c X V) {x:Sp×Bl} (hx:x∈X):(Instr.lookup 113 (.map (some c.tb)) (.int .i64 x.1.id) false).run Tryz.prog w= .ok (.pointer (some ⟨x.2.p,0,none⟩)) w:=
 (h.trs.look Tryz.underlying113 Qfy (by have:=h.acc hx;unfold I64;omega) (h.find hx)).1
theorem Qab (X:XL) (id d:Int):Q5 (Yv X id fun s=>{s with used:=s.used+d})=Jn (Q5 X) id fun a=>{a with used:=a.used+d}:=by
 unfold Q5 Yv Jn
 rw [List.map_map,List.map_map]
 refine List.map_congr_left fun y hy=>?_
 show _=if y.1.id=id then _ else _
 by_cases h:y.1.id=id
 ·simp [h]
 ·simp [h]
theorem Qxt (X:XL) (id:Int) (f:Sp→Sp) (hf:∀s,(f s).id=s.id):Zm (Yv X id f)=Zm X:=by
 unfold Zm Yv
 rw [List.map_map]
 refine List.map_congr_left fun y hy=>?_
 show (((if y.1.id=id then (f y.1,y.2) else y):Sp×Bl).1.id,((if y.1.id=id then (f y.1,y.2) else y):Sp×Bl).2.p)=_
 by_cases h:y.1.id=id
 ·rw [if_pos h];simp [hf]
 ·rw [if_neg h]
theorem Qay (X:XL) (id:Int) (f:Sp→Sp):Zd (Yv X id f)=Zd X:=by
 unfold Zd Yv
 rw [List.flatMap_map]
 congr 1
 funext y
 by_cases h:y.1.id=id
 ·simp [h]
 ·simp [h]
theorem Ld (v:Nat) (c:Pt) (X:XL) (id:Int) (f:Sp→Sp):Dl v c (Yv X id f)=Dl v c X:=by unfold Dl;rw [Qay]
theorem Qgz {X:XL} {id:Int} {f:Sp→Sp} {z:Sp×Bl} (h:z∈Yv X id f):∃y∈X,z.2=y.2∧(z.1=y.1∨z.1=f y.1):=by
 obtain ⟨y,hy,rfl⟩:=List.mem_map.1 h
 refine ⟨y,hy,?_⟩
 split
 ·exact ⟨rfl,.inr rfl⟩
 ·exact ⟨rfl,.inl rfl⟩
theorem VoIn.acct {w w3:World} {v:Nat} {c:Pt} {X:XL} {V:Vo} {x:Sp×Bl} {f:Sp→Sp} {g:Acc→Acc} (hfi:∀s,(f s).id=s.id) (hft:∀s,(f s).tr=s.tr) (hfg:Q5 (Yv X x.1.id f)=Jn (Q5 X) x.1.id g) (h:VoIn w v c X V) (hx:x∈X) (hk:Keep (fun k=>k=x.2.a) w w3) (hl:LedIn w3 c.lb c.mb V.cap (Jn (Q5 X) x.1.id g)):
  VoIn w3 v c (Yv X x.1.id f) {V with l:=(Yv X x.1.id f).map (·.1)}:=by
 have hnd:=h.nd
 have hxa:x.2.a∈Dl v c X:=by
  simp only [Dl,List.mem_cons,List.mem_append]
  exact .inr (.inr (.inr (.inr (.inr (List.mem_flatMap.2 ⟨x,hx,by simp⟩)))))
 have hxb:x.2.a∈Zd X:=List.mem_flatMap.2 ⟨x,hx,by simp⟩
 have hS:∀k,stF c k→k≠x.2.a:=fun k hs e=>(h.far _ hxa).1 (e▸hs)
 unfold Dl at hnd
 simp only [List.nodup_cons,List.mem_cons,List.mem_append,not_or] at hnd
 obtain ⟨⟨n1,n2,n3,n4,n5⟩,⟨n6,n7,n8,n9⟩,⟨n10,n11,n12⟩,⟨n13,n14⟩,n15⟩:=hnd
 obtain ⟨m1,m2,m3⟩:=List.nodup_append.1 n15
 have htr:∀y∈X,∀k∈y.2.F,k≠x.2.a:=by
  intro y hy k hk e
  subst e
  obtain ⟨i,hi,hxi⟩:=List.getElem_of_mem hx
  obtain ⟨j,hj,hyj⟩:=List.getElem_of_mem hy
  unfold Zd at m2
  obtain ⟨p1,p2⟩:=List.pairwise_flatMap.1 m2
  by_cases hij:i=j
  ·subst hij
   have:x=y:=by rw [←hxi,←hyj]
   subst this
   exact (List.nodup_cons.1 (p1 x hx)).1 hk
  ·have hp:=List.pairwise_iff_getElem.1 p2
   rcases Nat.lt_or_ge i j with hlt|hge
   ·have:=hp i j hi hj hlt
    rw [hxi,hyj] at this
    exact this x.2.a (by simp) x.2.a (by simp [hk]) rfl
   ·have:=hp j i hj hi (by omega)
    rw [hxi,hyj] at this
    exact this x.2.a (by simp [hk]) x.2.a (by simp) rfl
 have hne:∀k,(k=v∨k=c.tb∨k∈Kh c.lv)→k≠x.2.a:=by
  intro k hk e
  rcases hk with hk|hk|hk
  ·exact n5 (by rw [←hk,e];exact hxb)
  ·exact n14 (by rw [←hk,e];exact hxb)
  ·exact m3 _ hk _ hxb e
 refine ⟨h.obj.keep hk (hne _ (.inl rfl)),h.sto.keep hk hS,by rw [hfg];exact hl,by rw [Qxt _ _ f hfi];exact h.trs.keep hk (hne _ (.inr (.inl rfl))),fun z hz=>?_,Qj h.lst hk (fun g hg=>hne g (.inr (.inr (Jf.2 hg)))),rfl,by rw [Ld];exact h.nd,by rw [Ld];exact h.far,h.zero,hk.cell h.laid (fun e=>(h.far _ hxa).2 e.symm)⟩
 obtain ⟨y,hy,e1,e2⟩:=Qgz hz
 have ht:z.1.tr=y.1.tr:=e2.elim (fun e=>by rw [e]) (fun e=>by rw [e,hft])
 rw [e1,ht]
 exact ⟨TrAt.keep (h.tre y hy).1 hk (fun k hf=>htr y hy k hf),(h.tre y hy).2⟩
theorem VoIn.charged {w w3:World} {v:Nat} {c:Pt} {X:XL} {V:Vo} {x:Sp×Bl} {d:Int} (h:VoIn w v c X V) (hx:x∈X) (hk:Keep (fun k=>k=x.2.a) w w3) (hl:LedIn w3 c.lb c.mb V.cap (Jn (Q5 X) x.1.id fun a=>{a with used:=a.used+d})):
  VoIn w3 v c (Yv X x.1.id fun s=>{s with used:=s.used+d}) {V with l:=(Yv X x.1.id fun s=>{s with used:=s.used+d}).map (·.1)}:=
 VoIn.acct (fun _=>rfl) (fun _=>rfl) (Qab X x.1.id d) h hx hk hl
end vo
namespace vo
open Go.RowKit Go.Maps er st tr nd pg
set_option maxRecDepth 100000
set_option maxHeartbeats 8000000
theorem Qzz (w:World) (v:Nat) (id:Int):
  Calls Tryz.prog 142 #[.pointer (some ⟨v,0,none⟩),.int .i64 id] w fun e w'=>e= .returned (.func (.func 205) #[] #[.pointer (some ⟨w.heap.size,0,none⟩),.pointer (some ⟨w.heap.size+1,0,none⟩)])∧Whole w' w.heap.size 24 #[.pointer (some ⟨v,0,none⟩)]∧Whole w' (w.heap.size+1) 3 #[.int .i64 id]∧Below w.heap.size w w':=by
 go_enter Tryz.func142,Tryz.ntmps142
 go_wp2_with fail
 go_ret
 exact ⟨rfl,(Whole.new w _ _).alloc _,Whole.new' _ _ _ _ (by simp),((Below.refl _ _).alloc (Nat.le_refl _) _).alloc (by simp) _⟩
end vo
namespace vo
open Go.RowKit Go.Maps er st tr nd pg
set_option maxRecDepth 100000
set_option maxHeartbeats 8000000
def Qc6 (w:World) (v:Nat) (c:Pt) (X:XL) (V:Vo) (key:Int) (r:Sto×Int×Int) (e:Ending) (w':World):Prop:=
 ∃u N',e= .returned (.tuple #[.int .i64 r.2.1,u])∧VoIn w' v {c with N:=N'} X {V with s:=r.1}∧Moved w c.q c.sv c.vv c.N w' N'∧Yt w' (stF {c with N:=N'}) [(Iq,key)] r.2.2 u
theorem Lg (w:World) (v:Nat) (c:Pt) (X:XL) (V:Vo) (pg:Page) (f:Nat) (r:Sto×Int×Int) (h:VoIn w v c X V) (hr:Ja f V.s pg=some r) (ho:V.s.n.ops+f≤1000000000000000000) (hq:V.s.seq≤281474976710655):
  Calls Tryz.prog 145 #[.pointer (some ⟨c.q,0,none⟩),pg.val] w (Qc6 w v c X V pg.key r):=by
 refine (Lb w c.q c.p c.sv c.vv c.N V.s pg f r h.sto h.laid h.zero hr ho hq).mono ?_
 rintro e w' ⟨u,N',rfl,hs,hm,he⟩
 exact ⟨u,N',rfl,h.stored hs hm,hm,he⟩
end vo
namespace vo
open Go.RowKit Go.Maps er st tr nd pg
set_option maxRecDepth 100000
set_option maxHeartbeats 8000000
def Zk (n:Nand) (id sec a:Int):Bool:=decide ((Qx n a).2=0) && decide ((Qx n a).1.kind=1) && decide ((Qx n a).1.space=id) && decide ((Qx n a).1.key=sec) && (((Qx n a).1.body.size:Int) == 32)
theorem Qjv {w:World} {l:List (ByteArray×Int)} {e:Int} {u:Value} (h:Yt w (fun _=>False) l e u) (he:e≠0):∃t y,u= .iface t y:=by
 rcases h with ⟨h,_⟩|⟨_,bs,ha,_⟩
 ·exact absurd h he
 ·match bs,l,ha with
  |[],[],h=>exact ⟨_,_,h⟩
  |b::bs,s::l,h=>exact ⟨_,_,h.1⟩
  |[],_::_,h=>exact h.elim
  |_::_,[],h=>exact h.elim
theorem Qqn (w:World) (v:Nat) (c:Pt) (X:XL) (V:Vo) (id sec a:Int) (h:VoIn w v c X V) (ht:(V.s.n.read a).2.size≤70368744177664):
  Calls Tryz.prog 199 #[.pointer (some ⟨v,0,none⟩),.int .i64 id,.int .i64 sec,.int .i64 a] w fun e w'=>e= .returned (.bool (Zk V.s.n id sec a))∧Below w.heap.size w w':=by
 have c0:=h.obj.cell 0
 simp [Qi] at c0
 have HR:=Ql4 (Ev w _ _ _ _ _ _ a h.sto h.laid ht)
 have HS:Hid (Zk V.s.n id sec a=(decide ((Qx V.s.n a).2=0) && decide ((Qx V.s.n a).1.kind=1) && decide ((Qx V.s.n a).1.space=id) && decide ((Qx V.s.n a).1.key=sec) && (((Qx V.s.n a).1.body.size:Int) == 32))):=rfl
 obtain ⟨⟨pg,er⟩,hpg⟩:∃pe,Qx V.s.n a=pe:=⟨_,rfl⟩
 rw [hpg] at HR HS
 simp only at HR HS
 obtain ⟨p0,p1,p2,p3,p4⟩:=pg
 have HPV:Hid (Page.val ⟨p0,p1,p2,p3,p4⟩= .agg #[.int .i64 p0,.int .i64 p1,.int .i64 p2,.int .i64 p3,.string p4]):=rfl
 simp only at HS
 rw [HPV.out] at HR
 obtain ⟨R,hR⟩:∃R,Zk V.s.n id sec a=R:=⟨_,rfl⟩
 rw [hR] at HS ⊢
 clear h hR hpg ht
 go_enter Tryz.func199,Tryz.ntmps199
 go_wp2_with fail
 refine HR.out.mono ?_
 rintro e w1 ⟨u,rfl,hb1,hu⟩
 have HB1:=Ql4 hb1
 clear hb1
 by_cases he:er=0
 ·obtain rfl:u= .nilIface:=hu.elim (fun h=>h.2) (fun h=>absurd he h.1)
  clear hu
  go_wp2_with fail
  all_goals
   go_ret
   refine ⟨?_,HB1.out.alloc HB1.out.size _⟩
   rw [HS.out]
   simp_all
 ·obtain ⟨t,y,rfl⟩:=Qjv hu he
  clear hu
  go_wp2_with fail
  all_goals
   go_ret
   refine ⟨?_,HB1.out.alloc HB1.out.size _⟩
   rw [HS.out]
   simp [he]
end vo
namespace vo
open Go.RowKit Go.Maps er st tr
def Zi (X:XL) (id d:Int):XL:=Yv X id fun s=>{s with used:=s.used+d}
def Vo.re (V:Vo) (X:XL):Vo:={V with l:=X.map (·.1)}
def Qap (w:World) (v:Nat) (c:Pt) (X:XL) (V:Vo) (x:Sp×Bl) (d:Int) (e:Ending) (w':World):Prop:=
 (e= .returned (.tuple #[.int .i64 d,.nilIface])∧d≤V.cap - tot (Zu (Q5 X))∧VoIn w' v c (Zi X x.1.id d) (V.re (Zi X x.1.id d))∧Keep (vF v c X) w w')∨
 (e= .returned (.tuple #[.int .i64 d,Gz 71])∧V.cap - tot (Zu (Q5 X)) < d∧Below w.heap.size w w')
set_option maxHeartbeats 8000000 in
set_option maxRecDepth 100000 in
theorem Qkl (w:World) (v:Nat) (c:Pt) (X:XL) (V:Vo) (x:Sp×Bl) (f n:Int) (h:VoIn w v c X V) (hx:x∈X) (h0:0≤f) (h1:1≤n) (h2:f+n≤16777216):
  Calls Tryz.prog 156 #[.pointer (some ⟨v,0,none⟩),.int .i64 x.1.id,.int .i64 f,.int .i64 n] w (Qap w v c X V x (Kt x.1.tr f n)):=by
 have c1:=h.obj.cell 1
 have c2:=h.obj.cell 2
 simp [Qi] at c1 c2
 obtain ⟨t1,t2,t3⟩:=h.tre x hx
 have hpc:Chk (parts x.1.tr.flat f (f+n)):=Nk t3 h0 (by omega)
 have hbd:=V7 (T:=x.1.tr) (f:=f) (n:=n) t3 h0 (by omega) (by omega)
 have HC:=Ql4 (Qx1 w x.2.F x.2.p x.1.tr f n t1 t2 t3 (by unfold Xf;simp;omega))
 have HN:Hid (∀W v',W.ownsRow w.heap.size 255 4 v' (parts x.1.tr.flat f (f+n)).length (Qz (parts x.1.tr.flat f (f+n)))→Calls Tryz.prog 178 #[v'] W fun y w'=>y= .returned (.int .i64 (Jz (parts x.1.tr.flat f (f+n))))∧Below W.heap.size W w'):=fun W v' ho=>X5 _ v' W (SlAt.exts (SlAt.own ho)).1 hpc
 have hlk:=h.lookT hx
 have H:=Ql4 h
 have HX:=Ql4 hx
 have hsum:n - Jz (parts x.1.tr.flat f (f+n))=Kt x.1.tr f n:=rfl
 obtain ⟨S,hS⟩:∃S,Jz (parts x.1.tr.flat f (f+n))=S:=⟨_,rfl⟩
 rw [hS] at hsum HN
 obtain ⟨d,hd⟩:∃d,Kt x.1.tr f n=d:=⟨_,rfl⟩
 rw [hd] at hbd hsum ⊢
 have HCH:Hid (∀W,Below w.heap.size w W→Calls Tryz.prog 106 #[.pointer (some ⟨c.lb,0,none⟩),.int .i64 x.1.id,.int .i64 d] W fun e w'=>(e= .returned (.int .i64 0)∧d≤V.cap - tot (Zu (Q5 X))∧VoIn w' v c (Zi X x.1.id d) (V.re (Zi X x.1.id d))∧Keep (vF v c X) w w')∨(e= .returned (.int .i64 71)∧V.cap - tot (Zu (Q5 X)) < d∧Below w.heap.size w w')):=by
  intro W hb
  have hW:=h.below hb
  by_cases hd:d≤V.cap - tot (Zu (Q5 X))
  ·refine (Hz W _ _ _ _ _ d hW.led (Ye hx) hbd.1 hd).mono ?_
   rintro e w' ⟨rfl,hl,hk⟩
   refine .inl ⟨rfl,hd,hW.charged hx hk hl,(Keep.below hb).trans hk (fun k e=>.inl ?_)⟩
   subst e
   exact .inr (by simp only [Dl,List.mem_cons,List.mem_append];exact .inr (.inr (.inr (.inr (.inr (List.mem_flatMap.2 ⟨x,hx,by simp⟩))))))
  ·refine (Dx W _ _ _ _ _ d hW.led (Ye hx) (by omega)).mono ?_
   rintro e w' ⟨rfl,hb'⟩
   exact .inr ⟨rfl,by omega,hb.trans (hb'.mono hb.size)⟩
 have HP:Hid (∀e W,Calls Tryz.prog 69 #[.int .i64 e] W fun x w'=>x= .returned (Gz e)∧W=w'):=fun e W=>G6 e W
 have HV1:Hid (∀W,Below w.heap.size w W→W.cell? ⟨v,1,none⟩=some (.pointer (some ⟨c.lb,0,none⟩))):=fun W hb=>Qq hb c1
 have HRET:Hid (∀e w',Qap w v c X V x d e w'=((e= .returned (.tuple #[.int .i64 d,.nilIface])∧d≤V.cap - tot (Zu (Q5 X))∧VoIn w' v c (Zi X x.1.id d) (V.re (Zi X x.1.id d))∧Keep (vF v c X) w w')∨(e= .returned (.tuple #[.int .i64 d,Gz 71])∧V.cap - tot (Zu (Q5 X)) < d∧Below w.heap.size w w'))):=fun _ _=>rfl
 clear h hx t1 t2 t3 hpc hS hd
 go_enter Tryz.func156,Tryz.ntmps156
 go_wp2_with fail
 with_reducible refine HC.out.mono ?_
 rintro e w1 ⟨v1,rfl,ho1,hb1⟩
 have HN1:=Ql4 (HN.out w1 v1 ho1)
 have HB1:=Ql4 hb1
 obtain ⟨A1,d1,e1⟩:=Qk ho1
 subst e1
 clear ho1 hb1
 go_wp2_with fail
 with_reducible refine HN1.out.mono ?_
 rintro e w2 ⟨rfl,hb2⟩
 have HB2:Hid (Below w.heap.size w w2):=HB1.out.trans (hb2.mono HB1.out.size)
 clear hb2
 have v1':=HV1.out _ HB2.out
 go_wp2_with fail
 with_reducible refine (HCH.out _ HB2.out).mono ?_
 rintro e w3 (⟨rfl,hd3,hv3,hk3⟩|⟨rfl,hd3,hb3⟩)
 ·have HV3:=Ql4 hv3
  have HK3:=Ql4 hk3
  have HD3:=Ql4 hd3
  clear hv3 hk3 hd3
  go_wp2_with fail
  with_reducible refine (HP.out _ _).mono ?_
  rintro e w4 ⟨rfl,rfl⟩
  go_wp2_with fail
  refine bodyPost_ret (v:= .tuple #[.int .i64 d,.nilIface]) (by simp [results,Tryz.results156,go_sem,Gz]) rfl (.inl ⟨rfl,HD3.out,HV3.out,HK3.out⟩)
 ·have HB3:=Ql4 hb3
  have HD3:=Ql4 hd3
  clear hb3 hd3
  go_wp2_with fail
  with_reducible refine (HP.out _ _).mono ?_
  rintro e w4 ⟨rfl,rfl⟩
  go_wp2_with fail
  refine bodyPost_ret (v:= .tuple #[.int .i64 d,Gz 71]) (by simp [results,Tryz.results156,go_sem]) rfl (.inr ⟨rfl,HD3.out,HB3.out⟩)
end vo
namespace vo
open Go.RowKit Go.Maps er st tr
set_option maxRecDepth 100000
def Qc (X:XL) (id:Int) (T:Tree) (F:List Nat):XL:=X.map fun y=>if y.1.id=id then ({y.1 with tr:=T},{y.2 with F:=F}) else y
theorem Us:∀{X:XL},(X.Pairwise fun a b=>a.1.id < b.1.id)→∀{a b:Sp×Bl},a∈X→b∈X→a.1.id=b.1.id→a=b
 |[],_,a,b,ha,_,_=>by simp at ha
 |z::r,hp,a,b,ha,hb,he=>by
  obtain ⟨h1,h2⟩:=List.pairwise_cons.1 hp
  rcases List.mem_cons.1 ha with ea|ha'
  ·rcases List.mem_cons.1 hb with eb|hb'
   ·rw [ea,eb]
   ·have:=h1 b hb';rw [ea] at he;omega
  ·rcases List.mem_cons.1 hb with eb|hb'
   ·have:=h1 a ha';rw [eb] at he;omega
   ·exact Us h2 ha' hb' he
theorem VoIn.up {w:World} {v:Nat} {c:Pt} {X:XL} {V:Vo} (h:VoIn w v c X V):X.Pairwise fun a b=>a.1.id < b.1.id:=by
 have:=h.trs.2
 unfold Zm at this
 exact (List.pairwise_map.1 this).imp (fun h=>h)
theorem Pk (X:XL) (id:Int) (T:Tree) (F:List Nat):Q5 (Qc X id T F)=Q5 X:=by
 unfold Q5 Qc
 rw [List.map_map]
 refine List.map_congr_left fun y hy=>?_
 show ((⟨((if y.1.id=id then ({y.1 with tr:=T},{y.2 with F:=F}) else y):Sp×Bl).1.id,((if y.1.id=id then ({y.1 with tr:=T},{y.2 with F:=F}) else y):Sp×Bl).1.size,((if y.1.id=id then ({y.1 with tr:=T},{y.2 with F:=F}) else y):Sp×Bl).1.used⟩:Acc),((if y.1.id=id then ({y.1 with tr:=T},{y.2 with F:=F}) else y):Sp×Bl).2.a)=_
 by_cases h:y.1.id=id
 ·rw [if_pos h]
 ·rw [if_neg h]
theorem Cn (X:XL) (id:Int) (T:Tree) (F:List Nat):Zm (Qc X id T F)=Zm X:=by
 unfold Zm Qc
 rw [List.map_map]
 refine List.map_congr_left fun y hy=>?_
 show (((if y.1.id=id then ({y.1 with tr:=T},{y.2 with F:=F}) else y):Sp×Bl).1.id,((if y.1.id=id then ({y.1 with tr:=T},{y.2 with F:=F}) else y):Sp×Bl).2.p)=_
 by_cases h:y.1.id=id
 ·rw [if_pos h]
 ·rw [if_neg h]
theorem Ol {X:XL} {id:Int} {T:Tree} {F:List Nat} {z:Sp×Bl} (h:z∈Qc X id T F):∃y∈X,(y.1.id=id∧z=({y.1 with tr:=T},{y.2 with F:=F}))∨(y.1.id≠id∧z=y):=by
 obtain ⟨y,hy,rfl⟩:=List.mem_map.1 h
 refine ⟨y,hy,?_⟩
 by_cases h:y.1.id=id
 ·exact .inl ⟨h,by rw [if_pos h]⟩
 ·exact .inr ⟨h,by rw [if_neg h]⟩
theorem Sl {w:World} {F:List Nat} {p:Nat} {T:Tree} (h:TrAt w F p T):F.Nodup:=by
 cases T with
 |no=>obtain ⟨rfl,_⟩:=h;simp
 |top hh n=>obtain ⟨F',_,rfl,_,hn,hp⟩:=h;exact List.nodup_cons.2 ⟨hp,hn.nd⟩
theorem VoIn.grown {w w3:World} {v:Nat} {c:Pt} {X:XL} {V:Vo} {x:Sp×Bl} {T:Tree} {F:List Nat} (h:VoIn w v c X V) (hx:x∈X) (ht:TrAt w3 F x.2.p T) (hm:Mv (fun k=>k∈x.2.F) w (fun k=>k∈F) w3) (hok:T.Ok) (hc:Chk T.flat):
  VoIn w3 v c (Qc X x.1.id T F) (V.re (Qc X x.1.id T F)):=by
 have hup:=h.up
 have hnd:=h.nd
 have hxD:∀k∈x.2.F,k∈Dl v c X:=fun k hk=>Uz hx hk
 have hS:∀k,stF c k→¬k∈x.2.F:=fun k hs e=>(h.far _ (hxD k e)).1 hs
 have hxb:∀k∈x.2.F,k∈Zd X:=fun k hk=>List.mem_flatMap.2 ⟨x,hx,by simp [hk]⟩
 have hlt:=h.lt
 have h0:=h.laid.lt
 have hnd':=hnd
 unfold Dl at hnd
 simp only [List.nodup_cons,List.mem_cons,List.mem_append,not_or] at hnd
 obtain ⟨⟨n1,n2,n3,n4,n5⟩,⟨n6,n7,n8,n9⟩,⟨n10,n11,n12⟩,⟨n13,n14⟩,n15⟩:=hnd
 obtain ⟨m1,m2,m3⟩:=List.nodup_append.1 n15
 unfold Zd at m2
 obtain ⟨p1,p2⟩:=List.pairwise_flatMap.1 m2
 have hap:∀y∈X,¬y.2.a∈x.2.F:=by
  intro y hy hk
  by_cases he:y.1.id=x.1.id
  ·obtain rfl:=Us hup hy hx he
   exact (List.nodup_cons.1 (p1 y hy)).1 hk
  ·obtain ⟨i,hi,hxi⟩:=List.getElem_of_mem hx
   obtain ⟨j,hj,hyj⟩:=List.getElem_of_mem hy
   have hp:=List.pairwise_iff_getElem.1 p2
   have hij:i≠j:=fun e=>by subst e;exact he (by rw [←hxi,←hyj])
   rcases Nat.lt_or_ge i j with hl|hg
   ·have:=hp i j hi hj hl
    rw [hxi,hyj] at this
    exact this y.2.a (by simp [hk]) y.2.a (by simp) rfl
   ·have:=hp j i hj hi (by omega)
    rw [hxi,hyj] at this
    exact this y.2.a (by simp) y.2.a (by simp [hk]) rfl
 have hfp:∀y∈X,y.1.id≠x.1.id→∀k∈y.2.F,¬k∈x.2.F:=by
  intro y hy he k hk hkx
  obtain ⟨i,hi,hxi⟩:=List.getElem_of_mem hx
  obtain ⟨j,hj,hyj⟩:=List.getElem_of_mem hy
  have hp:=List.pairwise_iff_getElem.1 p2
  have hij:i≠j:=fun e=>by subst e;exact he (by rw [←hxi,←hyj])
  rcases Nat.lt_or_ge i j with hl|hg
  ·have:=hp i j hi hj hl
   rw [hxi,hyj] at this
   exact this k (by simp [hkx]) k (by simp [hk]) rfl
  ·have:=hp j i hj hi (by omega)
   rw [hxi,hyj] at this
   exact this k (by simp [hk]) k (by simp [hkx]) rfl
 have hne:∀k,(k=v∨k=c.lb∨k=c.mb∨k=c.tb∨k∈Kh c.lv)→¬k∈x.2.F:=by
  intro k hk e
  have hb:=hxb k e
  rcases hk with rfl|rfl|rfl|rfl|hk
  ·exact n5 hb
  ·exact n9 hb
  ·exact n12 hb
  ·exact n14 hb
  ·exact m3 _ hk _ hb rfl
 have hFm:∀k∈F,k∈Zd X∨w.heap.size≤k:=fun k hk=>(hm.sub k hk).imp (hxb k) id
 have hblk:∀k∈Zd (Qc X x.1.id T F),k∈Zd X∨w.heap.size≤k:=by
  intro k hk
  obtain ⟨z,hz,hk⟩:=List.mem_flatMap.1 hk
  obtain ⟨y,hy,⟨he,rfl⟩|⟨he,rfl⟩⟩:=Ol hz
  ·rcases List.mem_cons.1 hk with rfl|hk
   ·exact .inl (List.mem_flatMap.2 ⟨y,hy,by simp⟩)
   ·exact hFm k hk
  ·exact .inl (List.mem_flatMap.2 ⟨z,hy,hk⟩)
 have hbl:∀k∈Zd X,k < w.heap.size:=fun k hk=>hlt k (.inr (by simp only [Dl,List.mem_cons,List.mem_append];exact .inr (.inr (.inr (.inr (.inr hk))))))
 have hled:LedIn w3 c.lb c.mb V.cap (Q5 (Qc X x.1.id T F)):=by
  rw [Pk]
  refine h.led.keep hm.keep (fun k hk=>?_)
  rcases hk with rfl|rfl|⟨y,hy,rfl⟩
  ·exact hne _ (.inr (.inl rfl))
  ·exact hne _ (.inr (.inr (.inl rfl)))
  ·obtain ⟨z,hz,rfl⟩:=List.mem_map.1 hy
   exact hap z hz
 have hnb:(Zd (Qc X x.1.id T F)).Nodup:=by
  unfold Zd Qc
  rw [List.flatMap_map]
  have hin:∀y∈X,∀k,k∈(((if y.1.id=x.1.id then ({y.1 with tr:=T},{y.2 with F:=F}) else y):Sp×Bl).2.a::((if y.1.id=x.1.id then ({y.1 with tr:=T},{y.2 with F:=F}) else y):Sp×Bl).2.F)→k∈y.2.a::y.2.F∨(y=x∧w.heap.size≤k):=by
   intro y hy k hk
   by_cases he:y.1.id=x.1.id
   ·rw [if_pos he] at hk
    obtain rfl:=Us hup hy hx he
    rcases List.mem_cons.1 hk with e|hk
    ·exact .inl (by rw [e];simp)
    ·rcases hm.sub k hk with h1|h1
     ·exact .inl (List.mem_cons_of_mem _ h1)
     ·exact .inr ⟨rfl,h1⟩
   ·rw [if_neg he] at hk
    exact .inl hk
  refine List.pairwise_flatMap.2 ⟨fun y hy=>?_,?_⟩
  ·by_cases he:y.1.id=x.1.id
   ·rw [if_pos he]
    refine List.nodup_cons.2 ⟨fun hk=>?_,Sl ht⟩
    rcases hm.sub _ hk with h1|h1
    ·exact hap y hy h1
    ·have:=hbl y.2.a (List.mem_flatMap.2 ⟨y,hy,by simp⟩)
     have h1':w.heap.size≤y.2.a:=h1
     omega
   ·rw [if_neg he]
    exact p1 y hy
  ·refine List.Pairwise.imp_of_mem (R:=fun a b=>(∀k∈a.2.a::a.2.F,∀m∈b.2.a::b.2.F,k≠m)∧a.1.id < b.1.id) (fun {a b} ha hb hab k hk m hkm e=>?_) (p2.and hup)
   subst e
   rcases hin a ha k hk with h1|⟨h1,h2⟩
   ·rcases hin b hb k hkm with h3|⟨h3,h4⟩
    ·exact hab.1 k h1 k h3 rfl
    ·have:=hbl k (List.mem_flatMap.2 ⟨a,ha,h1⟩)
     omega
   ·rcases hin b hb k hkm with h3|⟨h3,h4⟩
    ·have:=hbl k (List.mem_flatMap.2 ⟨b,hb,h3⟩)
     omega
    ·have:=hab.2
     rw [h1,h3] at this
     omega
 refine ⟨h.obj.keep hm.keep (hne _ (.inl rfl)),h.sto.keep hm.keep hS,hled,by rw [Cn];exact h.trs.keep hm.keep (hne _ (.inr (.inr (.inr (.inl rfl))))),fun z hz=>?_,Qj h.lst hm.keep (fun g hg=>hne g (.inr (.inr (.inr (.inr (Jf.2 hg)))))),rfl,?_,fun k hk=>?_,h.zero,hm.keep.cell h.laid (fun e=>(h.far _ (hxD _ e)).2 rfl)⟩
 ·obtain ⟨y,hy,⟨he,rfl⟩|⟨he,rfl⟩⟩:=Ol hz
  ·obtain rfl:=Us hup hy hx he
   exact ⟨ht,hok,hc⟩
  ·exact ⟨TrAt.keep (h.tre z hy).1 hm.keep (hfp z hy he),(h.tre z hy).2⟩
 ·have hd:∀k∈[v,c.lb,c.mb,c.tb]++Kh c.lv,∀m∈Zd (Qc X x.1.id T F),k≠m:=by
   intro k hk m hm' e
   subst e
   have hkD:k∈Dl v c X:=by
    simp only [List.mem_append,List.mem_cons,List.not_mem_nil,or_false] at hk
    simp only [Dl,List.mem_cons,List.mem_append]
    rcases hk with (hk|hk|hk|hk)|hk
    ·exact .inl hk
    ·exact .inr (.inl hk)
    ·exact .inr (.inr (.inl hk))
    ·exact .inr (.inr (.inr (.inl hk)))
    ·exact .inr (.inr (.inr (.inr (.inl hk))))
   have hkl:=hlt k (.inr hkD)
   rcases hblk k hm' with h1|h1
   ·simp only [List.mem_append,List.mem_cons,List.not_mem_nil,or_false] at hk
    rcases hk with (rfl|rfl|rfl|rfl)|hk
    ·exact n5 h1
    ·exact n9 h1
    ·exact n12 h1
    ·exact n14 h1
    ·exact m3 _ hk _ h1 rfl
   ·omega
  have hpre:([v,c.lb,c.mb,c.tb]++Kh c.lv).Nodup:=by
   have:(([v,c.lb,c.mb,c.tb]++Kh c.lv)++Zd X).Nodup:=hnd'
   exact (List.nodup_append.1 this).1
  show (([v,c.lb,c.mb,c.tb]++Kh c.lv)++Zd (Qc X x.1.id T F)).Nodup
  exact List.nodup_append.2 ⟨hpre,hnb,hd⟩
 ·have hk':k∈Dl v c X∨w.heap.size≤k:=by
   have hk2:k∈([v,c.lb,c.mb,c.tb]++Kh c.lv)++Zd (Qc X x.1.id T F):=hk
   rcases List.mem_append.1 hk2 with hk2|hk2
   ·exact .inl (show k∈([v,c.lb,c.mb,c.tb]++Kh c.lv)++Zd X from List.mem_append.2 (.inl hk2))
   ·exact (hblk k hk2).imp (fun h1=>show k∈([v,c.lb,c.mb,c.tb]++Kh c.lv)++Zd X from List.mem_append.2 (.inr h1)) id
  rcases hk' with hk'|hk'
  ·exact h.far k hk'
  ·exact ⟨fun hs=>by have:=hlt k (.inl hs);omega,by omega⟩
end vo
namespace vo
open Go.RowKit Go.Maps er st tr
set_option maxRecDepth 100000
set_option maxHeartbeats 8000000
theorem Sz {X:XL} {x:Sp×Bl} {T:Tree} {F:List Nat} (hx:x∈X):(({x.1 with tr:=T},{x.2 with F:=F}):Sp×Bl)∈Qc X x.1.id T F:=List.mem_map.2 ⟨x,hx,by rw [if_pos rfl]⟩
end vo
namespace vo
open Go.RowKit Go.Maps er st tr
set_option maxRecDepth 100000
set_option maxHeartbeats 8000000
theorem Ud {X:XL} {x:Sp×Bl} {d:Int} (hx:x∈X):(({x.1 with used:=x.1.used+d},x.2):Sp×Bl)∈Zi X x.1.id d:=List.mem_map.2 ⟨x,hx,by rw [if_pos rfl]⟩
end vo
namespace vo
open Go.RowKit Go.Maps er st tr
theorem Qcr {v:Nat} {c:Pt} {X Y:XL} {n:Nat} (h:∀k∈Zd Y,k∈Zd X∨n≤k):∀k,vF v c Y k→vF v c X k∨n≤k:=by
 rintro k (hk|hk)
 ·exact .inl (.inl hk)
 ·have hk2:k∈([v,c.lb,c.mb,c.tb]++Kh c.lv)++Zd Y:=hk
  rcases List.mem_append.1 hk2 with hk2|hk2
  ·exact .inl (.inr (show k∈([v,c.lb,c.mb,c.tb]++Kh c.lv)++Zd X from List.mem_append.2 (.inl hk2)))
  ·exact (h k hk2).imp (fun h1=>.inr (show k∈([v,c.lb,c.mb,c.tb]++Kh c.lv)++Zd X from List.mem_append.2 (.inr h1))) id
theorem Qax {X:XL} {x:Sp×Bl} {T:Tree} {F:List Nat} {n:Nat} (hup:X.Pairwise fun a b=>a.1.id < b.1.id) (hx:x∈X) (hF:∀k∈F,k∈x.2.F∨n≤k):∀k∈Zd (Qc X x.1.id T F),k∈Zd X∨n≤k:=by
 intro k hk
 obtain ⟨z,hz,hkz⟩:=List.mem_flatMap.1 hk
 obtain ⟨y,hy,⟨he,hzy⟩|⟨he,hzy⟩⟩:=Ol hz
 ·have hyx:=Us hup hy hx he
  rw [hzy] at hkz
  rcases List.mem_cons.1 hkz with e|hkf
  ·exact .inl (List.mem_flatMap.2 ⟨y,hy,by rw [e];simp⟩)
  ·exact (hF k hkf).imp (fun h1=>List.mem_flatMap.2 ⟨x,hx,by simp [h1]⟩) id
 ·rw [hzy] at hkz
  exact .inl (List.mem_flatMap.2 ⟨y,hy,hkz⟩)
theorem Qim {w w3:World} {v:Nat} {c:Pt} {X:XL} {V:Vo} {x:Sp×Bl} {T:Tree} {F:List Nat} (h:VoIn w v c X V) (hx:x∈X) (hm:Mv (fun k=>k∈x.2.F) w (fun k=>k∈F) w3):Mv (vF v c X) w (vF v c (Qc X x.1.id T F)) w3:=
 ⟨hm.keep.mono (fun k _ hk=>.inr (Uz hx hk)),Qcr (Qax h.up hx (fun k hk=>hm.sub k hk))⟩
end vo
namespace vo
open Go.RowKit Go.Maps er st tr nd pg
set_option maxRecDepth 100000
set_option maxHeartbeats 8000000
def Xv (n:Nand) (id a:Int):Option (Int×ByteArray):=if (Qx n a).2=0∧(Qx n a).1.space=id then some ((Qx n a).1.kind,(Qx n a).1.body) else none
theorem V9 (w:World) (v:Nat) (c:Pt) (X:XL) (V:Vo) (id a:Int) (b1 b2:Nat) (h:VoIn w v c X V) (h1:Whole w b1 24 #[.pointer (some ⟨v,0,none⟩)]) (h2:Whole w b2 3 #[.int .i64 id]) (ht:(V.s.n.read a).2.size≤70368744177664):
  Calls Tryz.prog 198 #[.int .i64 a,.pointer (some ⟨b1,0,none⟩),.pointer (some ⟨b2,0,none⟩)] w (R5 (Xv V.s.n id a) w):=by
 have c0:=h.obj.cell 0
 have d1:=h1.cell 0
 simp [Qi] at c0 d1
 have HD2:Hid (∀W,Below w.heap.size w W→W.cell? ⟨b2,0,none⟩=some (.int .i64 id)):=fun W hb=>Qq hb (h2.cell 0)
 have HR:=Ql4 (Ev w _ _ _ _ _ _ a h.sto h.laid ht)
 have HS:Hid (Xv V.s.n id a=if (Qx V.s.n a).2=0∧(Qx V.s.n a).1.space=id then some ((Qx V.s.n a).1.kind,(Qx V.s.n a).1.body) else none):=rfl
 obtain ⟨⟨pg,er⟩,hpg⟩:∃pe,Qx V.s.n a=pe:=⟨_,rfl⟩
 rw [hpg] at HR HS
 simp only at HR HS
 obtain ⟨p0,p1,p2,p3,p4⟩:=pg
 have HPV:Hid (Page.val ⟨p0,p1,p2,p3,p4⟩= .agg #[.int .i64 p0,.int .i64 p1,.int .i64 p2,.int .i64 p3,.string p4]):=rfl
 simp only at HS
 rw [HPV.out] at HR
 obtain ⟨R,hR⟩:∃R,Xv V.s.n id a=R:=⟨_,rfl⟩
 rw [hR] at HS ⊢
 clear h h1 h2 hR hpg ht
 go_enter Tryz.func198,Tryz.ntmps198
 go_wp2_with fail
 refine HR.out.mono ?_
 rintro e w1 ⟨u,rfl,hb1,hu⟩
 have HB1:=Ql4 hb1
 have HBA:Hid (∀o,Below w.heap.size w (w1.alloc o)):=fun o=>hb1.alloc hb1.size o
 clear hb1
 by_cases he:er=0
 ·obtain rfl:u= .nilIface:=hu.elim (fun h=>h.2) (fun h=>absurd he h.1)
  clear hu
  have d2:=HD2.out _ (HBA.out (.cells #[.int .i64 p0,.int .i64 p1,.int .i64 p2,.int .i64 p3,.string p4] 32))
  by_cases hq:p1=id
  ·subst hq
   have HRR:Hid (R=some (p0,p4)):=by show _=_;rw [HS.out,if_pos ⟨he,rfl⟩]
   clear HS
   go_wp2_with fail
   go_quiet (fail)
   go_wp2_with fail
   refine bodyPost_ret (v:= .tuple #[.int .i64 p0,.string p4,.nilIface]) (by simp [results,Tryz.results198,go_sem]) rfl ?_
   rw [HRR.out]
   exact ⟨rfl,below_drewN (HBA.out _) _⟩
  ·have hq1:(p1 != id)=true:=by simpa using hq
   have HRR:Hid (R=none):=by show _=_;rw [HS.out,if_neg (fun h=>hq h.2)]
   clear HS
   go_wp2_with fail
   refine bodyPost_ret (v:= .tuple #[.int .i64 0,.string ⟨#[]⟩,.iface 28 (.int .i64 3)]) (by simp [results,Tryz.results198,go_sem]) rfl ?_
   rw [HRR.out]
   exact ⟨_,_,rfl,HBA.out _⟩
 ·obtain ⟨t,y,rfl⟩:=Qjv hu he
  have HRR:Hid (R=none):=by show _=_;rw [HS.out,if_neg (fun h=>he h.1)]
  clear hu HS
  go_wp2_with fail
  refine bodyPost_ret (v:= .tuple #[.int .i64 0,.string ⟨#[]⟩,.iface t y]) (by simp [results,Tryz.results198,go_sem]) rfl ?_
  rw [HRR.out]
  exact ⟨_,_,rfl,HBA.out _⟩
theorem Qz9 (w:World) (v:Nat) (id:Int):
  Calls Tryz.prog 133 #[.pointer (some ⟨v,0,none⟩),.int .i64 id] w fun e w'=>e= .returned (.func (.func 198) #[] #[.pointer (some ⟨w.heap.size,0,none⟩),.pointer (some ⟨w.heap.size+1,0,none⟩)])∧Whole w' w.heap.size 24 #[.pointer (some ⟨v,0,none⟩)]∧Whole w' (w.heap.size+1) 3 #[.int .i64 id]∧Below w.heap.size w w':=by
 go_enter Tryz.func133,Tryz.ntmps133
 go_wp2_with fail
 go_ret
 exact ⟨rfl,(Whole.new w _ _).alloc _,Whole.new' _ _ _ _ (by simp),((Below.refl _ _).alloc (Nat.le_refl _) _).alloc (by simp) _⟩
def Qli (v:Nat) (c:Pt) (X:XL) (V:Vo) (id:Int) (b1 b2:Nat) (ht:∀a,(V.s.n.read a).2.size≤70368744177664) (hs:∀a,(Qx V.s.n a).1.body.size≤1000000):Gtr where
 g:=198
 la:=#[]
 lb:=#[.pointer (some ⟨b1,0,none⟩),.pointer (some ⟨b2,0,none⟩)]
 B:=Xv V.s.n id
 inv:=fun W=>VoIn W v c X V∧Whole W b1 24 #[.pointer (some ⟨v,0,none⟩)]∧Whole W b2 3 #[.int .i64 id]
 below:=fun h hb=>⟨h.1.below hb,h.2.1.below hb h.2.1.lt,h.2.2.below hb h.2.2.lt⟩
 eg:=fun _ _=>by kernel_rfl
 sz:=fun a p hp=>by
  unfold Xv at hp
  split at hp
  ·injection hp with hp
   subst hp
   exact hs a
  ·cases hp
 get:=fun w a h hi=>V9 w v c X V id a b1 b2 h.1 h.2.1 h.2.2 (ht a)
end vo
namespace vo
open Go.RowKit Go.Maps er st tr nd pg
set_option maxRecDepth 100000
set_option maxHeartbeats 8000000
def Xh (n:Nand) (id:Int) (e:Ext) (k:Nat):Bool:=(List.range k).all fun (i:Nat)=>Zk n id (e.fr+i) (e.at_+i)
def Ug (n:Nand) (id size:Int) (e:Ext):Bool:=decide (e.end_≤size) && (decide (e.kind≠2) || Xh n id e e.n.toNat)
def Z5 (n:Nand) (id size:Int) (l:List Ext):Bool:=l.all (Ug n id size)
theorem Qq5 (n:Nand) (id:Int) (e:Ext) (k:Nat):Xh n id e (k+1)=(Xh n id e k && Zk n id (e.fr+k) (e.at_+k)):=by
 unfold Xh
 rw [List.range_succ,List.all_append]
 simp
theorem Fq (n:Nand) (id:Int) (e:Ext) {k m:Nat} (h:Xh n id e m=true) (hk:k < m):Zk n id (e.fr+k) (e.at_+k)=true:=by
 unfold Xh at h
 exact List.all_eq_true.1 h k (List.mem_range.2 hk)
theorem Qz6 {n:Nand} {id size:Int} {l:List Ext} {j:Nat} {e:Ext} (h:l[j]? =some e):Z5 n id size (l.take (j+1))=(Z5 n id size (l.take j) && Ug n id size e):=by
 unfold Z5
 rw [List.take_add_one,h,List.all_append]
 simp
theorem Qug {n:Nand} {id size:Int} {l:List Ext} {e:Ext} (h:e∈l) (he:Ug n id size e=false):Z5 n id size l=false:=by
 cases hh:Z5 n id size l with
 |false=>rfl
 |true=>rw [List.all_eq_true.1 hh e h] at he;cases he
theorem Quo (w:World) (v:Nat) (c:Pt) (X:XL) (V:Vo) (id size top high:Int) (F:List Nat) (p:Nat) (T:Tree) (h:VoIn w v c X V) (htr:TrAt w F p T) (hok:T.Ok) (hc:Chk T.flat) (hsz:I64 size) (ht:∀a,(V.s.n.read a).2.size≤70368744177664):
  Calls Tryz.prog 134 #[.pointer (some ⟨v,0,none⟩),.agg #[.int .i64 id,.int .i64 size,.int .i64 top,.int .i64 high],.pointer (some ⟨p,0,none⟩)] w fun e w'=>e= .returned (.bool (Z5 V.s.n id size T.flat))∧Below w.heap.size w w':=by
 have HA:Hid (∀W,Below w.heap.size w W→Calls Tryz.prog 165 #[.pointer (some ⟨p,0,none⟩)] W fun x w'=>∃v',x= .returned v'∧w'.ownsRow W.heap.size 255 4 v' T.flat.length (Qz T.flat)∧Below W.heap.size W w'):=fun W hb=>Rw W F p T (TrAt.keep htr (Keep.below (F:=fun _=>False) hb) (fun _ _ h=>h)) hok hc
 have HST:Hid (∀W s a,Below w.heap.size w W→Calls Tryz.prog 199 #[.pointer (some ⟨v,0,none⟩),.int .i64 id,.int .i64 s,.int .i64 a] W fun e w'=>e= .returned (.bool (Zk V.s.n id s a))∧Below W.heap.size W w'):=fun W s a hb=>Qqn W v c X V id s a (h.below hb) (ht a)
 have H1:=Ql4 hc.one
 have hlen:=U4 hc
 obtain ⟨l,hl⟩:∃l,T.flat=l:=⟨_,rfl⟩
 rw [hl] at HA H1 hlen ⊢
 obtain ⟨n,hn⟩:∃n,l.length=n:=⟨_,rfl⟩
 rw [hn] at HA hlen
 have HN:=Ql4 hn
 have hli:(n:Int)≤16777216:=by omega
 obtain ⟨G,hG⟩:∃G,V.s.n=G:=⟨_,rfl⟩
 rw [hG] at HST ⊢
 obtain ⟨R,hR⟩:∃R,Z5 G id size l=R:=⟨_,rfl⟩
 have HR:Hid (Z5 G id size l=R):=hR
 rw [hR]
 unfold I64 at hsz
 clear h htr hok hc hl hn hG ht hR
 obtain ⟨bx,hbx⟩:∃bx,bx=w.heap.size:=⟨_,rfl⟩
 go_enter Tryz.func134,Tryz.ntmps134
 go_wp2_with fail
 have hw0:Below w.heap.size w (w.alloc (.cells #[.int .i64 id,.int .i64 size,.int .i64 top,.int .i64 high] 206)):=(Below.refl _ _).alloc (Nat.le_refl _) _
 have hx0:=Whole.new w 206 #[.int .i64 id,.int .i64 size,.int .i64 top,.int .i64 high]
 refine (HA.out _ hw0).mono ?_
 rintro e w1 ⟨v1,rfl,ho1,hb1⟩
 have HB1:Hid (Below w.heap.size w w1):=hw0.trans (hb1.mono hw0.size)
 have HX1:Hid (Whole w1 w.heap.size 206 #[.int .i64 id,.int .i64 size,.int .i64 top,.int .i64 high]):=hx0.below hb1 hx0.lt
 obtain ⟨A1,d1,e1⟩:=Qk ho1
 subst e1
 have HO1:=Ql4 ho1
 obtain ⟨A',c',hv',hcc⟩:=(SlAt.exts (SlAt.own ho1)).1
 injection hv' with e1 e2 e3
 subst e1
 have HC:=Ql4 hcc
 clear ho1 hb1 hw0 hx0 hcc e2 e3
 go_wp2_with fail
 go_loopw [8,9,13] (fun _ _ i wr=>∃j:Nat,j≤n∧i= .int .i64 j∧Hid (Z5 G id size (l.take j)=true)∧Hid (Below w1.heap.size w1 wr)) (fun _ _ i _=>n - (intOf i).toNat)
 case atStart=>exact ⟨0,Nat.zero_le _,rfl,rfl,Below.refl _ _⟩
 case round=>
  obtain ⟨j,hj,rfl,HH,HB⟩:=hrel
  by_cases hlt:j < n
  ·have hji:(j:Int) < (n:Int):=by omega
   obtain ⟨gr,og,rfl,hcell⟩:=HC.out (by rw [HN.out];omega)
   obtain ⟨e,hf⟩:∃e,l[j]? =some e:=⟨_,List.getElem?_eq_getElem (by rw [HN.out];exact hlt)⟩
   obtain ⟨c0,c1,c2,c3⟩:=(hcell j e hf).below HB.out
   have HT:Hid (Z5 G id size (l.take (j+1))=Ug G id size e):=by
    show _=_
    rw [Qz6 hf,HH.out,Bool.true_and]
   have HNO:Hid (Ug G id size e=false→R=false):=fun he=>by rw [←HR.out];exact Qug (List.mem_of_getElem? hf) he
   have hone:=H1.out e (List.mem_of_getElem? hf)
   obtain ⟨N,hN⟩:∃N:Nat,e.n=(N:Int):=⟨e.n.toNat,by unfold Qf Xf at hone;simp at hone;omega⟩
   have hNN:e.n.toNat=N:=by omega
   have hrun:e.kind=2→0≤e.at_∧e.at_+N≤2048:=fun hk=>by unfold Qf at hone;simp [hk] at hone;omega
   have hsp:0≤e.fr∧e.fr+N≤16777216:=by unfold Qf Xf at hone;simp at hone;omega
   have HE:Hid (Ug G id size e=(decide (e.fr+N≤size) && (decide (e.kind≠2) || Xh G id e N))):=by
    show _=_
    unfold Ug Ext.end_
    rw [hNN,hN]
   have HRS:Hid (∀q,Xh G id e (q+1)=(Xh G id e q && Zk G id (e.fr+q) (e.at_+q))):=fun q=>Qq5 G id e q
   have HRM:Hid (∀q,q < N→Zk G id (e.fr+q) (e.at_+q)=false→Xh G id e N=false):=fun q hq hs=>by
    cases hh:Xh G id e N with
    |false=>rfl
    |true=>rw [Fq G id e hh hq] at hs;cases hs
   have HR0:Hid (Xh G id e 0=true):=rfl
   obtain ⟨rk,hrk⟩:∃rk,Xh G id e=rk:=⟨_,rfl⟩
   rw [hrk] at HE HRS HRM HR0
   obtain ⟨ek,hek⟩:∃ek,Ug G id size e=ek:=⟨_,rfl⟩
   rw [hek] at HE HNO HT
   obtain ⟨f,en,k,t⟩:=e
   simp only at c0 c1 c2 c3 hN hrun hsp HE HRS HRM
   subst hN
   clear hf hcell hone hrk hNN hek
   obtain ⟨qb,hqb⟩:∃qb,wr.heap.size=qb:=⟨_,rfl⟩
   obtain ⟨wx,hwx⟩:∃wx,wx=wr.alloc (.cells #[.int .i64 f,.int .i64 (N:Int),.int .i64 k,.int .i64 t] 255):=⟨_,rfl⟩
   have HWX:Hid (Whole wx qb 255 #[.int .i64 f,.int .i64 (N:Int),.int .i64 k,.int .i64 t]∧Below w1.heap.size w1 wx):=by
    show _∧_
    rw [hwx,←hqb]
    exact ⟨Whole.new _ _ _,HB.out.alloc HB.out.size _⟩
   have HXX:Hid (∀W,Below wx.heap.size wx W→Whole W qb 255 #[.int .i64 f,.int .i64 (N:Int),.int .i64 k,.int .i64 t]∧Whole W w.heap.size 206 #[.int .i64 id,.int .i64 size,.int .i64 top,.int .i64 high]∧Below w.heap.size w W):=fun W hb=>⟨HWX.out.1.below hb HWX.out.1.lt,(HX1.out.below HWX.out.2 HX1.out.lt).below hb (Nat.lt_of_lt_of_le HX1.out.lt HWX.out.2.size),HB1.out.trans ((HWX.out.2.trans (hb.mono HWX.out.2.size)).mono HB1.out.size)⟩
   have HBX:Hid (∀W,Below wx.heap.size wx W→Below w1.heap.size w1 W):=fun W hb=>HWX.out.2.trans (hb.mono HWX.out.2.size)
   have s1:(wr.alloc (.cells #[.int .i64 f,.int .i64 (N:Int),.int .i64 k,.int .i64 t] 255)).cell? ⟨w.heap.size,1,none⟩=some (.int .i64 size):=by
    rw [←hwx]
    exact (HXX.out wx (Below.refl _ _)).2.1.cell 1
   have hmeas:n - (intOf (.int .i64 ((j:Int)+1))).toNat < n - (intOf (.int .i64 (j:Int))).toNat:=by simp [intOf];omega
   have HMS:=Ql4 hmeas
   clear hmeas
   obtain ⟨hs0,hs1⟩:=hsp
   by_cases hgt:size < f+N
   ·have hek:ek=false:=by rw [HE.out,decide_eq_false (by omega),Bool.false_and]
    have HRF:=Ql4 (HNO.out hek)
    have HBE:=Ql4 (HB1.out.trans ((HB.out.alloc HB.out.size (.cells #[.int .i64 f,.int .i64 (N:Int),.int .i64 k,.int .i64 t] 255)).mono HB1.out.size))
    go_wp2_with fail
    go_ret
    exact ⟨by rw [HRF.out];rfl,HBE.out⟩
   ·have hle:f+N≤size:=by omega
    go_wp2_with fail
    rw [←hwx]
    clear c0 c1 c2 c3 s1
    go_loopw [9,27] (fun _ i wr=>∃q:Nat,q≤N∧i= .int .i64 q∧Hid (k=2→rk q=true)∧Hid (Below wx.heap.size wx wr)) (fun _ i _=>N - (intOf i).toNat)
    case atStart=>exact ⟨0,Nat.zero_le _,rfl,fun _=>HR0.out,Below.refl _ _⟩
    case round=>
     obtain ⟨q,hq,rfl,HQ,HBQ⟩:=hrel
     by_cases hlq:q < N
     ·have hqi:(q:Int) < (N:Int):=by omega
      have hq0:(0:Int)≤(q:Int):=Int.natCast_nonneg _
      obtain ⟨X1,X2,HBWQ⟩:=HXX.out wr HBQ.out
      have x0:=X1.cell 0
      have x2:=X1.cell 2
      have x3:=X1.cell 3
      have z0:=X2.cell 0
      simp at x0 x2 x3 z0
      have HBW2:=Ql4 HBWQ
      clear X1 X2 HBWQ
      have hmeas:N - (intOf (.int .i64 ((q:Int)+1))).toNat < N - (intOf (.int .i64 (q:Int))).toNat:=by simp [intOf];omega
      by_cases hk:k=2
      ·obtain ⟨ht0,ht1⟩:=hrun hk
       have HRK:=Ql4 (HQ.out hk)
       have HSQ:=Ql4 (HRS.out q)
       have HMQ:=Ql4 (HRM.out q hlq)
       have hek2:Hid (ek=(decide (f+N≤size) && (decide (k≠2) || rk N))):=HE
       subst hk
       have HCS:=Ql4 (HST.out wr (f+q) (t+q) HBW2.out)
       obtain ⟨sb,hsb⟩:∃sb,Zk G id (f+q) (t+q)=sb:=⟨_,rfl⟩
       rw [hsb] at HSQ HMQ HCS
       clear hsb
       go_wp2_with fail
       with_reducible refine HCS.out.mono ?_
       rintro e w2 ⟨rfl,hb2⟩
       have HBQ2:Hid (Below wx.heap.size wx w2):=HBQ.out.trans (hb2.mono HBQ.out.size)
       have HBF:Hid (Below w.heap.size w w2):=HBW2.out.trans (hb2.mono HBW2.out.size)
       clear hb2
       cases sb with
       |true=>
        go_wp2_with fail
        refine ⟨⟨q+1,?_,?_,?_,HBQ2.out⟩,hmeas⟩
        ·omega
        ·go_num
        ·exact fun _=>by rw [HSQ.out,HRK.out];rfl
       |false=>
        have hek:ek=false:=by rw [hek2.out,HMQ.out rfl];simp
        have HRF:=Ql4 (HNO.out hek)
        go_wp2_with fail
        go_ret
        exact ⟨by rw [HRF.out];rfl,HBF.out⟩
      ·have hk1:(k == 2)=false:=by simpa using hk
       go_wp2_with fail
       refine ⟨⟨q+1,?_,?_,?_,HBQ.out⟩,hmeas⟩
       ·omega
       ·go_num
       ·exact fun h=>absurd h hk
     ·obtain rfl:q=N:=by omega
      have HEK:Hid (ek=true):=by
       show _=_
       rw [HE.out,decide_eq_true (by omega),Bool.true_and]
       by_cases hk:k=2
       ·rw [HQ.out hk,Bool.or_true]
       ·rw [decide_eq_true hk,Bool.true_or]
      go_wp2_with fail
      refine ⟨⟨j+1,?_,?_,?_,HBX.out _ HBQ.out⟩,HMS.out⟩
      ·omega
      ·go_num
      ·show _=_
       rw [HT.out,HEK.out]
  ·obtain rfl:j=n:=by omega
   have hfull:l.take j=l:=by rw [←HN.out];exact List.take_length
   rw [hfull] at HH
   go_wp2_with fail
   go_ret
   exact ⟨by rw [←HR.out,HH.out];rfl,HB1.out.trans (HB.out.mono HB1.out.size)⟩
end vo
end Go.Proofs.YtfialjmemcobjaaGreatDoor
