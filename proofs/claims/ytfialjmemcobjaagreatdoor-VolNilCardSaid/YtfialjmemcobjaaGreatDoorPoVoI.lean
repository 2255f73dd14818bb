/- A part of the proof. -/
import Derived.Test.YtfialjmemcobjaaGreatDoorPoTwF
import Derived.Test.YtfialjmemcobjaaGreatDoorPoVoC
namespace Go.Proofs.YtfialjmemcobjaaGreatDoor.vo
open Go.RowKit Go.Maps Go.Proofs.YtfialjmemcobjaaGreatDoor.er Go.Proofs.YtfialjmemcobjaaGreatDoor.st Go.Proofs.YtfialjmemcobjaaGreatDoor.tr
set_option linter.unusedVariables false
set_option linter.unusedSimpArgs false
theorem part_in {e x:Ext} {a b:Int} (h:partOf e a b=some x):a≤x.fr∧x.end_≤b:=by
 unfold partOf at h
 by_cases hq:min e.end_ b≤max e.fr a
 ·rw [if_pos hq] at h
  cases h
 ·rw [if_neg hq] at h
  injection h with h
  subst h
  show a≤max e.fr a∧max e.fr a+(min e.end_ b - max e.fr a)≤b
  omega
theorem sum_in:∀(l:List Ext) (a b:Int),Chk l→a≤b→(∀e∈l,a≤e.fr∧e.end_≤b)→0≤sumN l∧sumN l≤b - a
 |[],a,b,_,h1,_=>by simp [sumN];omega
 |e::l,a,b,hc,h1,hl=>by
  have ho:=one_spec (hc.one e (by simp))
  have hp:=List.pairwise_cons.1 hc.ord
  have he:e.end_=e.fr+e.n:=rfl
  have h2:=hl e (by simp)
  have:=sum_in l e.end_ b hc.tail (by omega) (fun x hx=>⟨(hp.1 x hx).1,(hl x (by simp [hx])).2⟩)
  simp only [sumN,List.map_cons,List.sum_cons] at this ⊢
  omega
def holesN (T:Tree) (f n:Int):Int:=n - sumN (parts T.flat f (f+n))
theorem holes_bd {T:Tree} {f n:Int} (hc:Chk T.flat) (h0:0≤f) (h1:0≤n) (h2:f+n≤16777216):0≤holesN T f n∧holesN T f n≤n:=by
 have:=sum_in (parts T.flat f (f+n)) f (f+n) (parts_chk hc h0 h2) (by omega) (fun e he=>by
  obtain ⟨x,_,hx⟩:=parts_mem he
  exact part_in hx)
 unfold holesN
 omega
def xset (X:XL) (id:Int) (f:Sp→Sp):XL:=X.map fun y=>if y.1.id=id then (f y.1,y.2) else y
theorem zTree (w:World):(zeroValue 123).run Tryz.prog w= .ok (.pointer none) w:=by kernel_rfl
theorem VoIn.find {w:World} {v:Nat} {c:Pt} {X:XL} {V:Vo} (h:VoIn w v c X V) {x:Sp×Bl} (hx:x∈X):mfind (treeL X) x.1.id=some x.2.p:=mfind_of h.trs.2 (List.mem_map.2 ⟨x,hx,rfl⟩)
theorem VoIn.lookT {w:World} {v:Nat} {c:Pt} {X:XL} {V:Vo} (h:VoIn w v c X V) {x:Sp×Bl} (hx:x∈X):(Instr.lookup 113 (.map (some c.tb)) (.int .i64 x.1.id) false).run Tryz.prog w= .ok (.pointer (some ⟨x.2.p,0,none⟩)) w:=
 (h.trs.look Tryz.underlying113 zTree (by have:=h.acc hx;unfold I64;omega) (h.find hx)).1
theorem accL_set (X:XL) (id d:Int):accL (xset X id fun s=>{s with used:=s.used+d})=LLset (accL X) id fun a=>{a with used:=a.used+d}:=by
 unfold accL xset LLset
 rw [List.map_map,List.map_map]
 refine List.map_congr_left fun y hy=>?_
 show _=if y.1.id=id then _ else _
 by_cases h:y.1.id=id
 ·simp [h]
 ·simp [h]
theorem treeL_set (X:XL) (id:Int) (f:Sp→Sp) (hf:∀s,(f s).id=s.id):treeL (xset X id f)=treeL X:=by
 unfold treeL xset
 rw [List.map_map]
 refine List.map_congr_left fun y hy=>?_
 show (((if y.1.id=id then (f y.1,y.2) else y):Sp×Bl).1.id,((if y.1.id=id then (f y.1,y.2) else y):Sp×Bl).2.p)=_
 by_cases h:y.1.id=id
 ·rw [if_pos h];simp [hf]
 ·rw [if_neg h]
theorem blkF_set (X:XL) (id:Int) (f:Sp→Sp):blkF (xset X id f)=blkF X:=by
 unfold blkF xset
 rw [List.flatMap_map]
 congr 1
 funext y
 by_cases h:y.1.id=id
 ·simp [h]
 ·simp [h]
theorem Dl_set (v:Nat) (c:Pt) (X:XL) (id:Int) (f:Sp→Sp):Dl v c (xset X id f)=Dl v c X:=by unfold Dl;rw [blkF_set]
theorem xset_mem {X:XL} {id:Int} {f:Sp→Sp} {z:Sp×Bl} (h:z∈xset X id f):∃y∈X,z.2=y.2∧(z.1=y.1∨z.1=f y.1):=by
 obtain ⟨y,hy,rfl⟩:=List.mem_map.1 h
 refine ⟨y,hy,?_⟩
 split
 ·exact ⟨rfl,.inr rfl⟩
 ·exact ⟨rfl,.inl rfl⟩
theorem VoIn.acct {w w3:World} {v:Nat} {c:Pt} {X:XL} {V:Vo} {x:Sp×Bl} {f:Sp→Sp} {g:Acc→Acc} (hfi:∀s,(f s).id=s.id) (hft:∀s,(f s).tr=s.tr) (hfg:accL (xset X x.1.id f)=LLset (accL X) x.1.id g) (h:VoIn w v c X V) (hx:x∈X) (hk:Keep (fun k=>k=x.2.a) w w3) (hl:LedIn w3 c.lb c.mb V.cap (LLset (accL X) x.1.id g)):
  VoIn w3 v c (xset X x.1.id f) {V with l:=(xset X x.1.id f).map (·.1)}:=by
 have hnd:=h.nd
 have hxa:x.2.a∈Dl v c X:=by
  simp only [Dl,List.mem_cons,List.mem_append]
  exact .inr (.inr (.inr (.inr (.inr (List.mem_flatMap.2 ⟨x,hx,by simp⟩)))))
 have hxb:x.2.a∈blkF X:=List.mem_flatMap.2 ⟨x,hx,by simp⟩
 have hS:∀k,stF c k→k≠x.2.a:=fun k hs e=>(h.far _ hxa).1 (e▸hs)
 unfold Dl at hnd
 simp only [List.nodup_cons,List.mem_cons,List.mem_append,not_or] at hnd
 obtain ⟨⟨n1,n2,n3,n4,n5⟩,⟨n6,n7,n8,n9⟩,⟨n10,n11,n12⟩,⟨n13,n14⟩,n15⟩:=hnd
 obtain ⟨m1,m2,m3⟩:=List.nodup_append.1 n15
 have htr:∀y∈X,∀k∈y.2.F,k≠x.2.a:=by
  intro y hy k hk e
  subst e
  obtain ⟨i,hi,hxi⟩:=List.getElem_of_mem hx
  obtain ⟨j,hj,hyj⟩:=List.getElem_of_mem hy
  unfold blkF at m2
  obtain ⟨p1,p2⟩:=List.pairwise_flatMap.1 m2
  by_cases hij:i=j
  ·subst hij
   have:x=y:=by rw [←hxi,←hyj]
   subst this
   exact (List.nodup_cons.1 (p1 x hx)).1 hk
  ·have hp:=List.pairwise_iff_getElem.1 p2
   rcases Nat.lt_or_ge i j with hlt|hge
   ·have:=hp i j hi hj hlt
    rw [hxi,hyj] at this
    exact this x.2.a (by simp) x.2.a (by simp [hk]) rfl
   ·have:=hp j i hj hi (by omega)
    rw [hxi,hyj] at this
    exact this x.2.a (by simp [hk]) x.2.a (by simp) rfl
 have hne:∀k,(k=v∨k=c.tb∨k∈ownL c.lv)→k≠x.2.a:=by
  intro k hk e
  rcases hk with hk|hk|hk
  ·exact n5 (by rw [←hk,e];exact hxb)
  ·exact n14 (by rw [←hk,e];exact hxb)
  ·exact m3 _ hk _ hxb e
 refine ⟨h.obj.keep hk (hne _ (.inl rfl)),h.sto.keep hk hS,by rw [hfg];exact hl,by rw [treeL_set _ _ f hfi];exact h.trs.keep hk (hne _ (.inr (.inl rfl))),fun z hz=>?_,own_keep h.lst hk (fun g hg=>hne g (.inr (.inr (ownL_mem.2 hg)))),rfl,by rw [Dl_set];exact h.nd,by rw [Dl_set];exact h.far,h.zero,hk.cell h.laid (fun e=>(h.far _ hxa).2 e.symm)⟩
 obtain ⟨y,hy,e1,e2⟩:=xset_mem hz
 have ht:z.1.tr=y.1.tr:=e2.elim (fun e=>by rw [e]) (fun e=>by rw [e,hft])
 rw [e1,ht]
 exact ⟨TrAt.keep (h.tre y hy).1 hk (fun k hf=>htr y hy k hf),(h.tre y hy).2⟩
theorem VoIn.charged {w w3:World} {v:Nat} {c:Pt} {X:XL} {V:Vo} {x:Sp×Bl} {d:Int} (h:VoIn w v c X V) (hx:x∈X) (hk:Keep (fun k=>k=x.2.a) w w3) (hl:LedIn w3 c.lb c.mb V.cap (LLset (accL X) x.1.id fun a=>{a with used:=a.used+d})):
  VoIn w3 v c (xset X x.1.id fun s=>{s with used:=s.used+d}) {V with l:=(xset X x.1.id fun s=>{s with used:=s.used+d}).map (·.1)}:=
 VoIn.acct (fun _=>rfl) (fun _=>rfl) (accL_set X x.1.id d) h hx hk hl
end Go.Proofs.YtfialjmemcobjaaGreatDoor.vo
namespace Go.Proofs.YtfialjmemcobjaaGreatDoor.vo
open Go.RowKit Go.Maps Go.Proofs.YtfialjmemcobjaaGreatDoor.er Go.Proofs.YtfialjmemcobjaaGreatDoor.st Go.Proofs.YtfialjmemcobjaaGreatDoor.tr Go.Proofs.YtfialjmemcobjaaGreatDoor.nd Go.Proofs.YtfialjmemcobjaaGreatDoor.pg
set_option linter.unusedVariables false
set_option linter.unusedSimpArgs false
set_option maxRecDepth 100000
set_option maxHeartbeats 8000000
def standsB (n:Nand) (id sec a:Int):Bool:=decide ((readS n a).2=0) && decide ((readS n a).1.kind=1) && decide ((readS n a).1.space=id) && decide ((readS n a).1.key=sec) && (((readS n a).1.body.size:Int) == 32)
theorem err_neq {w:World} {l:List (ByteArray×Int)} {e:Int} {u:Value} (h:ErrW w (fun _=>False) l e u) (he:e≠0):∃t y,u= .iface t y:=by
 rcases h with ⟨h,_⟩|⟨_,bs,ha,_⟩
 ·exact absurd h he
 ·match bs,l,ha with
  |[],[],h=>exact ⟨_,_,h⟩
  |b::bs,s::l,h=>exact ⟨_,_,h.1⟩
  |[],_::_,h=>exact h.elim
  |_::_,[],h=>exact h.elim
theorem stands_any (w:World) (v:Nat) (c:Pt) (X:XL) (V:Vo) (id sec a:Int) (h:VoIn w v c X V) (ht:(V.s.n.read a).2.size≤70368744177664):
  Calls Tryz.prog 199 #[.pointer (some ⟨v,0,none⟩),.int .i64 id,.int .i64 sec,.int .i64 a] w fun e w'=>e= .returned (.bool (standsB V.s.n id sec a))∧Below w.heap.size w w':=by
 have c0:=h.obj.cell 0
 simp [volCells] at c0
 have HR:=Lib.hid (Read_anyS w _ _ _ _ _ _ a h.sto h.laid ht)
 have HS:Hid (standsB V.s.n id sec a=(decide ((readS V.s.n a).2=0) && decide ((readS V.s.n a).1.kind=1) && decide ((readS V.s.n a).1.space=id) && decide ((readS V.s.n a).1.key=sec) && (((readS V.s.n a).1.body.size:Int) == 32))):=rfl
 obtain ⟨⟨pg,er⟩,hpg⟩:∃pe,readS V.s.n a=pe:=⟨_,rfl⟩
 rw [hpg] at HR HS
 simp only at HR HS
 obtain ⟨p0,p1,p2,p3,p4⟩:=pg
 have HPV:Hid (Page.val ⟨p0,p1,p2,p3,p4⟩= .agg #[.int .i64 p0,.int .i64 p1,.int .i64 p2,.int .i64 p3,.string p4]):=rfl
 simp only at HS
 rw [HPV.out] at HR
 obtain ⟨R,hR⟩:∃R,standsB V.s.n id sec a=R:=⟨_,rfl⟩
 rw [hR] at HS ⊢
 clear h hR hpg ht
 go_enter Tryz.func199,Tryz.ntmps199
 go_wp2_with fail
 refine HR.out.mono ?_
 rintro e w1 ⟨u,rfl,hb1,hu⟩
 have HB1:=Lib.hid hb1
 clear hb1
 by_cases he:er=0
 ·obtain rfl:u= .nilIface:=hu.elim (fun h=>h.2) (fun h=>absurd he h.1)
  clear hu
  go_wp2_with fail
  all_goals
   go_ret
   refine ⟨?_,HB1.out.alloc HB1.out.size _⟩
   rw [HS.out]
   simp_all
 ·obtain ⟨t,y,rfl⟩:=err_neq hu he
  clear hu
  go_wp2_with fail
  all_goals
   go_ret
   refine ⟨?_,HB1.out.alloc HB1.out.size _⟩
   rw [HS.out]
   simp [he]
end Go.Proofs.YtfialjmemcobjaaGreatDoor.vo
namespace Go.Proofs.YtfialjmemcobjaaGreatDoor.vo
open Go.RowKit Go.Maps Go.Proofs.YtfialjmemcobjaaGreatDoor.er Go.Proofs.YtfialjmemcobjaaGreatDoor.st Go.Proofs.YtfialjmemcobjaaGreatDoor.tr
set_option linter.unusedVariables false
set_option linter.unusedSimpArgs false
def xcharge (X:XL) (id d:Int):XL:=xset X id fun s=>{s with used:=s.used+d}
def Vo.re (V:Vo) (X:XL):Vo:={V with l:=X.map (·.1)}
def ChgRet (w:World) (v:Nat) (c:Pt) (X:XL) (V:Vo) (x:Sp×Bl) (d:Int) (e:Ending) (w':World):Prop:=
 (e= .returned (.tuple #[.int .i64 d,.nilIface])∧d≤V.cap - tot (accs (accL X))∧VoIn w' v c (xcharge X x.1.id d) (V.re (xcharge X x.1.id d))∧Keep (vF v c X) w w')∨
 (e= .returned (.tuple #[.int .i64 d,probV 71])∧V.cap - tot (accs (accL X)) < d∧Below w.heap.size w w')
set_option maxHeartbeats 8000000 in
set_option maxRecDepth 100000 in
theorem charge_any (w:World) (v:Nat) (c:Pt) (X:XL) (V:Vo) (x:Sp×Bl) (f n:Int) (h:VoIn w v c X V) (hx:x∈X) (h0:0≤f) (h1:1≤n) (h2:f+n≤16777216):
  Calls Tryz.prog 156 #[.pointer (some ⟨v,0,none⟩),.int .i64 x.1.id,.int .i64 f,.int .i64 n] w (ChgRet w v c X V x (holesN x.1.tr f n)):=by
 have c1:=h.obj.cell 1
 have c2:=h.obj.cell 2
 simp [volCells] at c1 c2
 obtain ⟨t1,t2,t3⟩:=h.tre x hx
 have hpc:Chk (parts x.1.tr.flat f (f+n)):=parts_chk t3 h0 (by omega)
 have hbd:=holes_bd (T:=x.1.tr) (f:=f) (n:=n) t3 h0 (by omega) (by omega)
 have HC:=Lib.hid (tclip_any w x.2.F x.2.p x.1.tr f n t1 t2 t3 (by unfold spanB;simp;omega))
 have HN:Hid (∀W v',W.ownsRow w.heap.size 255 4 v' (parts x.1.tr.flat f (f+n)).length (extCells (parts x.1.tr.flat f (f+n)))→Calls Tryz.prog 178 #[v'] W fun y w'=>y= .returned (.int .i64 (sumN (parts x.1.tr.flat f (f+n))))∧Below W.heap.size W w'):=fun W v' ho=>count_any _ v' W (SlAt.exts (SlAt.own ho)).1 hpc
 have hlk:=h.lookT hx
 have H:=Lib.hid h
 have HX:=Lib.hid hx
 have hsum:n - sumN (parts x.1.tr.flat f (f+n))=holesN x.1.tr f n:=rfl
 obtain ⟨S,hS⟩:∃S,sumN (parts x.1.tr.flat f (f+n))=S:=⟨_,rfl⟩
 rw [hS] at hsum HN
 obtain ⟨d,hd⟩:∃d,holesN x.1.tr f n=d:=⟨_,rfl⟩
 rw [hd] at hbd hsum ⊢
 have HCH:Hid (∀W,Below w.heap.size w W→Calls Tryz.prog 106 #[.pointer (some ⟨c.lb,0,none⟩),.int .i64 x.1.id,.int .i64 d] W fun e w'=>(e= .returned (.int .i64 0)∧d≤V.cap - tot (accs (accL X))∧VoIn w' v c (xcharge X x.1.id d) (V.re (xcharge X x.1.id d))∧Keep (vF v c X) w w')∨(e= .returned (.int .i64 71)∧V.cap - tot (accs (accL X)) < d∧Below w.heap.size w w')):=by
  intro W hb
  have hW:=h.below hb
  by_cases hd:d≤V.cap - tot (accs (accL X))
  ·refine (lcharge_ok W _ _ _ _ _ d hW.led (accL_mem hx) hbd.1 hd).mono ?_
   rintro e w' ⟨rfl,hl,hk⟩
   refine .inl ⟨rfl,hd,hW.charged hx hk hl,(Keep.below hb).trans hk (fun k e=>.inl ?_)⟩
   subst e
   exact .inr (by simp only [Dl,List.mem_cons,List.mem_append];exact .inr (.inr (.inr (.inr (.inr (List.mem_flatMap.2 ⟨x,hx,by simp⟩))))))
  ·refine (lcharge_full W _ _ _ _ _ d hW.led (accL_mem hx) (by omega)).mono ?_
   rintro e w' ⟨rfl,hb'⟩
   exact .inr ⟨rfl,by omega,hb.trans (hb'.mono hb.size)⟩
 have HP:Hid (∀e W,Calls Tryz.prog 69 #[.int .i64 e] W fun x w'=>x= .returned (probV e)∧W=w'):=fun e W=>problem_any e W
 have HV1:Hid (∀W,Below w.heap.size w W→W.cell? ⟨v,1,none⟩=some (.pointer (some ⟨c.lb,0,none⟩))):=fun W hb=>below_c hb c1
 have HRET:Hid (∀e w',ChgRet w v c X V x d e w'=((e= .returned (.tuple #[.int .i64 d,.nilIface])∧d≤V.cap - tot (accs (accL X))∧VoIn w' v c (xcharge X x.1.id d) (V.re (xcharge X x.1.id d))∧Keep (vF v c X) w w')∨(e= .returned (.tuple #[.int .i64 d,probV 71])∧V.cap - tot (accs (accL X)) < d∧Below w.heap.size w w'))):=fun _ _=>rfl
 clear h hx t1 t2 t3 hpc hS hd
 go_enter Tryz.func156,Tryz.ntmps156
 go_wp2_with fail
 with_reducible refine HC.out.mono ?_
 rintro e w1 ⟨v1,rfl,ho1,hb1⟩
 have HN1:=Lib.hid (HN.out w1 v1 ho1)
 have HB1:=Lib.hid hb1
 obtain ⟨A1,d1,e1⟩:=own_slice ho1
 subst e1
 clear ho1 hb1
 go_wp2_with fail
 with_reducible refine HN1.out.mono ?_
 rintro e w2 ⟨rfl,hb2⟩
 have HB2:Hid (Below w.heap.size w w2):=HB1.out.trans (hb2.mono HB1.out.size)
 clear hb2
 have v1':=HV1.out _ HB2.out
 go_wp2_with fail
 with_reducible refine (HCH.out _ HB2.out).mono ?_
 rintro e w3 (⟨rfl,hd3,hv3,hk3⟩|⟨rfl,hd3,hb3⟩)
 ·have HV3:=Lib.hid hv3
  have HK3:=Lib.hid hk3
  have HD3:=Lib.hid hd3
  clear hv3 hk3 hd3
  go_wp2_with fail
  with_reducible refine (HP.out _ _).mono ?_
  rintro e w4 ⟨rfl,rfl⟩
  go_wp2_with fail
  refine bodyPost_ret (v:= .tuple #[.int .i64 d,.nilIface]) (by simp [results,Tryz.results156,go_sem,probV]) rfl (.inl ⟨rfl,HD3.out,HV3.out,HK3.out⟩)
 ·have HB3:=Lib.hid hb3
  have HD3:=Lib.hid hd3
  clear hb3 hd3
  go_wp2_with fail
  with_reducible refine (HP.out _ _).mono ?_
  rintro e w4 ⟨rfl,rfl⟩
  go_wp2_with fail
  refine bodyPost_ret (v:= .tuple #[.int .i64 d,probV 71]) (by simp [results,Tryz.results156,go_sem]) rfl (.inr ⟨rfl,HD3.out,HB3.out⟩)
end Go.Proofs.YtfialjmemcobjaaGreatDoor.vo
namespace Go.Proofs.YtfialjmemcobjaaGreatDoor.vo
open Go.RowKit Go.Maps Go.Proofs.YtfialjmemcobjaaGreatDoor.er Go.Proofs.YtfialjmemcobjaaGreatDoor.st Go.Proofs.YtfialjmemcobjaaGreatDoor.tr Go.Proofs.YtfialjmemcobjaaGreatDoor.nd Go.Proofs.YtfialjmemcobjaaGreatDoor.pg
set_option linter.unusedVariables false
set_option linter.unusedSimpArgs false
set_option maxRecDepth 100000
set_option maxHeartbeats 8000000
abbrev opnS:ByteArray:=⟨#[111,112,101,110]⟩
theorem vopen_nil (w:World):Calls Tryz.prog 14 #[.pointer none] w fun e w'=>∃b1 b2,e= .returned (.tuple #[.pointer none,.iface 183 (.pointer (some ⟨b1,0,none⟩))])∧Below w.heap.size w w'∧er.ErrAt w' [b1,b2] [(opnS,0),(openName,0)] 1 (.iface 183 (.pointer (some ⟨b1,0,none⟩))):=by
 have HO:=Lib.hid (open_nil w)
 go_enter Tryz.func14,Tryz.ntmps14
 go_wp2_with fail
 refine HO.out.mono ?_
 rintro e w1 ⟨b,rfl,hb1,he⟩
 have HB1:=Lib.hid hb1
 have HE:=Lib.hid he
 clear hb1 he
 go_wp2_with fail
 with_reducible refine (wrap_err _ _ _ _ _).mono ?_
 rintro e w2 ⟨rfl,rfl⟩
 go_wp2_with fail
 refine bodyPost_ret (v:= .tuple #[.pointer none,.iface 183 (.pointer (some ⟨w1.heap.size,0,none⟩))]) (by simp [results,Tryz.results14,go_sem]) rfl ⟨_,b,rfl,HB1.out.alloc HB1.out.size _,⟨rfl,_,Whole.new _ _ _,HE.out.keep (Keep.below (F:=fun _=>False) ((Below.refl _ _).alloc (Nat.le_refl _) _)) (fun _ _ h=>h)⟩⟩
theorem putter_any (w:World) (v:Nat) (id:Int):
  Calls Tryz.prog 142 #[.pointer (some ⟨v,0,none⟩),.int .i64 id] w fun e w'=>e= .returned (.func (.func 205) #[] #[.pointer (some ⟨w.heap.size,0,none⟩),.pointer (some ⟨w.heap.size+1,0,none⟩)])∧Whole w' w.heap.size 24 #[.pointer (some ⟨v,0,none⟩)]∧Whole w' (w.heap.size+1) 3 #[.int .i64 id]∧Below w.heap.size w w':=by
 go_enter Tryz.func142,Tryz.ntmps142
 go_wp2_with fail
 go_ret
 exact ⟨rfl,(Whole.new w _ _).alloc _,Whole.new' _ _ _ _ (by simp),((Below.refl _ _).alloc (Nat.le_refl _) _).alloc (by simp) _⟩
end Go.Proofs.YtfialjmemcobjaaGreatDoor.vo
namespace Go.Proofs.YtfialjmemcobjaaGreatDoor.vo
open Go.RowKit Go.Maps Go.Proofs.YtfialjmemcobjaaGreatDoor.er Go.Proofs.YtfialjmemcobjaaGreatDoor.st Go.Proofs.YtfialjmemcobjaaGreatDoor.tr Go.Proofs.YtfialjmemcobjaaGreatDoor.nd Go.Proofs.YtfialjmemcobjaaGreatDoor.pg
set_option linter.unusedVariables false
set_option linter.unusedSimpArgs false
set_option maxRecDepth 100000
set_option maxHeartbeats 8000000
def PutRet (w:World) (v:Nat) (c:Pt) (X:XL) (V:Vo) (key:Int) (r:Sto×Int×Int) (e:Ending) (w':World):Prop:=
 ∃u N',e= .returned (.tuple #[.int .i64 r.2.1,u])∧VoIn w' v {c with N:=N'} X {V with s:=r.1}∧Moved w c.q c.sv c.vv c.N w' N'∧ErrW w' (stF {c with N:=N'}) [(appName,key)] r.2.2 u
theorem append_vol (w:World) (v:Nat) (c:Pt) (X:XL) (V:Vo) (pg:Page) (f:Nat) (r:Sto×Int×Int) (h:VoIn w v c X V) (hr:appF f V.s pg=some r) (ho:V.s.n.ops+f≤1000000000000000000) (hq:V.s.seq≤281474976710655):
  Calls Tryz.prog 145 #[.pointer (some ⟨c.q,0,none⟩),pg.val] w (PutRet w v c X V pg.key r):=by
 refine (Append_any w c.q c.p c.sv c.vv c.N V.s pg f r h.sto h.laid h.zero hr ho hq).mono ?_
 rintro e w' ⟨u,N',rfl,hs,hm,he⟩
 exact ⟨u,N',rfl,h.stored hs hm,hm,he⟩
end Go.Proofs.YtfialjmemcobjaaGreatDoor.vo
namespace Go.Proofs.YtfialjmemcobjaaGreatDoor.vo
open Go.RowKit Go.Maps Go.Proofs.YtfialjmemcobjaaGreatDoor.er Go.Proofs.YtfialjmemcobjaaGreatDoor.st Go.Proofs.YtfialjmemcobjaaGreatDoor.tr
set_option linter.unusedVariables false
set_option linter.unusedSimpArgs false
set_option maxRecDepth 100000
def xtree (X:XL) (id:Int) (T:Tree) (F:List Nat):XL:=X.map fun y=>if y.1.id=id then ({y.1 with tr:=T},{y.2 with F:=F}) else y
theorem id_inj:∀{X:XL},(X.Pairwise fun a b=>a.1.id < b.1.id)→∀{a b:Sp×Bl},a∈X→b∈X→a.1.id=b.1.id→a=b
 |[],_,a,b,ha,_,_=>by simp at ha
 |z::r,hp,a,b,ha,hb,he=>by
  obtain ⟨h1,h2⟩:=List.pairwise_cons.1 hp
  rcases List.mem_cons.1 ha with ea|ha'
  ·rcases List.mem_cons.1 hb with eb|hb'
   ·rw [ea,eb]
   ·have:=h1 b hb';rw [ea] at he;omega
  ·rcases List.mem_cons.1 hb with eb|hb'
   ·have:=h1 a ha';rw [eb] at he;omega
   ·exact id_inj h2 ha' hb' he
theorem VoIn.up {w:World} {v:Nat} {c:Pt} {X:XL} {V:Vo} (h:VoIn w v c X V):X.Pairwise fun a b=>a.1.id < b.1.id:=by
 have:=h.trs.2
 unfold treeL at this
 exact (List.pairwise_map.1 this).imp (fun h=>h)
theorem accL_tree (X:XL) (id:Int) (T:Tree) (F:List Nat):accL (xtree X id T F)=accL X:=by
 unfold accL xtree
 rw [List.map_map]
 refine List.map_congr_left fun y hy=>?_
 show ((⟨((if y.1.id=id then ({y.1 with tr:=T},{y.2 with F:=F}) else y):Sp×Bl).1.id,((if y.1.id=id then ({y.1 with tr:=T},{y.2 with F:=F}) else y):Sp×Bl).1.size,((if y.1.id=id then ({y.1 with tr:=T},{y.2 with F:=F}) else y):Sp×Bl).1.used⟩:Acc),((if y.1.id=id then ({y.1 with tr:=T},{y.2 with F:=F}) else y):Sp×Bl).2.a)=_
 by_cases h:y.1.id=id
 ·rw [if_pos h]
 ·rw [if_neg h]
theorem treeL_tree (X:XL) (id:Int) (T:Tree) (F:List Nat):treeL (xtree X id T F)=treeL X:=by
 unfold treeL xtree
 rw [List.map_map]
 refine List.map_congr_left fun y hy=>?_
 show (((if y.1.id=id then ({y.1 with tr:=T},{y.2 with F:=F}) else y):Sp×Bl).1.id,((if y.1.id=id then ({y.1 with tr:=T},{y.2 with F:=F}) else y):Sp×Bl).2.p)=_
 by_cases h:y.1.id=id
 ·rw [if_pos h]
 ·rw [if_neg h]
theorem xtree_mem {X:XL} {id:Int} {T:Tree} {F:List Nat} {z:Sp×Bl} (h:z∈xtree X id T F):∃y∈X,(y.1.id=id∧z=({y.1 with tr:=T},{y.2 with F:=F}))∨(y.1.id≠id∧z=y):=by
 obtain ⟨y,hy,rfl⟩:=List.mem_map.1 h
 refine ⟨y,hy,?_⟩
 by_cases h:y.1.id=id
 ·exact .inl ⟨h,by rw [if_pos h]⟩
 ·exact .inr ⟨h,by rw [if_neg h]⟩
theorem tr_nodup {w:World} {F:List Nat} {p:Nat} {T:Tree} (h:TrAt w F p T):F.Nodup:=by
 cases T with
 |no=>obtain ⟨rfl,_⟩:=h;simp
 |top hh n=>obtain ⟨F',_,rfl,_,hn,hp⟩:=h;exact List.nodup_cons.2 ⟨hp,hn.nd⟩
theorem VoIn.grown {w w3:World} {v:Nat} {c:Pt} {X:XL} {V:Vo} {x:Sp×Bl} {T:Tree} {F:List Nat} (h:VoIn w v c X V) (hx:x∈X) (ht:TrAt w3 F x.2.p T) (hm:Mv (fun k=>k∈x.2.F) w (fun k=>k∈F) w3) (hok:T.Ok) (hc:Chk T.flat):
  VoIn w3 v c (xtree X x.1.id T F) (V.re (xtree X x.1.id T F)):=by
 have hup:=h.up
 have hnd:=h.nd
 have hxD:∀k∈x.2.F,k∈Dl v c X:=fun k hk=>mem_tree hx hk
 have hS:∀k,stF c k→¬k∈x.2.F:=fun k hs e=>(h.far _ (hxD k e)).1 hs
 have hxb:∀k∈x.2.F,k∈blkF X:=fun k hk=>List.mem_flatMap.2 ⟨x,hx,by simp [hk]⟩
 have hlt:=h.lt
 have h0:=h.laid.lt
 have hnd':=hnd
 unfold Dl at hnd
 simp only [List.nodup_cons,List.mem_cons,List.mem_append,not_or] at hnd
 obtain ⟨⟨n1,n2,n3,n4,n5⟩,⟨n6,n7,n8,n9⟩,⟨n10,n11,n12⟩,⟨n13,n14⟩,n15⟩:=hnd
 obtain ⟨m1,m2,m3⟩:=List.nodup_append.1 n15
 unfold blkF at m2
 obtain ⟨p1,p2⟩:=List.pairwise_flatMap.1 m2
 have hap:∀y∈X,¬y.2.a∈x.2.F:=by
  intro y hy hk
  by_cases he:y.1.id=x.1.id
  ·obtain rfl:=id_inj hup hy hx he
   exact (List.nodup_cons.1 (p1 y hy)).1 hk
  ·obtain ⟨i,hi,hxi⟩:=List.getElem_of_mem hx
   obtain ⟨j,hj,hyj⟩:=List.getElem_of_mem hy
   have hp:=List.pairwise_iff_getElem.1 p2
   have hij:i≠j:=fun e=>by subst e;exact he (by rw [←hxi,←hyj])
   rcases Nat.lt_or_ge i j with hl|hg
   ·have:=hp i j hi hj hl
    rw [hxi,hyj] at this
    exact this y.2.a (by simp [hk]) y.2.a (by simp) rfl
   ·have:=hp j i hj hi (by omega)
    rw [hxi,hyj] at this
    exact this y.2.a (by simp) y.2.a (by simp [hk]) rfl
 have hfp:∀y∈X,y.1.id≠x.1.id→∀k∈y.2.F,¬k∈x.2.F:=by
  intro y hy he k hk hkx
  obtain ⟨i,hi,hxi⟩:=List.getElem_of_mem hx
  obtain ⟨j,hj,hyj⟩:=List.getElem_of_mem hy
  have hp:=List.pairwise_iff_getElem.1 p2
  have hij:i≠j:=fun e=>by subst e;exact he (by rw [←hxi,←hyj])
  rcases Nat.lt_or_ge i j with hl|hg
  ·have:=hp i j hi hj hl
   rw [hxi,hyj] at this
   exact this k (by simp [hkx]) k (by simp [hk]) rfl
  ·have:=hp j i hj hi (by omega)
   rw [hxi,hyj] at this
   exact this k (by simp [hk]) k (by simp [hkx]) rfl
 have hne:∀k,(k=v∨k=c.lb∨k=c.mb∨k=c.tb∨k∈ownL c.lv)→¬k∈x.2.F:=by
  intro k hk e
  have hb:=hxb k e
  rcases hk with rfl|rfl|rfl|rfl|hk
  ·exact n5 hb
  ·exact n9 hb
  ·exact n12 hb
  ·exact n14 hb
  ·exact m3 _ hk _ hb rfl
 have hFm:∀k∈F,k∈blkF X∨w.heap.size≤k:=fun k hk=>(hm.sub k hk).imp (hxb k) id
 have hblk:∀k∈blkF (xtree X x.1.id T F),k∈blkF X∨w.heap.size≤k:=by
  intro k hk
  obtain ⟨z,hz,hk⟩:=List.mem_flatMap.1 hk
  obtain ⟨y,hy,⟨he,rfl⟩|⟨he,rfl⟩⟩:=xtree_mem hz
  ·rcases List.mem_cons.1 hk with rfl|hk
   ·exact .inl (List.mem_flatMap.2 ⟨y,hy,by simp⟩)
   ·exact hFm k hk
  ·exact .inl (List.mem_flatMap.2 ⟨z,hy,hk⟩)
 have hbl:∀k∈blkF X,k < w.heap.size:=fun k hk=>hlt k (.inr (by simp only [Dl,List.mem_cons,List.mem_append];exact .inr (.inr (.inr (.inr (.inr hk))))))
 have hled:LedIn w3 c.lb c.mb V.cap (accL (xtree X x.1.id T F)):=by
  rw [accL_tree]
  refine h.led.keep hm.keep (fun k hk=>?_)
  rcases hk with rfl|rfl|⟨y,hy,rfl⟩
  ·exact hne _ (.inr (.inl rfl))
  ·exact hne _ (.inr (.inr (.inl rfl)))
  ·obtain ⟨z,hz,rfl⟩:=List.mem_map.1 hy
   exact hap z hz
 have hnb:(blkF (xtree X x.1.id T F)).Nodup:=by
  unfold blkF xtree
  rw [List.flatMap_map]
  have hin:∀y∈X,∀k,k∈(((if y.1.id=x.1.id then ({y.1 with tr:=T},{y.2 with F:=F}) else y):Sp×Bl).2.a::((if y.1.id=x.1.id then ({y.1 with tr:=T},{y.2 with F:=F}) else y):Sp×Bl).2.F)→k∈y.2.a::y.2.F∨(y=x∧w.heap.size≤k):=by
   intro y hy k hk
   by_cases he:y.1.id=x.1.id
   ·rw [if_pos he] at hk
    obtain rfl:=id_inj hup hy hx he
    rcases List.mem_cons.1 hk with e|hk
    ·exact .inl (by rw [e];simp)
    ·rcases hm.sub k hk with h1|h1
     ·exact .inl (List.mem_cons_of_mem _ h1)
     ·exact .inr ⟨rfl,h1⟩
   ·rw [if_neg he] at hk
    exact .inl hk
  refine List.pairwise_flatMap.2 ⟨fun y hy=>?_,?_⟩
  ·by_cases he:y.1.id=x.1.id
   ·rw [if_pos he]
    refine List.nodup_cons.2 ⟨fun hk=>?_,tr_nodup ht⟩
    rcases hm.sub _ hk with h1|h1
    ·exact hap y hy h1
    ·have:=hbl y.2.a (List.mem_flatMap.2 ⟨y,hy,by simp⟩)
     have h1':w.heap.size≤y.2.a:=h1
     omega
   ·rw [if_neg he]
    exact p1 y hy
  ·refine List.Pairwise.imp_of_mem (R:=fun a b=>(∀k∈a.2.a::a.2.F,∀m∈b.2.a::b.2.F,k≠m)∧a.1.id < b.1.id) (fun {a b} ha hb hab k hk m hkm e=>?_) (p2.and hup)
   subst e
   rcases hin a ha k hk with h1|⟨h1,h2⟩
   ·rcases hin b hb k hkm with h3|⟨h3,h4⟩
    ·exact hab.1 k h1 k h3 rfl
    ·have:=hbl k (List.mem_flatMap.2 ⟨a,ha,h1⟩)
     omega
   ·rcases hin b hb k hkm with h3|⟨h3,h4⟩
    ·have:=hbl k (List.mem_flatMap.2 ⟨b,hb,h3⟩)
     omega
    ·have:=hab.2
     rw [h1,h3] at this
     omega
 refine ⟨h.obj.keep hm.keep (hne _ (.inl rfl)),h.sto.keep hm.keep hS,hled,by rw [treeL_tree];exact h.trs.keep hm.keep (hne _ (.inr (.inr (.inr (.inl rfl))))),fun z hz=>?_,own_keep h.lst hm.keep (fun g hg=>hne g (.inr (.inr (.inr (.inr (ownL_mem.2 hg)))))),rfl,?_,fun k hk=>?_,h.zero,hm.keep.cell h.laid (fun e=>(h.far _ (hxD _ e)).2 rfl)⟩
 ·obtain ⟨y,hy,⟨he,rfl⟩|⟨he,rfl⟩⟩:=xtree_mem hz
  ·obtain rfl:=id_inj hup hy hx he
   exact ⟨ht,hok,hc⟩
  ·exact ⟨TrAt.keep (h.tre z hy).1 hm.keep (hfp z hy he),(h.tre z hy).2⟩
 ·have hd:∀k∈[v,c.lb,c.mb,c.tb]++ownL c.lv,∀m∈blkF (xtree X x.1.id T F),k≠m:=by
   intro k hk m hm' e
   subst e
   have hkD:k∈Dl v c X:=by
    simp only [List.mem_append,List.mem_cons,List.not_mem_nil,or_false] at hk
    simp only [Dl,List.mem_cons,List.mem_append]
    rcases hk with (hk|hk|hk|hk)|hk
    ·exact .inl hk
    ·exact .inr (.inl hk)
    ·exact .inr (.inr (.inl hk))
    ·exact .inr (.inr (.inr (.inl hk)))
    ·exact .inr (.inr (.inr (.inr (.inl hk))))
   have hkl:=hlt k (.inr hkD)
   rcases hblk k hm' with h1|h1
   ·simp only [List.mem_append,List.mem_cons,List.not_mem_nil,or_false] at hk
    rcases hk with (rfl|rfl|rfl|rfl)|hk
    ·exact n5 h1
    ·exact n9 h1
    ·exact n12 h1
    ·exact n14 h1
    ·exact m3 _ hk _ h1 rfl
   ·omega
  have hpre:([v,c.lb,c.mb,c.tb]++ownL c.lv).Nodup:=by
   have:(([v,c.lb,c.mb,c.tb]++ownL c.lv)++blkF X).Nodup:=hnd'
   exact (List.nodup_append.1 this).1
  show (([v,c.lb,c.mb,c.tb]++ownL c.lv)++blkF (xtree X x.1.id T F)).Nodup
  exact List.nodup_append.2 ⟨hpre,hnb,hd⟩
 ·have hk':k∈Dl v c X∨w.heap.size≤k:=by
   have hk2:k∈([v,c.lb,c.mb,c.tb]++ownL c.lv)++blkF (xtree X x.1.id T F):=hk
   rcases List.mem_append.1 hk2 with hk2|hk2
   ·exact .inl (show k∈([v,c.lb,c.mb,c.tb]++ownL c.lv)++blkF X from List.mem_append.2 (.inl hk2))
   ·exact (hblk k hk2).imp (fun h1=>show k∈([v,c.lb,c.mb,c.tb]++ownL c.lv)++blkF X from List.mem_append.2 (.inr h1)) id
  rcases hk' with hk'|hk'
  ·exact h.far k hk'
  ·exact ⟨fun hs=>by have:=hlt k (.inl hs);omega,by omega⟩
end Go.Proofs.YtfialjmemcobjaaGreatDoor.vo
namespace Go.Proofs.YtfialjmemcobjaaGreatDoor.vo
open Go.RowKit Go.Maps Go.Proofs.YtfialjmemcobjaaGreatDoor.er Go.Proofs.YtfialjmemcobjaaGreatDoor.st Go.Proofs.YtfialjmemcobjaaGreatDoor.tr
set_option linter.unusedVariables false
set_option linter.unusedSimpArgs false
set_option maxRecDepth 100000
set_option maxHeartbeats 8000000
theorem xtree_in {X:XL} {x:Sp×Bl} {T:Tree} {F:List Nat} (hx:x∈X):(({x.1 with tr:=T},{x.2 with F:=F}):Sp×Bl)∈xtree X x.1.id T F:=List.mem_map.2 ⟨x,hx,by rw [if_pos rfl]⟩
end Go.Proofs.YtfialjmemcobjaaGreatDoor.vo
namespace Go.Proofs.YtfialjmemcobjaaGreatDoor.vo
open Go.RowKit Go.Maps Go.Proofs.YtfialjmemcobjaaGreatDoor.er Go.Proofs.YtfialjmemcobjaaGreatDoor.st Go.Proofs.YtfialjmemcobjaaGreatDoor.tr
set_option linter.unusedVariables false
set_option linter.unusedSimpArgs false
set_option maxRecDepth 100000
set_option maxHeartbeats 8000000
theorem xcharge_in {X:XL} {x:Sp×Bl} {d:Int} (hx:x∈X):(({x.1 with used:=x.1.used+d},x.2):Sp×Bl)∈xcharge X x.1.id d:=List.mem_map.2 ⟨x,hx,by rw [if_pos rfl]⟩
end Go.Proofs.YtfialjmemcobjaaGreatDoor.vo
namespace Go.Proofs.YtfialjmemcobjaaGreatDoor.vo
open Go.RowKit Go.Maps Go.Proofs.YtfialjmemcobjaaGreatDoor.er Go.Proofs.YtfialjmemcobjaaGreatDoor.st Go.Proofs.YtfialjmemcobjaaGreatDoor.tr
set_option linter.unusedVariables false
set_option linter.unusedSimpArgs false
theorem dl_sub {v:Nat} {c:Pt} {X Y:XL} {n:Nat} (h:∀k∈blkF Y,k∈blkF X∨n≤k):∀k,vF v c Y k→vF v c X k∨n≤k:=by
 rintro k (hk|hk)
 ·exact .inl (.inl hk)
 ·have hk2:k∈([v,c.lb,c.mb,c.tb]++ownL c.lv)++blkF Y:=hk
  rcases List.mem_append.1 hk2 with hk2|hk2
  ·exact .inl (.inr (show k∈([v,c.lb,c.mb,c.tb]++ownL c.lv)++blkF X from List.mem_append.2 (.inl hk2)))
  ·exact (h k hk2).imp (fun h1=>.inr (show k∈([v,c.lb,c.mb,c.tb]++ownL c.lv)++blkF X from List.mem_append.2 (.inr h1))) id
theorem blk_tree {X:XL} {x:Sp×Bl} {T:Tree} {F:List Nat} {n:Nat} (hup:X.Pairwise fun a b=>a.1.id < b.1.id) (hx:x∈X) (hF:∀k∈F,k∈x.2.F∨n≤k):∀k∈blkF (xtree X x.1.id T F),k∈blkF X∨n≤k:=by
 intro k hk
 obtain ⟨z,hz,hkz⟩:=List.mem_flatMap.1 hk
 obtain ⟨y,hy,⟨he,hzy⟩|⟨he,hzy⟩⟩:=xtree_mem hz
 ·have hyx:=id_inj hup hy hx he
  rw [hzy] at hkz
  rcases List.mem_cons.1 hkz with e|hkf
  ·exact .inl (List.mem_flatMap.2 ⟨y,hy,by rw [e];simp⟩)
  ·exact (hF k hkf).imp (fun h1=>List.mem_flatMap.2 ⟨x,hx,by simp [h1]⟩) id
 ·rw [hzy] at hkz
  exact .inl (List.mem_flatMap.2 ⟨y,hy,hkz⟩)
theorem grown_mv {w w3:World} {v:Nat} {c:Pt} {X:XL} {V:Vo} {x:Sp×Bl} {T:Tree} {F:List Nat} (h:VoIn w v c X V) (hx:x∈X) (hm:Mv (fun k=>k∈x.2.F) w (fun k=>k∈F) w3):Mv (vF v c X) w (vF v c (xtree X x.1.id T F)) w3:=
 ⟨hm.keep.mono (fun k _ hk=>.inr (mem_tree hx hk)),dl_sub (blk_tree h.up hx (fun k hk=>hm.sub k hk))⟩
end Go.Proofs.YtfialjmemcobjaaGreatDoor.vo
namespace Go.Proofs.YtfialjmemcobjaaGreatDoor.vo
open Go.RowKit Go.Maps Go.Proofs.YtfialjmemcobjaaGreatDoor.er Go.Proofs.YtfialjmemcobjaaGreatDoor.st Go.Proofs.YtfialjmemcobjaaGreatDoor.tr Go.Proofs.YtfialjmemcobjaaGreatDoor.nd Go.Proofs.YtfialjmemcobjaaGreatDoor.pg
set_option linter.unusedVariables false
set_option linter.unusedSimpArgs false
set_option maxRecDepth 100000
set_option maxHeartbeats 8000000
abbrev zero32:ByteArray:=⟨(List.replicate 32 (0:UInt8)).toArray⟩
def secB (s:Sto) (T:Tree) (i:Int):ByteArray:=if (findL T.flat i).1=2 then (readS s.n (findL T.flat i).2).1.body else zero32
theorem sector_ok (w:World) (v:Nat) (c:Pt) (X:XL) (V:Vo) (x:Sp×Bl) (i:Int) (h:VoIn w v c X V) (hx:x∈X) (hi:I64 i) (hr:(findL x.1.tr.flat i).1=2→(readS V.s.n (findL x.1.tr.flat i).2).2=0) (ht:∀a,(V.s.n.read a).2.size≤70368744177664):
  Calls Tryz.prog 75 #[.pointer (some ⟨v,0,none⟩),.int .i64 x.1.id,.int .i64 i] w fun e w'=>e= .returned (.tuple #[.string (secB V.s x.1.tr i),.nilIface])∧Below w.heap.size w w':=by
 have c0:=h.obj.cell 0
 have c2:=h.obj.cell 2
 simp [volCells] at c0 c2
 obtain ⟨t1,t2,t3⟩:=h.tre x hx
 have HF:=Lib.hid (tfind_any w x.2.F x.2.p x.1.tr i t1 t2 t3 hi.1 hi.2)
 have hlk:=h.lookT hx
 have HS:Hid (secB V.s x.1.tr i=if (findL x.1.tr.flat i).1=2 then (readS V.s.n (findL x.1.tr.flat i).2).1.body else zero32):=rfl
 obtain ⟨⟨k,a⟩,hka⟩:∃ka,findL x.1.tr.flat i=ka:=⟨_,rfl⟩
 rw [hka] at HF HS hr
 simp only at HF HS hr
 obtain ⟨R,hR⟩:∃R,secB V.s x.1.tr i=R:=⟨_,rfl⟩
 rw [hR] at HS ⊢
 have HRD:Hid (∀W,Below w.heap.size w W→Calls Tryz.prog 148 #[.pointer (some ⟨c.q,0,none⟩),.int .i64 a] W fun e w'=>∃u,e= .returned (.tuple #[(readS V.s.n a).1.val,u])∧Below W.heap.size W w'∧ErrW w' (fun _=>False) [(readName,a)] (readS V.s.n a).2 u):=fun W hb=>Read_anyS W _ _ _ _ _ _ a (h.below hb).sto (h.below hb).laid (ht a)
 have HV0:Hid (∀W,Below w.heap.size w W→W.cell? ⟨v,0,none⟩=some (.pointer (some ⟨c.q,0,none⟩))):=fun W hb=>below_c hb c0
 clear h hx t1 t2 t3 hR hka ht
 go_enter Tryz.func75,Tryz.ntmps75
 go_wp2_with fail
 with_reducible refine HF.out.mono ?_
 rintro e w1 ⟨rfl,hb1⟩
 have HB1:=Lib.hid hb1
 clear hb1
 by_cases hk:k=2
 ·subst hk
  have hr0:=hr rfl
  have d0:=HV0.out _ HB1.out
  have HR2:Hid (R=(readS V.s.n a).1.body):=by show _=_;rw [HS.out,if_pos rfl]
  obtain ⟨pg,hpg⟩:∃pg,(readS V.s.n a).1=pg:=⟨_,rfl⟩
  rw [hpg,hr0] at HRD
  rw [hpg] at HR2
  obtain ⟨p0,p1,p2,p3,p4⟩:=pg
  clear hr hr0 hpg HS
  go_wp2_with fail
  refine (HRD.out _ HB1.out).mono ?_
  rintro e w2 ⟨u,rfl,hb2,hu⟩
  have HB2:Hid (Below w.heap.size w w2):=HB1.out.trans (hb2.mono HB1.out.size)
  obtain rfl:u= .nilIface:=by simpa [ErrW] using hu
  clear hu hb2
  have HPV:Hid (Page.val ⟨p0,p1,p2,p3,p4⟩= .agg #[.int .i64 p0,.int .i64 p1,.int .i64 p2,.int .i64 p3,.string p4]):=rfl
  rw [HPV.out]
  go_wp2_with fail
  refine bodyPost_ret (v:= .tuple #[.string R,.nilIface]) (by simp [results,Tryz.results75,go_sem,HR2.out]) rfl ⟨rfl,?_⟩
  exact HB2.out.alloc HB2.out.size _
 ·have hk1:(k == 2)=false:=by simpa using hk
  have HR2:Hid (R=zero32):=by show _=_;rw [HS.out,if_neg hk]
  clear hr HS
  go_wp2_with fail
  refine (Tryz.repeat32 _).mono ?_
  rintro e w2 ⟨rfl,hb2⟩
  have HB2:Hid (Below w.heap.size w w2):=HB1.out.trans (hb2.mono HB1.out.size)
  clear hb2
  obtain ⟨Z,hZ⟩:∃Z,(⟨(List.replicate 32 (0:UInt8)).toArray⟩:ByteArray)=Z:=⟨_,rfl⟩
  rw [hZ]
  have HZ:Hid (R=Z):=by show _=_;rw [HR2.out,←hZ]
  clear hZ HR2
  go_wp2_with fail
  refine bodyPost_ret (v:= .tuple #[.string R,.nilIface]) (by simp [results,Tryz.results75,go_sem,HZ.out]) rfl ⟨rfl,HB2.out⟩
end Go.Proofs.YtfialjmemcobjaaGreatDoor.vo
namespace Go.Proofs.YtfialjmemcobjaaGreatDoor.vo
open Go.RowKit Go.Maps Go.Proofs.YtfialjmemcobjaaGreatDoor.er Go.Proofs.YtfialjmemcobjaaGreatDoor.st Go.Proofs.YtfialjmemcobjaaGreatDoor.tr Go.Proofs.YtfialjmemcobjaaGreatDoor.nd Go.Proofs.YtfialjmemcobjaaGreatDoor.pg
set_option linter.unusedVariables false
set_option linter.unusedSimpArgs false
set_option maxRecDepth 100000
set_option maxHeartbeats 8000000
def readB (s:Sto) (T:Tree) (f:Int) (n:Nat):List UInt8:=(List.range n).flatMap fun k=>(secB s T (f+(k:Nat))).data.toList
theorem readB_succ (s:Sto) (T:Tree) (f:Int) (n:Nat):readB s T f (n+1)=readB s T f n++(secB s T (f+n)).data.toList:=by
 unfold readB
 rw [List.range_succ,List.flatMap_append]
 simp
theorem vread_ok (w:World) (v:Nat) (c:Pt) (X:XL) (V:Vo) (x:Sp×Bl) (f:Int) (n:Nat) (h:VoIn w v c X V) (hx:x∈X) (hf:0≤f) (h1:1≤n) (h8:n≤8) (hfn:f+n≤x.1.size) (hr:∀k:Nat,k < n→(findL x.1.tr.flat (f+k)).1=2→(readS V.s.n (findL x.1.tr.flat (f+k)).2).2=0) (ht:∀a,(V.s.n.read a).2.size≤70368744177664) (h32:∀k:Nat,k < n→(secB V.s x.1.tr (f+k)).size=32):
  Calls Tryz.prog 24 #[.pointer (some ⟨v,0,none⟩),.int .i64 x.1.id,.int .i64 f,.int .i64 n] w fun e w'=>e= .returned (.tuple #[.string ⟨(readB V.s x.1.tr f n).toArray⟩,.nilIface])∧Below w.heap.size w w':=by
 have ha:=h.acc hx
 have HW:Hid (Calls Tryz.prog 74 #[.pointer (some ⟨v,0,none⟩),.int .i64 x.1.id,.int .i64 f,.int .i64 n,.bool true] w fun e w'=>e= .returned .nilIface∧Below w.heap.size w w'):=by
  have:=within_some w v c X V x f n true h hx (by unfold I64;omega) (by unfold I64;omega)
  rw [show withE x.1.size f n true=0 by unfold withE;rw [if_neg (by simp;omega),if_neg (by omega)]] at this
  exact this
 have HS:Hid (∀W (k:Nat),Below w.heap.size w W→k < n→Calls Tryz.prog 75 #[.pointer (some ⟨v,0,none⟩),.int .i64 x.1.id,.int .i64 (f+k)] W fun e w'=>e= .returned (.tuple #[.string (secB V.s x.1.tr (f+k)),.nilIface])∧Below W.heap.size W w'):=fun W k hb hk=>sector_ok W v c X V x (f+k) (h.below hb) hx (by unfold I64;omega) (hr k hk) ht
 have HL:Hid (∀k,k≤n→(readB V.s x.1.tr f k).length≤32 * k):=by
  intro k
  induction k with
  |zero=>intro _;simp [readB]
  |succ k ih=>
   intro hk
   have h2:=ih (by omega)
   have h3:(secB V.s x.1.tr (f+k)).data.toList.length=32:=h32 k (by omega)
   rw [readB_succ,List.length_append]
   omega
 have H32:Hid (∀k:Nat,k < n→(secB V.s x.1.tr (f+k)).size=32):=h32
 have HRS:Hid (∀k,readB V.s x.1.tr f (k+1)=readB V.s x.1.tr f k++(secB V.s x.1.tr (f+k)).data.toList):=fun k=>readB_succ _ _ _ k
 have HR0:Hid (readB V.s x.1.tr f 0=[]):=rfl
 obtain ⟨R,hR⟩:∃R,readB V.s x.1.tr f=R:=⟨_,rfl⟩
 obtain ⟨S,hS⟩:∃S:Nat→ByteArray,(fun k:Nat=>secB V.s x.1.tr (f+k))=S:=⟨_,rfl⟩
 have hSk:∀k:Nat,secB V.s x.1.tr (f+k)=S k:=fun k=>congrFun hS k
 simp only [hSk] at HS H32 HRS
 rw [hR] at HL HRS HR0 ⊢
 have hni:(n:Int)≤8:=by omega
 have hfh:f+n≤16777216:=by omega
 clear h hx hr ht h32 hR hS hSk ha hfn
 go_enter Tryz.func24,Tryz.ntmps24
 go_wp2_with fail
 with_reducible refine HW.out.mono ?_
 rintro e w1 ⟨rfl,hb1⟩
 have HB1:=Lib.hid hb1
 clear hb1
 go_wp2_with fail
 go_loopw [28] (fun i wr=>∃j:Nat,j≤n∧i= .int .i64 j∧Hid (Lib.IsBuilder 129 5 w1.heap.size w1.heap.size (Lib.byteCells (R j)) wr)∧Hid (Below w1.heap.size w1 wr)) (fun i _=>n - (intOf i).toNat)
 case atStart=>exact ⟨0,Nat.zero_le _,rfl,by rw [HR0.out];exact Lib.fresh_isBuilder _ _ w1,(Below.refl _ _).alloc (Nat.le_refl _) _⟩
 case round=>
  obtain ⟨j,hj,rfl,HB,HBEL⟩:=hrel
  by_cases hlt:j < n
  ·have hji:(j:Int) < (n:Int):=by omega
   have hj0:(0:Int)≤(j:Int):=Int.natCast_nonneg _
   have HBW:Hid (Below w.heap.size w wr):=HB1.out.trans (HBEL.out.mono HB1.out.size)
   have HSJ:=Lib.hid (HS.out wr j HBW.out hlt)
   have HSZ:Hid ((Lib.byteCells (R j)).length+(S j).size≤140737488355328):=by
    show _≤_
    have h1:=HL.out j (by omega)
    have h2:=H32.out j hlt
    rw [Lib.byteCells_length]
    omega
   have HCE:Hid (Lib.byteCells (R (j+1))=Lib.byteCells (R j)++Lib.strCells (S j)):=by
    show _=_
    rw [HRS.out]
    simp [Lib.byteCells,Lib.strCells]
   obtain ⟨sj,hsj⟩:∃s,S j=s:=⟨_,rfl⟩
   rw [hsj] at HSJ HSZ HCE
   clear hsj
   go_wp2_with fail
   with_reducible refine HSJ.out.mono ?_
   rintro e w2 ⟨rfl,hb2⟩
   have HB2:=Lib.hid (builder_below HB.out hb2)
   have HBEL2:=Lib.hid (HBEL.out.trans (hb2.mono HBEL.out.size))
   clear hb2
   go_wp2_with fail
   refine (Tryz.Builder_WriteString _ _ _ _ _ HB2.out HSZ.out (by have:=HBEL2.out.size;omega)).mono ?_
   rintro e w3 ⟨rfl,hb3,hbel3⟩
   have HB3:Hid (Lib.IsBuilder 129 5 w1.heap.size w1.heap.size (Lib.byteCells (R (j+1))) w3):=by
    show Lib.IsBuilder _ _ _ _ _ _
    rw [HCE.out]
    exact .inr hb3
   have HBEL3:=Lib.hid (HBEL2.out.trans hbel3)
   clear hb3 hbel3
   go_wp2_with fail
   go_roundw
   case rel=>exact ⟨j+1,by omega,by go_num,HB3,HBEL3⟩
   case measure=>simp [intOf];omega
  ·obtain rfl:j=n:=by omega
   go_wp2_with fail
   refine (Tryz.Builder_String_any _ _ _ _ HB.out HBEL.out.size).mono ?_
   rintro e w2 ⟨rfl,hb2⟩
   have HBF:=Lib.hid (HB1.out.trans ((HBEL.out.trans hb2).mono HB1.out.size))
   clear hb2
   go_wp2_with fail
   refine bodyPost_ret (v:= .tuple #[.string ⟨(R j).toArray⟩,.nilIface]) (by simp [results,Tryz.results24,go_sem]) rfl ⟨rfl,HBF.out⟩
end Go.Proofs.YtfialjmemcobjaaGreatDoor.vo
