/- A part of the proof. -/
import Derived.Test.YtfialjmemcobjaaGreatDoorPrRtD
import Derived.Test.YtfialjmemcobjaaGreatDoorPrVoP
set_option linter.unusedVariables false
set_option linter.unusedSimpArgs false
namespace Go.Proofs.YtfialjmemcobjaaGreatDoor
namespace vo
open Go.RowKit Go.Maps er st tr nd pg
set_option maxRecDepth 100000
theorem Qew {v:Nat} {c:Pt} {X:XL} {lv':Value} (hnd:(Dl v c X).Nodup) (hn:∀g,lv'.ownBlock=some g→g∉Dl v c X):(Dl v {c with lv:=lv'} X).Nodup:=by
 have hsub:([v,c.lb,c.mb,c.tb]++Zd X).Nodup:=List.Nodup.sublist (((((List.sublist_append_right (Kh c.lv) (Zd X)).cons_cons c.tb).cons_cons c.mb).cons_cons c.lb).cons_cons v) hnd
 show ([v,c.lb,c.mb,c.tb]++(Kh lv'++Zd X)).Nodup
 cases ho:lv'.ownBlock with
 |none=>
  rw [show Kh lv'=[] by simp [Kh,ho]]
  exact hsub
 |some g=>
  rw [show Kh lv'=[g] by simp [Kh,ho]]
  refine (List.perm_middle.nodup_iff).2 (List.nodup_cons.2 ⟨fun hm=>hn g ho ?_,hsub⟩)
  simp only [Dl,List.mem_append,List.mem_cons,List.not_mem_nil,or_false] at hm ⊢
  rcases hm with (hm|hm|hm|hm)|hm
  ·exact .inl hm
  ·exact .inr (.inl hm)
  ·exact .inr (.inr (.inl hm))
  ·exact .inr (.inr (.inr (.inl hm)))
  ·exact .inr (.inr (.inr (.inr (.inr hm))))
theorem Oi {v:Nat} {c:Pt} {X:XL} {lv':Value} {k:Nat} (h:k∈Dl v {c with lv:=lv'} X):k∈Dl v c X∨lv'.ownBlock=some k:=by
 simp only [Dl,List.mem_append,List.mem_cons] at h ⊢
 rcases h with h|h|h|h|h|h
 ·exact .inl (.inl h)
 ·exact .inl (.inr (.inl h))
 ·exact .inl (.inr (.inr (.inl h)))
 ·exact .inl (.inr (.inr (.inr (.inl h))))
 ·exact .inr (Jf.1 h)
 ·exact .inl (.inr (.inr (.inr (.inr (.inr h)))))
theorem VoIn.relast {w w':World} {v:Nat} {c:Pt} {X:XL} {V V':Vo} {lv':Value} (h:VoIn w v c X V) (hk:Keep (fun k=>k=v) w w') (ho:Whole w' v 115 (Qi {c with lv:=lv'} V')) (e1:V'.s=V.s) (e2:V'.cap=V.cap) (e3:V'.l=V.l) (hr:w'.ownsRow 0 3 1 lv' V'.last.length (ints V'.last)) (hn:∀g,lv'.ownBlock=some g→¬vF v c X g∧g≠0):VoIn w' v {c with lv:=lv'} X V':=by
 have hvn:=h.vne
 have hvs:∀k,stF c k→k≠v:=fun k hs e=>(h.far v (by simp [Dl])).1 (e▸hs)
 obtain ⟨s',cap',l',g',r',la',su'⟩:=V'
 simp only at e1 e2 e3
 subst e1 e2 e3
 refine ⟨ho,h.sto.keep hk hvs,h.led.keep hk (fun k hl e=>?_),h.trs.keep hk (hvn _ (by simp)),fun x hx=>⟨TrAt.keep (h.tre x hx).1 hk (fun k hf=>hvn k ?_),(h.tre x hx).2⟩,hr,h.spl,Qew h.nd (fun g hg hd=>(hn g hg).1 (.inr hd)),fun k hk=>?_,h.zero,hk.cell h.laid (fun e=>(h.far v (by simp [Dl])).2 e.symm)⟩
 ·have:k∈c.lb::c.mb::c.tb::(Kh c.lv++Zd X):=by
   rcases hl with rfl|rfl|⟨y,hy,rfl⟩
   ·simp
   ·simp
   ·obtain ⟨x,hx,rfl⟩:=List.mem_map.1 hy
    simp only [List.mem_cons,List.mem_append]
    exact .inr (.inr (.inr (.inr (List.mem_flatMap.2 ⟨x,hx,by simp⟩))))
  exact hvn k this e
 ·simp only [List.mem_cons,List.mem_append]
  exact .inr (.inr (.inr (.inr (List.mem_flatMap.2 ⟨x,hx,by simp [hf]⟩))))
 ·rcases Oi hk with hk|hk
  ·exact h.far k hk
  ·exact ⟨fun hs=>(hn k hk).1 (.inl hs),(hn k hk).2⟩
def Q6 (y:Sp×Bl):rt.Space:=⟨y.1.id,y.1.size,Qqh y.1.tr,y.1.tr.high⟩
structure CmW (w:World) (v:Nat) (c:Pt) (X:XL) (B:Nat) (iv:Value) (il:List Int) (rv:Value) (rl:List rt.Space) (cj:Pt) (Y:XL) (V:Vo) (wr:World):Prop where
 vo:VoIn wr v cj Y V
 ids:wr.ownsRow w.heap.size 3 1 iv il.length (ints il)
 row:wr.ownsRow B 206 4 rv rl.length (rt.Q0 rl)
 fi:∀k,iv.ownBlock=some k→¬vF v cj Y k∧k < B
 fr:∀k,rv.ownBlock=some k→¬vF v cj Y k
 lo:w.heap.size≤B∧B≤wr.heap.size
 mv:Mv (vZ v c X) w (vF v cj Y) wr
section
variable {w:World} {v:Nat} {c:Pt} {X:XL} {B:Nat} {iv:Value} {il:List Int} {rv:Value} {rl:List rt.Space} {cj:Pt} {Y:XL} {V:Vo} {wr:World}
theorem CmW.pos (h:CmW w v c X B iv il rv rl cj Y V wr):(∀k,iv.ownBlock=some k→¬vZ v cj Y k)∧(∀k,rv.ownBlock=some k→¬vZ v cj Y k):=⟨fun k hk=>(h.fi k hk).1,h.fr⟩
theorem CmW.move {w':World} {ck:Pt} {Z:XL} {U:Vo} (h:CmW w v c X B iv il rv rl cj Y V wr) (h0:0 < w.heap.size) (hv:VoIn w' v ck Z U) (hm:Mv (vZ v cj Y) wr (vF v ck Z) w'):CmW w v c X B iv il rv rl ck Z U w':=by
 obtain ⟨p1,p2⟩:=h.pos
 have hsz:=hm.keep.size
 have hout:∀k,k < wr.heap.size→¬vZ v cj Y k→¬vF v ck Z k:=fun k hk hz hv'=>(hm.sub k hv').elim hz (fun e=>by omega)
 obtain ⟨l1,l2⟩:=h.lo
 refine ⟨hv,Qj h.ids hm.keep (fun g hg=>p1 g hg),Qj h.row hm.keep (fun g hg=>p2 g hg),fun k hk=>⟨hout k (h.ids.lt k hk).2 (p1 k hk),(h.fi k hk).2⟩,fun k hk=>hout k (h.row.lt k hk).2 (p2 k hk),⟨l1,by omega⟩,⟨h.mv.keep.trans hm.keep (fun k hk=>?_),fun k hk=>?_⟩⟩
 ·exact h.mv.sub k hk
 ·rcases hm.sub k hk with hk|hk
  ·exact h.mv.sub k hk
  ·exact .inr (Nat.le_trans h.mv.keep.size hk)
theorem CmW.below {w':World} (h:CmW w v c X B iv il rv rl cj Y V wr) (h0:0 < w.heap.size) (hb:Below wr.heap.size wr w'):CmW w v c X B iv il rv rl cj Y V w':=h.move h0 (h.vo.below hb) ⟨Keep.below hb,fun k hk=>.inl hk⟩
theorem CmW.grow {w':World} {g cap:Nat} {a:rt.Space} (h:CmW w v c X B iv il rv rl cj Y V wr) (h0:0 < w.heap.size) (ho:w'.ownsRow B 206 4 (.slice (some ⟨g,0,none⟩) (rl.length+1) cap) (rl.length+1) (rt.Q0 (rl++[a]))) (hg:wr.grownBy w' rv.ownBlock) (hat:rv.ownBlock=some g∨g=wr.heap.size):CmW w v c X B iv il (.slice (some ⟨g,0,none⟩) (rl.length+1) cap) (rl++[a]) cj Y V w':=by
 obtain ⟨p1,p2⟩:=h.pos
 have hk:Keep (fun k=>rv.ownBlock=some k) wr w':=Keep.grown (Keep.refl _ _) hg (fun g hg=>.inl hg)
 have hvl:=h.vo.lt
 have hrow:=h.row
 obtain ⟨l1,l2⟩:=h.lo
 have hrl:(rl++[a]).length=rl.length+1:=by simp
 refine ⟨h.vo.keep hk (fun k hk e=>?_),Qj h.ids hk (fun g hg e=>?_),by rw [hrl];exact ho,h.fi,fun k hk=>?_,⟨l1,by have:=hk.size;omega⟩,⟨h.mv.keep.trans hk (fun k hk=>.inr (by have:=(hrow.lt k hk).1;omega)),h.mv.sub⟩⟩
 ·rcases hk with hk|rfl
  ·exact h.fr k e hk
  ·have:=(hrow.lt _ e).1;omega
 ·have:=(h.fi g hg).2
  have:=(hrow.lt g e).1
  omega
 ·have hgf:¬vF v cj Y g:=by
   rcases hat with e|e
   ·exact h.fr g e
   ·intro hv
    have:=hvl g hv
    omega
  have:g=k:=by simpa [Value.ownBlock] using hk
  rw [←this]
  exact hgf
end
end vo
namespace vo
open Go.RowKit Go.Maps er st tr nd pg
set_option maxRecDepth 100000
set_option maxHeartbeats 16000000
def Yk (g:Int) (l:List rt.Space):Page:=⟨4,0,0,0,rt.Jd g l⟩
structure Qar (f:Nat) (X:XL) (V:Vo):Prop where
 wr:∀(j:Nat) (x:Sp×Bl) (A:XL) (s:Sto),X[j]? =some x→U6 f (X.take j) V.s A s→Qxx f x.1.id x.1.tr s
 root:∀(Y:XL) (s:Sto),U6 f X V.s Y s→rt.Ox (V.gen+1) (Y.map Q6)=true∧(Yr Y∧(J9 Y).length≤100000)∧s.n.ops+f≤1000000000000000000∧s.seq≤281474976710655∧∃r,Ja f s (Yk (V.gen+1) (Y.map Q6))=some r
def Qhp (f:Nat) (w:World) (v:Nat) (c:Pt) (X:XL) (V:Vo) (e:Ending) (w':World):Prop:=
 (∃Y s r N lv L,e= .returned .nilIface∧U6 f X V.s Y s∧Ja f s (Yk (V.gen+1) (Y.map Q6))=some r∧r.2.2=0∧L.Perm (J9 Y)∧VoIn w' v {c with N:=N,lv:=lv} Y {s:=r.1,cap:=V.cap,l:=Y.map (·.1),gen:=V.gen+1,root:=r.2.1,last:=L,sure:=true}∧Mv (vZ v c X) w (vF v {c with N:=N,lv:=lv} Y) w')∨
 (∃et ex Y s N,e= .returned (.iface et ex)∧VoIn w' v {c with N:=N} Y {V with s:=s,l:=Y.map (·.1)}∧Mv (vZ v c X) w (vF v {c with N:=N} Y) w'∧
  ((∃(j:Nat) (x:Sp×Bl) (A:XL) (s1:Sto) (T:Tree),X[j]? =some x∧U6 f (X.take j) V.s A s1∧Bt f x.1.id x.1.tr s1 T s∧Y=A++({x.1 with tr:=T},x.2)::X.drop (j+1))∨
   (∃s1 a er,U6 f X V.s Y s1∧Ja f s1 (Yk (V.gen+1) (Y.map Q6))=some (s,a,er)∧er≠0)))
theorem Qkc (w:World) (v:Nat) (c:Pt) (X:XL) (V:Vo) (f:Nat) (h:VoIn w v c X V) (hg0:0≤V.gen) (hg:V.gen < 1099511627775) (hcan:Qar f X V):
  Calls Tryz.prog 73 #[.pointer (some ⟨v,0,none⟩)] w (Qhp f w v c X V):=by
 have hup:=h.up
 have h0:=h.laid.lt
 have hlen:X.length≤8:=by have:=h.led.ok.len;simpa [Q5,Zu] using this
 have c1:=h.obj.cell 1
 have c3:=h.obj.cell 3
 simp [Qi] at c1 c3
 have HI:Hid (Calls Tryz.prog 67 #[.pointer (some ⟨c.lb,0,none⟩)] w fun e w'=>∃A1 d1,e= .returned (.slice A1 X.length d1)∧CmW w v c X w'.heap.size (.slice A1 X.length d1) (X.map (·.1.id)) (.slice none 0 0) [] c X V w'):=by
  refine (P9 w c.lb c.mb V.cap (Q5 X) h.led).mono ?_
  rintro e w' ⟨v',rfl,ho,hb⟩
  obtain ⟨A1,d1,rfl⟩:=Qk ho
  have el:(Q5 X).length=X.length:=by simp [Q5]
  rw [el] at ho ⊢
  refine ⟨A1,d1,rfl,h.below hb,?_,⟨rfl,.inl ⟨rfl,rfl⟩⟩,fun k hk=>⟨fun hv=>?_,(ho.lt k hk).2⟩,fun k hk=>absurd hk (by simp [Value.ownBlock]),⟨hb.size,Nat.le_refl _⟩,⟨Keep.below hb,fun k hk=>.inl hk⟩⟩
  ·rw [List.length_map,show ints (X.map (·.1.id))=(Q5 X).map (fun y=>Value.int .i64 y.1.id) by simp [ints,Q5]]
   exact ho
  ·have:=h.lt k hv
   have:=(ho.lt k hk).1
   omega
 obtain ⟨i0,hi0,hz0,hz1,hz2⟩:=info_parts rt.Qg7
 have HI0:=Ql4 hi0
 have HZ0:=Ql4 hz0
 have HZ1:=Ql4 hz1
 have HZ2:=Ql4 hz2
 have H:=Ql4 h
 have HCAN:=Ql4 hcan
 have HUP:=Ql4 hup
 have H0:=Ql4 h0
 have hsl:(V.s,V.l)=(V.s,X.map (·.1)):=by rw [h.spl]
 have HSL:=Ql4 h.spl
 obtain ⟨n,hn⟩:∃n,X.length=n:=⟨_,rfl⟩
 have HN:=Ql4 hn
 rw [hn] at HI hlen
 clear h hcan hup hi0 hz0 hz1 hz2 hsl hn
 go_enter Tryz.func73,Tryz.ntmps73
 go_wp2_with fail
 with_reducible refine HI.out.mono ?_
 rintro e w1 ⟨A1,d1,rfl,hC⟩
 have HC:=Ql4 hC
 obtain ⟨B,hB⟩:∃B,w1.heap.size=B:=⟨_,rfl⟩
 rw [hB] at HC
 clear hC hB
 go_wp2_with fail
 go_loopw [3,28] (fun rv i wr=>∃(j:Nat) (Ar:Option Addr) (d:Nat) (A:XL) (s:Sto) (N:Nat→Prop),j≤n∧i= .int .i64 j∧rv= .slice Ar j d∧Hid (A.length=j)∧Hid (U6 f (X.take j) V.s A s)∧Hid (CmW w v c X B (.slice A1 n d1) (X.map (·.1.id)) (.slice Ar j d) (A.map Q6) {c with N:=N} (A++X.drop j) {V with s:=s,l:=(A++X.drop j).map (·.1)} wr)) (fun _ i _=>n - (intOf i).toNat)
 case atStart=>
  refine ⟨0,none,0,[],V.s,c.N,Nat.zero_le _,rfl,rfl,rfl,⟨rfl,rfl⟩,?_⟩
  show CmW _ _ _ _ _ _ _ _ _ _ X _ _
  rw [show ({V with s:=V.s,l:=([]++X.drop 0:XL).map (·.1)}:Vo)=V by rw [show ([]++X.drop 0:XL).map (·.1)=V.l from HSL.out]]
  exact HC.out
 case round=>
  obtain ⟨j,Ar,d,A,s,N,hj,rfl,rfl,HA,HW,HCM⟩:=hrel
  by_cases hlt:j < n
  ·have hji:(j:Int) < (n:Int):=by omega
   have hj0:(0:Int)≤(j:Int):=Int.natCast_nonneg _
   obtain ⟨x,hx⟩:∃x,X[j]? =some x:=⟨_,List.getElem?_eq_getElem (by have:=HN.out;omega)⟩
   have hdr:X.drop j=x::X.drop (j+1):=by
    rw [List.drop_eq_getElem_cons (by have:=HN.out;omega)]
    congr 1
    have:=(List.getElem?_eq_some_iff.1 hx).2
    exact this
   rw [hdr] at HCM
   have hxY:x∈A++x::X.drop (j+1):=by simp
   have hids:wr.ownsRow w.heap.size 3 1 (.slice A1 n d1) n (ints (X.map (·.1.id))):=by
    have:=HCM.out.ids
    rwa [List.length_map,HN.out] at this
   obtain ⟨gi,rfl,_,_,_,hcell,_⟩:=Qo hids (by omega)
   have ci:wr.cell? ⟨gi,j,none⟩=some (.int .i64 x.1.id):=by
    have:=hcell j (.int .i64 x.1.id) (by simp [ints,hx])
    simpa using this
   have v2:wr.cell? ⟨v,2,none⟩=some (.map (some c.tb)):=HCM.out.vo.obj.cell 2
   have hlk:(Instr.lookup 113 (.map (some c.tb)) (.int .i64 x.1.id) false).run Tryz.prog wr= .ok (.pointer (some ⟨x.2.p,0,none⟩)) wr:=HCM.out.vo.lookT hxY
   have HPU:Hid (Calls Tryz.prog 142 #[.pointer (some ⟨v,0,none⟩),.int .i64 x.1.id] wr fun e w'=>∃b1 b2,e= .returned (.func (.func 205) #[] #[.pointer (some ⟨b1,0,none⟩),.pointer (some ⟨b2,0,none⟩)])∧Calls Tryz.prog 141 #[.pointer (some ⟨x.2.p,0,none⟩),.func (.func 205) #[] #[.pointer (some ⟨b1,0,none⟩),.pointer (some ⟨b2,0,none⟩)]] w' fun e2 w3=>∃T s' N',CmW w v c X B (.slice (some ⟨gi,0,none⟩) n d1) (X.map (·.1.id)) (.slice Ar j d) (A.map Q6) {c with N:=N'} (A++({x.1 with tr:=T},x.2)::X.drop (j+1)) {V with s:=s',l:=(A++({x.1 with tr:=T},x.2)::X.drop (j+1)).map (·.1)} w3∧((e2= .returned (.tuple #[.int .i64 (Qqh T),.nilIface])∧Wrt f x.1.id x.1.tr s T s')∨(∃et ex,e2= .returned (.tuple #[.int .i64 (-1),.iface et ex])∧Bt f x.1.id x.1.tr s T s'))):=by
    have hvl:=HCM.out.vo.lt
    have hups:=HCM.out.vo.up
    refine (Qzz wr v x.1.id).mono ?_
    rintro e w2 ⟨rfl,o1,o2,hb⟩
    have hC2:=HCM.out.below H0.out hb
    refine ⟨_,_,rfl,(Qbr w2 v {c with N:=N} _ _ x _ _ f hC2.vo hxY o1 o2 (fun hf=>by have:=hvl _ hf;omega) (fun hf=>by have:=hvl _ hf;omega) (HCAN.out.wr j x A s hx HW.out)).mono ?_⟩
    rintro e w3 ⟨T,s',N',q1,q2,q3⟩
    have e1:Qc (A++x::X.drop (j+1)) x.1.id T x.2.F=A++({x.1 with tr:=T},x.2)::X.drop (j+1):=Qxu hups
    rw [e1] at q1 q2
    refine ⟨T,s',N',HCM.out.move H0.out q1 ⟨(Keep.below (F:=vZ v {c with N:=N} (A++x::X.drop (j+1))) hb).trans q2.keep (fun k hk=>?_),fun k hk=>?_⟩,q3⟩
    ·rcases hk with hk|rfl|rfl
     ·exact .inl hk
     ·exact .inr (Nat.le_refl _)
     ·exact .inr (Nat.le_succ _)
    ·rcases q2.sub k hk with (hk|rfl|rfl)|hk
     ·exact .inl hk
     ·exact .inr (Nat.le_refl _)
     ·exact .inr (Nat.le_succ _)
     ·exact .inr (Nat.le_trans hb.size hk)
   clear hids hcell
   go_wp2_with fail
   refine HPU.out.mono ?_
   rintro e w2 ⟨b1,b2,rfl,hw2⟩
   have HW2:=Ql4 hw2
   clear hw2 ci v2 hlk
   go_wp2_with fail
   refine HW2.out.mono ?_
   rintro e w3 ⟨T,s',N',hc3,(⟨rfl,hwr⟩|⟨et,ex,rfl,hno⟩)⟩
   ·have HC3:=Ql4 hc3
    have HWR:=Ql4 hwr
    have hz:(({x.1 with tr:=T},x.2):Sp×Bl)∈A++({x.1 with tr:=T},x.2)::X.drop (j+1):=by simp
    have v1:w3.cell? ⟨v,1,none⟩=some (.pointer (some ⟨c.lb,0,none⟩)):=hc3.vo.obj.cell 1
    have HOF:=Ql4 (F6 w3 c.lb c.mb V.cap _ _ hc3.vo.led (Ye hz))
    simp only at HOF
    clear hc3 hwr
    go_wp2_with fail
    with_reducible refine HOF.out.mono ?_
    rintro e w4 ⟨rfl,hb4⟩
    have HC4:=Ql4 (HC3.out.below H0.out hb4)
    obtain ⟨t1,t2,t3⟩:=HC4.out.vo.tre _ hz
    have HH:=Ql4 (Qz7 w4 x.2.F x.2.p T t1 t2 t3)
    clear hb4 t1 t2 t3 v1
    go_wp2_with fail
    with_reducible refine HH.out.mono ?_
    rintro e w5 ⟨rfl,rfl⟩
    obtain ⟨hT,hhT⟩:∃q:Int,(T.high:Int)=q:=⟨_,rfl⟩
    obtain ⟨tT,htT⟩:∃q:Int,Qqh T=q:=⟨_,rfl⟩
    obtain ⟨y0,hy0⟩:∃q:Int,x.1.id=q:=⟨_,rfl⟩
    obtain ⟨y1,hy1⟩:∃q:Int,x.1.size=q:=⟨_,rfl⟩
    rw [hhT,htT,hy0,hy1]
    have HNW:Hid (∀(j':Nat) (u:Value),([.int .i64 y0,.int .i64 y1,.int .i64 tT,.int .i64 hT]:List Value)[j']? =some u→(w5.alloc (.cells #[.int .i64 y0,.int .i64 y1,.int .i64 tT,.int .i64 hT] 206)).cell? ((⟨w5.heap.size,0,none⟩:Addr).add j')=some u):=World.news_of_block (heap_alloc_new w5 _)
    have hone:∀u∈([.int .i64 y0,.int .i64 y1,.int .i64 tT,.int .i64 hT]:List Value),u.oneCell'=true:=by simp [Value.oneCell']
    have HONE:=Ql4 hone
    have HC5:=Ql4 (HC4.out.below H0.out ((Below.refl _ _).alloc (Nat.le_refl _) (.cells #[.int .i64 y0,.int .i64 y1,.int .i64 tT,.int .i64 hT] 206)))
    have HO5:Hid ((w5.alloc (.cells #[.int .i64 y0,.int .i64 y1,.int .i64 tT,.int .i64 hT] 206)).ownsRow B 206 4 (.slice Ar j d) j (rt.Q0 (A.map Q6))):=by
     have:=HC5.out.row
     rwa [List.length_map,HA.out] at this
    have HSZ:Hid (B≤(w5.alloc (.cells #[.int .i64 y0,.int .i64 y1,.int .i64 tT,.int .i64 hT] 206)).heap.size):=HC5.out.lo.2
    have HSP:Hid (rt.Q0 (A.map Q6)++[.int .i64 y0,.int .i64 y1,.int .i64 tT,.int .i64 hT]=rt.Q0 (A.map Q6++[⟨y0,y1,tT,hT⟩])):=by
     show _=_
     rw [rt.Ab]
    have hxs:Q6 (({x.1 with tr:=T},x.2):Sp×Bl)=⟨y0,y1,tT,hT⟩:=by
     rw [←hhT,←htT,←hy0,←hy1]
     rfl
    have HXS:=Ql4 hxs
    clear hone hxs hhT htT hy0 hy1
    go_wp2_with (at_builtin;go_must (refine wpList_append_lies _ rfl (.tmp 59) (.tmp 66) 197 rfl B 206 i0 _ 4 32 Tryz.underlying197 HI0.out HZ0.out HZ1.out HZ2.out rfl (by omega) (.slice Ar j d) j (rt.Q0 (A.map Q6)) rfl HO5.out ⟨w5.heap.size,0,none⟩ 1 1 [.int .i64 y0,.int .i64 y1,.int .i64 tT,.int .i64 hT] rfl rfl HNW.out HONE.out (by omega) (by simp only [maxLen];omega) (by omega) HSZ.out _ rfl ?_;intro g2 c2 w6 hown6 hg6 hat6 _;rw [HSP.out] at hown6;have HO6:=Ql4 hown6;have HG6:=Ql4 hg6;have HAT6:=Ql4 hat6;clear hown6 hg6 hat6))
    have HC6:Hid (CmW w v c X B (.slice (some ⟨gi,0,none⟩) n d1) (X.map (·.1.id)) (.slice (some ⟨g2,0,none⟩) (j+1) c2) ((A++[({x.1 with tr:=T},x.2)]).map Q6) {c with N:=N'} ((A++[({x.1 with tr:=T},x.2)])++X.drop (j+1)) {V with s:=s',l:=(((A++[({x.1 with tr:=T},x.2)])++X.drop (j+1):XL)).map (fun y:Sp×Bl=>y.1)} w6):=by
     have hal:(A.map Q6).length=j:=by rw [List.length_map,HA.out]
     have q:=HC5.out.grow (w':=w6) (g:=g2) (cap:=c2) (a:=⟨y0,y1,tT,hT⟩) H0.out (by rw [hal];exact HO6.out) HG6.out HAT6.out
     rw [hal] at q
     rw [List.append_assoc,List.map_append,List.map_cons,List.map_nil,HXS.out]
     exact q
    have HW6:Hid (U6 f (X.take (j+1)) V.s (A++[({x.1 with tr:=T},x.2)]) s'):=by
     rw [List.take_add_one,hx]
     exact Lv HW.out HWR.out
    have hmeas:n - (intOf (.int .i64 ((j:Int)+1))).toNat < n - (intOf (.int .i64 (j:Int))).toNat:=by simp [intOf];omega
    refine ⟨⟨j+1,some ⟨g2,0,none⟩,c2,A++[({x.1 with tr:=T},x.2)],s',N',?_,?_,rfl,?_,?_,?_⟩,hmeas⟩
    ·omega
    ·go_num
    ·show _=_;simp [HA.out]
    ·with_reducible exact HW6
    ·with_reducible exact HC6
   ·have HC3:=Ql4 hc3
    have HNO:=Ql4 hno
    clear hc3 hno
    go_wp2_with fail
    go_ret
    exact .inr ⟨et,ex,_,s',N',rfl,HC3.out.vo,HC3.out.mv,.inl ⟨j,x,A,s,T,hx,HW.out,HNO.out,rfl⟩⟩
  ·obtain rfl:j=n:=by omega
   have hdn:X.drop j=[]:=List.drop_eq_nil_of_le (by have:=HN.out;omega)
   have htk:X.take j=X:=List.take_of_length_le (by have:=HN.out;omega)
   rw [hdn,List.append_nil] at HCM
   rw [htk] at HW
   obtain ⟨hm,hsm,ho,hq,r,hr⟩:=HCAN.out.root A s HW.out
   have HSM:=Ql4 hsm.1
   have HR:=Ql4 hr
   have v3:wr.cell? ⟨v,3,none⟩=some (.int .i64 V.gen):=HCM.out.vo.obj.cell 3
   have HRW:Hid (Calls Tryz.prog 144 #[.int .i64 (V.gen+1),.slice Ar j d] wr fun e w'=>e= .returned (.tuple #[.string (rt.Jd (V.gen+1) (A.map Q6)),.int .i64 0])∧CmW w v c X B (.slice A1 j d1) (X.map (·.1.id)) (.slice Ar j d) (A.map Q6) {c with N:=N} A {V with s:=s,l:=A.map (·.1)} w'):=by
    refine (rt.Sj (V.gen+1) (A.map Q6) (.slice Ar j d) wr (Qs HCM.out.row (Nat.zero_le _)) hm).mono ?_
    rintro e w' ⟨rfl,hb⟩
    exact ⟨rfl,HCM.out.below H0.out hb⟩
   have HAP:Hid (∀W,CmW w v c X B (.slice A1 j d1) (X.map (·.1.id)) (.slice Ar j d) (A.map Q6) {c with N:=N} A {V with s:=s,l:=A.map (·.1)} W→W.cell? ⟨v,0,none⟩=some (.pointer (some ⟨c.q,0,none⟩))∧Calls Tryz.prog 145 #[.pointer (some ⟨c.q,0,none⟩),.agg #[.int .i64 4,.int .i64 0,.int .i64 0,.int .i64 0,.string (rt.Jd (V.gen+1) (A.map Q6))]] W fun e w'=>∃u N',e= .returned (.tuple #[.int .i64 r.2.1,u])∧CmW w v c X B (.slice A1 j d1) (X.map (·.1.id)) (.slice Ar j d) (A.map Q6) {c with N:=N'} A {V with s:=r.1,l:=A.map (·.1)} w'∧((r.2.2=0∧u= .nilIface)∨(r.2.2≠0∧∃et ex,u= .iface et ex))):=by
    intro W hW
    refine ⟨hW.vo.obj.cell 0,(Lg W v {c with N:=N} A {V with s:=s,l:=A.map (·.1)} (Yk (V.gen+1) (A.map Q6)) f r hW.vo hr ho hq).mono ?_⟩
    rintro e w' ⟨u,N',rfl,q1,q2,q3⟩
    have qm:=Mx (v:=v) (X:=A) q2
    refine ⟨u,N',rfl,hW.move H0.out q1 qm,?_⟩
    rcases q3 with q3|⟨q3,bs,q4,_⟩
    ·exact .inl q3
    ·obtain ⟨et,ex,rfl⟩:=q4.iface
     exact .inr ⟨q3,et,ex,rfl⟩
   obtain ⟨Rb,hRb⟩:∃Rb,rt.Jd (V.gen+1) (A.map Q6)=Rb:=⟨_,rfl⟩
   rw [hRb] at HRW HAP
   clear hm hsm hr ho hq hRb
   go_wp2_with fail
   with_reducible refine HRW.out.mono ?_
   rintro e w2 ⟨rfl,hc2⟩
   obtain ⟨v0,ha2⟩:=HAP.out w2 hc2
   have HA2:=Ql4 ha2
   clear hc2 ha2 v3
   go_wp2_with fail
   refine HA2.out.mono ?_
   rintro e w3 ⟨u,N',rfl,hc3,(⟨hr2,rfl⟩|⟨hr2,et,ex,rfl⟩)⟩
   ·have HC3:=Ql4 hc3
    have HR2:=Ql4 hr2
    have v3:w3.cell? ⟨v,3,none⟩=some (.int .i64 V.gen):=hc3.vo.obj.cell 3
    have f3:=hc3.vo.obj.fz 3
    have HV4:Hid (VoIn (w3.setCell ⟨v,3,none⟩ (.int .i64 (V.gen+1))) v {c with N:=N'} A ({V with s:=r.1,l:=A.map (fun y:Sp×Bl=>y.1),gen:=V.gen+1}:Vo)):=hc3.vo.setV (Keep.set1 w3 v 3 _) (by simpa [Qi] using hc3.vo.obj.set 3 (.int .i64 (V.gen+1))) rfl rfl rfl rfl
    have HVP:Hid (Calls Tryz.prog 86 #[.pointer (some ⟨v,0,none⟩)] (w3.setCell ⟨v,3,none⟩ (.int .i64 (V.gen+1))) fun x w'=>∃v' L,x= .returned v'∧L.Perm (J9 A)∧w'.ownsRow (w3.setCell ⟨v,3,none⟩ (.int .i64 (V.gen+1))).heap.size 3 1 v' L.length (ints L)∧Below (w3.setCell ⟨v,3,none⟩ (.int .i64 (V.gen+1))).heap.size (w3.setCell ⟨v,3,none⟩ (.int .i64 (V.gen+1))) w'):=Ic _ v _ A _ HV4.out HSM.out
    clear hc3 hr2 v0
    go_wp2_with fail
    refine HVP.out.mono ?_
    rintro e w5 ⟨v',L,rfl,hp5,ho5,hb5⟩
    have HP5:=Ql4 hp5
    have HO5:=Ql4 ho5
    have HB5:=Ql4 hb5
    have HV5:=Ql4 (HV4.out.below hb5)
    have f4:=HV5.out.obj.fz 4
    have f5:=HV5.out.obj.fz 5
    have f6:=HV5.out.obj.fz 6
    have c4:=HV5.out.obj.cell 4
    have c5:=HV5.out.obj.cell 5
    have c6:=HV5.out.obj.cell 6
    simp [Qi] at c4 c5 c6
    obtain ⟨A5,d5,rfl⟩:=Qk ho5
    clear hp5 ho5 hb5 v3 f3
    go_wp2_with fail
    go_ret
    have hk6:Keep (fun k=>k=v) w5 (((w5.setCell ⟨v,4,none⟩ (.int .i64 r.2.1)).setCell ⟨v,5,none⟩ (.slice A5 L.length d5)).setCell ⟨v,6,none⟩ (.bool true)):=((Keep.set1 w5 v 4 _).setCell (.inl rfl) _).setCell (.inl rfl) _
    have hgo:∀g,(Value.slice A5 L.length d5).ownBlock=some g→w3.heap.size≤g∧¬vF v {c with N:=N'} A g:=fun g hg=>by
     have h1:=(HO5.out.lt g hg).1
     have h2:=HV4.out.lt
     simp only [World.size_setCell] at h1
     exact ⟨h1,fun hv=>by have:=h2 g hv;simp only [World.size_setCell] at this;omega⟩
    have hvl:v < w3.heap.size:=HC3.out.vo.obj.lt
    have hw3:w.heap.size≤w3.heap.size:=HC3.out.mv.keep.size
    have h00:=H0.out
    refine .inl ⟨A,s,r,N',.slice A5 L.length d5,L,rfl,HW.out,HR.out,HR2.out,HP5.out,HV5.out.relast hk6 (by simpa [Qi] using ((HV5.out.obj.set 4 (.int .i64 r.2.1)).set 5 (.slice A5 L.length d5)).set 6 (.bool true)) rfl rfl rfl (Qj (Qs HO5.out (Nat.zero_le _)) hk6 (fun g hg e=>by have:=(hgo g hg).1;omega)) (fun g hg=>⟨(hgo g hg).2,by have:=(hgo g hg).1;omega⟩),?_⟩
    have hm4:Mv (vZ v c X) w (vF v {c with N:=N'} A) w5:=⟨(HC3.out.mv.keep.trans (Keep.set1 w3 v 3 (.int .i64 (V.gen+1))) (fun k hk=>HC3.out.mv.sub k (by subst hk;exact .inr (by simp [Dl])))).transBelow HB5.out,HC3.out.mv.sub⟩
    refine ⟨hm4.keep.trans hk6 (fun k hk=>hm4.sub k (by subst hk;exact .inr (by simp [Dl]))),fun k hk=>?_⟩
    rcases hk with hk|hk
    ·exact hm4.sub k (.inl hk)
    ·rcases Oi hk with hk|hk
     ·exact hm4.sub k (.inr hk)
     ·exact .inr (by have:=(hgo k hk).1;omega)
   ·have HC3:=Ql4 hc3
    have HR2:=Ql4 hr2
    clear hc3 hr2 v0
    go_wp2_with fail
    go_ret
    refine .inr ⟨et,ex,A,r.1,N',rfl,HC3.out.vo,HC3.out.mv,.inr ⟨s,r.2.1,r.2.2,HW.out,HR.out,HR2.out⟩⟩
end vo
namespace vo
open Go.RowKit Go.Maps er st tr nd pg
set_option maxRecDepth 100000
set_option maxHeartbeats 8000000
def Qhl (f:Nat) (w:World) (v:Nat) (c:Pt) (X:XL) (V:Vo) (e:Ending) (w':World):Prop:=
 ((V.sure=true∧0≤V.root)∧e= .returned .nilIface∧w'=w)∨
 (∃Y s r N lv L,e= .returned .nilIface∧U6 f X V.s Y s∧Ja f s (Yk (V.gen+1) (Y.map Q6))=some r∧r.2.2=0∧L.Perm (J9 Y)∧VoIn w' v {c with N:=N,lv:=lv} Y (Vo.kept {s:=r.1,cap:=V.cap,l:=Y.map (·.1),gen:=V.gen+1,root:=r.2.1,last:=L,sure:=true} Y)∧Mv (vZ v c X) w (vF v {c with N:=N,lv:=lv} Y) w')∨
 (∃b et ex Y s N,e= .returned (.iface 183 (.pointer (some ⟨b,0,none⟩)))∧Whole w' b 187 #[.string ⟨#[99,111,109,109,105,116]⟩,.int .i64 0,.iface et ex]∧VoIn w' v {c with N:=N} Y (Vo.kept {V with s:=s,l:=Y.map (·.1)} Y)∧Mv (vZ v c X) w (vF v {c with N:=N} Y) w'∧
  ((∃(j:Nat) (x:Sp×Bl) (A:XL) (s1:Sto) (T:Tree),X[j]? =some x∧U6 f (X.take j) V.s A s1∧Bt f x.1.id x.1.tr s1 T s∧Y=A++({x.1 with tr:=T},x.2)::X.drop (j+1))∨
   (∃s1 a er,U6 f X V.s Y s1∧Ja f s1 (Yk (V.gen+1) (Y.map Q6))=some (s,a,er)∧er≠0)))
theorem E8 (w:World) (v:Nat) (c:Pt) (X:XL) (V:Vo) (f:Nat) (h:VoIn w v c X V) (hg0:0≤V.gen) (hg:V.gen < 1099511627775) (hcan:¬(V.sure=true∧0≤V.root)→Qar f X V) (hls:V.last.length≤100000)
  (hpart:∀(j:Nat) (x:Sp×Bl) (A:XL) (s1 s:Sto) (T:Tree),X[j]? =some x→U6 f (X.take j) V.s A s1→Bt f x.1.id x.1.tr s1 T s→Yr (A++({x.1 with tr:=T},x.2)::X.drop (j+1))):
  Calls Tryz.prog 23 #[.pointer (some ⟨v,0,none⟩)] w (Qhl f w v c X V):=by
 have hvq:=Ag v
 have c4:=h.obj.cell 4
 have c6:=h.obj.cell 6
 simp [Qi] at c4 c6
 by_cases hsr:V.sure=true∧0≤V.root
 ·have HS:=Ql4 hsr
  obtain ⟨h1,h2⟩:=hsr
  rw [h1] at c6
  clear h hcan hpart
  go_enter Tryz.func23,Tryz.ntmps23
  go_wp2_with fail
  go_ret
  exact .inl ⟨HS.out,rfl,rfl⟩
 ·have hh:V.sure=false∨(V.sure=true∧V.root < 0):=by
   cases hs:V.sure
   ·exact .inl rfl
   ·exact .inr ⟨rfl,by rw [hs] at hsr;simp at hsr;exact hsr⟩
  have HCM:=Ql4 (Qkc w v c X V f h hg0 hg (hcan hsr))
  have HCAN:=Ql4 (hcan hsr)
  have HPART:=Ql4 hpart
  have HLS:=Ql4 hls
  have HWN:Hid (∀W,Calls Tryz.prog 57 #[.string ⟨#[99,111,109,109,105,116]⟩,.int .i64 0,.nilIface] W fun x w'=>x= .returned .nilIface∧W=w'):=fun W=>Y0 _ _ W
  have HWE:Hid (∀t x W,Calls Tryz.prog 57 #[.string ⟨#[99,111,109,109,105,116]⟩,.int .i64 0,.iface t x] W fun y w'=>y= .returned (.iface 183 (.pointer (some ⟨W.heap.size,0,none⟩)))∧W.alloc (.cells #[.string ⟨#[99,111,109,109,105,116]⟩,.int .i64 0,.iface t x] 187)=w'):=fun t x W=>Y1 _ _ t x W
  clear h hg0 hg hcan hpart hls hsr
  go_enter Tryz.func23,Tryz.ntmps23
  rcases hh with hh|⟨hh,hroot⟩
  all_goals
   rw [hh] at c6
   go_wp2_with fail
   refine HCM.out.mono ?_
   rintro e w1 (⟨Y,s,r,N,lv,L,rfl,k1,k2,k3,k4,k5,k6⟩|⟨et,ex,Y,s,N,rfl,k1,k2,k3⟩)
   ·obtain ⟨_,⟨ks,kl⟩,_⟩:=HCAN.out.root Y s k1
    have HK:=Ql4 (Ov w1 v {c with N:=N,lv:=lv} Y _ k5 ⟨ks,by show L.length≤_;rw [k4.length_eq];exact kl⟩)
    have HR:=Ql4 (show U6 f X V.s Y s∧Ja f s (Yk (V.gen+1) (Y.map Q6))=some r∧r.2.2=0∧L.Perm (J9 Y) from ⟨k1,k2,k3,k4⟩)
    have HM:=Ql4 k6
    clear k1 k2 k3 k4 k5 k6 ks kl
    go_wp2_with fail
    refine HK.out.mono ?_
    rintro e w2 ⟨rfl,hv2,hk2⟩
    have HV2:=Ql4 hv2
    have HK2:=Ql4 hk2
    clear hv2 hk2
    go_wp2_with fail
    with_reducible refine (HWN.out _).mono ?_
    rintro e w3 ⟨rfl,rfl⟩
    go_wp2_with fail
    go_ret
    obtain ⟨k1,k2,k3,k4⟩:=HR.out
    exact .inr (.inl ⟨Y,s,r,N,lv,L,rfl,k1,k2,k3,k4,HV2.out,HM.out.trans ⟨HK2.out.mono (fun k _ hk=>.inl hk),fun k hk=>.inl hk⟩⟩)
   ·have hsx:Yr Y:=by
     rcases k3 with ⟨j,x,A,s1,T,z1,z2,z3,rfl⟩|⟨s1,a,er,z1,_⟩
     ·exact HPART.out j x A s1 s T z1 z2 z3
     ·exact (HCAN.out.root Y s1 z1).2.1.1
    have HK:=Ql4 (Ov w1 v {c with N:=N} Y _ k1 ⟨hsx,HLS.out⟩)
    have HM:=Ql4 k2
    have HR:=Ql4 k3
    clear k1 k2 k3 hsx
    go_wp2_with fail
    refine HK.out.mono ?_
    rintro e w2 ⟨rfl,hv2,hk2⟩
    have HV2:=Ql4 hv2
    have HK2:=Ql4 hk2
    clear hv2 hk2
    go_wp2_with fail
    with_reducible refine (HWE.out _ _ _).mono ?_
    rintro e w3 ⟨rfl,rfl⟩
    go_wp2_with fail
    go_ret
    have hb3:Below w2.heap.size w2 (w2.alloc (.cells #[.string ⟨#[99,111,109,109,105,116]⟩,.int .i64 0,.iface et ex] 187)):=(Below.refl _ _).alloc (Nat.le_refl _) _
    refine .inr (.inr ⟨_,et,ex,Y,s,N,rfl,Whole.new _ _ _,HV2.out.below hb3,(HM.out.trans ⟨HK2.out.mono (fun k _ hk=>.inl hk),fun k hk=>.inl hk⟩).trans (Mv.below hb3),HR.out⟩)
end vo
end Go.Proofs.YtfialjmemcobjaaGreatDoor
