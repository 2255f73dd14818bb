/- A part of the proof. -/
import Derived.Test.YtfialjmemcobjaaGreatDoorPrRg
import Derived.Test.YtfialjmemcobjaaGreatDoorPrTxMb
import Derived.BigRegion
import Derived.ChangeAlike
import Derived.RegionTactic
set_option linter.unusedVariables false
set_option linter.unusedSimpArgs false
namespace Go.Proofs.YtfialjmemcobjaaGreatDoor
namespace tr
open Go.RowKit er
theorem Qjt:(Tryz.prog.info? 255).map (fun i=>(i.zero,i.size,i.bytes))=some (some (.agg #[.int .i64 0,.int .i64 0,.int .i64 0,.int .i64 0]),4,32):=by kernel_rfl
theorem Qze (l:List Ext) (a b:Int) (j:Nat) (e:Ext) (h:l[j]? =some e):parts (l.take (j+1)) a b=parts (l.take j) a b++(match partOf e a b with|some x=>[x]|none=>[]):=by
 have hj:j < l.length:=(List.getElem?_eq_some_iff.1 h).1
 rw [List.take_succ_eq_append_getElem hj,Kc]
 congr 1
 have he:l[j]=e:=by rw [List.getElem?_eq_getElem hj] at h;injection h
 rw [he]
 unfold parts
 rw [List.filterMap_cons]
 cases partOf e a b <;> rfl
set_option maxHeartbeats 4000000 in
set_option maxRecDepth 100000 in
theorem Y9 (l:List Ext) (v:Value) (a b:Int) (w:World) (h:ExtsAt w v l) (h1:∀e∈l,Qf e=true) (hl:l.length≤100000000) (ha:0≤a) (ha2:a≤16777216) (hb:0≤b) (hb2:b≤16777216):
  Calls Tryz.prog 269 #[v,.int .i64 a,.int .i64 b] w fun x w'=>∃v',x= .returned v'∧w'.ownsRow w.heap.size 255 4 v' (parts l a b).length (Qz (parts l a b))∧Below w.heap.size w w':=by
 obtain ⟨A,c,rfl,hc⟩:=h
 have HC:=Ql4 hc
 have H1:=Ql4 h1
 obtain ⟨n,hn⟩:∃n,l.length=n:=⟨_,rfl⟩
 rw [hn] at hl
 have HN:=Ql4 hn
 rw [hn]
 obtain ⟨i0,hi0,hz0,hz1,hz2⟩:=info_parts Qjt
 have HI0:=Ql4 hi0
 have HZ0:=Ql4 hz0
 have HZ1:=Ql4 hz1
 have HZ2:=Ql4 hz2
 have HPA:=Ql4 (fun (e:Ext) (wq:World) (he:Qf e=true)=>Qon e a b wq he ha ha2 hb hb2)
 clear hi0 hz0 hz1 hz2 hc h1 hn ha ha2 hb hb2
 go_enter Tryz.func269,Tryz.ntmps269
 go_wp2_with fail
 go_loopw [7,14] (fun nv i wr=>∃(j m:Nat) (B:Option Addr) (d:Nat),j≤n∧i= .int .i64 j∧nv= .slice B m d∧m≤j∧Hid ((parts (l.take j) a b).length=m)∧Hid (wr.ownsRow w.heap.size 255 4 (.slice B m d) m (Qz (parts (l.take j) a b)))∧Hid (Below w.heap.size w wr)) (fun _ i _=>n - (intOf i).toNat)
 case atStart=>exact ⟨0,0,none,0,Nat.zero_le _,rfl,rfl,Nat.le_refl _,rfl,⟨rfl,.inl ⟨rfl,rfl⟩⟩,Below.refl _ _⟩
 case round=>
  obtain ⟨j,m,B,d,hj,rfl,rfl,hmj,HM,HO,HB⟩:=hrel
  by_cases hlt:j < n
  ·have hji:(j:Int) < (n:Int):=by omega
   have hln:=HN.out
   obtain ⟨g,o,rfl,hcc⟩:=HC.out (by omega)
   obtain ⟨e,hx⟩:∃e,l[j]? =some e:=⟨l[j]'(by omega),List.getElem?_eq_getElem (by omega)⟩
   obtain ⟨c0,c1,c2,c3⟩:=(hcc j e hx).below HB.out
   have HPE:=Ql4 (fun wq=>HPA.out e wq (H1.out e (List.mem_of_getElem? hx)))
   have HTK:=Ql4 (Qze l a b j e hx)
   obtain ⟨f,en,k,t⟩:=e
   simp only [Ext.val] at HPE
   simp only at c0 c1 c2 c3
   clear hcc hx hln
   cases hp:partOf ⟨f,en,k,t⟩ a b with
   |none=>
    simp only [hp,List.append_nil] at HPE HTK
    have HA0:Hid (Below wr.heap.size wr (wr.alloc (.cells #[.int .i64 f,.int .i64 en,.int .i64 k,.int .i64 t] 255))):=(Below.refl _ _).alloc (Nat.le_refl _) _
    go_wp2_with fail
    refine (HPE.out _).mono ?_
    rintro x w2 ⟨rfl,hb2⟩
    have hb2':=HA0.out.trans (hb2.mono HA0.out.size)
    have HB2:=Ql4 (HB.out.trans (hb2'.mono HB.out.size))
    have HO2:=Ql4 (own_below HO.out hb2')
    clear hb2 hb2' hp
    go_wp2_with fail
    have hmeas:n - (intOf (.int .i64 ((j:Int)+1))).toNat < n - (intOf (.int .i64 (j:Int))).toNat:=by simp [intOf];omega
    refine ⟨⟨j+1,m,B,d,?_,?_,rfl,?_,?_,?_,?_⟩,hmeas⟩
    ·omega
    ·go_num
    ·omega
    ·rw [HTK.out];with_reducible exact HM
    ·rw [HTK.out];exact HO2.out.alloc _
    ·exact HB2.out.alloc HB2.out.size _
   |some y=>
    obtain ⟨yf,yn,yk,yt⟩:=y
    simp only [hp,Ext.val] at HPE HTK
    have HA0:Hid (Below wr.heap.size wr (wr.alloc (.cells #[.int .i64 f,.int .i64 en,.int .i64 k,.int .i64 t] 255))):=(Below.refl _ _).alloc (Nat.le_refl _) _
    go_wp2_with fail
    refine (HPE.out _).mono ?_
    rintro x w2 ⟨rfl,hb2⟩
    have hb2':=HA0.out.trans (hb2.mono HA0.out.size)
    have HB2:=Ql4 (HB.out.trans (hb2'.mono HB.out.size))
    have HO2:=Ql4 (own_below HO.out hb2')
    have HP2:=Ql4 (Whole.new w2 255 #[.int .i64 yf,.int .i64 yn,.int .i64 yk,.int .i64 yt])
    have HOA:=Ql4 ((HO2.out.alloc (.cells #[.int .i64 yf,.int .i64 yn,.int .i64 yk,.int .i64 yt] 255)).alloc (.cells #[.int .i64 yf,.int .i64 yn,.int .i64 yk,.int .i64 yt] 255))
    have HB3:=Ql4 (HB2.out.alloc HB2.out.size (.cells #[.int .i64 yf,.int .i64 yn,.int .i64 yk,.int .i64 yt] 255))
    have HNW:Hid (∀(j':Nat) (u:Value),([.int .i64 yf,.int .i64 yn,.int .i64 yk,.int .i64 yt]:List Value)[j']? =some u→((w2.alloc (.cells #[.int .i64 yf,.int .i64 yn,.int .i64 yk,.int .i64 yt] 255)).alloc (.cells #[.int .i64 yf,.int .i64 yn,.int .i64 yk,.int .i64 yt] 255)).cell? ((⟨w2.heap.size+1,0,none⟩:Addr).add j')=some u):=World.news_of_block (by simpa using heap_alloc_new (w2.alloc (.cells #[.int .i64 yf,.int .i64 yn,.int .i64 yk,.int .i64 yt] 255)) (.cells #[.int .i64 yf,.int .i64 yn,.int .i64 yk,.int .i64 yt] 255))
    have hone:∀u∈([.int .i64 yf,.int .i64 yn,.int .i64 yk,.int .i64 yt]:List Value),u.oneCell'=true:=by simp [Value.oneCell']
    have HONE:=Ql4 hone
    have HSZ:Hid (w.heap.size≤((w2.alloc (.cells #[.int .i64 yf,.int .i64 yn,.int .i64 yk,.int .i64 yt] 255)).alloc (.cells #[.int .i64 yf,.int .i64 yn,.int .i64 yk,.int .i64 yt] 255)).heap.size):=by show _≤_;have:=HB2.out.size;simp only [World.size_alloc];omega
    obtain ⟨⟨p0,p1,p2,p3⟩,_⟩:=Je HP2.out
    have hm8:m≤100000000:=by omega
    clear hb2 hb2' hp hone
    go_wp2_with (at_builtin;go_must (refine wpList_append_own _ rfl (.tmp 26) (.tmp 28) 261 rfl w.heap.size 255 i0 _ 4 32 Tryz.underlying261 HI0.out HZ0.out HZ1.out HZ2.out rfl (by omega) (.slice B m d) m (Qz (parts (l.take j) a b)) rfl HOA.out ⟨w2.heap.size+1,0,none⟩ 1 1 [.int .i64 yf,.int .i64 yn,.int .i64 yk,.int .i64 yt] rfl rfl HNW.out HONE.out (by simp only [maxLen];omega) (by omega) HSZ.out ?_;intro v2 w5 hown5 hg5 _;have HO5:=Ql4 hown5;have HB5:=Ql4 (HB3.out.trans (Q4 (HO2.out.alloc (.cells #[.int .i64 yf,.int .i64 yn,.int .i64 yk,.int .i64 yt] 255)) hg5 HB3.out.size));obtain ⟨A2,c2,e2⟩:=Qk hown5;subst e2;clear hown5 hg5))
    have hmeas:n - (intOf (.int .i64 ((j:Int)+1))).toNat < n - (intOf (.int .i64 (j:Int))).toNat:=by simp [intOf];omega
    have HCE:Hid (Qz (parts (l.take (j+1)) a b)=Qz (parts (l.take j) a b)++[.int .i64 yf,.int .i64 yn,.int .i64 yk,.int .i64 yt]):=by
     show _=_
     rw [HTK.out,Jm]
    refine ⟨⟨j+1,m+1,A2,c2,?_,?_,rfl,?_,?_,?_,?_⟩,hmeas⟩
    ·omega
    ·go_num
    ·omega
    ·rw [HTK.out,List.length_append,HM.out];rfl
    ·rw [HCE.out];with_reducible exact HO5
    ·with_reducible exact HB5
  ·obtain rfl:j=n:=by omega
   go_wp2_with fail
   go_ret
   have hfull:l.take j=l:=by rw [←HN.out];exact List.take_length
   rw [hfull] at HO HM
   exact ⟨_,rfl,by rw [HM.out];exact HO.out,HB.out⟩
theorem Qxw (l:List Ext) (j:Nat) (e:Ext) (h:l[j]? =some e):tidy (l.take (j+1))=push (tidy (l.take j)) e:=by
 have hj:j < l.length:=(List.getElem?_eq_some_iff.1 h).1
 have he:l[j]=e:=by rw [List.getElem?_eq_getElem hj] at h;injection h
 rw [List.take_succ_eq_append_getElem hj,he]
 unfold tidy
 rw [List.foldl_append]
 rfl
theorem Wj:∀(l out:List Ext),(∀x∈out,Qf x=true)→(∀x∈l,Qf x=true)→∀x∈l.foldl push out,Qf x=true
 |[],_,h,_=>h
 |e::l,out,h,h2=>Wj l _ (Qoc h (h2 e (by simp))) (fun x hx=>h2 x (by simp [hx]))
theorem Ry (o:List Ext) (a:Ext) (n:Int):(Qz (o++[a])).set (o.length * 4+1) (.int .i64 n)=Qz (o++[{a with n:=n}]):=by
 have h:=Xw o
 rw [Jm,Jm,List.set_append_right _ _ (by omega),show o.length * 4+1 - (Qz o).length=1 by omega]
 rfl
set_option maxHeartbeats 4000000 in
set_option maxRecDepth 100000 in
theorem Sn (l:List Ext) (v:Value) (w:World) (h:ExtsAt w v l) (h1:∀e∈l,Qf e=true) (hl:l.length≤100000000):
  Calls Tryz.prog 267 #[v] w fun x w'=>∃v',x= .returned v'∧w'.ownsRow w.heap.size 255 4 v' (tidy l).length (Qz (tidy l))∧Below w.heap.size w w':=by
 obtain ⟨A,c,rfl,hc⟩:=h
 have HC:=Ql4 hc
 have H1:=Ql4 h1
 obtain ⟨n,hn⟩:∃n,l.length=n:=⟨_,rfl⟩
 rw [hn] at hl
 have HN:=Ql4 hn
 rw [hn]
 obtain ⟨i0,hi0,hz0,hz1,hz2⟩:=info_parts Qjt
 have HI0:=Ql4 hi0
 have HZ0:=Ql4 hz0
 have HZ1:=Ql4 hz1
 have HZ2:=Ql4 hz2
 have HTG:=Ql4 (fun (a b:Ext) (wq:World) (ha:Qf a=true)=>Qk6 a b wq ha)
 have HON:=Ql4 (fun j=>Wj (l.take j) [] (by simp) (fun x hx=>h1 x (List.mem_of_mem_take hx)))
 clear hi0 hz0 hz1 hz2 hc h1 hn
 go_enter Tryz.func267,Tryz.ntmps267
 go_wp2_with fail
 go_loopw [3,9] (fun nv i wr=>∃(j m:Nat) (B:Option Addr) (d:Nat),j≤n∧i= .int .i64 j∧nv= .slice B m d∧m≤j∧Hid ((tidy (l.take j)).length=m)∧Hid (wr.ownsRow w.heap.size 255 4 (.slice B m d) m (Qz (tidy (l.take j))))∧Hid (Below w.heap.size w wr)) (fun _ i _=>n - (intOf i).toNat)
 case atStart=>exact ⟨0,0,none,0,Nat.zero_le _,rfl,rfl,Nat.le_refl _,rfl,⟨rfl,.inl ⟨rfl,rfl⟩⟩,Below.refl _ _⟩
 case round=>
  obtain ⟨j,m,B,d,hj,rfl,rfl,hmj,HM,HO,HB⟩:=hrel
  by_cases hlt:j < n
  ·have hji:(j:Int) < (n:Int):=by omega
   have hln:=HN.out
   obtain ⟨g,o,rfl,hcc⟩:=HC.out (by omega)
   obtain ⟨e,hx⟩:∃e,l[j]? =some e:=⟨l[j]'(by omega),List.getElem?_eq_getElem (by omega)⟩
   obtain ⟨c0,c1,c2,c3⟩:=(hcc j e hx).below HB.out
   have HE1:=Ql4 (H1.out e (List.mem_of_getElem? hx))
   have HTK:=Ql4 (Qxw l j e hx)
   have HTO:=Ql4 (HON.out j)
   obtain ⟨f,en,k,t⟩:=e
   simp only at c0 c1 c2 c3
   clear hcc hx hln
   have HA0:Hid (Below wr.heap.size wr (wr.alloc (.cells #[.int .i64 f,.int .i64 en,.int .i64 k,.int .i64 t] 255))):=(Below.refl _ _).alloc (Nat.le_refl _) _
   have HWE:=Ql4 (Whole.new wr 255 #[.int .i64 f,.int .i64 en,.int .i64 k,.int .i64 t])
   have hsz:(wr.alloc (.cells #[.int .i64 f,.int .i64 en,.int .i64 k,.int .i64 t] 255)).heap.size=wr.heap.size+1:=by simp
   have HSZ:=Ql4 hsz
   clear hsz
   rcases List.eq_nil_or_concat (tidy (l.take j)) with hT|⟨o',a,hT⟩
   ·obtain rfl:m=0:=by rw [←HM.out,hT];rfl
    have HPU:Hid (Qz (tidy (l.take (j+1)))=Qz (tidy (l.take j))++[.int .i64 f,.int .i64 en,.int .i64 k,.int .i64 t]∧(tidy (l.take (j+1))).length=(tidy (l.take j)).length+1):=by
     show _∧_
     rw [HTK.out,hT]
     exact ⟨rfl,rfl⟩
    clear hT
    have hgd:decide ((0:Int)≤-1)=false:=by decide
    obtain ⟨y0,y1,y2,y3⟩:_∧_∧_∧_:=(Je HWE.out).1
    go_wp2_with fail
    go_quiet (fail)
    generalize hwq:World.drewN _ _=wq
    have HBA:Hid (Below wr.heap.size wr wq):=by show Below _ _ _;rw [←hwq];exact below_drewN HA0.out _
    have HBW:Hid (Below w.heap.size w wq):=HB.out.trans (HBA.out.mono HB.out.size)
    have HO5:Hid (wq.ownsRow w.heap.size 255 4 (.slice B 0 d) 0 (Qz (tidy (l.take j)))):=own_below HO.out HBA.out
    have hWq:Whole wq wr.heap.size 255 #[.int .i64 f,.int .i64 en,.int .i64 k,.int .i64 t]:=by rw [←hwq];exact HWE.out
    clear hwq y0 y1 y2 y3
    obtain ⟨y0,y1,y2,y3⟩:_∧_∧_∧_:=(Je hWq).1
    clear hWq
    have HOA:=Ql4 (HO5.out.alloc (.cells #[.int .i64 f,.int .i64 en,.int .i64 k,.int .i64 t] 255))
    have HNW:Hid (∀(j':Nat) (u:Value),([.int .i64 f,.int .i64 en,.int .i64 k,.int .i64 t]:List Value)[j']? =some u→((wq).alloc (.cells #[.int .i64 f,.int .i64 en,.int .i64 k,.int .i64 t] 255)).cell? ((⟨(wq).heap.size,0,none⟩:Addr).add j')=some u):=World.news_of_block (by simpa using heap_alloc_new (wq) (.cells #[.int .i64 f,.int .i64 en,.int .i64 k,.int .i64 t] 255))
    have hone:∀u∈([.int .i64 f,.int .i64 en,.int .i64 k,.int .i64 t]:List Value),u.oneCell'=true:=by simp [Value.oneCell']
    have HONE:=Ql4 hone
    have HSZ2:Hid (w.heap.size≤((wq).alloc (.cells #[.int .i64 f,.int .i64 en,.int .i64 k,.int .i64 t] 255)).heap.size):=by show _≤_;have:=HBW.out.size;simp only [World.size_alloc];omega
    clear hone
    go_wp2_with (at_builtin;go_must (refine wpList_append_own _ rfl (.tmp 36) (.tmp 38) 261 rfl w.heap.size 255 i0 _ 4 32 Tryz.underlying261 HI0.out HZ0.out HZ1.out HZ2.out rfl (by omega) (.slice B 0 d) 0 (Qz (tidy (l.take j))) rfl HOA.out ⟨(wq).heap.size,0,none⟩ 1 1 [.int .i64 f,.int .i64 en,.int .i64 k,.int .i64 t] rfl rfl HNW.out HONE.out (by simp only [maxLen];omega) (by omega) HSZ2.out ?_;intro v2 w6 hown6 hg6 _;have HO6:=Ql4 hown6;have HB6:=Ql4 (Q4 HO5.out hg6 HBW.out.size);obtain ⟨A2,c2,e2⟩:=Qk hown6;subst e2;clear hown6 hg6))
    have hmeas:n - (intOf (.int .i64 ((j:Int)+1))).toNat < n - (intOf (.int .i64 (j:Int))).toNat:=by simp [intOf];omega
    refine ⟨⟨j+1,0+1,A2,c2,?_,?_,rfl,?_,?_,?_,?_⟩,hmeas⟩
    ·omega
    ·go_num
    ·omega
    ·show _=_;rw [HPU.out.2,HM.out]
    ·rw [HPU.out.1];with_reducible exact HO6
    ·exact HBW.out.trans HB6.out
   ·rw [List.concat_eq_append] at hT
    obtain ⟨m',hm'⟩:∃m',o'.length=m':=⟨_,rfl⟩
    obtain rfl:m=m'+1:=by rw [←HM.out,hT,←hm'];simp
    have HT:=Ql4 hT
    have HM':=Ql4 hm'
    have hOw:=HO.out
    obtain ⟨g2,rfl,hg2b,hg2,hmc,hgc,hgf⟩:=Qo hOw (by omega)
    have hat:(o'++[a])[m']? =some a:=by rw [←hm'];simp
    obtain ⟨x0,x1,x2,x3⟩:=Kb _ _ _ hat
    rw [←hT] at x0 x1 x2 x3
    have y0:=hgc _ _ x0
    have y1:=hgc _ _ x1
    have y2:=hgc _ _ x2
    have y3:=hgc _ _ x3
    have hA1:Qf a=true:=HTO.out a (by show a∈tidy (l.take j);rw [hT];simp)
    have HA1:=Ql4 hA1
    have HTA:=Ql4 (fun wq=>HTG.out a ⟨f,en,k,t⟩ wq hA1)
    obtain ⟨f',n',k',t'⟩:=a
    simp only [Ext.val] at HTA
    simp only at y0 y1 y2 y3
    have hne:g2≠wr.heap.size:=by omega
    have HKA:Hid (∀w',Below (wr.heap.size+1) (wr.alloc (.cells #[.int .i64 f,.int .i64 en,.int .i64 k,.int .i64 t] 255)) w'→(w'.cell? ⟨g2,m' * 4,none⟩=some (.int .i64 f')∧w'.cell? ⟨g2,m' * 4+1,none⟩=some (.int .i64 n')∧w'.cell? ⟨g2,m' * 4+2,none⟩=some (.int .i64 k')∧w'.cell? ⟨g2,m' * 4+3,none⟩=some (.int .i64 t'))∧(w'.cell? ⟨wr.heap.size,0,none⟩=some (.int .i64 f)∧w'.cell? ⟨wr.heap.size,1,none⟩=some (.int .i64 en)∧w'.cell? ⟨wr.heap.size,2,none⟩=some (.int .i64 k)∧w'.cell? ⟨wr.heap.size,3,none⟩=some (.int .i64 t))):=fun w' hb=>⟨⟨(hb.cell (by show g2 < _;omega)).trans (Qq HA0.out y0),(hb.cell (by show g2 < _;omega)).trans (Qq HA0.out y1),(hb.cell (by show g2 < _;omega)).trans (Qq HA0.out y2),(hb.cell (by show g2 < _;omega)).trans (Qq HA0.out y3)⟩,⟨(hb.cell (by show wr.heap.size < _;omega)).trans (HWE.out.cell 0),(hb.cell (by show wr.heap.size < _;omega)).trans (HWE.out.cell 1),(hb.cell (by show wr.heap.size < _;omega)).trans (HWE.out.cell 2),(hb.cell (by show wr.heap.size < _;omega)).trans (HWE.out.cell 3)⟩⟩
    have SA:=Ql4 (HKA.out _ (Below.refl _ _))
    have hmi1:(0:Int)≤(m':Int):=by omega
    have hmi2:(m':Int) < (m':Int)+1:=by omega
    clear hT hm' hOw hgc hat x0 x1 x2 x3 hA1
    go_wp2_with fail
    go_region_held3 (fun w'=>(w'.cell? ⟨g2,m' * 4,none⟩=some (.int .i64 f')∧w'.cell? ⟨g2,m' * 4+1,none⟩=some (.int .i64 n')∧w'.cell? ⟨g2,m' * 4+2,none⟩=some (.int .i64 k')∧w'.cell? ⟨g2,m' * 4+3,none⟩=some (.int .i64 t'))∧(w'.cell? ⟨wr.heap.size,0,none⟩=some (.int .i64 f)∧w'.cell? ⟨wr.heap.size,1,none⟩=some (.int .i64 en)∧w'.cell? ⟨wr.heap.size,2,none⟩=some (.int .i64 k)∧w'.cell? ⟨wr.heap.size,3,none⟩=some (.int .i64 t))) (first|with_reducible exact SA.out|exact HKA.out _ (by repeat (first|with_reducible exact HB5.out|with_reducible exact Below.refl _ _|refine Below.drew ?_))) ((go_at_call 249;refine (HTA.out _).mono ?_;rintro e w5 ⟨rfl,hb5⟩;have HB5:Hid (Below (wr.heap.size+1) (wr.alloc (.cells #[.int .i64 f,.int .i64 en,.int .i64 k,.int .i64 t] 255)) w5):=Below.trans (Below.drew (Below.refl _ _)) (hb5.mono (by simp));clear hb5))
    have HBW:Hid (Below w.heap.size w w5):=HB.out.trans (HA0.out.trans (HB5.out.mono (by omega)) |>.mono HB.out.size)
    have HO5:Hid (w5.ownsRow w.heap.size 255 4 (.slice (some ⟨g2,0,none⟩) (m'+1) d) (m'+1) (Qz (tidy (l.take j)))):=own_below HO.out (HA0.out.trans (HB5.out.mono (by omega)))
    obtain ⟨⟨p0,p1,p2,p3⟩,⟨q0,q1,q2,q3⟩⟩:=HKA.out _ HB5.out
    have hpf:w5.frozen? ⟨g2,m' * 4+1,none⟩=false:=HO5.out.frozenAt _
    clear y0 y1 y2 y3
    cases htg:tog ⟨f',n',k',t'⟩ ⟨f,en,k,t⟩
    ·have hpd:HTG=HTG:=rfl
     clear hpd
     have HPU:Hid (Qz (tidy (l.take (j+1)))=Qz (tidy (l.take j))++[.int .i64 f,.int .i64 en,.int .i64 k,.int .i64 t]∧(tidy (l.take (j+1))).length=(tidy (l.take j)).length+1):=by
      show _∧_
      rw [HTK.out,HT.out,Y8,htg,if_neg (by simp),Jm]
      exact ⟨rfl,by simp⟩
     clear htg
     have HOA:=Ql4 (HO5.out.alloc (.cells #[.int .i64 f,.int .i64 en,.int .i64 k,.int .i64 t] 255))
     have HB3:=Ql4 (HBW.out.alloc HBW.out.size (.cells #[.int .i64 f,.int .i64 en,.int .i64 k,.int .i64 t] 255))
     have HNW:Hid (∀(j':Nat) (u:Value),([.int .i64 f,.int .i64 en,.int .i64 k,.int .i64 t]:List Value)[j']? =some u→((w5).alloc (.cells #[.int .i64 f,.int .i64 en,.int .i64 k,.int .i64 t] 255)).cell? ((⟨(w5).heap.size,0,none⟩:Addr).add j')=some u):=World.news_of_block (by simpa using heap_alloc_new (w5) (.cells #[.int .i64 f,.int .i64 en,.int .i64 k,.int .i64 t] 255))
     have hone:∀u∈([.int .i64 f,.int .i64 en,.int .i64 k,.int .i64 t]:List Value),u.oneCell'=true:=by simp [Value.oneCell']
     have HONE:=Ql4 hone
     have HSZ2:Hid (w.heap.size≤((w5).alloc (.cells #[.int .i64 f,.int .i64 en,.int .i64 k,.int .i64 t] 255)).heap.size):=by show _≤_;have:=HBW.out.size;simp only [World.size_alloc];omega
     clear hone
     go_wp2_with (at_builtin;go_must (refine wpList_append_own _ rfl (.tmp 36) (.tmp 38) 261 rfl w.heap.size 255 i0 _ 4 32 Tryz.underlying261 HI0.out HZ0.out HZ1.out HZ2.out rfl (by omega) (.slice (some ⟨g2,0,none⟩) (m'+1) d) (m'+1) (Qz (tidy (l.take j))) rfl HOA.out ⟨(w5).heap.size,0,none⟩ 1 1 [.int .i64 f,.int .i64 en,.int .i64 k,.int .i64 t] rfl rfl HNW.out HONE.out (by simp only [maxLen];omega) (by omega) HSZ2.out ?_;intro v2 w6 hown6 hg6 _;have HO6:=Ql4 hown6;have HB6:=Ql4 (Q4 HO5.out hg6 HBW.out.size);obtain ⟨A2,c2,e2⟩:=Qk hown6;subst e2;clear hown6 hg6))
     have hmeas:n - (intOf (.int .i64 ((j:Int)+1))).toNat < n - (intOf (.int .i64 (j:Int))).toNat:=by simp [intOf];omega
     refine ⟨⟨j+1,m'+1+1,A2,c2,?_,?_,rfl,?_,?_,?_,?_⟩,hmeas⟩
     ·omega
     ·go_num
     ·omega
     ·show _=_;rw [HPU.out.2,HM.out]
     ·rw [HPU.out.1];with_reducible exact HO6
     ·exact HBW.out.trans HB6.out
    ·have hone:=Qy (Vx HA1.out HE1.out htg)
     have hw:wrap64 (n'+en)=n'+en:=by have:=hone.1;have:=hone.2.1;have:=hone.2.2.1;have:=(Qy HA1.out).1;simp only at *;unfold wrap64;omega
     clear hone
     have HPU:Hid (Qz (tidy (l.take (j+1)))=(Qz (tidy (l.take j))).set (m' * 4+1) (.int .i64 (n'+en))∧(tidy (l.take (j+1))).length=(tidy (l.take j)).length):=by
      show _∧_
      rw [HTK.out,HT.out,Y8,htg,if_pos rfl,←HM'.out,Ry]
      exact ⟨rfl,by simp⟩
     clear htg
     go_wp2_with fail
     go_region
     go_wp2_with fail
     have hmeas:n - (intOf (.int .i64 ((j:Int)+1))).toNat < n - (intOf (.int .i64 (j:Int))).toNat:=by simp [intOf];omega
     refine ⟨⟨j+1,m'+1,_,d,?_,?_,rfl,?_,?_,?_,?_⟩,hmeas⟩
     ·omega
     ·go_num
     ·omega
     ·show _=_;rw [HPU.out.2,HM.out]
     ·rw [HPU.out.1];exact (HO5.out.stored (m' * 4+1) (.int .i64 (n'+en))).1.drew
     ·exact (HBW.out.setCell (p:=⟨g2,m' * 4+1,none⟩) hg2b _).drew
  ·obtain rfl:j=n:=by omega
   go_wp2_with fail
   go_ret
   have hfull:l.take j=l:=by rw [←HN.out];exact List.take_length
   rw [hfull] at HO HM
   exact ⟨_,rfl,by rw [HM.out];exact HO.out,HB.out⟩
theorem Qj4:∀(p r:List Ext),Ko (p++r)=true→Ko p=true
 |[],r,_=>rfl
 |[a],[],h=>h
 |[a],b::r,h=>by
  simp only [List.cons_append,List.nil_append,Ko,Bool.and_eq_true] at h
  exact h.1.1.1
 |a::b::p,r,h=>by
  simp only [List.cons_append,Ko,Bool.and_eq_true] at h ⊢
  exact ⟨h.1,Qj4 (b::p) r h.2⟩
theorem Wt (a e:Ext):∀(p:List Ext),Ko (p++[a]++[e])=(Ko (p++[a]) && decide (a.end_≤e.fr) && !tog a e && Qf e)
 |[]=>by
  show (Qf a && decide (a.end_≤e.fr) && !tog a e && Qf e)=_
  rfl
 |[x]=>by
  show (Qf x && decide (x.end_≤a.fr) && !tog x a && (Qf a && decide (a.end_≤e.fr) && !tog a e && Qf e))=(Qf x && decide (x.end_≤a.fr) && !tog x a && Qf a && decide (a.end_≤e.fr) && !tog a e && Qf e)
  simp only [Bool.and_assoc]
 |x::y::p=>by
  have ih:=Wt a e (y::p)
  show (Qf x && decide (x.end_≤y.fr) && !tog x y && Ko (y::p++[a]++[e]))=(Qf x && decide (x.end_≤y.fr) && !tog x y && Ko (y::p++[a]) && decide (a.end_≤e.fr) && !tog a e && Qf e)
  rw [ih]
  simp only [Bool.and_assoc]
theorem Qkh {l:List Ext} {j:Nat} (h:Ko (l.take j)=false):Ko l=false:=by
 cases hc:Ko l
 ·rfl
 ·have:=Qj4 (l.take j) (l.drop j) (by rw [List.take_append_drop];exact hc)
  rw [h] at this
  exact this.symm
theorem Qgt (l:List Ext) (e:Ext) (h:l[0]? =some e):l.take 1=[e]:=by
 cases l with
 |nil=>simp at h
 |cons a r=>simp at h;rw [h];rfl
theorem Qgs (l:List Ext) (j:Nat) (a e:Ext) (h1:l[j]? =some a) (h2:l[j+1]? =some e):l.take (j+1)=l.take j++[a]∧l.take (j+1+1)=l.take j++[a]++[e]:=by
 obtain ⟨i1,e1⟩:=List.getElem?_eq_some_iff.1 h1
 obtain ⟨i2,e2⟩:=List.getElem?_eq_some_iff.1 h2
 have k1:l.take (j+1)=l.take j++[a]:=by rw [List.take_succ_eq_append_getElem i1,e1]
 refine ⟨k1,?_⟩
 rw [List.take_succ_eq_append_getElem i2,e2,k1]
theorem Bo {l:List Ext} {j:Nat} {a:Ext} (h:Ko (l.take (j+1))=true) (ha:l[j]? =some a):Qf a=true:=by
 have hc:=Xj _ h
 refine hc.one a ?_
 obtain ⟨i1,e1⟩:=List.getElem?_eq_some_iff.1 ha
 rw [List.take_succ_eq_append_getElem i1,e1]
 simp
set_option maxHeartbeats 4000000 in
set_option maxRecDepth 100000 in
theorem Xd (l:List Ext) (v:Value) (w:World) (h:ExtsAt w v l) (hl:l.length≤100000000):
  Calls Tryz.prog 197 #[v] w fun x w'=>x= .returned (.bool (Ko l))∧Below w.heap.size w w':=by
 obtain ⟨A,c,rfl,hc⟩:=h
 have HC:=Ql4 hc
 obtain ⟨n,hn⟩:∃n,l.length=n:=⟨_,rfl⟩
 rw [hn] at hl
 have HN:=Ql4 hn
 rw [hn]
 have HTG:=Ql4 (fun (a b:Ext) (wq:World) (ha:Qf a=true)=>Qk6 a b wq ha)
 have HON:=Ql4 (fun (a:Ext) (wq:World)=>Pn a wq)
 have HEN:=Ql4 (fun (a:Ext) (wq:World) (ha:Qf a=true)=>Cx a wq ha)
 clear hc hn
 go_enter Tryz.func197,Tryz.ntmps197
 go_wp2_with fail
 go_loopw [7] (fun i wr=>∃(j:Nat),j≤n∧i= .int .i64 j∧Hid (Ko (l.take j)=true)∧Hid (Below w.heap.size w wr)) (fun i _=>n - (intOf i).toNat)
 case atStart=>exact ⟨0,Nat.zero_le _,rfl,rfl,Below.refl _ _⟩
 case round=>
  obtain ⟨j,hj,rfl,HM,HB⟩:=hrel
  by_cases hlt:j < n
  ·have hji:(j:Int) < (n:Int):=by omega
   have hln:=HN.out
   obtain ⟨g,o,rfl,hcc⟩:=HC.out (by omega)
   have HCC:=Ql4 hcc
   obtain ⟨e,hx⟩:∃e,l[j]? =some e:=⟨l[j]'(by omega),List.getElem?_eq_getElem (by omega)⟩
   obtain ⟨c0,c1,c2,c3⟩:=(hcc j e hx).below HB.out
   have HX:=Ql4 hx
   obtain ⟨f,en,k,t⟩:=e
   simp only at c0 c1 c2 c3
   clear hcc hx
   have HA0:Hid (Below wr.heap.size wr (wr.alloc (.cells #[.int .i64 f,.int .i64 en,.int .i64 k,.int .i64 t] 255))):=(Below.refl _ _).alloc (Nat.le_refl _) _
   have HWE:=Ql4 (Whole.new wr 255 #[.int .i64 f,.int .i64 en,.int .i64 k,.int .i64 t])
   have HKE:Hid (∀w',Below (wr.heap.size+1) (wr.alloc (.cells #[.int .i64 f,.int .i64 en,.int .i64 k,.int .i64 t] 255)) w'→(w'.cell? ⟨wr.heap.size,0,none⟩=some (.int .i64 f)∧w'.cell? ⟨wr.heap.size,1,none⟩=some (.int .i64 en)∧w'.cell? ⟨wr.heap.size,2,none⟩=some (.int .i64 k)∧w'.cell? ⟨wr.heap.size,3,none⟩=some (.int .i64 t))):=fun w' hb=>⟨(hb.cell (by show wr.heap.size < _;omega)).trans (HWE.out.cell 0),(hb.cell (by show wr.heap.size < _;omega)).trans (HWE.out.cell 1),(hb.cell (by show wr.heap.size < _;omega)).trans (HWE.out.cell 2),(hb.cell (by show wr.heap.size < _;omega)).trans (HWE.out.cell 3)⟩
   have HO1:=Ql4 (fun wq=>HON.out ⟨f,en,k,t⟩ wq)
   simp only [Ext.val] at HO1
   have HBW0:Hid (∀w',Below (wr.heap.size+1) (wr.alloc (.cells #[.int .i64 f,.int .i64 en,.int .i64 k,.int .i64 t] 255)) w'→Below w.heap.size w w'):=fun w' hb=>HB.out.trans ((HA0.out.trans (hb.mono (by omega))).mono HB.out.size)
   have hmeas:n - (intOf (.int .i64 ((j:Int)+1))).toNat < n - (intOf (.int .i64 (j:Int))).toNat:=by simp [intOf];omega
   have HMS:=Ql4 hmeas
   clear hmeas hln
   cases ht:Qf ⟨f,en,k,t⟩
   ·have HT:=Ql4 ht
    have HF:Hid (Ko l=false):=by
     show _=_
     refine Qkh (j:=j+1) ?_
     cases hc:Ko (l.take (j+1))
     ·rfl
     ·rw [Bo hc HX.out] at ht;exact ht
    clear ht
    go_wp2_with fail
    refine rg.rgB (fun w'=>(w'.cell? ⟨wr.heap.size,0,none⟩=some (.int .i64 f)∧w'.cell? ⟨wr.heap.size,1,none⟩=some (.int .i64 en)∧w'.cell? ⟨wr.heap.size,2,none⟩=some (.int .i64 k)∧w'.cell? ⟨wr.heap.size,3,none⟩=some (.int .i64 t))) (HKE.out _ (Below.drew (Below.refl _ _))) (fun hHeld=>?_)
    iterate 1 (refine rg.rgT ?_ ?_ ?_;rotate_left;(focus (intro wz hSw;(try dsimp only at hSw);go_simp;(try with_reducible rfl)));(try simp only [Go.Act.put,rg.qa,rg.qb,rg.qc]))
    refine rg.rgC (fun K hK=>?_)
    rw [if_pos (by rfl)]
    go_simp
    go_at_call 223;refine (HO1.out _).mono ?_;rw [HT.out];rintro e w5 ⟨rfl,hb5⟩;have HB5:Hid (Below (wr.heap.size+1) (wr.alloc (.cells #[.int .i64 f,.int .i64 en,.int .i64 k,.int .i64 t] 255)) w5):=Below.trans (Below.drew (Below.refl _ _)) (hb5.mono (by simp));clear hb5
    refine hK.out _ _ (HKE.out _ HB5.out) (fun hHeld=>?_)
    clear hK K
    try simp only [Go.Act.put,rg.qa,rg.qb,rg.qc]
    iterate 2 (refine rg.rgT ?_ ?_ ?_;rotate_left;(focus (intro wz hSw;(try dsimp only at hSw);go_simp;(try with_reducible rfl)));(try simp only [Go.Act.put,rg.qa,rg.qb,rg.qc]))
    iterate 22 (refine rg.rgS ?_;(try simp only [Go.Act.put,rg.qa,rg.qb,rg.qc]))
    iterate 1 (refine rg.rgT ?_ ?_ ?_;rotate_left;(focus (intro wz hSw;(try dsimp only at hSw);go_simp;(try with_reducible rfl)));(try simp only [Go.Act.put,rg.qa,rg.qb,rg.qc]))
    refine rg.rgD ?_
    go_wp2_with fail
    go_ret
    exact ⟨by rw [HF.out];rfl,HBW0.out _ HB5.out⟩
   ·have HT:=Ql4 ht
    clear ht
    rcases Nat.eq_zero_or_pos j with hj0|hj0
    ·subst hj0
     simp only [Nat.zero_mul,Nat.add_zero] at c0 c1 c2 c3
     have HT1:Hid (Ko (l.take (0+1))=true):=by show _=_;rw [show 0+1=1 from rfl,Qgt l _ HX.out];exact HT.out
     go_wp2_with fail
     refine rg.rgB (fun w'=>(w'.cell? ⟨wr.heap.size,0,none⟩=some (.int .i64 f)∧w'.cell? ⟨wr.heap.size,1,none⟩=some (.int .i64 en)∧w'.cell? ⟨wr.heap.size,2,none⟩=some (.int .i64 k)∧w'.cell? ⟨wr.heap.size,3,none⟩=some (.int .i64 t))) (HKE.out _ (Below.drew (Below.refl _ _))) (fun hHeld=>?_)
     iterate 1 (refine rg.rgT ?_ ?_ ?_;rotate_left;(focus (intro wz hSw;(try dsimp only at hSw);go_simp;(try with_reducible rfl)));(try simp only [Go.Act.put,rg.qa,rg.qb,rg.qc]))
     refine rg.rgC (fun K hK=>?_)
     rw [if_pos (by rfl)]
     go_simp
     go_at_call 223;refine (HO1.out _).mono ?_;rw [HT.out];rintro e w5 ⟨rfl,hb5⟩;have HB5:Hid (Below (wr.heap.size+1) (wr.alloc (.cells #[.int .i64 f,.int .i64 en,.int .i64 k,.int .i64 t] 255)) w5):=Below.trans (Below.drew (Below.refl _ _)) (hb5.mono (by simp));clear hb5
     refine hK.out _ _ (HKE.out _ HB5.out) (fun hHeld=>?_)
     clear hK K
     try simp only [Go.Act.put,rg.qa,rg.qb,rg.qc]
     iterate 5 (refine rg.rgT ?_ ?_ ?_;rotate_left;(focus (intro wz hSw;(try dsimp only at hSw);go_simp;(try with_reducible rfl)));(try simp only [Go.Act.put,rg.qa,rg.qb,rg.qc]))
     iterate 18 (refine rg.rgS ?_;(try simp only [Go.Act.put,rg.qa,rg.qb,rg.qc]))
     iterate 2 (refine rg.rgT ?_ ?_ ?_;rotate_left;(focus (intro wz hSw;(try dsimp only at hSw);go_simp;(try with_reducible rfl)));(try simp only [Go.Act.put,rg.qa,rg.qb,rg.qc]))
     refine rg.rgD ?_
     go_wp2_with fail
     refine ⟨⟨0+1,?_,?_,?_,?_⟩,HMS.out⟩
     ·omega
     ·first|rfl|go_num
     ·with_reducible exact HT1
     ·exact HBW0.out _ HB5.out
    ·obtain ⟨j',rfl⟩:∃j',j=j'+1:=⟨j - 1,by omega⟩
     have hln:=HN.out
     obtain ⟨a,ha⟩:∃a,l[j']? =some a:=⟨l[j']'(by omega),List.getElem?_eq_getElem (by omega)⟩
     obtain ⟨y0,y1,y2,y3⟩:=(HCC.out j' a ha).below HB.out
     have HA1:=Ql4 (Bo HM.out ha)
     have HTK:=Ql4 (Qgs l j' a _ ha HX.out)
     have HE1:=Ql4 (fun wq=>HEN.out a wq HA1.out)
     have HT2:=Ql4 (fun wq=>HTG.out a ⟨f,en,k,t⟩ wq HA1.out)
     have HSN:Hid (Ko (l.take (j'+1+1))=(decide (a.end_≤f) && !tog a ⟨f,en,k,t⟩)):=by
      show _=_
      have h1:=HM.out
      rw [HTK.out.1] at h1
      rw [HTK.out.2,Wt,h1,HT.out]
      simp
     have hgo:g < wr.heap.size:=World.block_lt_of_cell? _ _ y0
     obtain ⟨f',n',k',t'⟩:=a
     simp only [Ext.val] at HE1 HT2
     simp only at y0 y1 y2 y3
     have HKA:Hid (∀w',Below (wr.heap.size+1) (wr.alloc (.cells #[.int .i64 f,.int .i64 en,.int .i64 k,.int .i64 t] 255)) w'→(w'.cell? ⟨g,o+j' * 4,none⟩=some (.int .i64 f')∧w'.cell? ⟨g,o+j' * 4+1,none⟩=some (.int .i64 n')∧w'.cell? ⟨g,o+j' * 4+2,none⟩=some (.int .i64 k')∧w'.cell? ⟨g,o+j' * 4+3,none⟩=some (.int .i64 t'))∧(w'.cell? ⟨wr.heap.size,0,none⟩=some (.int .i64 f)∧w'.cell? ⟨wr.heap.size,1,none⟩=some (.int .i64 en)∧w'.cell? ⟨wr.heap.size,2,none⟩=some (.int .i64 k)∧w'.cell? ⟨wr.heap.size,3,none⟩=some (.int .i64 t))):=fun w' hb=>⟨⟨(hb.cell (by show g < _;omega)).trans (Qq HA0.out y0),(hb.cell (by show g < _;omega)).trans (Qq HA0.out y1),(hb.cell (by show g < _;omega)).trans (Qq HA0.out y2),(hb.cell (by show g < _;omega)).trans (Qq HA0.out y3)⟩,HKE.out w' hb⟩
     have hwr:IntKind.i64.wrap ((j':Int)+1 - 1)=(j':Int):=by rw [IntKind.wrap_i64];omega
     have hwr2:IntKind.i64.wrap (j':Int)=(j':Int):=by rw [IntKind.wrap_i64];omega
     have hi1:(0:Int)≤(j':Int):=by omega
     have hi2:(j':Int) < (n:Int):=by omega
     obtain ⟨en1,hen1⟩:∃z,Ext.end_ ⟨f',n',k',t'⟩=z:=⟨_,rfl⟩
     simp only [hen1] at HE1 HSN
     clear ha hen1 hln
     by_cases hgt:f < en1
     ·have hd:decide (f < en1)=true:=by simpa using hgt
      have HF:Hid (Ko l=false):=by show _=_;refine Qkh (j:=j'+1+1) ?_;rw [HSN.out];have:decide (en1≤f)=false:=by {simp;omega};rw [this];rfl
      go_wp2_with fail
      refine wp_region_held_drew (S:=fun w'=>(w'.cell? ⟨g,o+j' * 4,none⟩=some (.int .i64 f')∧w'.cell? ⟨g,o+j' * 4+1,none⟩=some (.int .i64 n')∧w'.cell? ⟨g,o+j' * 4+2,none⟩=some (.int .i64 k')∧w'.cell? ⟨g,o+j' * 4+3,none⟩=some (.int .i64 t'))∧(w'.cell? ⟨wr.heap.size,0,none⟩=some (.int .i64 f)∧w'.cell? ⟨wr.heap.size,1,none⟩=some (.int .i64 en)∧w'.cell? ⟨wr.heap.size,2,none⟩=some (.int .i64 k)∧w'.cell? ⟨wr.heap.size,3,none⟩=some (.int .i64 t))) (by kernel_rfl) (HKA.out _ (Below.drew (Below.refl _ _))) (fun hHeld=>?_)
      refine wpAnyH_take (i:=0) (oi:={dst:=some 12,op:=_,type:=_,pos:=_,after:=_,guard:=_}) (v:=?_) rfl (by kernel_rfl) (by kernel_rfl) (by kernel_rfl) (fun _ _ _ h=>h) (Or.inl ⟨by rfl,?_⟩) (by assumption) ?_
      rotate_left
      ·intro wz hSw;(try dsimp only at hSw);go_simp;(try with_reducible rfl)
      try simp only [Go.Act.put,rg.qa,rg.qb,rg.qc]
      refine wpAnyH_ready (rs:=[1]) (by kernel_rfl) (by simp) (AllReadyH.cons (o:={dst:=some 13,op:=_,type:=_,pos:=_,after:=_,guard:=_}) rfl (fun K hK=>?_) AllReadyH.nil)
      rw [if_pos (by rfl)]
      go_simp
      go_at_call 223;refine (HO1.out _).mono ?_;rw [HT.out];rintro e w5 ⟨rfl,hb5⟩;have HB5:Hid (Below (wr.heap.size+1) (wr.alloc (.cells #[.int .i64 f,.int .i64 en,.int .i64 k,.int .i64 t] 255)) w5):=Below.trans (Below.drew (Below.refl _ _)) (hb5.mono (by simp));clear hb5
      refine hK.out _ _ (HKA.out _ HB5.out) (fun hHeld=>?_)
      clear hK K
      try simp only [Go.Act.put,rg.qa,rg.qb,rg.qc]
      refine wpAnyH_take (i:=2) (oi:={dst:=some 14,op:=_,type:=_,pos:=_,after:=_,guard:=_}) (v:=?_) rfl (by kernel_rfl) (by kernel_rfl) (by kernel_rfl) (fun _ _ _ h=>h) (Or.inl ⟨by rfl,?_⟩) (by assumption) ?_
      rotate_left
      ·intro wz hSw;(try dsimp only at hSw);go_simp;(try with_reducible rfl)
      try simp only [Go.Act.put,rg.qa,rg.qb,rg.qc]
      refine wpAnyH_take (i:=3) (oi:={dst:=some 15,op:=_,type:=_,pos:=_,after:=_,guard:=_}) (v:=?_) rfl (by kernel_rfl) (by kernel_rfl) (by kernel_rfl) (fun _ _ _ h=>h) (Or.inl ⟨by rfl,?_⟩) (by assumption) ?_
      rotate_left
      ·intro wz hSw;(try dsimp only at hSw);go_simp;(try with_reducible rfl)
      try simp only [Go.Act.put,rg.qa,rg.qb,rg.qc]
      refine wpAnyH_take (i:=4) (oi:={dst:=some 16,op:=_,type:=_,pos:=_,after:=_,guard:=_}) (v:=?_) rfl (by kernel_rfl) (by kernel_rfl) (by kernel_rfl) (fun _ _ _ h=>h) (Or.inl ⟨by rfl,?_⟩) (by assumption) ?_
      rotate_left
      ·intro wz hSw;(try dsimp only at hSw);go_simp;(try with_reducible rfl)
      try simp only [Go.Act.put,rg.qa,rg.qb,rg.qc]
      refine wpAnyH_take (i:=5) (oi:={dst:=some 17,op:=_,type:=_,pos:=_,after:=_,guard:=_}) (v:=?_) rfl (by kernel_rfl) (by kernel_rfl) (by kernel_rfl) (fun _ _ _ h=>h) (Or.inl ⟨by rfl,?_⟩) (by assumption) ?_
      rotate_left
      ·intro wz hSw;(try dsimp only at hSw);go_simp;(try with_reducible rfl)
      try simp only [Go.Act.put,rg.qa,rg.qb,rg.qc]
      refine wpAnyH_take (i:=6) (oi:={dst:=some 18,op:=_,type:=_,pos:=_,after:=_,guard:=_}) (v:=?_) rfl (by kernel_rfl) (by kernel_rfl) (by kernel_rfl) (fun _ _ _ h=>h) (Or.inl ⟨by rfl,?_⟩) (by assumption) ?_
      rotate_left
      ·intro wz hSw;(try dsimp only at hSw);go_simp;(try with_reducible rfl)
      try simp only [Go.Act.put,rg.qa,rg.qb,rg.qc]
      refine wpAnyH_take (i:=7) (oi:={dst:=some 19,op:=_,type:=_,pos:=_,after:=_,guard:=_}) (v:=?_) rfl (by kernel_rfl) (by kernel_rfl) (by kernel_rfl) (fun _ _ _ h=>h) (Or.inl ⟨by rfl,?_⟩) (by assumption) ?_
      rotate_left
      ·intro wz hSw;(try dsimp only at hSw);go_simp;(try with_reducible rfl)
      try simp only [Go.Act.put,rg.qa,rg.qb,rg.qc]
      refine wpAnyH_take (i:=8) (oi:={dst:=some 20,op:=_,type:=_,pos:=_,after:=_,guard:=_}) (v:=?_) rfl (by kernel_rfl) (by kernel_rfl) (by kernel_rfl) (fun _ _ _ h=>h) (Or.inl ⟨by rfl,?_⟩) (by assumption) ?_
      rotate_left
      ·intro wz hSw;(try dsimp only at hSw);go_simp;(try with_reducible rfl)
      try simp only [Go.Act.put,rg.qa,rg.qb,rg.qc]
      refine wpAnyH_take (i:=9) (oi:={dst:=some 21,op:=_,type:=_,pos:=_,after:=_,guard:=_}) (v:=?_) rfl (by kernel_rfl) (by kernel_rfl) (by kernel_rfl) (fun _ _ _ h=>h) (Or.inl ⟨by rfl,?_⟩) (by assumption) ?_
      rotate_left
      ·intro wz hSw;(try dsimp only at hSw);go_simp;(try with_reducible rfl)
      try simp only [Go.Act.put,rg.qa,rg.qb,rg.qc]
      refine wpAnyH_take (i:=10) (oi:={dst:=some 22,op:=_,type:=_,pos:=_,after:=_,guard:=_}) (v:=?_) rfl (by kernel_rfl) (by kernel_rfl) (by kernel_rfl) (fun _ _ _ h=>h) (Or.inl ⟨by rfl,?_⟩) (by assumption) ?_
      rotate_left
      ·intro wz hSw;(try dsimp only at hSw);go_simp;(try with_reducible rfl)
      try simp only [Go.Act.put,rg.qa,rg.qb,rg.qc]
      refine wpAnyH_take (i:=11) (oi:={dst:=some 23,op:=_,type:=_,pos:=_,after:=_,guard:=_}) (v:=?_) rfl (by kernel_rfl) (by kernel_rfl) (by kernel_rfl) (fun _ _ _ h=>h) (Or.inl ⟨by rfl,?_⟩) (by assumption) ?_
      rotate_left
      ·intro wz hSw;(try dsimp only at hSw);go_simp;(try with_reducible rfl)
      try simp only [Go.Act.put,rg.qa,rg.qb,rg.qc]
      refine wpAnyH_take (i:=13) (oi:={dst:=some 25,op:=_,type:=_,pos:=_,after:=_,guard:=_}) (v:=?_) rfl (by kernel_rfl) (by kernel_rfl) (by kernel_rfl) (fun _ _ _ h=>h) (Or.inl ⟨by rfl,?_⟩) (by assumption) ?_
      rotate_left
      ·intro wz hSw;(try dsimp only at hSw);go_simp;(try with_reducible rfl)
      try simp only [Go.Act.put,rg.qa,rg.qb,rg.qc]
      refine wpAnyH_take (i:=14) (oi:={dst:=some 26,op:=_,type:=_,pos:=_,after:=_,guard:=_}) (v:=?_) rfl (by kernel_rfl) (by kernel_rfl) (by kernel_rfl) (fun _ _ _ h=>h) (Or.inl ⟨by rfl,?_⟩) (by assumption) ?_
      rotate_left
      ·intro wz hSw;(try dsimp only at hSw);go_simp;(try with_reducible rfl)
      try simp only [Go.Act.put,rg.qa,rg.qb,rg.qc]
      refine wpAnyH_ready (rs:=[12]) (by kernel_rfl) (by simp) (AllReadyH.cons (o:={dst:=some 24,op:=_,type:=_,pos:=_,after:=_,guard:=_}) rfl (fun K hK=>?_) AllReadyH.nil)
      rw [if_pos (by rfl)]
      go_simp
      go_at_call 248;refine (HE1.out _).mono ?_;rintro e w6 ⟨rfl,hb6⟩;have HB6:Hid (Below (wr.heap.size+1) (wr.alloc (.cells #[.int .i64 f,.int .i64 en,.int .i64 k,.int .i64 t] 255)) w6):=HB5.out.trans (hb6.mono (by have:=HB5.out.size;simp at this;omega));clear hb6
      refine hK.out _ _ (HKA.out _ HB6.out) (fun hHeld=>?_)
      clear hK K
      try simp only [Go.Act.put,rg.qa,rg.qb,rg.qc]
      refine wpAnyH_take (i:=15) (oi:={dst:=some 27,op:=_,type:=_,pos:=_,after:=_,guard:=_}) (v:=?_) rfl (by kernel_rfl) (by kernel_rfl) (by kernel_rfl) (fun _ _ _ h=>h) (Or.inl ⟨by rfl,?_⟩) (by assumption) ?_
      rotate_left
      ·intro wz hSw;(try dsimp only at hSw);go_simp;(try with_reducible rfl)
      try simp only [Go.Act.put,rg.qa,rg.qb,rg.qc]
      refine wpAnyH_take (i:=16) (oi:={dst:=some 28,op:=_,type:=_,pos:=_,after:=_,guard:=_}) (v:=?_) rfl (by kernel_rfl) (by kernel_rfl) (by kernel_rfl) (fun _ _ _ h=>h) (Or.inl ⟨by rfl,?_⟩) (by assumption) ?_
      rotate_left
      ·intro wz hSw;(try dsimp only at hSw);go_simp;(try with_reducible rfl)
      try simp only [Go.Act.put,rg.qa,rg.qb,rg.qc]
      refine wpAnyH_take (i:=17) (oi:={dst:=some 29,op:=_,type:=_,pos:=_,after:=_,guard:=_}) (v:=undef) rfl (by kernel_rfl) (by kernel_rfl) (by kernel_rfl) (fun _ _ _ h=>h) (Or.inr ⟨by rfl,rfl⟩) (by assumption) ?_
      try simp only [Go.Act.put,rg.qa,rg.qb,rg.qc]
      refine wpAnyH_take (i:=18) (oi:={dst:=some 30,op:=_,type:=_,pos:=_,after:=_,guard:=_}) (v:=undef) rfl (by kernel_rfl) (by kernel_rfl) (by kernel_rfl) (fun _ _ _ h=>h) (Or.inr ⟨by rfl,rfl⟩) (by assumption) ?_
      try simp only [Go.Act.put,rg.qa,rg.qb,rg.qc]
      refine wpAnyH_take (i:=19) (oi:={dst:=some 31,op:=_,type:=_,pos:=_,after:=_,guard:=_}) (v:=undef) rfl (by kernel_rfl) (by kernel_rfl) (by kernel_rfl) (fun _ _ _ h=>h) (Or.inr ⟨by rfl,rfl⟩) (by assumption) ?_
      try simp only [Go.Act.put,rg.qa,rg.qb,rg.qc]
      refine wpAnyH_take (i:=20) (oi:={dst:=some 32,op:=_,type:=_,pos:=_,after:=_,guard:=_}) (v:=undef) rfl (by kernel_rfl) (by kernel_rfl) (by kernel_rfl) (fun _ _ _ h=>h) (Or.inr ⟨by rfl,rfl⟩) (by assumption) ?_
      try simp only [Go.Act.put,rg.qa,rg.qb,rg.qc]
      refine wpAnyH_take (i:=21) (oi:={dst:=some 33,op:=_,type:=_,pos:=_,after:=_,guard:=_}) (v:=undef) rfl (by kernel_rfl) (by kernel_rfl) (by kernel_rfl) (fun _ _ _ h=>h) (Or.inr ⟨by rfl,rfl⟩) (by assumption) ?_
      try simp only [Go.Act.put,rg.qa,rg.qb,rg.qc]
      refine wpAnyH_take (i:=22) (oi:={dst:=some 34,op:=_,type:=_,pos:=_,after:=_,guard:=_}) (v:=undef) rfl (by kernel_rfl) (by kernel_rfl) (by kernel_rfl) (fun _ _ _ h=>h) (Or.inr ⟨by rfl,rfl⟩) (by assumption) ?_
      try simp only [Go.Act.put,rg.qa,rg.qb,rg.qc]
      refine wpAnyH_take (i:=23) (oi:={dst:=some 35,op:=_,type:=_,pos:=_,after:=_,guard:=_}) (v:=undef) rfl (by kernel_rfl) (by kernel_rfl) (by kernel_rfl) (fun _ _ _ h=>h) (Or.inr ⟨by rfl,rfl⟩) (by assumption) ?_
      try simp only [Go.Act.put,rg.qa,rg.qb,rg.qc]
      refine wpAnyH_take (i:=24) (oi:={dst:=some 36,op:=_,type:=_,pos:=_,after:=_,guard:=_}) (v:=?_) rfl (by kernel_rfl) (by kernel_rfl) (by kernel_rfl) (fun _ _ _ h=>h) (Or.inl ⟨by rfl,?_⟩) (by assumption) ?_
      rotate_left
      ·intro wz hSw;(try dsimp only at hSw);go_simp;(try with_reducible rfl)
      try simp only [Go.Act.put,rg.qa,rg.qb,rg.qc]
      refine wpAnyH_take (i:=25) (oi:={dst:=some 37,op:=_,type:=_,pos:=_,after:=_,guard:=_}) (v:=?_) rfl (by kernel_rfl) (by kernel_rfl) (by kernel_rfl) (fun _ _ _ h=>h) (Or.inl ⟨by rfl,?_⟩) (by assumption) ?_
      rotate_left
      ·intro wz hSw;(try dsimp only at hSw);go_simp;(try with_reducible rfl)
      try simp only [Go.Act.put,rg.qa,rg.qb,rg.qc]
      refine wpAnyH_take (i:=26) (oi:={dst:=some 38,op:=_,type:=_,pos:=_,after:=_,guard:=_}) (v:=?_) rfl (by kernel_rfl) (by kernel_rfl) (by kernel_rfl) (fun _ _ _ h=>h) (Or.inl ⟨by rfl,?_⟩) (by assumption) ?_
      rotate_left
      ·intro wz hSw;(try dsimp only at hSw);go_simp;(try with_reducible rfl)
      try simp only [Go.Act.put,rg.qa,rg.qb,rg.qc]
      refine wpAnyH_done (by kernel_rfl) ?_ _
      go_wp2_with fail
      go_ret
      exact ⟨by rw [HF.out];rfl,HBW0.out _ HB6.out⟩
     ·have hd:decide (f < en1)=false:=by simpa using hgt
      go_wp2_with fail
      refine wp_region_held_drew (S:=fun w'=>(w'.cell? ⟨g,o+j' * 4,none⟩=some (.int .i64 f')∧w'.cell? ⟨g,o+j' * 4+1,none⟩=some (.int .i64 n')∧w'.cell? ⟨g,o+j' * 4+2,none⟩=some (.int .i64 k')∧w'.cell? ⟨g,o+j' * 4+3,none⟩=some (.int .i64 t'))∧(w'.cell? ⟨wr.heap.size,0,none⟩=some (.int .i64 f)∧w'.cell? ⟨wr.heap.size,1,none⟩=some (.int .i64 en)∧w'.cell? ⟨wr.heap.size,2,none⟩=some (.int .i64 k)∧w'.cell? ⟨wr.heap.size,3,none⟩=some (.int .i64 t))) (by kernel_rfl) (HKA.out _ (Below.drew (Below.refl _ _))) (fun hHeld=>?_)
      refine wpAnyH_take (i:=0) (oi:={dst:=some 12,op:=_,type:=_,pos:=_,after:=_,guard:=_}) (v:=?_) rfl (by kernel_rfl) (by kernel_rfl) (by kernel_rfl) (fun _ _ _ h=>h) (Or.inl ⟨by rfl,?_⟩) (by assumption) ?_
      rotate_left
      ·intro wz hSw;(try dsimp only at hSw);go_simp;(try with_reducible rfl)
      try simp only [Go.Act.put,rg.qa,rg.qb,rg.qc]
      refine wpAnyH_ready (rs:=[1]) (by kernel_rfl) (by simp) (AllReadyH.cons (o:={dst:=some 13,op:=_,type:=_,pos:=_,after:=_,guard:=_}) rfl (fun K hK=>?_) AllReadyH.nil)
      rw [if_pos (by rfl)]
      go_simp
      go_at_call 223;refine (HO1.out _).mono ?_;rw [HT.out];rintro e w5 ⟨rfl,hb5⟩;have HB5:Hid (Below (wr.heap.size+1) (wr.alloc (.cells #[.int .i64 f,.int .i64 en,.int .i64 k,.int .i64 t] 255)) w5):=Below.trans (Below.drew (Below.refl _ _)) (hb5.mono (by simp));clear hb5
      refine hK.out _ _ (HKA.out _ HB5.out) (fun hHeld=>?_)
      clear hK K
      try simp only [Go.Act.put,rg.qa,rg.qb,rg.qc]
      refine wpAnyH_take (i:=2) (oi:={dst:=some 14,op:=_,type:=_,pos:=_,after:=_,guard:=_}) (v:=?_) rfl (by kernel_rfl) (by kernel_rfl) (by kernel_rfl) (fun _ _ _ h=>h) (Or.inl ⟨by rfl,?_⟩) (by assumption) ?_
      rotate_left
      ·intro wz hSw;(try dsimp only at hSw);go_simp;(try with_reducible rfl)
      try simp only [Go.Act.put,rg.qa,rg.qb,rg.qc]
      refine wpAnyH_take (i:=3) (oi:={dst:=some 15,op:=_,type:=_,pos:=_,after:=_,guard:=_}) (v:=?_) rfl (by kernel_rfl) (by kernel_rfl) (by kernel_rfl) (fun _ _ _ h=>h) (Or.inl ⟨by rfl,?_⟩) (by assumption) ?_
      rotate_left
      ·intro wz hSw;(try dsimp only at hSw);go_simp;(try with_reducible rfl)
      try simp only [Go.Act.put,rg.qa,rg.qb,rg.qc]
      refine wpAnyH_take (i:=4) (oi:={dst:=some 16,op:=_,type:=_,pos:=_,after:=_,guard:=_}) (v:=?_) rfl (by kernel_rfl) (by kernel_rfl) (by kernel_rfl) (fun _ _ _ h=>h) (Or.inl ⟨by rfl,?_⟩) (by assumption) ?_
      rotate_left
      ·intro wz hSw;(try dsimp only at hSw);go_simp;(try with_reducible rfl)
      try simp only [Go.Act.put,rg.qa,rg.qb,rg.qc]
      refine wpAnyH_take (i:=5) (oi:={dst:=some 17,op:=_,type:=_,pos:=_,after:=_,guard:=_}) (v:=?_) rfl (by kernel_rfl) (by kernel_rfl) (by kernel_rfl) (fun _ _ _ h=>h) (Or.inl ⟨by rfl,?_⟩) (by assumption) ?_
      rotate_left
      ·intro wz hSw;(try dsimp only at hSw);go_simp;(try with_reducible rfl)
      try simp only [Go.Act.put,rg.qa,rg.qb,rg.qc]
      refine wpAnyH_take (i:=6) (oi:={dst:=some 18,op:=_,type:=_,pos:=_,after:=_,guard:=_}) (v:=?_) rfl (by kernel_rfl) (by kernel_rfl) (by kernel_rfl) (fun _ _ _ h=>h) (Or.inl ⟨by rfl,?_⟩) (by assumption) ?_
      rotate_left
      ·intro wz hSw;(try dsimp only at hSw);go_simp;(try with_reducible rfl)
      try simp only [Go.Act.put,rg.qa,rg.qb,rg.qc]
      refine wpAnyH_take (i:=7) (oi:={dst:=some 19,op:=_,type:=_,pos:=_,after:=_,guard:=_}) (v:=?_) rfl (by kernel_rfl) (by kernel_rfl) (by kernel_rfl) (fun _ _ _ h=>h) (Or.inl ⟨by rfl,?_⟩) (by assumption) ?_
      rotate_left
      ·intro wz hSw;(try dsimp only at hSw);go_simp;(try with_reducible rfl)
      try simp only [Go.Act.put,rg.qa,rg.qb,rg.qc]
      refine wpAnyH_take (i:=8) (oi:={dst:=some 20,op:=_,type:=_,pos:=_,after:=_,guard:=_}) (v:=?_) rfl (by kernel_rfl) (by kernel_rfl) (by kernel_rfl) (fun _ _ _ h=>h) (Or.inl ⟨by rfl,?_⟩) (by assumption) ?_
      rotate_left
      ·intro wz hSw;(try dsimp only at hSw);go_simp;(try with_reducible rfl)
      try simp only [Go.Act.put,rg.qa,rg.qb,rg.qc]
      refine wpAnyH_take (i:=9) (oi:={dst:=some 21,op:=_,type:=_,pos:=_,after:=_,guard:=_}) (v:=?_) rfl (by kernel_rfl) (by kernel_rfl) (by kernel_rfl) (fun _ _ _ h=>h) (Or.inl ⟨by rfl,?_⟩) (by assumption) ?_
      rotate_left
      ·intro wz hSw;(try dsimp only at hSw);go_simp;(try with_reducible rfl)
      try simp only [Go.Act.put,rg.qa,rg.qb,rg.qc]
      refine wpAnyH_take (i:=10) (oi:={dst:=some 22,op:=_,type:=_,pos:=_,after:=_,guard:=_}) (v:=?_) rfl (by kernel_rfl) (by kernel_rfl) (by kernel_rfl) (fun _ _ _ h=>h) (Or.inl ⟨by rfl,?_⟩) (by assumption) ?_
      rotate_left
      ·intro wz hSw;(try dsimp only at hSw);go_simp;(try with_reducible rfl)
      try simp only [Go.Act.put,rg.qa,rg.qb,rg.qc]
      refine wpAnyH_take (i:=11) (oi:={dst:=some 23,op:=_,type:=_,pos:=_,after:=_,guard:=_}) (v:=?_) rfl (by kernel_rfl) (by kernel_rfl) (by kernel_rfl) (fun _ _ _ h=>h) (Or.inl ⟨by rfl,?_⟩) (by assumption) ?_
      rotate_left
      ·intro wz hSw;(try dsimp only at hSw);go_simp;(try with_reducible rfl)
      try simp only [Go.Act.put,rg.qa,rg.qb,rg.qc]
      refine wpAnyH_take (i:=13) (oi:={dst:=some 25,op:=_,type:=_,pos:=_,after:=_,guard:=_}) (v:=?_) rfl (by kernel_rfl) (by kernel_rfl) (by kernel_rfl) (fun _ _ _ h=>h) (Or.inl ⟨by rfl,?_⟩) (by assumption) ?_
      rotate_left
      ·intro wz hSw;(try dsimp only at hSw);go_simp;(try with_reducible rfl)
      try simp only [Go.Act.put,rg.qa,rg.qb,rg.qc]
      refine wpAnyH_take (i:=14) (oi:={dst:=some 26,op:=_,type:=_,pos:=_,after:=_,guard:=_}) (v:=?_) rfl (by kernel_rfl) (by kernel_rfl) (by kernel_rfl) (fun _ _ _ h=>h) (Or.inl ⟨by rfl,?_⟩) (by assumption) ?_
      rotate_left
      ·intro wz hSw;(try dsimp only at hSw);go_simp;(try with_reducible rfl)
      try simp only [Go.Act.put,rg.qa,rg.qb,rg.qc]
      refine wpAnyH_ready (rs:=[12]) (by kernel_rfl) (by simp) (AllReadyH.cons (o:={dst:=some 24,op:=_,type:=_,pos:=_,after:=_,guard:=_}) rfl (fun K hK=>?_) AllReadyH.nil)
      rw [if_pos (by rfl)]
      go_simp
      go_at_call 248;refine (HE1.out _).mono ?_;rintro e w6 ⟨rfl,hb6⟩;have HB6:Hid (Below (wr.heap.size+1) (wr.alloc (.cells #[.int .i64 f,.int .i64 en,.int .i64 k,.int .i64 t] 255)) w6):=HB5.out.trans (hb6.mono (by have:=HB5.out.size;simp at this;omega));clear hb6
      refine hK.out _ _ (HKA.out _ HB6.out) (fun hHeld=>?_)
      clear hK K
      try simp only [Go.Act.put,rg.qa,rg.qb,rg.qc]
      refine wpAnyH_take (i:=15) (oi:={dst:=some 27,op:=_,type:=_,pos:=_,after:=_,guard:=_}) (v:=?_) rfl (by kernel_rfl) (by kernel_rfl) (by kernel_rfl) (fun _ _ _ h=>h) (Or.inl ⟨by rfl,?_⟩) (by assumption) ?_
      rotate_left
      ·intro wz hSw;(try dsimp only at hSw);go_simp;(try with_reducible rfl)
      try simp only [Go.Act.put,rg.qa,rg.qb,rg.qc]
      refine wpAnyH_take (i:=16) (oi:={dst:=some 28,op:=_,type:=_,pos:=_,after:=_,guard:=_}) (v:=?_) rfl (by kernel_rfl) (by kernel_rfl) (by kernel_rfl) (fun _ _ _ h=>h) (Or.inl ⟨by rfl,?_⟩) (by assumption) ?_
      rotate_left
      ·intro wz hSw;(try dsimp only at hSw);go_simp;(try with_reducible rfl)
      try simp only [Go.Act.put,rg.qa,rg.qb,rg.qc]
      refine wpAnyH_take (i:=17) (oi:={dst:=some 29,op:=_,type:=_,pos:=_,after:=_,guard:=_}) (v:=?_) rfl (by kernel_rfl) (by kernel_rfl) (by kernel_rfl) (fun _ _ _ h=>h) (Or.inl ⟨by rfl,?_⟩) (by assumption) ?_
      rotate_left
      ·intro wz hSw;(try dsimp only at hSw);go_simp;(try with_reducible rfl)
      try simp only [Go.Act.put,rg.qa,rg.qb,rg.qc]
      refine wpAnyH_take (i:=18) (oi:={dst:=some 30,op:=_,type:=_,pos:=_,after:=_,guard:=_}) (v:=?_) rfl (by kernel_rfl) (by kernel_rfl) (by kernel_rfl) (fun _ _ _ h=>h) (Or.inl ⟨by rfl,?_⟩) (by assumption) ?_
      rotate_left
      ·intro wz hSw;(try dsimp only at hSw);go_simp;(try with_reducible rfl)
      try simp only [Go.Act.put,rg.qa,rg.qb,rg.qc]
      refine wpAnyH_take (i:=19) (oi:={dst:=some 31,op:=_,type:=_,pos:=_,after:=_,guard:=_}) (v:=?_) rfl (by kernel_rfl) (by kernel_rfl) (by kernel_rfl) (fun _ _ _ h=>h) (Or.inl ⟨by rfl,?_⟩) (by assumption) ?_
      rotate_left
      ·intro wz hSw;(try dsimp only at hSw);go_simp;(try with_reducible rfl)
      try simp only [Go.Act.put,rg.qa,rg.qb,rg.qc]
      refine wpAnyH_take (i:=20) (oi:={dst:=some 32,op:=_,type:=_,pos:=_,after:=_,guard:=_}) (v:=?_) rfl (by kernel_rfl) (by kernel_rfl) (by kernel_rfl) (fun _ _ _ h=>h) (Or.inl ⟨by rfl,?_⟩) (by assumption) ?_
      rotate_left
      ·intro wz hSw;(try dsimp only at hSw);go_simp;(try with_reducible rfl)
      try simp only [Go.Act.put,rg.qa,rg.qb,rg.qc]
      refine wpAnyH_take (i:=21) (oi:={dst:=some 33,op:=_,type:=_,pos:=_,after:=_,guard:=_}) (v:=?_) rfl (by kernel_rfl) (by kernel_rfl) (by kernel_rfl) (fun _ _ _ h=>h) (Or.inl ⟨by rfl,?_⟩) (by assumption) ?_
      rotate_left
      ·intro wz hSw;(try dsimp only at hSw);go_simp;(try with_reducible rfl)
      try simp only [Go.Act.put,rg.qa,rg.qb,rg.qc]
      refine wpAnyH_take (i:=22) (oi:={dst:=some 34,op:=_,type:=_,pos:=_,after:=_,guard:=_}) (v:=?_) rfl (by kernel_rfl) (by kernel_rfl) (by kernel_rfl) (fun _ _ _ h=>h) (Or.inl ⟨by rfl,?_⟩) (by assumption) ?_
      rotate_left
      ·intro wz hSw;(try dsimp only at hSw);go_simp;(try with_reducible rfl)
      try simp only [Go.Act.put,rg.qa,rg.qb,rg.qc]
      refine wpAnyH_ready (rs:=[23]) (by kernel_rfl) (by simp) (AllReadyH.cons (o:={dst:=some 35,op:=_,type:=_,pos:=_,after:=_,guard:=_}) rfl (fun K hK=>?_) AllReadyH.nil)
      rw [if_pos (by rfl)]
      go_simp
      go_at_call 249;refine (HT2.out _).mono ?_;rintro e w7 ⟨rfl,hb7⟩;have HB7:Hid (Below (wr.heap.size+1) (wr.alloc (.cells #[.int .i64 f,.int .i64 en,.int .i64 k,.int .i64 t] 255)) w7):=HB6.out.trans (hb7.mono (by have:=HB6.out.size;simp at this;omega));clear hb7
      refine hK.out _ _ (HKA.out _ HB7.out) (fun hHeld=>?_)
      clear hK K
      try simp only [Go.Act.put,rg.qa,rg.qb,rg.qc]
      refine wpAnyH_take (i:=24) (oi:={dst:=some 36,op:=_,type:=_,pos:=_,after:=_,guard:=_}) (v:=?_) rfl (by kernel_rfl) (by kernel_rfl) (by kernel_rfl) (fun _ _ _ h=>h) (Or.inl ⟨by rfl,?_⟩) (by assumption) ?_
      rotate_left
      ·intro wz hSw;(try dsimp only at hSw);go_simp;(try with_reducible rfl)
      try simp only [Go.Act.put,rg.qa,rg.qb,rg.qc]
      refine wpAnyH_take (i:=25) (oi:={dst:=some 37,op:=_,type:=_,pos:=_,after:=_,guard:=_}) (v:=?_) rfl (by kernel_rfl) (by kernel_rfl) (by kernel_rfl) (fun _ _ _ h=>h) (Or.inl ⟨by rfl,?_⟩) (by assumption) ?_
      rotate_left
      ·intro wz hSw;(try dsimp only at hSw);go_simp;(try with_reducible rfl)
      try simp only [Go.Act.put,rg.qa,rg.qb,rg.qc]
      refine wpAnyH_take (i:=26) (oi:={dst:=some 38,op:=_,type:=_,pos:=_,after:=_,guard:=_}) (v:=?_) rfl (by kernel_rfl) (by kernel_rfl) (by kernel_rfl) (fun _ _ _ h=>h) (Or.inl ⟨by rfl,?_⟩) (by assumption) ?_
      rotate_left
      ·intro wz hSw;(try dsimp only at hSw);go_simp;(try with_reducible rfl)
      try simp only [Go.Act.put,rg.qa,rg.qb,rg.qc]
      refine wpAnyH_done (by kernel_rfl) ?_ _
      cases htg:tog ⟨f',n',k',t'⟩ ⟨f,en,k,t⟩
      ·have HT3:Hid (Ko (l.take (j'+1+1))=true):=by show _=_;rw [HSN.out,htg];simp;omega
       clear htg
       go_wp2_with fail
       refine ⟨⟨j'+1+1,?_,?_,?_,?_⟩,HMS.out⟩
       ·omega
       ·first|rfl|go_num
       ·with_reducible exact HT3
       ·exact HBW0.out _ HB7.out
      ·have HF:Hid (Ko l=false):=by show _=_;refine Qkh (j:=j'+1+1) ?_;rw [HSN.out,htg];simp
       clear htg
       go_wp2_with fail
       go_ret
       exact ⟨by rw [HF.out];rfl,HBW0.out _ HB7.out⟩
  ·obtain rfl:j=n:=by omega
   go_wp2_with fail
   go_ret
   have hfull:l.take j=l:=by rw [←HN.out];exact List.take_length
   rw [hfull] at HM
   exact ⟨by rw [HM.out];rfl,HB.out⟩
end tr
end Go.Proofs.YtfialjmemcobjaaGreatDoor
