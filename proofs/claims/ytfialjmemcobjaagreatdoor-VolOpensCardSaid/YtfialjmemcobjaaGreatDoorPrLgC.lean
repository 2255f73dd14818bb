/- A part of the proof. -/
import Derived.Test.YtfialjmemcobjaaGreatDoorPrLgB
import Derived.Test.YtfialjmemcobjaaGreatDoorPrLgS
set_option linter.unusedVariables false
set_option linter.unusedSimpArgs false
namespace Go.Proofs.YtfialjmemcobjaaGreatDoor
namespace vo
open Go.RowKit Go.Maps er
theorem Qa7 (l m:List Acc):tot (l++m)=tot l+tot m:=by simp [tot]
theorem Qgh {l:List Acc} (k:Nat) (h:∀a∈l,0≤a.used):0≤tot (l.take k)∧tot (l.take k)≤tot l:=by
 have h1:=Py (l:=l.take k) (fun a ha=>h a (List.mem_of_mem_take ha))
 have h2:=Py (l:=l.drop k) (fun a ha=>h a (List.mem_of_mem_drop ha))
 have h3:=Qa7 (l.take k) (l.drop k)
 rw [List.take_append_drop] at h3
 omega
set_option maxHeartbeats 4000000 in
theorem Qix (n:Int) (hn:0≤n∧n≤1000000) (w:World):
  Calls Tryz.prog 131 #[.int .i64 n] w fun e w'=>∃lb mb,e= .returned (.pointer (some ⟨lb,0,none⟩))∧LedIn w' lb mb n []∧w.heap.size≤lb∧w.heap.size≤mb∧lb≠mb∧Below w.heap.size w w':=by
 obtain ⟨h0,h1⟩:=hn
 have hmm:=@run_makeMap Tryz.prog
 go_enter Tryz.func131,Tryz.ntmps131
 go_wp2_with fail
 go_ret
 rw [show max n 0=n by omega]
 refine ⟨w.heap.size+1,w.heap.size,rfl,⟨Whole.new' _ _ _ _ (World.size_alloc _ _),(MapAt.made w).below ((Below.refl _ _).alloc (Nat.le_refl _) _),fun y hy=>by simp at hy,by simp,⟨h0,h1,by simp [Zu],by simp [Zu],by simp [Zu,tot];exact h0,by simp [Zu]⟩⟩,by omega,Nat.le_refl _,by omega,((Below.refl _ _).alloc (Nat.le_refl _) _).alloc (by simp) _⟩
set_option maxHeartbeats 4000000 in
theorem Qz1 (w:World) (lb mb:Nat) (cap:Int) (L:LL) (h:LedIn w lb mb cap L):
  Calls Tryz.prog 136 #[.pointer (some ⟨lb,0,none⟩)] w fun e w'=>e= .returned (.int .i64 (tot (Zu L)))∧Below w.heap.size w w':=by
 have HI:=Ql4 (P9 w lb mb cap L h)
 have H:=Ql4 h
 have hlen:L.length≤8:=by simpa [Zu] using h.ok.len
 obtain ⟨n,hn⟩:∃n,L.length=n:=⟨_,rfl⟩
 have HN:=Ql4 hn
 rw [hn] at HI hlen
 have hli:(n:Int)≤8:=by omega
 clear h hn
 go_enter Tryz.func136,Tryz.ntmps136
 go_wp2_with fail
 with_reducible refine HI.out.mono ?_
 rintro e w1 ⟨v,rfl,hr1,hb1⟩
 obtain ⟨A,c,rfl⟩:=Qk hr1
 have H1:=Ql4 (H.out.below hb1)
 have HR1:=Ql4 hr1
 have HB1:=Ql4 hb1
 clear hr1 hb1
 go_wp2_with fail
 go_loopw [3,5,9] (fun nv _ i wr=>∃j:Nat,j≤n∧i= .int .i64 j∧nv= .int .i64 (tot (Zu (L.take j)))∧wr=w1) (fun _ _ i _=>n - (intOf i).toNat)
 case atStart=>exact ⟨0,Nat.zero_le _,rfl,rfl,rfl⟩
 case round=>
  obtain ⟨j,hj,rfl,rfl,rfl⟩:=hrel
  have hok:=H1.out.ok
  have hnn:∀k,0≤tot (Zu (L.take k))∧tot (Zu (L.take k))≤8000000:=by
   intro k
   have h1:=Qgh k (fun a ha=>(hok.ids a ha).2.2.2.2)
   have h2:=hok.sum
   have h3:=hok.c1
   rw [show Zu (L.take k)=(Zu L).take k by simp [Zu,List.map_take]]
   omega
  by_cases hlt:j < n
  ·have hji:(j:Int) < (n:Int):=by omega
   obtain ⟨y,hy⟩:∃y,L[j]? =some y:=⟨_,List.getElem?_eq_getElem (by rw [HN.out];exact hlt)⟩
   have hym:=List.mem_of_getElem? hy
   obtain ⟨g,rfl,_,_,_,hc,_⟩:=Qo HR1.out (by omega)
   have d0:=hc j (.int .i64 y.1.id) (by rw [List.getElem?_map,hy];rfl)
   have hl:=(H1.out.map.look Tryz.underlying212 Qat (H1.out.i64 y hym) (H1.out.find hym)).1
   have c1:=H1.out.obj.cell 1
   have d1:=(H1.out.acc y hym).cell 1
   simp at c1 d1
   have HT:Hid (tot (Zu (L.take (j+1)))=tot (Zu (L.take j))+y.1.used):=by
    show _=_
    rw [List.take_add_one,hy]
    simp [Zu,tot]
   have hs0:=hnn j
   have hs1:=hnn (j+1)
   rw [HT.out] at hs1
   obtain ⟨⟨id,sz,us⟩,ab⟩:=y
   simp only at d0 hl d1 HT hs1
   obtain ⟨t0,ht0⟩:∃t,tot (Zu (L.take j))=t:=⟨_,rfl⟩
   rw [ht0] at HT hs0 hs1 ⊢
   clear hy hym hnn ht0 hc
   go_wp2_with fail
   go_roundw
   case rel=>exact ⟨j+1,by omega,by go_num,by rw [HT.out],trivial⟩
   case measure=>simp [intOf];omega
  ·obtain rfl:j=n:=by omega
   have hfull:L.take j=L:=by rw [←HN.out];exact List.take_length
   rw [hfull]
   go_wp2_with fail
   go_ret
   exact ⟨rfl,HB1.out⟩
set_option maxHeartbeats 4000000 in
theorem En (w:World) (lb mb:Nat) (cap:Int) (L:LL) (h:LedIn w lb mb cap L):
  Calls Tryz.prog 65 #[.pointer (some ⟨lb,0,none⟩)] w fun e w'=>e= .returned (.int .i64 (cap - tot (Zu L)))∧Below w.heap.size w w':=by
 have HT:=Ql4 (fun wq hb=>Qz1 wq lb mb cap L (h.below hb))
 have c0:=h.obj.cell 0
 simp at c0
 have HK:Hid (∀wq,Below w.heap.size w wq→wq.cell? ⟨lb,0,none⟩=some (.int .i64 cap)):=fun wq hb=>Qq hb c0
 have t0:=Py (fun a ha=>(h.ok.ids a ha).2.2.2.2)
 have t1:=h.ok.sum
 have t2:=h.ok.c1
 have t3:=h.ok.c0
 obtain ⟨t,ht⟩:∃t,tot (Zu L)=t:=⟨_,rfl⟩
 rw [ht] at t0 t1 HT ⊢
 have hwr:IntKind.i64.wrap (cap - t)=cap - t:=by rw [IntKind.wrap_i64];omega
 clear h ht
 go_enter Tryz.func65,Tryz.ntmps65
 go_wp2_with fail
 go_region_held3 (fun w'=>w'.cell? ⟨lb,0,none⟩=some (.int .i64 cap)) (first|exact HK.out _ HB2.out|exact HK.out _ (by repeat (first|with_reducible exact Below.refl _ _|refine Below.drew ?_)))
  (((with_reducible refine (HT.out _ (by repeat (first|with_reducible exact Below.refl _ _|refine Below.drew ?_))).mono ?_);rintro e w2 ⟨rfl,hb2⟩;have HB2:Hid (Below w.heap.size w w2):=Below.trans (by repeat (first|with_reducible exact Below.refl _ _|refine Below.drew ?_)) hb2;clear hb2))
 go_wp2_with fail
 go_ret
 exact ⟨rfl,HB2.out⟩
set_option maxHeartbeats 4000000 in
theorem Qco (w:World) (lb mb:Nat) (cap:Int) (L:LL) (id size:Int) (h:LedIn w lb mb cap L) (hi:1≤id∧id≤65535) (hn:K9 (key L) id=none) (hs:0≤size∧size≤16777216) (h8:L.length=8):
  Calls Tryz.prog 70 #[.pointer (some ⟨lb,0,none⟩),.int .i64 id,.int .i64 size] w fun e w'=>e= .returned (.int .i64 70)∧Below w.heap.size w w':=by
 have HS:Hid (∀wq,Calls Tryz.prog 140 #[.int .i64 size] wq fun e w'=>e= .returned (.bool true)∧wq=w'):=fun wq=>by
  have:=Mo size wq
  rw [show (decide (0≤size) && decide (size≤16777216))=true by simp;omega] at this
  exact this
 have hl:=(h.map.look0 Tryz.underlying212 Qat (x:=id) (by unfold I64;omega) hn).2
 have hln:=h.map.len Tryz.underlying212
 rw [show (key L).length=8 by simp [key,h8]] at hln
 have c1:=h.obj.cell 1
 simp at c1
 have i1:¬id < 1:=by omega
 have i2:¬65535 < id:=by omega
 clear h hi hs hn h8
 go_enter Tryz.func70,Tryz.ntmps70
 go_wp2_with fail
 with_reducible refine (HS.out _).mono ?_
 rintro e w1 ⟨rfl,rfl⟩
 go_wp2_with fail
 go_ret
 exact ⟨rfl,Below.refl _ _⟩
set_option maxHeartbeats 4000000 in
set_option maxRecDepth 100000 in
theorem Vh (w:World) (lb mb:Nat) (cap:Int) (L:LL) (id size:Int) (h:LedIn w lb mb cap L) (hi:1≤id∧id≤65535) (hn:∀y∈L,y.1.id≠id) (hf:K9 (key L) id=none) (hs:0≤size∧size≤16777216) (h8:L.length < 8):
  Calls Tryz.prog 70 #[.pointer (some ⟨lb,0,none⟩),.int .i64 id,.int .i64 size] w fun e w'=>∃ab,e= .returned (.int .i64 0)∧w.heap.size≤ab∧LedIn w' lb mb cap (Z0 L (⟨id,size,0⟩,ab))∧Keep (fun k=>k=mb) w w':=by
 have HS:Hid (∀wq,Calls Tryz.prog 140 #[.int .i64 size] wq fun e w'=>e= .returned (.bool true)∧wq=w'):=fun wq=>by
  have:=Mo size wq
  rw [show (decide (0≤size) && decide (size≤16777216))=true by simp;omega] at this
  exact this
 have hl:=(h.map.look0 Tryz.underlying212 Qat (x:=id) (by unfold I64;omega) hf).2
 have hln:=h.map.len Tryz.underlying212
 have hkl:(key L).length=L.length:=by simp [key]
 rw [hkl] at hln
 have c1:=h.obj.cell 1
 simp at c1
 obtain ⟨w2,hst,hm2,hk2,hz2⟩:=(h.map.below ((Below.refl w.heap.size w).alloc (Nat.le_refl _) (.cells #[.int .i64 size,.int .i64 0] 223))).store Tryz.underlying212 (by omega) (x:=id) (by unfold I64;omega) w.heap.size
 have HEND:Hid (LedIn w2 lb mb cap (Z0 L (⟨id,size,0⟩,w.heap.size))∧Keep (fun k=>k=mb) w w2):=by
  have hb:=h.below ((Below.refl w.heap.size w).alloc (Nat.le_refl _) (.cells #[.int .i64 size,.int .i64 0] 223))
  have hmb:=h.map.lt
  have hne:∀y∈L,¬y.2=mb:=fun y hy e=>by
   have ha:=h.acc y hy
   obtain ⟨es,c,hb,_⟩:=h.map.1
   unfold Whole at ha
   rw [e,hb] at ha
   cases ha
  have hlm:¬lb=mb:=fun e=>by
   have ha:=h.obj
   obtain ⟨es,c,hb,_⟩:=h.map.1
   unfold Whole at ha
   rw [e,hb] at ha
   cases ha
  refine ⟨⟨hb.obj.keep hk2 hlm,by rw [Qeu];exact hm2,fun z hz=>?_,?_,by rw [Qae];exact h.ok.put (by simpa [Zu] using h8) hi.1 hi.2 hs.1 hs.2 (fun a ha=>by obtain ⟨y,hy,rfl⟩:=List.mem_map.1 ha;exact hn y hy)⟩,(Keep.below ((Below.refl w.heap.size w).alloc (Nat.le_refl _) _)).trans hk2 (fun _ h=>.inl h)⟩
  ·rcases Em hz with rfl|hz
   ·exact (Whole.new w _ _).keep hk2 (by show ¬w.heap.size=mb;omega)
   ·exact (hb.acc z hz).keep hk2 (hne z hz)
  ·rw [((Qz2 (y:=(⟨id,size,0⟩,w.heap.size)) hn).map (·.2)).nodup_iff,List.map_cons,List.nodup_cons]
   refine ⟨fun hm=>?_,h.nd⟩
   obtain ⟨y,hy,e⟩:=List.mem_map.1 hm
   have:=(h.acc y hy).lt
   have e':y.2=w.heap.size:=e
   omega
 have i1:¬id < 1:=by omega
 have i2:¬65535 < id:=by omega
 obtain ⟨n,hn8⟩:∃n,L.length=n:=⟨_,rfl⟩
 rw [hn8] at hln h8
 have h8i:(n:Int) < 8:=by omega
 clear h hi hs hn hf hn8 hkl hm2 hk2 hz2
 go_enter Tryz.func70,Tryz.ntmps70
 go_wp2_with fail
 with_reducible refine (HS.out _).mono ?_
 rintro e w1 ⟨rfl,rfl⟩
 go_wp2_with fail
 go_ret
 exact ⟨w.heap.size,rfl,Nat.le_refl _,HEND.out.1,HEND.out.2⟩
theorem Uk {L:LL} {y:Acc×Nat} (h:y∈L):y.1∈Zu L:=List.mem_map.2 ⟨y,h,rfl⟩
set_option maxHeartbeats 4000000 in
theorem Dx (w:World) (lb mb:Nat) (cap:Int) (L:LL) (y:Acc×Nat) (n:Int) (h:LedIn w lb mb cap L) (hy:y∈L) (hn:cap - tot (Zu L) < n):
  Calls Tryz.prog 106 #[.pointer (some ⟨lb,0,none⟩),.int .i64 y.1.id,.int .i64 n] w fun e w'=>e= .returned (.int .i64 71)∧Below w.heap.size w w':=by
 have HG:=Ql4 (O6 w lb mb cap L y h hy)
 have HL:=Ql4 (En w lb mb cap L h)
 have h0:=h.ok.sum
 obtain ⟨t,ht⟩:∃t,cap - tot (Zu L)=t:=⟨_,rfl⟩
 rw [ht] at HL hn
 have hn0:¬n < 0:=by omega
 obtain ⟨⟨id,sz,us⟩,ab⟩:=y
 simp only at HG ⊢
 clear h hy ht h0
 go_enter Tryz.func106,Tryz.ntmps106
 go_wp2_with fail
 with_reducible refine HG.out.mono ?_
 rintro e w1 ⟨rfl,rfl⟩
 go_wp2_with fail
 with_reducible refine HL.out.mono ?_
 rintro e w2 ⟨rfl,hb2⟩
 go_wp2_with fail
 go_ret
 exact ⟨rfl,hb2⟩
set_option maxHeartbeats 4000000 in
theorem Hz (w:World) (lb mb:Nat) (cap:Int) (L:LL) (y:Acc×Nat) (n:Int) (h:LedIn w lb mb cap L) (hy:y∈L) (h0:0≤n) (hn:n≤cap - tot (Zu L)):
  Calls Tryz.prog 106 #[.pointer (some ⟨lb,0,none⟩),.int .i64 y.1.id,.int .i64 n] w fun e w'=>e= .returned (.int .i64 0)∧LedIn w' lb mb cap (Jn L y.1.id fun a=>{a with used:=a.used+n})∧Keep (fun k=>k=y.2) w w':=by
 have HG:=Ql4 (O6 w lb mb cap L y h hy)
 have HL:=Ql4 (En w lb mb cap L h)
 have H:=Ql4 h
 have hids:=h.ok.ids y.1 (Uk hy)
 have hul:=Qk1 (fun a ha=>(h.ok.ids a ha).2.2.2.2) y.1 (Uk hy)
 have hc1:=h.ok.c1
 have hsum:=h.ok.sum
 have HEND:Hid (∀wq,Below w.heap.size w wq→(wq.cell? ⟨y.2,1,none⟩=some (.int .i64 y.1.used)∧wq.frozen? ⟨y.2,1,none⟩=false)∧LedIn (wq.setCell ⟨y.2,1,none⟩ (.int .i64 (y.1.used+n))) lb mb cap (Jn L y.1.id fun a=>{a with used:=a.used+n})∧Keep (fun k=>k=y.2) w (wq.setCell ⟨y.2,1,none⟩ (.int .i64 (y.1.used+n)))):=by
  intro wq hb
  have hq:=H.out.below hb
  have ha:=hq.acc y hy
  have hk:Keep (fun k=>k=y.2) wq (wq.setCell ⟨y.2,1,none⟩ (.int .i64 (y.1.used+n))):=Keep.set1 wq y.2 1 _
  refine ⟨⟨ha.cell 1,ha.fz 1⟩,hq.turn hy (fun _=>rfl) hk (by simpa using ha.set 1 (.int .i64 (y.1.used+n))) (hq.ok.set (Uk hy) _ (fun _=>rfl) ⟨hids.2.2.1,hids.2.2.2.1,by simp only;omega⟩ (by simp only;omega)),(Keep.below hb).trans hk (fun _ h=>.inl h)⟩
 obtain ⟨t,ht⟩:∃t,cap - tot (Zu L)=t:=⟨_,rfl⟩
 rw [ht] at HL hn
 have hn0:¬n < 0:=by omega
 obtain ⟨⟨id,sz,us⟩,ab⟩:=y
 simp only at HG HEND hids hul ⊢
 have hu0:=hids.2.2.2.2
 have hu1:us+n≤9223372036854775807:=by omega
 clear h hy ht hids hul hsum hc1
 go_enter Tryz.func106,Tryz.ntmps106
 go_wp2_with fail
 with_reducible refine HG.out.mono ?_
 rintro e w1 ⟨rfl,rfl⟩
 go_wp2_with fail
 with_reducible refine HL.out.mono ?_
 rintro e w2 ⟨rfl,hb2⟩
 obtain ⟨⟨d1,f1⟩,hend⟩:=HEND.out w2 hb2
 have HE:=Ql4 hend
 clear hb2 hend
 go_wp2_with fail
 go_ret
 exact ⟨rfl,HE.out⟩
set_option maxHeartbeats 4000000 in
theorem Qz3 (w:World) (lb mb:Nat) (cap:Int) (L:LL) (y:Acc×Nat) (n:Int) (h:LedIn w lb mb cap L) (hy:y∈L) (h0:0≤n) (hn:n≤y.1.used):
  Calls Tryz.prog 155 #[.pointer (some ⟨lb,0,none⟩),.int .i64 y.1.id,.int .i64 n] w fun e w'=>e= .returned (.int .i64 0)∧LedIn w' lb mb cap (Jn L y.1.id fun a=>{a with used:=a.used - n})∧Keep (fun k=>k=y.2) w w':=by
 have HG:=Ql4 (O6 w lb mb cap L y h hy)
 have hids:=h.ok.ids y.1 (Uk hy)
 have hul:=Qk1 (fun a ha=>(h.ok.ids a ha).2.2.2.2) y.1 (Uk hy)
 have hc1:=h.ok.c1
 have hsum:=h.ok.sum
 have ha:=h.acc y hy
 have d1:=ha.cell 1
 have f1:=ha.fz 1
 simp at d1
 have hk:Keep (fun k=>k=y.2) w (w.setCell ⟨y.2,1,none⟩ (.int .i64 (y.1.used - n))):=Keep.set1 w y.2 1 _
 have HEND:Hid (LedIn (w.setCell ⟨y.2,1,none⟩ (.int .i64 (y.1.used - n))) lb mb cap (Jn L y.1.id fun a=>{a with used:=a.used - n})∧Keep (fun k=>k=y.2) w (w.setCell ⟨y.2,1,none⟩ (.int .i64 (y.1.used - n)))):=
  ⟨h.turn hy (fun _=>rfl) hk (by simpa using ha.set 1 (.int .i64 (y.1.used - n))) (h.ok.set (Uk hy) _ (fun _=>rfl) ⟨hids.2.2.1,hids.2.2.2.1,by simp only;omega⟩ (by simp only;omega)),hk⟩
 have hn0:¬n < 0:=by omega
 obtain ⟨⟨id,sz,us⟩,ab⟩:=y
 simp only at HG HEND hids hul hn d1 f1 ⊢
 have hu1:us≤9223372036854775807:=by omega
 clear h hy ha hk hids hul hsum hc1
 go_enter Tryz.func155,Tryz.ntmps155
 go_wp2_with fail
 with_reducible refine HG.out.mono ?_
 rintro e w1 ⟨rfl,rfl⟩
 go_wp2_with fail
 go_ret
 exact ⟨rfl,HEND.out⟩
end vo
end Go.Proofs.YtfialjmemcobjaaGreatDoor
