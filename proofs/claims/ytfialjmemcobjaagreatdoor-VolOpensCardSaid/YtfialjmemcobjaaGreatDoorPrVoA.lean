/- A part of the proof. -/
import Derived.Test.YtfialjmemcobjaaGreatDoorPrLgC
import Derived.Test.YtfialjmemcobjaaGreatDoorPrStR
import Derived.Test.YtfialjmemcobjaaGreatDoorPrTzH
set_option linter.unusedVariables false
set_option linter.unusedSimpArgs false
namespace Go.Proofs.YtfialjmemcobjaaGreatDoor
namespace vo
open Go.RowKit Go.Maps er st tr
structure Sp where
 id:Int
 size:Int
 used:Int
 tr:Tree
structure Bl where
 a:Nat
 p:Nat
 F:List Nat
abbrev XL:=List (Sp×Bl)
structure Vo where
 s:Sto
 cap:Int
 l:List Sp
 gen:Int
 root:Int
 last:List Int
 sure:Bool
structure Pt where
 q:Nat
 p:Nat
 lb:Nat
 mb:Nat
 tb:Nat
 sv:Value
 vv:Value
 lv:Value
 N:Nat→Prop
def Q5 (X:XL):LL:=X.map fun x=>(⟨x.1.id,x.1.size,x.1.used⟩,x.2.a)
def Zm (X:XL):List (Int×Nat):=X.map fun x=>(x.1.id,x.2.p)
def Kh (v:Value):List Nat:=v.ownBlock.toList
def Zd (X:XL):List Nat:=X.flatMap fun x=>x.2.a::x.2.F
def Dl (v:Nat) (c:Pt) (X:XL):List Nat:=v::c.lb::c.mb::c.tb::(Kh c.lv++Zd X)
def stF (c:Pt):Nat→Prop:=foot c.q c.sv c.vv c.N
def Qi (c:Pt) (V:Vo):Array Value:=#[.pointer (some ⟨c.q,0,none⟩),.pointer (some ⟨c.lb,0,none⟩),.map (some c.tb),.int .i64 V.gen,.int .i64 V.root,c.lv,.bool V.sure]
structure VoIn (w:World) (v:Nat) (c:Pt) (X:XL) (V:Vo):Prop where
 obj:Whole w v 115 (Qi c V)
 sto:StoIn w c.q c.p c.sv c.vv c.N V.s
 led:LedIn w c.lb c.mb V.cap (Q5 X)
 trs:MapAt w c.tb (Zm X)
 tre:∀x∈X,TrAt w x.2.F x.2.p x.1.tr∧x.1.tr.Ok∧Chk x.1.tr.flat
 lst:w.ownsRow 0 3 1 c.lv V.last.length (ints V.last)
 spl:X.map (·.1)=V.l
 nd:(Dl v c X).Nodup
 far:∀k∈Dl v c X,¬stF c k∧k≠0
 zero:¬stF c 0
 laid:LaidT w
def vF (v:Nat) (c:Pt) (X:XL):Nat→Prop:=fun k=>stF c k∨k∈Dl v c X
theorem Jf {v:Value} {k:Nat}:k∈Kh v↔v.ownBlock=some k:=by simp [Kh]
section
variable {w:World} {v:Nat} {c:Pt} {X:XL} {V:Vo}
theorem Pv {X:XL} {k:Nat} (h:Qf4 c.lb c.mb (Q5 X) k):k∈Dl v c X:=by
 rcases h with rfl|rfl|⟨y,hy,rfl⟩
 ·simp [Dl]
 ·simp [Dl]
 ·obtain ⟨x,hx,rfl⟩:=List.mem_map.1 hy
  simp only [Dl,List.mem_cons,List.mem_append]
  exact .inr (.inr (.inr (.inr (.inr (List.mem_flatMap.2 ⟨x,hx,by simp⟩)))))
theorem Uz {X:XL} {x:Sp×Bl} (hx:x∈X) {k:Nat} (hk:k∈x.2.F):k∈Dl v c X:=by
 simp only [Dl,List.mem_cons,List.mem_append]
 exact .inr (.inr (.inr (.inr (.inr (List.mem_flatMap.2 ⟨x,hx,by simp [hk]⟩)))))
theorem VoIn.lt (h:VoIn w v c X V):∀k,vF v c X k→k < w.heap.size:=by
 rintro k (hk|hk)
 ·exact h.sto.lt k hk
 ·simp only [Dl,List.mem_cons,List.mem_append] at hk
  rcases hk with rfl|rfl|rfl|rfl|hk|hk
  ·exact h.obj.lt
  ·exact h.led.obj.lt
  ·exact h.led.map.lt
  ·exact h.trs.lt
  ·exact (h.lst.lt k (Jf.1 hk)).2
  ·obtain ⟨x,hx,hk⟩:=List.mem_flatMap.1 hk
   rcases List.mem_cons.1 hk with rfl|hk
   ·exact (h.led.acc (_,x.2.a) (List.mem_map.2 ⟨x,hx,rfl⟩)).lt
   ·exact (h.tre x hx).1.lt k hk
theorem VoIn.keep {G:Nat→Prop} {w':World} (h:VoIn w v c X V) (hk:Keep G w w') (hd:∀k,vF v c X k∨k=0→¬G k):VoIn w' v c X V:=by
 have hD:∀k∈Dl v c X,¬G k:=fun k hk=>hd k (.inl (.inr hk))
 refine ⟨h.obj.keep hk (hD _ (by simp [Dl])),h.sto.keep hk (fun k hs=>hd k (.inl (.inl hs))),h.led.keep hk (fun k hl=>hD k (Pv hl)),h.trs.keep hk (hD _ (by simp [Dl])),fun x hx=>⟨(h.tre x hx).1.keep hk (fun k hf=>hD k (Uz hx hf)),(h.tre x hx).2⟩,Qj h.lst hk (fun g hg=>hD g ?_),h.spl,h.nd,h.far,h.zero,?_⟩
 ·simp only [Dl,List.mem_cons,List.mem_append]
  exact .inr (.inr (.inr (.inr (.inl (Jf.2 hg)))))
 ·exact Keep.cell hk h.laid (hd 0 (.inr rfl))
theorem VoIn.below {w':World} (h:VoIn w v c X V) (hb:Below w.heap.size w w'):VoIn w' v c X V:=h.keep (G:=fun _=>False) (Keep.below hb) (fun _ _ h=>h)
theorem VoIn.stored {w':World} {N':Nat→Prop} {s':Sto} (h:VoIn w v c X V) (hs:StoIn w' c.q c.p c.sv c.vv N' s') (hm:Moved w c.q c.sv c.vv c.N w' N'):VoIn w' v {c with N:=N'} X {V with s:=s'}:=by
 have hD:∀k∈Dl v c X,¬stF c k:=fun k hk=>(h.far k hk).1
 have hlt:∀k∈Dl v c X,k < w.heap.size:=fun k hk=>h.lt k (.inr hk)
 have hN:∀k,k < w.heap.size→¬stF c k→¬stF {c with N:=N'} k:=fun k hk hf hf'=>by
  rcases hf' with e|e|e|e
  ·exact hf (.inl e)
  ·exact hf (.inr (.inl e))
  ·exact hf (.inr (.inr (.inl e)))
  ·rcases hm.sub k e with e|e
   ·exact hf (.inr (.inr (.inr e)))
   ·omega
 have h0:0 < w.heap.size:=h.laid.lt
 refine ⟨h.obj.keep hm.keep (hD _ (by simp [Dl])),hs,h.led.keep hm.keep (fun k hl=>hD k (Pv hl)),h.trs.keep hm.keep (hD _ (by simp [Dl])),fun x hx=>⟨(h.tre x hx).1.keep hm.keep (fun k hf=>hD k (Uz hx hf)),(h.tre x hx).2⟩,Qj h.lst hm.keep (fun g hg=>hD g ?_),h.spl,h.nd,fun k hk=>⟨hN k (hlt k hk) (hD k hk),(h.far k hk).2⟩,hN 0 h0 h.zero,Keep.cell hm.keep h.laid h.zero⟩
 simp only [Dl,List.mem_cons,List.mem_append]
 exact .inr (.inr (.inr (.inr (.inl (Jf.2 hg)))))
theorem Mx {w':World} {N':Nat→Prop} (hm:Moved w c.q c.sv c.vv c.N w' N'):Mv (vF v c X) w (vF v {c with N:=N'} X) w':=by
 refine ⟨hm.keep.mono (fun k _ hk=>.inl hk),fun k hk=>?_⟩
 rcases hk with (e|e|e|e)|e
 ·exact .inl (.inl (.inl e))
 ·exact .inl (.inl (.inr (.inl e)))
 ·exact .inl (.inl (.inr (.inr (.inl e))))
 ·exact (hm.sub k e).imp (fun e=>.inl (.inr (.inr (.inr e)))) id
 ·exact .inl (.inr e)
end
end vo
namespace vo
open Go.RowKit Go.Maps er st tr nd ge
def Gz (e:Int):Value:=if e=0 then .nilIface else .iface 28 (.int .i64 e)
set_option maxHeartbeats 4000000 in
theorem G6 (e:Int) (w:World):Calls Tryz.prog 69 #[.int .i64 e] w fun x w'=>x= .returned (Gz e)∧w=w':=by
 go_enter Tryz.func69,Tryz.ntmps69
 by_cases h:e=0
 ·subst h
  go_wp2_with fail
  go_ret
  exact ⟨rfl,rfl⟩
 ·have h1:(e == 0)=false:=by simpa using h
  go_wp2_with fail
  go_ret
  exact ⟨by unfold Gz;rw [if_neg h];rfl,rfl⟩
set_option maxHeartbeats 4000000 in
theorem Rq (w:World) (q p:Nat) (sv vv:Value) (N:Nat→Prop) (s:Sto) (h:StoIn w q p sv vv N s):
  Calls Tryz.prog 130 #[.pointer (some ⟨q,0,none⟩)] w fun e w'=>e= .returned (.agg #[.int .i64 s.n.blocks,.int .i64 s.n.per])∧Below w.heap.size w w':=by
 have c1:=h.obj.cell 1
 have c2:=h.obj.cell 2
 have hlt:=h.obj.lt
 simp [Gr] at c1 c2
 go_enter Tryz.func130,Tryz.ntmps130
 go_wp2_with fail
 refine bodyPost_ret (v:= .agg #[.int .i64 s.n.blocks,.int .i64 s.n.per]) (by simp [results,Tryz.results130,go_sem]) rfl ⟨rfl,?_⟩
 exact (Below.refl _ _).alloc (Nat.le_refl _) _
set_option maxHeartbeats 8000000 in
set_option maxRecDepth 100000 in
theorem W9 (w:World) (q p:Nat) (sv vv:Value) (N:Nat→Prop) (s:Sto) (h:StoIn w q p sv vv N s) (h1:16≤s.n.blocks∧s.n.blocks≤64) (h2:8≤s.n.per∧s.n.per≤32) (hl:LaidT w) (hz:¬foot q sv vv N 0):
  Calls Tryz.prog 62 #[.pointer (some ⟨q,0,none⟩)] w fun x w'=>∃v c,x= .returned (.pointer (some ⟨v,0,none⟩))∧c.q=q∧c.p=p∧c.sv=sv∧c.vv=vv∧c.N=N∧VoIn w' v c [] {s:=s,cap:=Jo s.n.blocks s.n.per,l:=[],gen:=0,root:= -1,last:=[],sure:=true}∧(∀k∈Dl v c [],w.heap.size≤k)∧Below w.heap.size w w':=by
 have HG:=Ql4 (Rq w q p sv vv N s h)
 have hcb:=Qj6 s.n.blocks s.n.per (by omega) (by omega) (by omega) (by omega)
 have HP:Hid (∀W,Calls Tryz.prog 37 #[.agg #[.int .i64 s.n.blocks,.int .i64 s.n.per]] W fun e w'=>e= .returned (.tuple #[.agg #[.int .i64 (s.n.blocks * s.n.per),.int .i64 (s.n.blocks / 8),.int .i64 (Jo s.n.blocks s.n.per),.int .i64 (Oy s.n.blocks s.n.per),.int .i64 (Oy s.n.blocks s.n.per+1)],.int .i64 0])∧Below W.heap.size W w'):=fun W=>T9 _ _ W (by omega) (by omega) (by omega) (by omega)
 have HN:Hid (∀W,Calls Tryz.prog 131 #[.int .i64 (Jo s.n.blocks s.n.per)] W fun e w'=>∃lb mb,e= .returned (.pointer (some ⟨lb,0,none⟩))∧LedIn w' lb mb (Jo s.n.blocks s.n.per) []∧W.heap.size≤lb∧W.heap.size≤mb∧lb≠mb∧Below W.heap.size W w'):=fun W=>Qix _ (by omega) W
 have hmm:=@run_makeMap Tryz.prog
 have HS:=Ql4 h
 have HL:=Ql4 hl
 have HZ:=Ql4 hz
 have HQ:=Ql4 h1
 have HQ2:=Ql4 h2
 clear h hl hz h1 h2 hcb
 go_enter Tryz.func62,Tryz.ntmps62
 go_wp2_with fail
 with_reducible refine HG.out.mono ?_
 rintro e w1 ⟨rfl,hb1⟩
 have HB1:=Ql4 hb1
 clear hb1
 go_wp2_with fail
 with_reducible refine (HP.out w1).mono ?_
 rintro e w2 ⟨rfl,hb2⟩
 have HB2:=Ql4 (hb2.mono HB1.out.size)
 clear hb2
 go_wp2_with fail
 obtain ⟨bx,hbx⟩:∃bx,bx=(Obj.cells #[.int .i64 (s.n.blocks * s.n.per),.int .i64 (s.n.blocks / 8),.int .i64 (Jo s.n.blocks s.n.per),.int .i64 (Oy s.n.blocks s.n.per),.int .i64 (Oy s.n.blocks s.n.per+1)] 70):=⟨_,rfl⟩
 rw [←hbx]
 have HBX:=Ql4 (HB1.out.trans HB2.out)
 have HB3:=Ql4 (HBX.out.alloc HBX.out.size bx)
 clear hbx
 with_reducible refine (HN.out _).mono ?_
 rintro e w3 ⟨lb,mb,rfl,hled,hl1,hl2,hne,hb3⟩
 have HLE:=Ql4 hled
 have hsz:=hb3.size
 have hs2:=HBX.out.size
 simp only [World.size_alloc] at hl1 hl2 hsz
 have HB4:=Ql4 (HB3.out.trans (hb3.mono (by simp only [World.size_alloc];omega)))
 clear hb3 hled
 go_wp2_with fail
 go_ret
 have b1:Below w3.heap.size w3 (w3.alloc (.map #[] 0)):=(Below.refl _ _).alloc (Nat.le_refl _) _
 have b2:∀o,Below w3.heap.size w3 ((w3.alloc (.map #[] 0)).alloc o):=fun o=>b1.alloc (by simp) _
 have b4:∀o,Below w.heap.size w ((w3.alloc (.map #[] 0)).alloc o):=fun o=>HB4.out.trans ((b2 o).mono (by omega))
 have hS:∀k,foot q sv vv N k→k < w.heap.size:=HS.out.lt
 refine ⟨w3.heap.size+1,⟨q,p,lb,mb,w3.heap.size,sv,vv,.slice none 0 0,N⟩,by simp,rfl,rfl,rfl,rfl,rfl,⟨Whole.new' _ _ _ _ (by simp),HS.out.below (b4 _),HLE.out.below (b2 _),(MapAt.made w3).below ((Below.refl _ _).alloc (Nat.le_refl _) _),fun x hx=>by simp at hx,⟨rfl,.inl ⟨rfl,rfl⟩⟩,rfl,?_,?_,HZ.out,HL.out.below (b4 _) HL.out.lt⟩,?_,b4 _⟩
 ·have:=HLE.out.obj.lt
  have:=HLE.out.map.lt
  simp [Dl,Kh,Zd,Value.ownBlock]
  omega
 ·intro k hk
  have hk':w.heap.size≤k:=by
   have h0:=HL.out.lt
   simp [Dl,Kh,Zd,Value.ownBlock] at hk
   omega
  have h0:=HL.out.lt
  exact ⟨fun hf=>by have:=hS k hf;omega,by omega⟩
 ·intro k hk
  simp [Dl,Kh,Zd,Value.ownBlock] at hk
  omega
end vo
end Go.Proofs.YtfialjmemcobjaaGreatDoor
