/- A part of the proof. -/
import Derived.Test.YtfialjmemcobjaaGreatDoorPrTyMa
import Derived.Deep.AppendSrc
import Derived.Laws.Externs
import Derived.Laws.NewBlocks
import Derived.Lib.AppendZerosOnto
import Derived.Lib.Overlaps
set_option linter.unusedVariables false
set_option linter.unusedSimpArgs false
namespace Go.Proofs.YtfialjmemcobjaaGreatDoor
namespace tr
open Go.RowKit er
theorem Row.of {w:World} {g c k:Nat} {t:TypeId} {xs:List Value} {cs:Array Value} (h:Whole w g t cs) (h1:c * k≤cs.size) (h2:c≤maxLen) (h3:xs.length≤c * k) (h4:∀j,j < xs.length→cs[j]? =xs[j]?):Row w g c k t xs:=by
 refine ⟨⟨cs,h,h1,?_⟩,h2,h3⟩
 refine List.ext_getElem? fun j=>?_
 rw [List.getElem?_take]
 by_cases hj:j < xs.length
 ·rw [if_pos hj,←h4 j hj];simp
 ·rw [if_neg hj,List.getElem?_eq_none (by omega)]
end tr
namespace tr
open Go.RowKit er
end tr
namespace tr
open Go.RowKit er
end tr
namespace tr
open Go.RowKit er
theorem Qjc {α:Type} {l:List α} {j:Nat} {x:α} (h1:l[j]? =some x):l=l.take j++[x]++l.drop (j+1)∧(l.take j).length=j:=by
 obtain ⟨i1,e1⟩:=List.getElem?_eq_some_iff.1 h1
 refine ⟨?_,by rw [List.length_take];omega⟩
 have a1:l.drop j=x::l.drop (j+1):=by rw [←e1];exact List.drop_eq_getElem_cons i1
 conv=>lhs;rw [←List.take_append_drop j l,a1]
 simp
theorem Qgd {h:Nat} (ks:List (Nd h)) (s:Int) (h1:1≤ks.length):under ks s < ks.length:=by
 have:=(Cm ks s (ks.length - 1)).1
 have e:under ks s=Ub ks s (ks.length - 1):=rfl
 omega
theorem Row.exts {w:World} {g c:Nat} {l:List Ext} (h:Row w g c 4 255 (Qz l)):ExtsAt w (.slice (some ⟨g,0,none⟩) l.length c) l:=⟨_,c,rfl,fun _=>⟨g,0,rfl,fun j e he=>by
  obtain ⟨k0,k1,k2,k3⟩:=Kb l j e he
  simp only [Nat.zero_add]
  exact ⟨h.cell k0,h.cell k1,h.cell k2,h.cell k3⟩⟩⟩
def TrAt (w:World) (F:List Nat) (p:Nat):Tree→Prop
 |.no=>F=[p]∧Whole w p 228 #[.nilIface]
 |.top h n=>∃F' v,F=p::F'∧Whole w p 228 #[v]∧Qc9 w F' v n∧p∉F'
def Oe (w:World) (F:List Nat) (p:Nat) (T':Tree) (w':World):Prop:=∃F',TrAt w' F' p T'∧Mv (fun k=>k∈F) w (fun k=>k∈F') w'
theorem TrAt.keep {G:Nat→Prop} {w w':World} {F:List Nat} {p:Nat} {T:Tree} (h:TrAt w F p T) (hk:Keep G w w') (hG:∀k∈F,¬G k):TrAt w' F p T:=by
 cases T with
 |no=>exact ⟨h.1,h.2.keep hk (hG p (by rw [h.1];simp))⟩
 |top hh n=>
  obtain ⟨F',v,rfl,h2,h3,h4⟩:=h
  exact ⟨F',v,rfl,h2.keep hk (hG p (by simp)),⟨h3.at_.keep hk (fun k hkm=>hG k (by simp [hkm])),h3.nd⟩,h4⟩
theorem TrAt.lt {w:World} {F:List Nat} {p:Nat} {T:Tree} (h:TrAt w F p T):∀k∈F,k < w.heap.size:=by
 cases T with
 |no=>intro k hk;rw [h.1] at hk;rw [List.mem_singleton.1 hk];exact h.2.lt
 |top hh n=>
  obtain ⟨F',v,rfl,h2,h3,h4⟩:=h
  intro k hk
  rcases List.mem_cons.1 hk with rfl|hk
  ·exact h2.lt
  ·exact h3.at_.lt k hk
theorem Qbt {w w5 w6:World} {F:List Nat} {p:Nat} {v:Value} {F':List Nat} {h:Nat} {n:Nd h} {v':Value} (hp:Whole w5 p 228 #[v]) (hn:Qc9 w5 F' v' n) (hpn:p∉F') (hmv:Mv (fun k=>k∈F) w (fun k=>k∈p::F') w5) (hw:w6=w5.setCell ⟨p,0,none⟩ v'):Oe w F p (.top h n) w6:=by
 subst hw
 have hk:Keep (fun k=>k=p) w5 (w5.setCell ⟨p,0,none⟩ v'):=Keep.set1 w5 p 0 v'
 refine ⟨p::F',⟨F',v',rfl,?_,⟨hn.at_.keep hk (fun k hkm e=>hpn (e▸hkm)),hn.nd⟩,hpn⟩,⟨hmv.keep.trans (hk.mono (G:=fun k=>k∈p::F') (fun k _ e=>by have e':k=p:=e;rw [e'];exact List.mem_cons_self)) hmv.sub,hmv.sub⟩⟩
 have:=hp.set 0 v'
 simpa using this
set_option maxHeartbeats 4000000 in
set_option maxRecDepth 100000 in
theorem Qcq (w:World) (F:List Nat) (p:Nat) (e:Ext) (ht:TrAt w F p .no):Calls Tryz.prog 273 #[.pointer (some ⟨p,0,none⟩),e.val] w fun x w'=>x= .returned (.tuple #[])∧Oe w F p (Tree.no.put e) w':=by
 obtain ⟨rfl,hp⟩:=ht
 have hpl:=hp.lt
 have c0:=hp.cell 0
 have z0:=hp.fz 0
 simp at c0
 have hHR:Hid (Tree.no.put e= .top 0 (mkL (-1) [e])):=rfl
 rw [hHR.out]
 obtain ⟨f,en,k,t⟩:=e
 have hpb:p≠w.heap.size:=by omega
 have hpb1:p≠w.heap.size+1:=by omega
 have hpb2:p≠w.heap.size+1+1:=by omega
 have hpb3:p≠w.heap.size+2:=by omega
 have HEND:Hid (∀w5 o,w5=((w.alloc o).alloc (.cells #[.int .i64 f,.int .i64 en,.int .i64 k,.int .i64 t] 255)).alloc (.cells #[.int .i64 (-1),.slice (some ⟨w.heap.size+1,0,none⟩) 1 1] 350)→Oe w [p] p (.top 0 (mkL (-1) [⟨f,en,k,t⟩])) (w5.setCell ⟨p,0,none⟩ (.iface 348 (.pointer (some ⟨w.heap.size+2,0,none⟩))))):=by
  intro w5 o h5
  have k1:Keep (fun _=>False) w w5:=by rw [h5];exact (((Keep.refl _ _).alloc _).alloc _).alloc _
  have b1:Whole w5 (w.heap.size+1) 255 #[.int .i64 f,.int .i64 en,.int .i64 k,.int .i64 t]:=by
   rw [h5]
   exact (Whole.new' (w.alloc o) _ _ (w.heap.size+1) (by simp)).alloc _
  have b2:Whole w5 (w.heap.size+2) 350 #[.int .i64 (-1),.slice (some ⟨w.heap.size+1,0,none⟩) 1 1]:=by
   rw [h5]
   exact Whole.new' _ _ _ (w.heap.size+2) (by simp)
  have hrow:Row w5 (w.heap.size+1) 1 4 255 (Qz [⟨f,en,k,t⟩]):=Row.of b1 (by simp) (by unfold maxLen;omega) (by simp [Xw]) (fun j hj=>by simp [Qz,Ext.cells])
  have hn:Qc9 w5 [w.heap.size+2,w.heap.size+1] (Zl 0 (w.heap.size+2)) (mkL (-1) [⟨f,en,k,t⟩]):=⟨P6 (c:=1) ⟨b2,hrow⟩,by simp⟩
  refine Qbt (v':= .iface 348 (.pointer (some ⟨w.heap.size+2,0,none⟩))) (hp.keep k1 (fun h=>h)) hn (by simp;omega) ⟨k1.mono (fun _ _ h=>h.elim),fun x hx=>?_⟩ rfl
  simp only [List.mem_cons,List.not_mem_nil,or_false] at hx ⊢
  rcases hx with rfl|rfl|rfl
  ·exact .inl rfl
  ·exact .inr (by omega)
  ·exact .inr (by omega)
 have qa1:∀o,(w.alloc o).cell? ⟨p,0,none⟩=some .nilIface:=fun o=>(hp.alloc o).cell 0
 have qa3:∀o o2 o3,(((w.alloc o).alloc o2).alloc o3).cell? ⟨p,0,none⟩=some .nilIface:=fun o o2 o3=>(((hp.alloc o).alloc o2).alloc o3).cell 0
 have qf3:∀o o2 o3,(((w.alloc o).alloc o2).alloc o3).frozen? ⟨p,0,none⟩=false:=fun o o2 o3=>(((hp.alloc o).alloc o2).alloc o3).fz 0
 clear hp hHR hpl c0 z0
 show Calls Tryz.prog 273 #[.pointer (some ⟨p,0,none⟩),.agg #[.int .i64 f,.int .i64 en,.int .i64 k,.int .i64 t]] w _
 go_enter Tryz.func273,Tryz.ntmps273
 go_wp2_with fail
 exact bodyPost_ret (v:= .tuple #[]) (by simp [results,Tryz.results273,go_sem]) rfl ⟨rfl,HEND.out _ _ rfl⟩
end tr
namespace tr
open Go.RowKit er
end tr
namespace tr
open Go.RowKit er
structure Hand (g:Nat) (lb:Array Value) (gd:Ext→Bool) (S:List Ext→World→Prop) (G:Nat→Prop) (w0:World):Prop where
 eg:∀args w,(callFunc g args).run Tryz.prog w= .ok (.enter g args) w
 call:∀done e w,done.length < 16777216→Qf e=true→S done w→Calls Tryz.prog g (#[e.val]++lb) w fun x w'=>x= .returned (.bool (gd e))∧S (done++[e]) w'
 below:∀done w w',S done w→Below w.heap.size w w'→S done w'
 keep:∀done w,S done w→Keep G w0 w
def Gd (s:Int):{h:Nat}→Nd h→Prop
 |0,n=>∀e∈n.l,Qf e=true
 |_+1,n=>Qg (Qm n.ks) s=Qg (Qm (n.ks.drop (under n.ks s))) s∧∀k∈n.ks,Gd s k
theorem Qkz (s:Int):∀{h:Nat} (n:Nd h),Kw n→Chk (flat n)→Gd s n
 |0,n,_,hc=>hc.one
 |h+1,n,hk,hc=>by
  refine ⟨Qzi (h:=h) (s:=s) hk hc,fun k hm=>Qkz s k (hk k hm).2 ?_⟩
  obtain ⟨P,Q,e⟩:=List.append_of_mem hm
  have:Chk (Qm n.ks):=hc
  rw [e,Kq,Q8] at this
  exact this.right.left
theorem Sb {h:Nat} {ks:List (Nd h)} {s:Int} (hf:∀k∈ks,s < Qb k):∀m,m < ks.length→Ub ks s m=0
 |0,_=>rfl
 |m+1,hm=>by
  unfold Ub
  have hd:ks.getD (m+1) (dft h)=ks[m+1]:=by rw [List.getD_eq_getElem?_getD,List.getElem?_eq_getElem hm];rfl
  rw [hd,if_neg (by have:=hf _ (List.getElem_mem hm);omega)]
  exact Sb hf m (by omega)
theorem Qip:∀{h:Nat} (n:Nd h),(∀e∈flat n,Qf e=true)→Kw n→Gd (-1) n∧(1≤n.size→0≤Qb n)
 |0,n,ho,_=>⟨ho,fun h1=>by
  have h1':1≤(Nd.l n).length:=h1
  have ho':∀e∈Nd.l n,Qf e=true:=ho
  show 0≤(match Nd.l n with|[]=>(0:Int)|e::_=>e.fr)
  cases hl:Nd.l n with
  |nil=>simp
  |cons e r=>exact (Qy (ho' e (by rw [hl];simp))).1⟩
 |h+1,n,ho,hk=>by
  have hall:∀k∈n.ks,Gd (-1) k∧0≤Qb k:=fun k hm=>by
   obtain ⟨g1,g2⟩:=Qip k (fun e he=>ho e (by
    show e∈Qm n.ks
    obtain ⟨P,Q,e'⟩:=List.append_of_mem hm
    rw [e',Kq,Q8]
    simp [he])) (hk k hm).2
   exact ⟨g1,g2 (by have:=(hk k hm).1;omega)⟩
  refine ⟨⟨?_,fun k hm=>(hall k hm).1⟩,fun h1=>?_⟩
  ·have:under n.ks (-1)=0:=by
    unfold under
    cases hn:n.ks with
    |nil=>rfl
    |cons x r=>exact Sb (fun k hm=>by have:=(hall k (by rw [hn];exact hm)).2;omega) _ (by simp)
   rw [this,List.drop_zero]
  ·show 0≤(match n.ks with|[]=>(0:Int)|k::_=>Qb k)
   cases hn:n.ks with
   |nil=>simp
   |cons x r=>exact (hall x (by rw [hn];simp)).2
def Qxj (h g:Nat) (lb:Array Value) (gd:Ext→Bool) (S:List Ext→World→Prop) (G:Nat→Prop) (w0:World):Prop:=
 ∀(F:List Nat) (v:Value) (n:Nd h) (s:Int) (done:List Ext) (w:World),NdAt w0 F v n→(∀k∈F,¬G k)→Kw n→1≤n.size→n.size≤100→Gd s n→done.length+(flat n).length≤16777216→S done w→
  Calls Tryz.prog 259 #[v,.int .i64 s,.func (.func g) #[] lb] w fun x w'=>x= .returned (.bool ((Qg (flat n) s).all gd))∧S (done++handed gd (Qg (flat n) s)) w'
theorem Qgv {l:List Ext} (h:Chk l) (j:Nat):Chk (l.take j):=⟨fun e he=>h.one e (List.mem_of_mem_take he),h.ord.sublist (List.take_sublist _ _)⟩
theorem Nz {l:List Ext} {s:Int} {j:Nat} {e:Ext} (h:l[j]? =some e):Qg (l.take (j+1)) s=Qg (l.take j) s++(if s < e.end_ then [e] else []):=by
 obtain ⟨hj,he⟩:=List.getElem?_eq_some_iff.1 h
 rw [List.take_succ_eq_append_getElem hj,he,J3]
 congr 1
 unfold Qg
 by_cases hs:s < e.end_ <;> simp [hs]
theorem Qza {l:List Ext} {s:Int} {j:Nat} {e:Ext} (h:l[j]? =some e) (hs:s < e.end_):∃r,Qg l s=Qg (l.take j) s++e::r:=by
 obtain ⟨e1,_⟩:=(show l=l.take j++e::l.drop (j+1)∧True by
  obtain ⟨hj,he⟩:=List.getElem?_eq_some_iff.1 h
  refine ⟨?_,trivial⟩
  have a1:l.drop j=e::l.drop (j+1):=by rw [←he];exact List.drop_eq_getElem_cons hj
  rw [←a1,List.take_append_drop])
 refine ⟨Qg (l.drop (j+1)) s,?_⟩
 conv=>lhs;rw [e1]
 rw [J3]
 congr 1
 unfold Qg
 simp [hs]
set_option maxHeartbeats 4000000 in
set_option maxRecDepth 100000 in
theorem Qua (g:Nat) (lb:Array Value) (gd:Ext→Bool) (S:List Ext→World→Prop) (G:Nat→Prop) (w0:World) (H:Hand g lb gd S G w0) (b q c:Nat) (a:Int) (l:List Ext) (s:Int) (done:List Ext) (w:World) (hl:LfAt w0 b q c a l) (hb:¬G b) (hq:¬G q) (hc:∀e∈l,Qf e=true) (hm:l.length≤100) (hN:done.length+l.length≤16777216) (hS:S done w):
  Calls Tryz.prog 259 #[Zl 0 b,.int .i64 s,.func (.func g) #[] lb] w fun x w'=>x= .returned (.bool ((Qg l s).all gd))∧S (done++handed gd (Qg l s)) w':=by
 have eg:=H.eg
 have HH:=Ql4 H
 have HL:Hid (∀done wq,S done wq→LfAt wq b q c a l):=fun done wq h=>hl.keep (H.keep done wq h) hb hq
 have HC:=Ql4 hc
 obtain ⟨n,hn⟩:∃n,l.length=n:=⟨_,rfl⟩
 have HN:=Ql4 hn
 have c1:w.cell? ⟨b,1,none⟩=some (.slice (some ⟨q,0,none⟩) n c):=by have:=(HL.out done w hS).1.cell 1;rw [hn] at this;exact this
 have HS0:=Ql4 hS
 rw [hn] at hm hN
 have HLEN:Hid (∀j,(Qg (l.take j) s).length≤j):=fun j=>Nat.le_trans (List.length_filter_le _ _) (by rw [List.length_take];omega)
 have hta:=Qbi
 have htb:=Qk7
 obtain ⟨PL,hPL⟩:∃PL,Qg l s=PL:=⟨_,rfl⟩
 have HPL:=Ql4 hPL
 rw [hPL]
 clear hPL hn hl hb hq hc hS H
 show Calls Tryz.prog 259 #[.iface 348 (.pointer (some ⟨b,0,none⟩)),.int .i64 s,.func (.func g) #[] lb] w _
 go_enter Tryz.func259,Tryz.ntmps259
 go_wp2_with fail
 go_loopw [9,22] (fun s9 i wr=>∃(j:Nat),j≤n∧i= .int .i64 j∧Hid ((Qg (l.take j) s).all gd=true)∧Hid (S (done++Qg (l.take j) s) wr)) (fun _ i _=>n - (intOf i).toNat)
 case atStart=>exact ⟨0,Nat.zero_le _,rfl,rfl,by show S _ _;simpa [Qg] using HS0.out⟩
 case round=>
  obtain ⟨j,hj,rfl,HA,HS⟩:=hrel
  by_cases hlt:j < n
  ·have hji:(j:Int) < (n:Int):=by omega
   obtain ⟨e,hx⟩:∃e,l[j]? =some e:=⟨l[j]'(by have:=HN.out;omega),List.getElem?_eq_getElem (by have:=HN.out;omega)⟩
   have HX:=Ql4 hx
   obtain ⟨k0,k1,k2,k3⟩:=Kb l j e hx
   have hrow:=(HL.out _ wr HS.out).2
   have c0:=hrow.cell k0
   have c1':=hrow.cell k1
   have c2:=hrow.cell k2
   have c3:=hrow.cell k3
   have ho:=HC.out e (List.mem_of_getElem? hx)
   have HO:=Ql4 ho
   obtain ⟨o1,o2,o3,o4⟩:=Qy ho
   have HT1:Hid (s < e.fr+e.n→Qg (l.take (j+1)) s=Qg (l.take j) s++[e]):=fun h=>by rw [Nz hx,if_pos (show s < e.end_ from h)]
   have HT0:Hid (¬s < e.fr+e.n→Qg (l.take (j+1)) s=Qg (l.take j) s):=fun h=>by rw [Nz hx,if_neg (show ¬s < e.end_ from h),List.append_nil]
   have HSP:Hid (s < e.fr+e.n→∃r,Qg l s=Qg (l.take j) s++e::r):=fun h=>Qza hx h
   obtain ⟨f,en,k,t⟩:=e
   simp only at c0 c1' c2 c3 o1 o2 o3
   have HA0:Hid (S (done++Qg (l.take j) s) (wr.alloc (.cells #[.int .i64 f,.int .i64 en,.int .i64 k,.int .i64 t] 255))):=HH.out.below _ _ _ HS.out ((Below.refl _ _).alloc (Nat.le_refl _) _)
   clear hx k0 k1 k2 k3 hrow ho o4
   by_cases hs:s < f+en
   ·have HCL:=Ql4 (HH.out.call _ _ _ (by rw [List.length_append];have:=HLEN.out j;omega) HO.out HA0.out)
    simp only [Ext.val] at HCL
    cases hg:gd ⟨f,en,k,t⟩
    ·have HR:Hid (PL.all gd=false∧done++handed gd PL=done++Qg (l.take j) s++[⟨f,en,k,t⟩]):=by
      obtain ⟨r,hr⟩:=HSP.out hs
      show _∧_
      rw [←HPL.out,hr,Ut,if_pos HA.out]
      refine ⟨by simp [hg],?_⟩
      unfold handed
      rw [if_neg (by simp [hg])]
      simp
     rw [hg] at HCL
     clear hg
     go_wp2_with fail
     refine (HCL.out).mono ?_
     rintro e w5 ⟨rfl,hs5⟩
     have HS5:=Ql4 hs5
     clear hs5
     go_wp2_with fail
     go_ret
     exact ⟨by rw [HR.out.1];rfl,by rw [HR.out.2];exact HS5.out⟩
    ·have HA2:Hid ((Qg (l.take (j+1)) s).all gd=true):=by show _=_;rw [HT1.out hs,List.all_append,HA.out];simp [hg]
     rw [hg] at HCL
     clear hg
     go_wp2_with fail
     refine (HCL.out).mono ?_
     rintro e w5 ⟨rfl,hs5⟩
     have HS5:Hid (S (done++Qg (l.take (j+1)) s) w5):=by show S _ _;rw [HT1.out hs,←List.append_assoc];exact hs5
     clear hs5
     go_wp2_with fail
     go_roundw
     case rel=>exact ⟨j+1,by omega,by go_num,HA2,HS5⟩
     case measure=>simp [intOf];omega
   ·have HA2:Hid ((Qg (l.take (j+1)) s).all gd=true):=by show _=_;rw [HT0.out hs];exact HA.out
    have HS5:Hid (S (done++Qg (l.take (j+1)) s) (wr.alloc (.cells #[.int .i64 f,.int .i64 en,.int .i64 k,.int .i64 t] 255))):=by show S _ _;rw [HT0.out hs];exact HA0.out
    go_wp2_with fail
    go_roundw
    case rel=>exact ⟨j+1,by omega,by go_num,HA2,HS5⟩
    case measure=>simp [intOf];omega
  ·obtain rfl:j=n:=by omega
   have hfull:l.take j=l:=by rw [←HN.out];exact List.take_length
   rw [hfull,HPL.out] at HA HS
   have HR:Hid (handed gd PL=PL):=Yi HA.out
   go_wp2_with fail
   go_ret
   exact ⟨by rw [HA.out];rfl,by rw [HR.out];exact HS.out⟩
theorem Qj5:∀(l:List Ext) (a:Int),Chk l→0≤a→a≤16777216→(∀e∈l,a≤e.fr)→(l.length:Int)≤16777216 - a
 |[],a,_,h0,h1,_=>by simp;omega
 |e::l,a,hc,h0,h1,hl=>by
  have ho:=Qy (hc.one e (by simp))
  have hp:=List.pairwise_cons.1 hc.ord
  have he:e.end_=e.fr+e.n:=rfl
  have:=Qj5 l e.end_ hc.tail (by omega) (by omega) (fun x hx=>(hp.1 x hx).1)
  have:=hl e (by simp)
  simp only [List.length_cons]
  omega
theorem U4 {l:List Ext} (h:Chk l):l.length≤16777216:=by
 have:=Qj5 l 0 h (by omega) (by omega) (fun e he=>(Qy (h.one e he)).1)
 omega
theorem Qzd {h:Nat} {ks:List (Nd h)} {s:Int} {j:Nat} {k:Nd h} (hk:ks[j]? =some k):Qg (Qm (ks.take (j+1))) s=Qg (Qm (ks.take j)) s++Qg (flat k) s:=by
 obtain ⟨hj,he⟩:=List.getElem?_eq_some_iff.1 hk
 rw [List.take_succ_eq_append_getElem hj,he,Kq,J3]
 simp
theorem Vq {h:Nat} {ks:List (Nd h)} {s:Int} {j:Nat} {k:Nd h} (hk:ks[j]? =some k):∃r,Qg (Qm ks) s=Qg (Qm (ks.take j)) s++(Qg (flat k) s++r):=by
 obtain ⟨hj,he⟩:=List.getElem?_eq_some_iff.1 hk
 refine ⟨Qg (Qm (ks.drop (j+1))) s,?_⟩
 have a1:ks.drop j=k::ks.drop (j+1):=by rw [←he];exact List.drop_eq_getElem_cons hj
 conv=>lhs;rw [←List.take_append_drop j ks,a1]
 rw [Kq,J3,Q8,J3]
set_option maxHeartbeats 4000000 in
set_option maxRecDepth 100000 in
theorem Qkk (h g:Nat) (lb:Array Value) (gd:Ext→Bool) (S:List Ext→World→Prop) (G:Nat→Prop) (w0:World) (H:Hand g lb gd S G w0) (IH:Qxj h g lb gd S G w0) (b q c:Nat) (a:Int) (ds:List (Kd h)) (s:Int) (done:List Ext) (w:World) (hin:Qkv w0 b q c a ds) (hG:∀k∈b::q::dsF ds,¬G k)
  (hk:Kw (mkI a (ds.map fun d=>d.2.2))) (h1:1≤ds.length) (hm:ds.length≤100) (hc:Gd s (mkI a (ds.map fun d=>d.2.2))) (hN:done.length+(Qm (ds.map fun d=>d.2.2)).length≤16777216) (hS:S done w):
  Calls Tryz.prog 259 #[Zl (h+1) b,.int .i64 s,.func (.func g) #[] lb] w fun x w'=>x= .returned (.bool ((Qg (Qm (ds.map fun d=>d.2.2)) s).all gd))∧S (done++handed gd (Qg (Qm (ds.map fun d=>d.2.2)) s)) w':=by
 have HH:=Ql4 H
 have HL:Hid (∀done wq,S done wq→Qkv wq b q c a ds):=fun done wq h=>⟨hin.1.keep (H.keep done wq h) (hG b (by simp)),hin.2.1.keep (H.keep done wq h) (hG q (by simp)),O8 (H.keep done wq h) hin.2.2 (fun k hk=>hG k (by simp [hk]))⟩
 obtain ⟨u,hu⟩:∃u,under (ds.map fun d=>d.2.2) s=u:=⟨_,rfl⟩
 have hul:u < ds.length:=by rw [←hu];have:=Qgd (ds.map fun d=>d.2.2) s (by simpa using h1);simpa using this
 have hSd:S done w.drew:=H.below _ _ _ hS (Below.drew (Below.refl _ _))
 have HUN:Hid (Calls Tryz.prog 299 #[.pointer (some ⟨b,0,none⟩),.int .i64 s] w.drew fun e w'=>e= .returned (.int .i64 u)∧w.drew=w'):=by
  have:=Qxp w.drew h b _ _ s (Vw (HL.out _ _ hSd)) hk (by show 1≤(ds.map _).length;simpa using h1) (by show (ds.map _).length≤100;simp;omega)
  rw [show under (mkI a (ds.map fun d=>d.2.2)).ks s=u from hu] at this
  exact this
 have hpu:Qg (Qm (ds.map fun d=>d.2.2)) s=Qg (Qm ((ds.map fun d=>d.2.2).drop (under (ds.map fun d=>d.2.2) s))) s:=hc.1
 rw [hu] at hpu
 obtain ⟨ks,hks⟩:∃ks,(ds.map fun d=>d.2.2).drop u=ks:=⟨_,rfl⟩
 rw [hks] at hpu
 obtain ⟨n,hn⟩:∃n,ds.length=n:=⟨_,rfl⟩
 have HLN:Hid (∀j k,ks[j]? =some k→(done++Qg (Qm (ks.take j)) s).length+(flat k).length≤16777216):=by
  intro j k hk2
  have e1:(ds.map fun d=>d.2.2)=(ds.map fun d=>d.2.2).take u++ks:=by rw [←hks,List.take_append_drop]
  obtain ⟨jl,je⟩:=List.getElem?_eq_some_iff.1 hk2
  have e2:ks=ks.take j++k::ks.drop (j+1):=by
   have a1:ks.drop j=k::ks.drop (j+1):=by rw [←je];exact List.drop_eq_getElem_cons jl
   rw [←a1,List.take_append_drop]
  have e3:(Qg (Qm (ks.take j)) s).length≤(Qm (ks.take j)).length:=List.length_filter_le _ _
  rw [e1,e2] at hN
  simp only [Kq,Q8,List.length_append] at hN ⊢
  omega
 have hkl:ks.length=n - u:=by rw [←hks,List.length_drop,List.length_map,hn]
 have hcap:n≤c:=by have:=hin.2.1.fit;rw [List.length_map] at this;omega
 have hcm:=hin.2.1.cap
 unfold maxLen at hcm
 have HKD:Hid (∀j,j < n - u→∃(d:Kd h) (kb:Nat),ks[j]? =some d.2.2∧(∀done wq,S done wq→wq.cell? ⟨q,u+j,none⟩=some (.iface (ndT h) (.pointer (some ⟨kb,0,none⟩))))∧∀done wq,done.length+(flat d.2.2).length≤16777216→S done wq→Calls Tryz.prog 259 #[.iface (ndT h) (.pointer (some ⟨kb,0,none⟩)),.int .i64 s,.func (.func g) #[] lb] wq fun x w'=>x= .returned (.bool ((Qg (flat d.2.2) s).all gd))∧S (done++handed gd (Qg (flat d.2.2) s)) w'):=by
  intro j hj
  have hjl:u+j < ds.length:=by omega
  have hd:=List.getElem?_eq_getElem hjl
  have hmem:=List.getElem_mem hjl
  obtain ⟨kb,kF,f1,f2⟩:=(hin.2.2 _ hmem).form
  have hkw:Wf (ds[u+j]'hjl).2.2:=hk.mem (List.mem_map.2 ⟨_,hmem,rfl⟩)
  have hkc:Gd s (ds[u+j]'hjl).2.2:=hc.2 _ (List.mem_map.2 ⟨_,hmem,rfl⟩)
  refine ⟨ds[u+j]'hjl,kb,?_,fun done wq h=>?_,fun done wq hl h=>?_⟩
  ·rw [←hks,List.getElem?_drop,List.getElem?_map,hd];rfl
  ·rw [←f2]
   exact (HL.out _ _ h).2.1.cell (by rw [List.getElem?_map,hd];rfl)
  ·rw [←f2]
   exact IH _ _ _ s done wq (hin.2.2 _ hmem) (fun k hk=>hG k (List.mem_cons_of_mem _ (List.mem_cons_of_mem _ (Xz hmem hk)))) hkw.2 (by have:=hkw.1;omega) (by have:=hkw.1;omega) hkc hl h
 have hun:u < n:=by omega
 obtain ⟨m,hmm⟩:∃m,n - u=m:=⟨_,rfl⟩
 have c1:w.cell? ⟨b,1,none⟩=some (.slice (some ⟨q,0,none⟩) n c):=by have:=(HL.out done w hS).1.cell 1;rw [hn] at this;exact this
 have HS0:=Ql4 hSd
 have hta:=Sr
 have htb:=Qba
 obtain ⟨PL,hPL⟩:∃PL,Qg (Qm (ds.map fun d=>d.2.2)) s=PL:=⟨_,rfl⟩
 rw [hPL]
 have HPL:Hid (Qg (Qm ks) s=PL):=by show _=_;rw [←hpu];exact hPL
 have HKL:=Ql4 hkl
 have hcu:¬(c=u):=by omega
 have hu1:(u:Int)≤(n:Int):=by omega
 have hu2:(0:Int)≤(u:Int):=by omega
 have hu3:u≤n:=by omega
 have hu4:(n:Int)≤100:=by omega
 rw [hmm] at HKD HKL
 have HMM:=Ql4 hmm
 have hmi:(m:Int)≤100:=by omega
 have hmi2:n - u=m:=hmm
 clear hpu hks hkl hPL hmm hn hun hul hu hSd hcap hin hG hk h1 hm hc hN hS H IH
 show Calls Tryz.prog 259 #[.iface 297 (.pointer (some ⟨b,0,none⟩)),.int .i64 s,.func (.func g) #[] lb] w _
 go_enter Tryz.func259,Tryz.ntmps259
 go_wp2_with fail
 go_region_held3 (fun w'=>w'.cell? ⟨b,1,none⟩=some (.slice (some ⟨q,0,none⟩) n c)∧w'=w.drew) (first|exact ⟨c1,rfl⟩|exact ⟨c1,trivial⟩) ((go_at_call 299;(with_reducible refine (HUN.out).mono ?_);rintro e w5 ⟨rfl,rfl⟩))
 go_wp2_with fail
 go_loopw [12,52] (fun s12 i wr=>∃(j:Nat),j≤m∧i= .int .i64 j∧Hid ((Qg (Qm (ks.take j)) s).all gd=true)∧Hid (S (done++Qg (Qm (ks.take j)) s) wr)) (fun _ i _=>m - (intOf i).toNat)
 case atStart=>exact ⟨0,Nat.zero_le _,rfl,rfl,by show S _ _;simpa [Qg] using HS0.out⟩
 case round=>
  obtain ⟨j,hj,rfl,HA,HS⟩:=hrel
  by_cases hlt:j < m
  ·have hji:(j:Int) < (m:Int):=by omega
   obtain ⟨d,kb,d1,d2,d3⟩:=HKD.out j hlt
   have c2:=d2 _ _ HS.out
   have HCL:=Ql4 (d3 _ _ (HLN.out j _ d1) HS.out)
   have HT:=Ql4 (Qzd (s:=s) d1)
   have HSP:=Ql4 (Vq (s:=s) d1)
   clear d1 d2 d3
   cases hg:(Qg (flat d.2.2) s).all gd
   ·have HR:Hid (PL.all gd=false∧done++handed gd PL=done++Qg (Qm (ks.take j)) s++handed gd (Qg (flat d.2.2) s)):=by
     obtain ⟨r,hr⟩:=HSP.out
     show _∧_
     rw [←HPL.out,hr,Ut,if_pos HA.out,Ut,if_neg (by rw [hg];decide)]
     refine ⟨?_,by rw [List.append_assoc]⟩
     rw [List.all_append,List.all_append,hg];simp
    rw [hg] at HCL
    clear hg
    go_wp2_with fail
    with_reducible refine (HCL.out).mono ?_
    rintro e w5 ⟨rfl,hs5⟩
    have HS5:=Ql4 hs5
    clear hs5
    go_wp2_with fail
    go_ret
    exact ⟨by rw [HR.out.1];rfl,by rw [HR.out.2];exact HS5.out⟩
   ·have HA2:Hid ((Qg (Qm (ks.take (j+1))) s).all gd=true):=by show _=_;rw [HT.out,List.all_append,HA.out,hg];rfl
    have HHA:Hid (handed gd (Qg (flat d.2.2) s)=Qg (flat d.2.2) s):=Yi hg
    rw [hg] at HCL
    clear hg
    go_wp2_with fail
    with_reducible refine (HCL.out).mono ?_
    rintro e w5 ⟨rfl,hs5⟩
    have HS5:Hid (S (done++Qg (Qm (ks.take (j+1))) s) w5):=by show S _ _;rw [HT.out,←List.append_assoc];rw [HHA.out] at hs5;exact hs5
    clear hs5
    go_wp2_with fail
    go_roundw
    case rel=>exact ⟨j+1,by omega,by go_num,HA2,HS5⟩
    case measure=>simp [intOf];omega
  ·obtain rfl:j=m:=by omega
   have hfull:ks.take j=ks:=by rw [←HKL.out];exact List.take_length
   rw [hfull,HPL.out] at HA HS
   have HR:Hid (handed gd PL=PL):=Yi HA.out
   go_wp2_with fail
   go_ret
   exact ⟨by rw [HA.out];rfl,by rw [HR.out];exact HS.out⟩
theorem Wq (g:Nat) (lb:Array Value) (gd:Ext→Bool) (S:List Ext→World→Prop) (G:Nat→Prop) (w0:World) (H:Hand g lb gd S G w0):∀h,Qxj h g lb gd S G w0
 |0=>fun F v n s done w hn hG hk h1 h100 hc hN hS=>by
  obtain ⟨b,q,c,rfl,rfl,hl⟩:=X4 hn
  exact Qua g lb gd S G w0 H b q c _ _ s done w hl (hG b (by simp)) (hG q (by simp)) hc h100 hN hS
 |h+1=>fun F v n s done w hn hG hk h1 h100 hc hN hS=>by
  obtain ⟨b,q,c,ds,rfl,rfl,hl,e⟩:=Jv hn
  have hlen:n.ks.length=ds.length:=by rw [e,List.length_map]
  have h1':1≤n.ks.length:=h1
  have h8':n.ks.length≤100:=h100
  have hf:flat n=Qm (ds.map fun d=>d.2.2):=by show Qm n.ks=_;rw [e]
  rw [hf] at hN ⊢
  exact Qkk h g lb gd S G w0 H (Wq g lb gd S G w0 H h) b q c _ ds s done w hl hG (fun k hm=>hk k (by rw [e];exact hm)) (by omega) (by omega) (by have hc1:=hc.1;have hc2:=hc.2;rw [e] at hc1 hc2;exact ⟨hc1,hc2⟩) hN hS
def Tree.Gd (s:Int):Tree→Prop
 |.no=>True
 |.top _ n=>tr.Gd s n
set_option maxHeartbeats 4000000 in
set_option maxRecDepth 100000 in
theorem L6 (g:Nat) (lb:Array Value) (gd:Ext→Bool) (S:List Ext→World→Prop) (G:Nat→Prop) (w0:World) (H:Hand g lb gd S G w0) (F:List Nat) (p:Nat) (T:Tree) (s:Int) (w:World) (ht:TrAt w0 F p T) (hG:∀k∈F,¬G k) (hok:T.Ok) (hc:T.Gd s) (hlen:T.flat.length≤16777216) (hS:S [] w):
  Calls Tryz.prog 208 #[.pointer (some ⟨p,0,none⟩),.int .i64 s,.func (.func g) #[] lb] w fun x w'=>x= .returned (.tuple #[])∧S (handed gd (Qg T.flat s)) w':=by
 have hk:=H.keep _ _ hS
 cases T with
 |no=>
  have c0:=(ht.2.keep hk (hG p (by rw [ht.1];simp))).cell 0
  simp at c0
  have HS:=Ql4 hS
  have HR:Hid (handed gd (Qg Tree.no.flat s)=[]):=rfl
  rw [HR.out]
  clear H ht hG hok hc hS hk
  go_enter Tryz.func208,Tryz.ntmps208
  go_wp2_with fail
  go_end0
  exact ⟨rfl,HS.out⟩
 |top h n=>
  obtain ⟨F',v,rfl,hp,hn,hpn⟩:=ht
  obtain ⟨q1,q2,q3,q4⟩:=hok.parts
  obtain ⟨kb,kF,f1,f2⟩:=hn.at_.form
  have c0:=(hp.keep hk (hG p (by simp))).cell 0
  rw [f2] at c0
  simp at c0
  have hf:=Wq g lb gd S G w0 H h F' v n s [] w hn.at_ (fun k hk=>hG k (by simp [hk])) q1 q3 (by omega) hc (by have h0:(flat n).length≤16777216:=hlen;simpa using h0) hS
  rw [f2] at hf
  simp only [List.nil_append] at hf
  have HF:=Ql4 hf
  obtain ⟨L,hL⟩:∃L,Qg (flat n) s=L:=⟨_,rfl⟩
  have hL2:Qg (Tree.top h n).flat s=L:=hL
  rw [hL] at HF
  rw [hL2]
  clear hf hL hL2 f1 f2 q1 q2 q3 q4 hp hn hpn H hG hok hc hS hk
  go_enter Tryz.func208,Tryz.ntmps208
  go_wp2_with fail
  with_reducible refine HF.out.mono ?_
  rintro e w5 ⟨rfl,hs5⟩
  have HS5:=Ql4 hs5
  clear hs5
  go_wp2_with fail
  go_end0
  exact ⟨rfl,HS5.out⟩
theorem Si (g:Nat) (lb:Array Value) (gd:Ext→Bool) (S:List Ext→World→Prop) (G:Nat→Prop) (w0:World) (H:Hand g lb gd S G w0) (F:List Nat) (p:Nat) (T:Tree) (s:Int) (w:World) (ht:TrAt w0 F p T) (hG:∀k∈F,¬G k) (hok:T.Ok) (hc:Chk T.flat) (hS:S [] w):
  Calls Tryz.prog 208 #[.pointer (some ⟨p,0,none⟩),.int .i64 s,.func (.func g) #[] lb] w fun x w'=>x= .returned (.tuple #[])∧S (handed gd (Qg T.flat s)) w':=by
 refine L6 g lb gd S G w0 H F p T s w ht hG hok ?_ (U4 hc) hS
 cases T with
 |no=>trivial
 |top h n=>exact Qkz s n hok.parts.1 hc
def NearS (w:World) (B pf pt po:Nat) (fr up:Int) (done:List Ext) (wq:World):Prop:=
 Keep (fun _=>False) w wq∧B≤wq.heap.size∧(pf < B∧pt < B∧po < B)∧Whole wq pf 3 #[.int .i64 fr]∧Whole wq pt 3 #[.int .i64 up]∧w.heap.size≤po∧pf≠po∧pt≠po∧∃v,Whole wq po 261 #[v]∧wq.ownsRow B 255 4 v (done.filter (Kg fr up)).length (Qz (done.filter (Kg fr up)))
theorem NearS.below {w:World} {B pf pt po:Nat} {fr up:Int} {done:List Ext} {wq w':World} (h:NearS w B pf pt po fr up done wq) (hb:Below wq.heap.size wq w'):NearS w B pf pt po fr up done w':=by
 obtain ⟨h1,h2,h3,h4,h5,h5b,h5c,h5d,v,h6,h7⟩:=h
 exact ⟨h1.transBelow hb,Nat.le_trans h2 hb.size,h3,h4.below hb h4.lt,h5.below hb h5.lt,h5b,h5c,h5d,v,h6.below hb h6.lt,own_below h7 hb⟩
theorem Qyt (done:List Ext) (e:Ext) (fr up:Int):(done++[e]).filter (Kg fr up)=done.filter (Kg fr up)++(if Kg fr up e=true then [e] else []):=by
 rw [List.filter_append]
 congr 1
 by_cases h:Kg fr up e=true <;> simp [h]
set_option maxHeartbeats 4000000 in
set_option maxRecDepth 100000 in
theorem Qy0 (w:World) (B pf pt po:Nat) (fr up:Int) (done:List Ext) (e:Ext) (wq:World) (hd:done.length < 16777216) (he:Qf e=true) (h:NearS w B pf pt po fr up done wq):
  Calls Tryz.prog 270 (#[e.val]++#[.pointer (some ⟨pt,0,none⟩),.pointer (some ⟨pf,0,none⟩),.pointer (some ⟨po,0,none⟩)]) wq fun x w'=>x= .returned (.bool (decide (e.fr≤up)))∧NearS w B pf pt po fr up (done++[e]) w':=by
 obtain ⟨o1,o2,o3,_⟩:=Qy he
 have hsn:=Qyt done e fr up
 have hfl:(done.filter (Kg fr up)).length≤done.length:=List.length_filter_le _ _
 obtain ⟨L,hL⟩:∃L,done.filter (Kg fr up)=L:=⟨_,rfl⟩
 obtain ⟨f,en,k,t⟩:=e
 simp only at o1 o2 o3
 have hbl:Below wq.heap.size wq (wq.alloc (.cells #[.int .i64 f,.int .i64 en,.int .i64 k,.int .i64 t] 255)):=(Below.refl _ _).alloc (Nat.le_refl _) _
 have hN1:=h.below hbl
 obtain ⟨a1,a2,a3,a4,a5,a5b,a5c,a5d,v,a6,a7⟩:=hN1
 obtain ⟨A,c,rfl⟩:=Qk a7
 have cf:=a4.cell 0
 have ct:=a5.cell 0
 have co:=a6.cell 0
 simp at cf ct co
 show Calls Tryz.prog 270 #[.agg #[.int .i64 f,.int .i64 en,.int .i64 k,.int .i64 t],.pointer (some ⟨pt,0,none⟩),.pointer (some ⟨pf,0,none⟩),.pointer (some ⟨po,0,none⟩)] wq _
 by_cases h1:f≤up
 ·by_cases h2:fr≤f+en
  ·have hnb:Kg fr up ⟨f,en,k,t⟩=true:=by unfold Kg;simp [h1];exact h2
   rw [hnb,if_pos rfl,hL] at hsn
   have hdt:decide (f≤up)=true:=by simpa using h1
   have h1':¬up < f:=by omega
   obtain ⟨i0,hi0,hz0,hz1,hz2⟩:=info_parts Qjm
   have HI0:=Ql4 hi0
   have HZ0:=Ql4 hz0
   have HZ1:=Ql4 hz1
   have HZ2:=Ql4 hz2
   rw [hL] at a7 hfl co a6
   obtain ⟨n,hn⟩:∃n,L.length=n:=⟨_,rfl⟩
   rw [hn] at a7 hfl co a6
   obtain ⟨w1,hw1⟩:∃w1,wq.alloc (.cells #[.int .i64 f,.int .i64 en,.int .i64 k,.int .i64 t] 255)=w1:=⟨_,rfl⟩
   rw [hw1] at a1 a2 a4 a5 a6 a7 cf ct co
   have hbox:Whole w1 wq.heap.size 255 #[.int .i64 f,.int .i64 en,.int .i64 k,.int .i64 t]:=by rw [←hw1];exact Whole.new _ _ _
   obtain ⟨⟨y0,y1,y2,y3⟩,_⟩:=Je hbox
   have HOA:=Ql4 (a7.alloc (.cells #[.int .i64 f,.int .i64 en,.int .i64 k,.int .i64 t] 255))
   have HNW:Hid (∀(j':Nat) (u:Value),([.int .i64 f,.int .i64 en,.int .i64 k,.int .i64 t]:List Value)[j']? =some u→((w1).alloc (.cells #[.int .i64 f,.int .i64 en,.int .i64 k,.int .i64 t] 255)).cell? ((⟨(w1).heap.size,0,none⟩:Addr).add j')=some u):=World.news_of_block (by simpa using heap_alloc_new (w1) (.cells #[.int .i64 f,.int .i64 en,.int .i64 k,.int .i64 t] 255))
   have hone:∀u∈([.int .i64 f,.int .i64 en,.int .i64 k,.int .i64 t]:List Value),u.oneCell'=true:=by simp [Value.oneCell']
   have HONE:=Ql4 hone
   have HSZ2:Hid (B≤((w1).alloc (.cells #[.int .i64 f,.int .i64 en,.int .i64 k,.int .i64 t] 255)).heap.size):=by show _≤_;simp only [World.size_alloc];omega
   have hpo:=a3.2.2
   have HEND:Hid (∀v' w6,w6.ownsRow B 255 4 v' (n+1) (Qz L++[.int .i64 f,.int .i64 en,.int .i64 k,.int .i64 t])→(w1.alloc (.cells #[.int .i64 f,.int .i64 en,.int .i64 k,.int .i64 t] 255)).grownBy w6 (Value.slice A n c).ownBlock→(w6.cell? ⟨po,0,none⟩=some (.slice A n c)∧w6.frozen? ⟨po,0,none⟩=false)∧NearS w B pf pt po fr up (done++[⟨f,en,k,t⟩]) (w6.setCell ⟨po,0,none⟩ v')):=by
    intro v' w6 q1 q2
    have hrow:∀j,(Value.slice A n c).ownBlock=some j→B≤j:=fun j hj=>(a7.lt j hj).1
    have hnr:∀{j},j < B→some j≠(Value.slice A n c).ownBlock:=fun {j} hj e=>by have:=hrow j e.symm;omega
    have b6:=(a6.alloc (.cells #[.int .i64 f,.int .i64 en,.int .i64 k,.int .i64 t] 255)).grown q2 (hnr hpo)
    have b4:=(a4.alloc (.cells #[.int .i64 f,.int .i64 en,.int .i64 k,.int .i64 t] 255)).grown q2 (hnr a3.1)
    have b5:=(a5.alloc (.cells #[.int .i64 f,.int .i64 en,.int .i64 k,.int .i64 t] 255)).grown q2 (hnr a3.2.1)
    have hK6:Keep (fun _=>False) w w6:=by
     have h0:Keep (fun _=>False) w (w1.alloc (.cells #[.int .i64 f,.int .i64 en,.int .i64 k,.int .i64 t] 255)):=a1.alloc _
     exact h0.grown q2 (fun j hj=>.inr (by have:=hrow j hj;omega))
    refine ⟨⟨b6.cell 0,b6.fz 0⟩,?_⟩
    have hkS:Keep (fun j=>j=po) w6 (w6.setCell ⟨po,0,none⟩ v'):=Keep.set1 w6 po 0 v'
    have hs6:=q2.size
    simp only [World.size_alloc] at hs6
    have hv6:∀j,v'.ownBlock=some j→¬(j=po):=fun j hj e=>by have:=(q1.lt j hj).1;omega
    refine ⟨hK6.setCell (p:=⟨po,0,none⟩) (.inr a5b) _,by rw [size_set];omega,a3,b4.keep hkS (by simpa using a5c),b5.keep hkS (by simpa using a5d),a5b,a5c,a5d,v',?_,?_⟩
    ·have:=b6.set 0 v'
     simpa using this
    ·rw [hsn,Kr,List.length_append,hn]
     exact Qj q1 hkS hv6
   clear hone hn hbox hi0 hz0 hz1 hz2 a1 a2 a3 a4 a5 a5b a5c a5d a6 a7 hsn hL hnb hbl h he
   go_enter Tryz.func270,Tryz.ntmps270
   go_wp2_with (at_builtin;go_must (refine wpList_append_own _ rfl (.tmp 17) (.tmp 19) 261 rfl B 255 i0 _ 4 32 Tryz.underlying261 HI0.out HZ0.out HZ1.out HZ2.out rfl (by omega) (.slice A n c) n (Qz L) rfl HOA.out ⟨(w1).heap.size,0,none⟩ 1 1 [.int .i64 f,.int .i64 en,.int .i64 k,.int .i64 t] rfl rfl HNW.out HONE.out (by simp only [maxLen];omega) (by omega) HSZ2.out ?_;intro v2 w6 hown6 hg6 _;obtain ⟨⟨z0,z1⟩,hfin⟩:=HEND.out v2 w6 hown6 hg6;have HFIN:=Ql4 hfin;obtain ⟨A2,c2,e2⟩:=Qk hown6;subst e2;clear hown6 hg6 hfin))
   go_ret
   exact ⟨by first|rfl|(rw [hdt];rfl),HFIN.out⟩
  ·have hnb:Kg fr up ⟨f,en,k,t⟩=false:=by unfold Kg;simp;intro _;show f+en < fr;omega
   have hdt:decide (f≤up)=true:=by simpa using h1
   have h1':¬up < f:=by omega
   rw [hnb,if_neg (by decide),List.append_nil] at hsn
   have HFIN:Hid (NearS w B pf pt po fr up (done++[⟨f,en,k,t⟩]) (wq.alloc (.cells #[.int .i64 f,.int .i64 en,.int .i64 k,.int .i64 t] 255))):=⟨a1,a2,a3,a4,a5,a5b,a5c,a5d,_,a6,by rw [hsn];exact a7⟩
   clear a1 a2 a3 a4 a5 a5b a5c a5d a6 a7 hsn hL hnb hbl h he
   go_enter Tryz.func270,Tryz.ntmps270
   go_wp2_with fail
   go_ret
   exact ⟨by first|rfl|(rw [hdt];rfl),HFIN.out⟩
 ·have hnb:Kg fr up ⟨f,en,k,t⟩=false:=by unfold Kg;simp [h1]
  have hdt:decide (f≤up)=false:=by simpa using h1
  have h1':up < f:=by omega
  rw [hnb,if_neg (by decide),List.append_nil] at hsn
  have HFIN:Hid (NearS w B pf pt po fr up (done++[⟨f,en,k,t⟩]) (wq.alloc (.cells #[.int .i64 f,.int .i64 en,.int .i64 k,.int .i64 t] 255))):=⟨a1,a2,a3,a4,a5,a5b,a5c,a5d,_,a6,by rw [hsn];exact a7⟩
  clear a1 a2 a3 a4 a5 a5b a5c a5d a6 a7 hsn hL hnb hbl h he
  go_enter Tryz.func270,Tryz.ntmps270
  go_wp2_with fail
  go_ret
  exact ⟨by first|rfl|(rw [hdt];rfl),HFIN.out⟩
theorem Qyw (w:World) (B pf pt po:Nat) (fr up:Int):Hand 270 #[.pointer (some ⟨pt,0,none⟩),.pointer (some ⟨pf,0,none⟩),.pointer (some ⟨po,0,none⟩)] (fun e=>decide (e.fr≤up)) (NearS w B pf pt po fr up) (fun _=>False) w where
 eg:=fun _ _=>by kernel_rfl
 call:=fun done e wq hd he h=>Qy0 w B pf pt po fr up done e wq hd he h
 below:=fun done wq w' h hb=>h.below hb
 keep:=fun done wq h=>h.1
theorem Qo4 {l:List Ext} (h:Chk l) (lo hi:Int):(handed (fun x=>decide (x.fr≤hi)) (Qg l (lo - 1))).filter (Kg lo hi)=Jj l lo hi:=by
 have h1:=Qyv h lo hi
 have h2:((handed (fun x=>decide (x.fr≤hi)) (Qg l (lo - 1))).filter (fun x=>decide (x.fr≤hi))).filter (fun x=>decide (lo≤x.end_))=Jj l lo hi:=by
  rw [h1]
  unfold Jj
  rw [List.filter_eq_self]
  intro x hx
  have:=(List.mem_filter.1 hx).2
  unfold Kg at this
  simp only [Bool.and_eq_true] at this
  exact this.2
 rw [List.filter_filter] at h2
 rw [←h2]
 refine List.filter_congr fun x _=>?_
 unfold Kg
 exact Bool.and_comm _ _
set_option maxHeartbeats 4000000 in
set_option maxRecDepth 100000 in
theorem Vd (w:World) (F:List Nat) (p:Nat) (T:Tree) (fr up:Int) (ht:TrAt w F p T) (hok:T.Ok) (hc:Chk T.flat) (h0:0≤fr) (h1:fr≤16777216):
  Calls Tryz.prog 220 #[.pointer (some ⟨p,0,none⟩),.int .i64 fr,.int .i64 up] w fun x w'=>∃v',x= .returned v'∧w'.ownsRow w.heap.size 255 4 v' (Jj T.flat fr up).length (Qz (Jj T.flat fr up))∧Below w.heap.size w w':=by
 obtain ⟨w3,hw3⟩:∃w3,((w.alloc (.cells #[.int .i64 fr] 3)).alloc (.cells #[.int .i64 up] 3)).alloc (.cells #[.slice none 0 0] 261)=w3:=⟨_,rfl⟩
 have k3:Keep (fun _=>False) w w3:=by rw [←hw3];exact (((Keep.refl _ _).alloc _).alloc _).alloc _
 have hs3:w3.heap.size=w.heap.size+3:=by rw [←hw3];simp
 have b1:Whole w3 w.heap.size 3 #[.int .i64 fr]:=by rw [←hw3];exact ((Whole.new w _ _).alloc _).alloc _
 have b2:Whole w3 (w.heap.size+1) 3 #[.int .i64 up]:=by rw [←hw3];exact (Whole.new' _ _ _ _ (by simp)).alloc _
 have b3:Whole w3 (w.heap.size+2) 261 #[.slice none 0 0]:=by rw [←hw3];exact Whole.new' _ _ _ _ (by simp)
 have hN:NearS w (w.heap.size+3) w.heap.size (w.heap.size+1) (w.heap.size+2) fr up [] w3:=⟨k3,by omega,⟨by omega,by omega,by omega⟩,b1,b2,by omega,by omega,by omega,_,b3,⟨rfl,.inl ⟨rfl,rfl⟩⟩⟩
 have hW:=Si _ _ _ _ _ w (Qyw w (w.heap.size+3) w.heap.size (w.heap.size+1) (w.heap.size+2) fr up) F p T (fr - 1) w3 ht (fun _ _ h=>h) hok hc hN
 have hna:=Qo4 hc fr up
 have HW:Hid (Calls Tryz.prog 208 #[.pointer (some ⟨p,0,none⟩),.int .i64 (fr - 1),.func (.func 270) #[] #[.pointer (some ⟨w.heap.size+1,0,none⟩),.pointer (some ⟨w.heap.size,0,none⟩),.pointer (some ⟨w.heap.size+1+1,0,none⟩)]] w3 fun x w'=>x= .returned (.tuple #[])∧∃A c,w'.cell? ⟨w.heap.size+1+1,0,none⟩=some (.slice A (Jj T.flat fr up).length c)∧w'.ownsRow w.heap.size 255 4 (.slice A (Jj T.flat fr up).length c) (Jj T.flat fr up).length (Qz (Jj T.flat fr up))∧Below w.heap.size w w'):=by
  refine hW.mono ?_
  rintro x w' ⟨rfl,q1,q2,q3,q4,q5,q6,q7,q8,v,q9,q10⟩
  rw [hna] at q10
  obtain ⟨A,c,rfl⟩:=Qk q10
  exact ⟨rfl,A,c,q9.cell 0,Qs q10 (by omega),⟨q1.os,q1.tape,q1.output,q1.size,fun j hj=>q1.block j hj (fun h=>h)⟩⟩
 have hfr:wrap64 (fr - 1)=fr - 1:=by unfold wrap64;omega
 obtain ⟨c1,c2⟩:w3.cell? ⟨w.heap.size,0,none⟩=some (.int .i64 fr)∧True:=⟨b1.cell 0,trivial⟩
 obtain ⟨NL,hNL⟩:∃NL,Jj T.flat fr up=NL:=⟨_,rfl⟩
 rw [hNL] at HW ⊢
 clear hNL hna hW hN b1 b2 b3 k3 hs3 ht hok hc c2
 go_enter Tryz.func220,Tryz.ntmps220
 go_wp2_with fail
 with_reducible refine HW.out.mono ?_
 rintro e w5 ⟨rfl,A,c,z1,z2,z3⟩
 have HZ2:=Ql4 z2
 have HZ3:=Ql4 z3
 clear z2 z3
 go_wp2_with fail
 go_ret
 exact ⟨_,rfl,HZ2.out,HZ3.out⟩
def Gt (s:Int) (done:List Ext):Int×Int:=match done.getLast? with|some e=>Zp [e] s|none=>(0,0)
theorem Qx9 (s:Int) (done:List Ext) (e:Ext):Gt s (done++[e])=Zp [e] s:=by unfold Gt;simp
def FindS (w:World) (B ps pk pa:Nat) (s:Int) (done:List Ext) (wq:World):Prop:=
 Keep (fun _=>False) w wq∧B≤wq.heap.size∧(ps < B∧pk < B∧pa < B)∧(w.heap.size≤pk∧w.heap.size≤pa∧ps≠pk∧ps≠pa∧pk≠pa)∧Whole wq ps 3 #[.int .i64 s]∧Whole wq pk 3 #[.int .i64 (Gt s done).1]∧Whole wq pa 3 #[.int .i64 (Gt s done).2]
theorem FindS.below {w:World} {B ps pk pa:Nat} {s:Int} {done:List Ext} {wq w':World} (h:FindS w B ps pk pa s done wq) (hb:Below wq.heap.size wq w'):FindS w B ps pk pa s done w':=by
 obtain ⟨h1,h2,h3,h4,h5,h6,h7⟩:=h
 exact ⟨h1.transBelow hb,Nat.le_trans h2 hb.size,h3,h4,h5.below hb h5.lt,h6.below hb h6.lt,h7.below hb h7.lt⟩
set_option maxHeartbeats 4000000 in
set_option maxRecDepth 100000 in
theorem Quc (w:World) (B ps pk pa:Nat) (s:Int) (hs:-9223372036854775808≤s) (hs2:s≤9223372036854775807) (done:List Ext) (e:Ext) (wq:World) (he:Qf e=true) (h:FindS w B ps pk pa s done wq):
  Calls Tryz.prog 209 (#[e.val]++#[.pointer (some ⟨ps,0,none⟩),.pointer (some ⟨pk,0,none⟩),.pointer (some ⟨pa,0,none⟩)]) wq fun x w'=>x= .returned (.bool false)∧FindS w B ps pk pa s (done++[e]) w':=by
 have hsd:=Qx9 s done e
 have hone:∀x∈[e],Qf x=true:=by simpa using he
 obtain ⟨f,en,k,t⟩:=e
 obtain ⟨w2,hw2⟩:∃w2,(wq.alloc (.cells #[.int .i64 f,.int .i64 en,.int .i64 k,.int .i64 t] 255)).alloc (.cells #[.int .i64 f,.int .i64 en,.int .i64 k,.int .i64 t] 255)=w2:=⟨_,rfl⟩
 have hb2:Below wq.heap.size wq w2:=by rw [←hw2];exact ((Below.refl _ _).alloc (Nat.le_refl _) _).alloc (by simp) _
 have hx:Whole w2 (wq.heap.size+1) 255 #[.int .i64 f,.int .i64 en,.int .i64 k,.int .i64 t]:=by rw [←hw2];exact Whole.new' _ _ _ _ (by simp)
 have h2:=h.below hb2
 have hL:ExtsAt w2 (.slice (some ⟨wq.heap.size+1,0,none⟩) 1 1) [⟨f,en,k,t⟩]:=by
  refine ⟨_,1,rfl,fun _=>⟨_,0,rfl,fun j e he=>?_⟩⟩
  match j,he with
  |0,he=>
   simp at he
   subst he
   exact ⟨hx.cell 0,hx.cell 1,hx.cell 2,hx.cell 3⟩
  |j+1,he=>simp at he
 obtain ⟨K,hK⟩:∃K,(Zp [⟨f,en,k,t⟩] s).1=K:=⟨_,rfl⟩
 obtain ⟨T,hT⟩:∃T,(Zp [⟨f,en,k,t⟩] s).2=T:=⟨_,rfl⟩
 have HFX:Hid (Calls Tryz.prog 210 #[.slice (some ⟨wq.heap.size+1,0,none⟩) 1 1,.int .i64 s] w2 fun x w'=>x= .returned (.tuple #[.int .i64 K,.int .i64 T])∧FindS w B ps pk pa s done w'):=by
  refine (Qub [⟨f,en,k,t⟩] _ s w2 hL hone (by simp) hs hs2).mono ?_
  rintro x w' ⟨rfl,hb⟩
  rw [hK,hT]
  exact ⟨rfl,h2.below hb⟩
 have HEND:Hid (∀w6,FindS w B ps pk pa s done w6→FindS w B ps pk pa s (done++[⟨f,en,k,t⟩]) ((w6.setCell ⟨pk,0,none⟩ (.int .i64 K)).setCell ⟨pa,0,none⟩ (.int .i64 T))):=by
  intro w6 hf
  obtain ⟨h1,h2,h3,⟨g1,g2,g3,g4,g5⟩,h5,h6,h7⟩:=hf
  refine ⟨(h1.setCell (p:=⟨pk,0,none⟩) (.inr g1) _).setCell (p:=⟨pa,0,none⟩) (.inr g2) _,by rw [size_set,size_set];exact h2,h3,⟨g1,g2,g3,g4,g5⟩,?_,?_,?_⟩
  ·exact (h5.far (p:=⟨pk,0,none⟩) g3 _).far (p:=⟨pa,0,none⟩) g4 _
  ·have:=(h6.set 0 (.int .i64 K)).far (p:=⟨pa,0,none⟩) g5 (.int .i64 T)
   rw [hsd,hK]
   simpa using this
  ·have:=(h7.far (p:=⟨pk,0,none⟩) (Ne.symm g5) (.int .i64 K)).set 0 (.int .i64 T)
   rw [hsd,hT]
   simpa using this
 have HCL:Hid (∀w6,FindS w B ps pk pa s done w6→w6.cell? ⟨pk,0,none⟩=some (.int .i64 (Gt s done).1)∧w6.frozen? ⟨pk,0,none⟩=false∧w6.cell? ⟨pa,0,none⟩=some (.int .i64 (Gt s done).2)∧w6.frozen? ⟨pa,0,none⟩=false∧(w6.setCell ⟨pk,0,none⟩ (.int .i64 K)).cell? ⟨pa,0,none⟩=some (.int .i64 (Gt s done).2)∧(w6.setCell ⟨pk,0,none⟩ (.int .i64 K)).frozen? ⟨pa,0,none⟩=false):=by
  intro w6 hf
  obtain ⟨h1,h2,h3,⟨g1,g2,g3,g4,g5⟩,h5,h6,h7⟩:=hf
  have h8:=h7.far (p:=⟨pk,0,none⟩) (Ne.symm g5) (.int .i64 K)
  exact ⟨h6.cell 0,h6.fz 0,h7.cell 0,h7.fz 0,h8.cell 0,h8.fz 0⟩
 have cs:w2.cell? ⟨ps,0,none⟩=some (.int .i64 s):=by obtain ⟨_,_,_,_,h5,_⟩:=h2;exact h5.cell 0
 have bx:Whole (wq.alloc (.cells #[.int .i64 f,.int .i64 en,.int .i64 k,.int .i64 t] 255)) wq.heap.size 255 #[.int .i64 f,.int .i64 en,.int .i64 k,.int .i64 t]:=Whole.new _ _ _
 clear h2 h hL hx hb2 hK hT hsd hone he bx
 show Calls Tryz.prog 209 #[.agg #[.int .i64 f,.int .i64 en,.int .i64 k,.int .i64 t],.pointer (some ⟨ps,0,none⟩),.pointer (some ⟨pk,0,none⟩),.pointer (some ⟨pa,0,none⟩)] wq _
 go_enter Tryz.func209,Tryz.ntmps209
 go_wp2_with fail
 with_reducible refine HFX.out.mono ?_
 rintro x w5 ⟨rfl,hf5⟩
 have HF5:=Ql4 (HEND.out _ hf5)
 obtain ⟨z0,z1,z2,z3,z4,z5⟩:=HCL.out _ hf5
 clear hf5 HEND HCL HFX
 go_wp2_with fail
 go_ret
 exact ⟨rfl,HF5.out⟩
theorem Que (w:World) (B ps pk pa:Nat) (s:Int) (hs:-9223372036854775808≤s) (hs2:s≤9223372036854775807):Hand 209 #[.pointer (some ⟨ps,0,none⟩),.pointer (some ⟨pk,0,none⟩),.pointer (some ⟨pa,0,none⟩)] (fun _=>false) (FindS w B ps pk pa s) (fun _=>False) w where
 eg:=fun _ _=>by kernel_rfl
 call:=fun done e wq hd he h=>Quc w B ps pk pa s hs hs2 done e wq he h
 below:=fun done wq w' h hb=>h.below hb
 keep:=fun done wq h=>h.1
theorem Ma {l:List Ext} (h:Chk l) (s:Int):Gt s (handed (fun _=>false) (Qg l s))=Zp l s:=by
 rw [Qkx h]
 have hh:(l.filter fun e=>decide (s < e.end_)).head? =l.find? fun e=>decide (s < e.end_):=by rw [List.head?_filter]
 unfold Qg
 cases hp:l.filter fun e=>decide (s < e.end_) with
 |nil=>
  rw [hp] at hh
  rw [←hh]
  rfl
 |cons e r=>
  rw [hp] at hh
  rw [←hh]
  rfl
set_option maxHeartbeats 4000000 in
set_option maxRecDepth 100000 in
theorem Qx0 (w:World) (F:List Nat) (p:Nat) (T:Tree) (s:Int) (ht:TrAt w F p T) (hok:T.Ok) (hc:Chk T.flat) (hs:-9223372036854775808≤s) (hs2:s≤9223372036854775807):
  Calls Tryz.prog 146 #[.pointer (some ⟨p,0,none⟩),.int .i64 s] w fun x w'=>x= .returned (.tuple #[.int .i64 (Zp T.flat s).1,.int .i64 (Zp T.flat s).2])∧Below w.heap.size w w':=by
 obtain ⟨w3,hw3⟩:∃w3,((w.alloc (.cells #[.int .i64 s] 3)).alloc (.cells #[.int .i64 0] 3)).alloc (.cells #[.int .i64 0] 3)=w3:=⟨_,rfl⟩
 have k3:Keep (fun _=>False) w w3:=by rw [←hw3];exact (((Keep.refl _ _).alloc _).alloc _).alloc _
 have hs3:w3.heap.size=w.heap.size+3:=by rw [←hw3];simp
 have b1:Whole w3 w.heap.size 3 #[.int .i64 s]:=by rw [←hw3];exact ((Whole.new w _ _).alloc _).alloc _
 have b2:Whole w3 (w.heap.size+1) 3 #[.int .i64 0]:=by rw [←hw3];exact (Whole.new' _ _ _ _ (by simp)).alloc _
 have b3:Whole w3 (w.heap.size+2) 3 #[.int .i64 0]:=by rw [←hw3];exact Whole.new' _ _ _ _ (by simp)
 have hN:FindS w (w.heap.size+3) w.heap.size (w.heap.size+1) (w.heap.size+2) s [] w3:=⟨k3,by omega,⟨by omega,by omega,by omega⟩,⟨by omega,by omega,by omega,by omega,by omega⟩,b1,b2,b3⟩
 have hW:=Si _ _ _ _ _ w (Que w (w.heap.size+3) w.heap.size (w.heap.size+1) (w.heap.size+2) s hs hs2) F p T s w3 ht (fun _ _ h=>h) hok hc hN
 obtain ⟨K,hK⟩:∃K,(Zp T.flat s).1=K:=⟨_,rfl⟩
 obtain ⟨A,hA⟩:∃A,(Zp T.flat s).2=A:=⟨_,rfl⟩
 have HW:Hid (Calls Tryz.prog 208 #[.pointer (some ⟨p,0,none⟩),.int .i64 s,.func (.func 209) #[] #[.pointer (some ⟨w.heap.size,0,none⟩),.pointer (some ⟨w.heap.size+1,0,none⟩),.pointer (some ⟨w.heap.size+1+1,0,none⟩)]] w3 fun x w'=>x= .returned (.tuple #[])∧Whole w' (w.heap.size+1) 3 #[.int .i64 K]∧Whole w' (w.heap.size+1+1) 3 #[.int .i64 A]∧Below w.heap.size w w'):=by
  refine hW.mono ?_
  rintro x w' ⟨rfl,q1,q2,q3,q4,q5,q6,q7⟩
  rw [Ma hc s,hK] at q6
  rw [Ma hc s,hA] at q7
  exact ⟨rfl,q6,q7,⟨q1.os,q1.tape,q1.output,q1.size,fun j hj=>q1.block j hj (fun h=>h)⟩⟩
 have c0:w3.cell? ⟨w.heap.size,0,none⟩=some (.int .i64 s):=b1.cell 0
 rw [hK,hA]
 clear hK hA hW hN b1 b2 b3 k3 hs3 ht hok hc
 go_enter Tryz.func146,Tryz.ntmps146
 go_wp2_with fail
 with_reducible refine HW.out.mono ?_
 rintro e w5 ⟨rfl,q1,q2,q3⟩
 have HQ1:=Ql4 q1
 have HQ2:=Ql4 q2
 have HQ3:=Ql4 q3
 have z0:w5.cell? ⟨w.heap.size+1,0,none⟩=some (.int .i64 K):=q1.cell 0
 have z1:w5.frozen? ⟨w.heap.size+1,0,none⟩=false:=q1.fz 0
 have z2:w5.cell? ⟨w.heap.size+1+1,0,none⟩=some (.int .i64 A):=q2.cell 0
 have z3:w5.frozen? ⟨w.heap.size+1+1,0,none⟩=false:=q2.fz 0
 clear q1 q2 q3
 go_wp2_with fail
 go_region
 go_wp2_with fail
 have g1:=(HQ1.out.set 0 (.int .i64 K)).far (p:=⟨w.heap.size+1+1,0,none⟩) (by simp) (.int .i64 A)
 have g2:=(HQ2.out.far (p:=⟨w.heap.size+1,0,none⟩) (by simp) (.int .i64 K)).set 0 (.int .i64 A)
 have r0:(((w5.setCell ⟨w.heap.size+1,0,none⟩ (.int .i64 K)).setCell ⟨w.heap.size+1+1,0,none⟩ (.int .i64 A)).drew).cell? ⟨w.heap.size+1,0,none⟩=some (.int .i64 K):=(Ot g1).cell 0
 have r1:(((w5.setCell ⟨w.heap.size+1,0,none⟩ (.int .i64 K)).setCell ⟨w.heap.size+1+1,0,none⟩ (.int .i64 A)).drew).cell? ⟨w.heap.size+1+1,0,none⟩=some (.int .i64 A):=(Ot g2).cell 0
 refine bodyPost_ret (v:= .tuple #[.int .i64 K,.int .i64 A]) (by simp [results,Tryz.results146,go_sem,r0,r1]) rfl ⟨rfl,?_⟩
 exact Below.drew (Below.setCell (Below.setCell HQ3.out (by first|omega|(simp <;> omega)) _) (by first|omega|(simp <;> omega)) _)
structure ListBy (w:World) (F:List Nat) (v:Value) (l:List Ext):Prop where
 own:∃B,w.ownsRow B 255 4 v l.length (Qz l)
 out:∀g,v.ownBlock=some g→g∉F∧g < w.heap.size
theorem ListBy.exts {w:World} {F:List Nat} {v:Value} {l:List Ext} (h:ListBy w F v l):ExtsAt w v l:=by
 obtain ⟨B,h1⟩:=h.own
 exact (ExtsAt.own h1).1
theorem ListBy.keep {w w':World} {F:List Nat} {v:Value} {l:List Ext} (h:ListBy w F v l) (hk:Keep (fun k=>k∈F) w w'):ExtsAt w' v l:=by
 obtain ⟨B,h1⟩:=h.own
 exact (ExtsAt.own (Qj h1 hk (fun g hg=>(h.out g hg).1))).1
end tr
end Go.Proofs.YtfialjmemcobjaaGreatDoor
