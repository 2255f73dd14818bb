/- A part of the proof. -/
import Derived.Test.YtfialjmemcobjaaGreatDoorPrVmA
import Derived.Deep.QuietTactic
import Derived.Deep.RegionHeld3
set_option linter.unusedVariables false
set_option linter.unusedSimpArgs false
namespace Go.Proofs.YtfialjmemcobjaaGreatDoor
namespace vo
open Go.RowKit Go.Maps er
theorem Qat (w:World):(zeroValue 219).run Tryz.prog w= .ok (.pointer none) w:=by kernel_rfl
theorem Mo (n:Int) (w:World):
  Calls Tryz.prog 140 #[.int .i64 n] w fun e w'=>e= .returned (.bool (decide (0≤n) && decide (n≤16777216)))∧w=w':=by
 go_enter Tryz.func140,Tryz.ntmps140
 by_cases h1:0≤n
 ·by_cases h2:n≤16777216
  ·go_wp2_with fail
   go_ret
   exact ⟨by simp [h1,h2],rfl⟩
  ·go_wp2_with fail
   go_ret
   exact ⟨by simp [h1,h2],rfl⟩
 ·have h1':n < 0:=by omega
  go_wp2_with fail
  go_ret
  exact ⟨by simp;omega,rfl⟩
theorem LedIn.find {w:World} {lb mb:Nat} {cap:Int} {L:LL} (h:LedIn w lb mb cap L) {y:Acc×Nat} (hy:y∈L):K9 (key L) y.1.id=some y.2:=
 Dq h.map.2 (List.mem_map.2 ⟨y,hy,rfl⟩)
set_option maxHeartbeats 4000000 in
theorem O6 (w:World) (lb mb:Nat) (cap:Int) (L:LL) (y:Acc×Nat) (h:LedIn w lb mb cap L) (hy:y∈L):
  Calls Tryz.prog 139 #[.pointer (some ⟨lb,0,none⟩),.int .i64 y.1.id] w fun e w'=>e= .returned (.tuple #[.pointer (some ⟨y.2,0,none⟩),.int .i64 0])∧w=w':=by
 have hl:=(h.map.look Tryz.underlying212 Qat (h.i64 y hy) (h.find hy)).2
 have c1:=h.obj.cell 1
 simp at c1
 obtain ⟨⟨id,sz,us⟩,ab⟩:=y
 simp only at hl ⊢
 clear h hy
 go_enter Tryz.func139,Tryz.ntmps139
 go_wp2_with fail
 refine bodyPost_ret (v:= .tuple #[.pointer (some ⟨ab,0,none⟩),.int .i64 0]) (by simp [results,Tryz.results139,go_sem]) rfl ⟨rfl,rfl⟩
set_option maxHeartbeats 4000000 in
theorem F6 (w:World) (lb mb:Nat) (cap:Int) (L:LL) (y:Acc×Nat) (h:LedIn w lb mb cap L) (hy:y∈L):
  Calls Tryz.prog 68 #[.pointer (some ⟨lb,0,none⟩),.int .i64 y.1.id] w fun e w'=>e= .returned (.tuple #[.int .i64 y.1.size,.int .i64 y.1.used,.int .i64 0])∧Below w.heap.size w w':=by
 have HG:=Ql4 (O6 w lb mb cap L y h hy)
 have ha:=h.acc y hy
 have c0:=ha.cell 0
 have c1:=ha.cell 1
 simp at c0 c1
 obtain ⟨⟨id,sz,us⟩,ab⟩:=y
 simp only at c0 c1 HG ⊢
 clear h hy ha
 go_enter Tryz.func68,Tryz.ntmps68
 go_wp2_with fail
 with_reducible refine HG.out.mono ?_
 rintro e w1 ⟨rfl,rfl⟩
 go_wp2_with fail
 go_quiet (fail)
 go_wp2_with fail
 refine bodyPost_ret (v:= .tuple #[.int .i64 sz,.int .i64 us,.int .i64 0]) (by simp [results,Tryz.results68,go_sem]) rfl ⟨rfl,below_drewN (Below.refl _ _) _⟩
def Z0 (L:LL) (y:Acc×Nat):LL:=L.filter (fun z=>decide (z.1.id < y.1.id))++y::L.filter fun z=>decide (y.1.id < z.1.id)
theorem Qeu (L:LL) (y:Acc×Nat):key (Z0 L y)=Iw (key L) y.1.id y.2:=by
 simp [key,Z0,Iw,List.filter_map,Function.comp_def]
theorem Qae (L:LL) (y:Acc×Nat):Zu (Z0 L y)=Qy3 (Zu L) y.1:=by
 simp [Zu,Z0,Qy3,List.filter_map,Function.comp_def]
theorem Em {L:LL} {y z:Acc×Nat} (h:z∈Z0 L y):z=y∨z∈L:=by
 unfold Z0 at h
 simp only [List.mem_append,List.mem_cons,List.mem_filter] at h
 rcases h with h|h|h
 ·exact .inr h.1
 ·exact .inl h
 ·exact .inr h.1
theorem Qz2 {L:LL} {y:Acc×Nat} (hn:∀z∈L,z.1.id≠y.1.id):(Z0 L y).Perm (y::L):=by
 unfold Z0
 refine (List.perm_middle).trans (List.Perm.cons y ?_)
 have h1:L.filter (fun z=>decide (y.1.id < z.1.id))=L.filter (fun z=>!decide (z.1.id < y.1.id)):=by
  refine List.filter_congr (fun z hz=>?_)
  have:=hn z hz
  by_cases h:z.1.id < y.1.id <;> simp [h] <;> omega
 rw [h1]
 exact List.filter_append_perm _ _
theorem Qgl {l l':List Acc} (h:l.Perm l'):tot l=tot l':=by
 induction h with
 |nil=>rfl
 |cons a _ ih=>rw [Jq,Jq,ih]
 |swap a b l=>rw [Jq,Jq,Jq,Jq];omega
 |trans _ _ h1 h2=>exact h1.trans h2
theorem LOk.put {cap:Int} {l:List Acc} (h:LOk cap l) (hl:l.length < 8) {id size:Int} (h1:1≤id) (h2:id≤65535) (h3:0≤size) (h4:size≤16777216) (hn:∀a∈l,a.id≠id):LOk cap (Qy3 l ⟨id,size,0⟩):=by
 have hp:(Qy3 l ⟨id,size,0⟩).Perm (⟨id,size,0⟩::l):=by
  unfold Qy3
  refine (List.perm_middle).trans (List.Perm.cons _ ?_)
  have h1:l.filter (fun z=>decide (id < z.id))=l.filter (fun z=>!decide (z.id < id)):=by
   refine List.filter_congr (fun z hz=>?_)
   have:=hn z hz
   by_cases h:z.id < id <;> simp [h] <;> omega
  show (l.filter (fun b=>decide (b.id < id))++l.filter (fun b=>decide (id < b.id))).Perm l
  rw [h1]
  exact List.filter_append_perm _ _
 refine ⟨h.c0,h.c1,by rw [hp.length_eq];simp;omega,fun a ha=>?_,?_,?_⟩
 ·rcases List.mem_cons.1 (hp.mem_iff.1 ha) with rfl|ha
  ·exact ⟨h1,h2,h3,h4,Int.le_refl _⟩
  ·exact h.ids a ha
 ·rw [Qgl hp,Jq];have:=h.sum;simp;omega
 ·unfold Qy3
  rw [List.pairwise_append]
  refine ⟨h.up.filter _,List.pairwise_cons.2 ⟨fun a ha=>by simpa using (List.mem_filter.1 ha).2,h.up.filter _⟩,fun a ha b hb=>?_⟩
  have q1:a.id < id:=by simpa using (List.mem_filter.1 ha).2
  rcases List.mem_cons.1 hb with rfl|hb
  ·exact q1
  ·have q2:id < b.id:=by simpa using (List.mem_filter.1 hb).2
   omega
theorem Qa6 {l:List Acc} (hs:l.Pairwise fun a b=>a.id < b.id) {a:Acc} (ha:a∈l) (f:Acc→Acc):tot (Pw l a.id f)=tot l+((f a).used - a.used):=by
 induction l with
 |nil=>cases ha
 |cons b r ih=>
  obtain ⟨h1,h2⟩:=List.pairwise_cons.1 hs
  unfold Pw
  rw [List.map_cons,Jq,Jq]
  rcases List.mem_cons.1 ha with rfl|ha
  ·rw [if_pos rfl]
   have:r.map (fun c=>if c.id=a.id then f c else c)=r:=by
    conv=>rhs;rw [←List.map_id r]
    refine List.map_congr_left (fun c hc=>?_)
    have:=h1 c hc
    rw [if_neg (by omega)];rfl
   rw [this];omega
  ·have:=h1 a ha
   rw [if_neg (by omega)]
   have:=ih h2 ha
   unfold Pw at this
   rw [this];omega
theorem LOk.set {cap:Int} {l:List Acc} (h:LOk cap l) {a:Acc} (ha:a∈l) (f:Acc→Acc) (hid:∀b,(f b).id=b.id) (h1:0≤(f a).size∧(f a).size≤16777216∧0≤(f a).used) (h2:tot l+((f a).used - a.used)≤cap):LOk cap (Pw l a.id f):=by
 refine ⟨h.c0,h.c1,by unfold Pw;rw [List.length_map];exact h.len,fun b hb=>?_,by rw [Qa6 h.up ha];exact h2,?_⟩
 ·obtain ⟨c,hc,rfl⟩:=List.mem_map.1 hb
  have hcx:=h.ids c hc
  by_cases e:c.id=a.id
  ·have:c=a:=by
    by_cases hca:c=a
    ·exact hca
    ·exfalso
     obtain ⟨i,hi,rfl⟩:=List.mem_iff_getElem.1 hc
     obtain ⟨j,hj,rfl⟩:=List.mem_iff_getElem.1 ha
     have hp:=List.pairwise_iff_getElem.1 h.up
     rcases Nat.lt_trichotomy i j with q|q|q
     ·have:=hp i j hi hj q;omega
     ·subst q;exact hca rfl
     ·have:=hp j i hj hi q;omega
   subst this
   rw [if_pos rfl,hid]
   omega
  ·rw [if_neg e];exact hcx
 ·unfold Pw
  rw [List.pairwise_map]
  refine h.up.imp (fun {x y} hxy=>?_)
  have e:∀z:Acc,(if z.id=a.id then f z else z).id=z.id:=fun z=>by split <;> simp [hid]
  rw [e,e];exact hxy
end vo
end Go.Proofs.YtfialjmemcobjaaGreatDoor
