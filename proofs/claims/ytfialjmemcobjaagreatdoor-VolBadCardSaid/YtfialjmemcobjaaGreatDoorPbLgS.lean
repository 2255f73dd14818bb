/- A part of the proof. -/
import Derived.Test.YtfialjmemcobjaaGreatDoorPbTsS
import Derived.Test.YtfialjmemcobjaaGreatDoorPbVmA
import Derived.Shelf.SlIterI.Nil
import Derived.Shelf.Slices.In.SortNone
set_option maxRecDepth 100000
set_option maxHeartbeats 16000000
set_option linter.unusedVariables false
set_option linter.unusedSimpArgs false
namespace Go.Proofs
open Go.Shelf
def Tryz.keysZ_ren:Go.Shelf.Ren:=⟨fun|7=>138|10=>202|n=>n,fun|0=>0|3=>219|4=>4|23=>212|26=>3|27=>216|28=>217|33=>177|n=>n,fun|n=>n⟩
theorem Tryz.keysZ:SlLaysZI.n7 Tryz.prog Tryz.keysZ_ren:={
 mixed:=by kernel_rfl
 f7:=⟨Tryz.f138.name,by kernel_rfl,Tryz.func138.trans (congrArg some (by kernel_rfl))⟩
 f10:=⟨Tryz.f202.name,by kernel_rfl,Tryz.func202.trans (congrArg some (by kernel_rfl))⟩
 t0:=Tryz.underlying0
 a0:=Tryz.isAgg0
 z0:=Tryz.sizeOf0
 v0:=Tryz.zeroValue0
 t4:=Tryz.underlying4
 a4:=Tryz.isAgg4
 z4:=Tryz.sizeOf4
 v4:=Tryz.zeroValue4
 t23:=Tryz.underlying212
 a23:=Tryz.isAgg212
 z23:=Tryz.sizeOf212
 v23:=Tryz.zeroValue212
 t26:=Tryz.underlying3
 a26:=Tryz.isAgg3
 z26:=Tryz.sizeOf3
 v26:=Tryz.zeroValue3
 t27:=Tryz.underlying216
 a27:=Tryz.isAgg216
 z27:=Tryz.sizeOf216
 v27:=Tryz.zeroValue216
 t28:=Tryz.underlying217
 a28:=Tryz.isAgg217
 z28:=Tryz.sizeOf217
 v28:=Tryz.zeroValue217
 t33:=Tryz.underlying177
 a33:=Tryz.isAgg177
 z33:=Tryz.sizeOf177
 v33:=Tryz.zeroValue177}
def Tryz.sortedZ_ren:Go.Shelf.Ren:=⟨fun|6=>137|8=>201|9=>87|11=>250|n=>n,fun|0=>0|3=>3|4=>4|24=>39|26=>3|27=>216|28=>217|33=>177|n=>n,fun|n=>n⟩
theorem Tryz.sortedZ:SlLaysZI.n6 Tryz.prog Tryz.sortedZ_ren:={
 mixed:=by kernel_rfl
 f6:=⟨Tryz.f137.name,by kernel_rfl,Tryz.func137.trans (congrArg some (by kernel_rfl))⟩
 f8:=⟨Tryz.f201.name,by kernel_rfl,Tryz.func201.trans (congrArg some (by kernel_rfl))⟩
 f11:=⟨Tryz.f250.name,by kernel_rfl,Tryz.func250.trans (congrArg some (by kernel_rfl))⟩
 t0:=Tryz.underlying0
 a0:=Tryz.isAgg0
 z0:=Tryz.sizeOf0
 v0:=Tryz.zeroValue0
 t24:=Tryz.underlying39
 a24:=Tryz.isAgg39
 z24:=Tryz.sizeOf39
 v24:=Tryz.zeroValue39
 t26:=Tryz.underlying3
 a26:=Tryz.isAgg3
 z26:=Tryz.sizeOf3
 v26:=Tryz.zeroValue3
 t28:=Tryz.underlying217
 a28:=Tryz.isAgg217
 z28:=Tryz.sizeOf217
 v28:=Tryz.zeroValue217
 i26:=by kernel_rfl}
end Go.Proofs
namespace Go.Proofs.YtfialjmemcobjaaGreatDoor.vo
open Go.RowKit Go.Maps Go.Sort Go.Shelf er
theorem Q4q(m:Nat):AnyZI.SortsIn Tryz.prog Tryz.sortedZ_ren Fence.wide m:=
 ⟨λblk off cap ss W c a b=>callsIn_wide.2 (Tryz.slices_Sort_int blk off cap ss W c a b),
  λp cap W=>callsIn_wide.2 (Any.slices_Sort_int_none Tryz.lays189 p cap W)⟩
theorem Qca(l:List (Int×Nat)):intKeys (DataW.map (ent l))=l.map (·.1):=by
 show(ent l).map _=_;unfold ent;rw[QzR];rfl
theorem Qbk{l:List (Int×Nat)}(h:l.Pairwise λx y=>x.1<y.1){ss:List Int}(d:ss.Perm (l.map (·.1))):ss.mergeSort (λx y=>decide (x<=y))=l.map (·.1):=by
 have h1:(l.map (·.1)).Pairwise λx y=>decide (x<=y)=true:=by
  rw[QjP];exact h.imp (λh=>by simp;omega)
 refine List.Perm.eq_of_pairwise (le:=λx y:Int=>decide (x<=y)=true) (λa b _ _ h1 h2=>by simp at h1 h2;omega) (List.pairwise_mergeSort (λa b c h1 h2=>by simp at *;omega) (λa b=>by simp;omega) _) h1 ((List.mergeSort_perm _ _).trans d)
theorem Qq4 (w:World) (lb mb:Nat) (cap:Int) (L:LL) (h:LedIn w lb mb cap L):
  Calls Tryz.prog 67 #[.pointer (some ⟨lb,0,none⟩)] w fun e w'=>∃v,e= .returned v∧w'.ownsRow w.heap.size 3 1 v L.length (L.map fun y=>.int .i64 y.1.id)∧Below w.heap.size w w':=by
 refine (callsIn_wide (n:=6)).1 ?_
 have j:=h.map.lt
 have b:=h.ok.len
 have c1:=h.obj.cell 1
 simp at c1
 have k:(key L).length≤8:=by simpa [key,Zd] using b
 have c:Maps.size (DataW.map (ent (key L)))≤maxLen:=by rw [Maps.size_eq,Qzg];simp only [maxLen];omega
 have a:Maps.size (DataW.map (ent (key L))) * 8≤140737488355328:=by rw [Maps.size_eq,Qzg];omega
 have l:=h.map
 have d:SeqGives Fence.wide 2 Tryz.prog 202 #[.pointer (some ⟨w.heap.size,0,none⟩)] encZ (fun ss=>ss.Perm (intKeys (DataW.map (ent (key L))))) (Maps.size (DataW.map (ent (key L)))) (w.alloc (.cells #[.map (some mb)] 212)):=
  AnyZI.keys_gives (ρ:=Tryz.keysZ_ren) {Tryz.keysZ with} Fence.wide _ trivial rfl (by omega) w.heap.size mb _ _ _ (by simp) (by simp) (by
   obtain ⟨r,g,hb,s,t,u⟩:=l.1
   exact ⟨r,g,(Below.heap_alloc _ _ mb j).trans hb,s,t,u⟩)
 have z:∀mb W,CallsIn Fence.wide 5 Tryz.prog 138 #[.map mb] W fun e w'=>e= .returned (.func (.func 202) #[] #[.pointer (some ⟨W.heap.size,0,none⟩)])∧w'=W.alloc (.cells #[.map mb] 212):=fun mb W=>AnyZI.keys_in Tryz.keysZ Fence.wide 5 trivial rfl mb W
 have p:=AnyZI.sorted_in Tryz.sortedZ Fence.wide 5 trivial trivial trivial trivial rfl (by omega) (Q4q _) (enters_of Tryz.func87 (by kernel_rfl) rfl) 202 #[.pointer (some ⟨w.heap.size,0,none⟩)] trivial (enters_of Tryz.func202 (by kernel_rfl) rfl) _ _ c a _ d
 change CallsIn _ _ Tryz.prog 137 _ _ _ at p
 have i:∀ss:List Int,ss.Perm (intKeys (DataW.map (ent (key L))))→ss.length=L.length∧(ss.mergeSort (fun x y=>decide (x≤y))).map encZ=L.map fun y=>.int .i64 y.1.id:=by
  intro ss m
  rw [Qca] at m
  refine ⟨by rw [m.length_eq];simp [key],?_⟩
  rw [Qbk l.2 m,key,List.map_map,List.map_map]
  rfl
 have o:=Q7h i
 clear h l i c a k b d
 have F:Fence.wide.fn 138:=trivial
 have H:Fence.wide.fn 137:=trivial
 refine callsIn_of_wp Tryz.func67 rfl trivial ?_ rfl
 simp only [Tryz.ntmps67,List.size_toArray,List.length_cons,List.length_nil,Nat.reduceAdd,Nat.reduceSub,Array.replicate_succ,Array.replicate_zero,List.push_toArray,List.append_toArray,List.nil_append,List.cons_append]
 gi_wp2_with (first
  |(gi_at_call 138;refine (z _ _).mono ?_;rintro e w' ⟨rfl,rfl⟩)
  |(gi_at_call 137;refine p.mono ?_;rintro e w' ⟨v,ss,rfl,K,f,q,hb⟩))
 go_ret
 obtain ⟨M,N⟩:=o.out ss K
 rw [M,N] at f
 exact ⟨v,rfl,Qr f (by simp),((Below.refl _ w).alloc (Nat.le_refl _) _).trans (hb.mono (by simp))⟩
end Go.Proofs.YtfialjmemcobjaaGreatDoor.vo
