/- A part of the proof. -/
import Derived.Test.YtneammhkgmkkfaaGreatDoorQTyR
namespace Go.Proofs.YtneammhkgmkkfaaGreatDoor.tr
open Go.RowKit Go.Proofs.YtneammhkgmkkfaaGreatDoor.er
set_option linter.unusedVariables false
set_option linter.unusedSimpArgs false
def RemPost {h : Nat} (w : World) (F : List Nat) (v : Value) (n' : Nd h) (w' : World) : Prop := ∃ F',NdIn w' F' v n' ∧ Mv (fun k => k ∈ F) w (fun k => k ∈ F') w'
def RemCtr (h : Nat) : Prop := ∀ (w : World) (F : List Nat) (v : Value) (n : Nd h) (s : Int),NdIn w F v n → Kw n → Big n → 1 ≤ n.size → n.size ≤ 8 → Inc (flat n) →
  Calls Tryz.prog 101 #[v,.int .i64 s] w fun e w' => e = .returned (.tuple #[]) ∧ RemPost w F v (remN n s) w'
set_option maxHeartbeats 4000000 in
set_option maxRecDepth 100000 in
theorem rem_leaf (w : World) (b g c : Nat) (a : Int) (l : List Ext) (s : Int) (h1 : LfAt w b g c a l) (hbg : b ≠ g) (hm : l.length ≤ 1000) :
    Calls Tryz.prog 101 #[ptrV 0 b,.int .i64 s] w fun e w' => e = .returned (.tuple #[]) ∧ RemPost w [b,g] (ptrV 0 b) (mkL (-1) (del l s)) w' := by
  have hbl := h1.1.lt
  have hgl := h1.2.lt
  have hA : Keep (fun _ => False) w (w.alloc (.cells #[.int .i64 s] 3)) := Keep.alloc (Keep.refl _ _) _
  have hV1 : LfAt (w.alloc (.cells #[.int .i64 s] 3)) b g c a l := h1.keep hA (fun h => h) (fun h => h)
  have hbox := Whole.new w 3 #[.int .i64 s]
  have x10 := hV1.1.cell 0
  have z10 := hV1.1.fz 0
  simp at x10
  have hpb : w.heap.size ≠ b := by omega
  obtain ⟨w2,hw2⟩ : ∃ w2,(w.alloc (.cells #[.int .i64 s] 3)).setCell ⟨b,0,none⟩ (.int .i64 (-1)) = w2 := ⟨_,rfl⟩
  have HK2 : Keep (fun k => k = b) (w.alloc (.cells #[.int .i64 s] 3)) w2 := by rw [← hw2]; exact Keep.set1 _ b 0 _
  have HX : Whole w2 b 119 #[.int .i64 (-1),.slice (some ⟨g,0,none⟩) l.length c] := by
    rw [← hw2]
    have := hV1.1.set 0 (.int .i64 (-1))
    simpa using this
  have HR : Row w2 g c 4 59 (extCells l) := hV1.2.keep HK2 (by simpa using hbg.symm)
  have HB : Whole w2 w.heap.size 3 #[.int .i64 s] := hbox.keep HK2 (by simpa using hpb)
  have HKA : Keep (fun k => k ∈ [b,g]) w w2 := (hA.mono (fun _ _ h => h.elim)).trans (HK2.mono (fun k _ e => by simp [e])) (fun k hk => .inl hk)
  have HDF := Lib.hid (delF_any l g c w.heap.size s w2 HR hm (HB.cell 0) (by omega))
  obtain ⟨n,hn⟩ : ∃ n,l.length = n := ⟨_,rfl⟩
  rw [hn] at HX HDF
  obtain ⟨n2,hn2⟩ : ∃ n2,(del l s).length = n2 := ⟨_,rfl⟩
  have HEND : Hid (∀ e w5,DelRet 59 g c l s w2 e w5 → e = .returned (.slice (some ⟨g,0,none⟩) n2 c) ∧ (w5.cell? ⟨b,1,none⟩ = some (.slice (some ⟨g,0,none⟩) n c) ∧ w5.frozen? ⟨b,1,none⟩ = false) ∧ RemPost w [b,g] (ptrV 0 b) (mkL (-1) (del l s)) (w5.setCell ⟨b,1,none⟩ (.slice (some ⟨g,0,none⟩) n2 c))) := by
    intro e w5 ⟨q1,q2,q3⟩
    have v1 := HX.keep q3 (by simpa using hbg)
    rw [hn2] at q1
    refine ⟨q1,⟨v1.cell 1,v1.fz 1⟩,[b,g],⟨leaf_at (c := c) ⟨?_,?_⟩,by simpa using hbg⟩,?_,fun k hk => .inl hk⟩
    · have := v1.set 1 (.slice (some ⟨g,0,none⟩) n2 c)
      rw [hn2]
      simpa using this
    · exact q2.keep (Keep.set1 w5 b 1 _) (by simpa using hbg.symm)
    · exact (HKA.trans (q3.mono (fun k _ e => by have e' : k = g := e; simp [e'])) (fun k hk => .inl hk)).setCell (p := ⟨b,1,none⟩) (.inl (by simp)) _
  have y11 := HX.cell 1
  have y10 := HX.cell 0
  simp at y11 y10
  have hme := fun w => meWh (.pointer (some ⟨b,0,none⟩)) w 0
  have hen := fun w => enWh #[.pointer (some ⟨b,0,none⟩)] w 0
  simp only [ndT,whF] at hme hen
  have hta := ta_ll
  have HWH := Lib.hid (fun wq => where_any wq b 0)
  clear hn2 hn HKA HB HR HX HK2 hbox hV1 hA hbl hgl h1 hm
  show Calls Tryz.prog 101 #[.iface 117 (.pointer (some ⟨b,0,none⟩)),.int .i64 s] w _
  go_enter Tryz.func101,Tryz.ntmps101
  go_wp2_with fail
  refine (HWH.out _).mono ?_
  rintro e w' ⟨rfl,rfl⟩
  go_wp2_with fail
  with_reducible refine HDF.out.mono ?_
  intro e w5 hret
  obtain ⟨e6,⟨v1,v2⟩,hpost⟩ := HEND.out e w5 hret
  subst e6
  have HP := Lib.hid hpost
  clear hret hpost
  go_wp2_with fail
  go_end0
  exact ⟨rfl,HP.out⟩
end Go.Proofs.YtneammhkgmkkfaaGreatDoor.tr
namespace Go.Proofs.YtneammhkgmkkfaaGreatDoor.tr
open Go.RowKit Go.Proofs.YtneammhkgmkkfaaGreatDoor.er
set_option linter.unusedVariables false
set_option linter.unusedSimpArgs false
theorem list_at {α : Type} {l : List α} {j : Nat} {x : α} (h1 : l[j]? = some x) : l = l.take j ++ [x] ++ l.drop (j + 1) ∧ (l.take j).length = j := by
  obtain ⟨i1,e1⟩ := List.getElem?_eq_some_iff.1 h1
  refine ⟨?_,by rw [List.length_take]; omega⟩
  have a1 : l.drop j = x :: l.drop (j + 1) := by rw [← e1]; exact List.drop_eq_getElem_cons i1
  conv => lhs; rw [← List.take_append_drop j l,a1]
  simp
theorem set_at {α : Type} {l : List α} {j : Nat} {x y : α} (h1 : l[j]? = some x) : l.set j y = l.take j ++ [y] ++ l.drop (j + 1) := by
  obtain ⟨e,hl⟩ := list_at h1
  have h := set_mid (l.take j) (l.drop (j + 1)) x y
  rw [hl] at h
  conv => lhs; rw [e]
  simpa using h
theorem under_lt {h : Nat} (ks : List (Nd h)) (s : Int) (h1 : 1 ≤ ks.length) : under ks s < ks.length := by
  have := (und_spec ks s (ks.length - 1)).1
  have e : under ks s = undN ks s (ks.length - 1) := rfl
  omega
theorem one_mid {w w' : World} {h b g c : Nat} {a : Int} {ds : List (Kd h)} {j : Nat} {d : Kd h} {F' : List Nat} {k' : Nd h} (hin : InAt w b g c a ds) (hnd : (b :: g :: dsF ds).Nodup) (hd : ds[j]? = some d) (hk : NdIn w' F' d.2.1 k') (hmv : Mv (fun k => k ∈ d.1) w (fun k => k ∈ F') w') :
    InPost w b g ds w' g c a (ds.set j (F',d.2.1,k')) := by
  obtain ⟨e,hl⟩ := list_at hd
  have hin2 := hin
  have hnd2 := hnd
  rw [e] at hin2 hnd2
  have hM : dsF [d] = d.1 := by simp [dsF]
  have hM' : dsF [(F',d.2.1,k')] = F' := by simp [dsF]
  obtain ⟨m1,m2,m3,m4,m5⟩ := mid_keep hin2 hnd2 (M' := [(F',d.2.1,k')]) (w' := w') (by rw [hM,hM']; exact hmv) (fun x hx => by rw [List.mem_singleton] at hx; subst hx; exact hk.at_) (by rw [hM']; exact hk.nd)
  rw [set_at hd (y := (F',d.2.1,k'))]
  rw [← e] at m5
  exact ⟨⟨by simpa using m1,by simpa using m2,m3⟩,m4,m5⟩
theorem sub_nd {w : World} {h b g c : Nat} {a : Int} {ds : List (Kd h)} {j : Nat} {d : Kd h} (hin : InAt w b g c a ds) (hnd : (b :: g :: dsF ds).Nodup) (hd : ds[j]? = some d) : NdIn w d.1 d.2.1 d.2.2 := by
  refine ⟨hin.2.2 d (List.mem_of_getElem? hd),?_⟩
  obtain ⟨e,hl⟩ := list_at hd
  have n2 := (List.nodup_cons.1 (List.nodup_cons.1 hnd).2).2
  rw [e,dsF_append,dsF_append] at n2
  have := (List.nodup_append.1 (List.nodup_append.1 n2).1).2.1
  simpa [dsF] using this
theorem map_set {h : Nat} {ds : List (Kd h)} {j : Nat} {x : Kd h} : (ds.set j x).map (fun d => d.2.2) = (ds.map fun d => d.2.2).set j x.2.2 := List.map_set
set_option maxHeartbeats 4000000 in
set_option maxRecDepth 100000 in
theorem rem_inner (h : Nat) (IH : RemCtr h) (w : World) (b g c : Nat) (a : Int) (ds : List (Kd h)) (s : Int) (hin : InAt w b g c a ds) (hnd : (b :: g :: dsF ds).Nodup) (hk : Kw (mkI (-1) (ds.map fun d => d.2.2))) (h1 : 1 ≤ ds.length) (h8 : ds.length ≤ 8) (hinc : Inc (flats (ds.map fun d => d.2.2))) :
    Calls Tryz.prog 101 #[ptrV (h + 1) b,.int .i64 s] w fun e w' => e = .returned (.tuple #[]) ∧ RemPost w (b :: g :: dsF ds) (ptrV (h + 1) b) (remN (mkI (-1) (ds.map fun d => d.2.2)) s) w' := by
  have hbl := hin.1.lt
  have hgl := hin.2.1.lt
  have hbg : b ≠ g := fun e => (List.nodup_cons.1 hnd).1 (by simp [e])
  have hA : Keep (fun _ => False) w (w.alloc (.cells #[.int .i64 s] 3)) := Keep.alloc (Keep.refl _ _) _
  have hbox := Whole.new w 3 #[.int .i64 s]
  have hV1 : InAt (w.alloc (.cells #[.int .i64 s] 3)) b g c a ds := ⟨hin.1.keep hA (fun h => h),hin.2.1.keep hA (fun h => h),kids_keep hA hin.2.2 (fun _ _ h => h)⟩
  have x10 := hV1.1.cell 0
  have z10 := hV1.1.fz 0
  simp at x10
  have hpb : w.heap.size ≠ b := by omega
  obtain ⟨w2,hw2⟩ : ∃ w2,(w.alloc (.cells #[.int .i64 s] 3)).setCell ⟨b,0,none⟩ (.int .i64 (-1)) = w2 := ⟨_,rfl⟩
  have HK2 : Keep (fun k => k = b) (w.alloc (.cells #[.int .i64 s] 3)) w2 := by rw [← hw2]; exact Keep.set1 _ b 0 _
  have hbn := (List.nodup_cons.1 hnd).1
  have HI2 : InAt w2 b g c (-1) ds := by
    refine ⟨?_,hV1.2.1.keep HK2 (by simpa using hbg.symm),kids_keep HK2 hV1.2.2 (fun k hk e => hbn (by have e' : k = b := e; rw [← e']; simp [hk]))⟩
    rw [← hw2]
    have := hV1.1.set 0 (.int .i64 (-1))
    simpa using this
  have HB : Whole w2 w.heap.size 3 #[.int .i64 s] := hbox.keep HK2 (by simpa using hpb)
  have HKA : Keep (fun k => k ∈ b :: g :: dsF ds) w w2 := (hA.mono (fun _ _ h => h.elim)).trans (HK2.mono (fun k _ e => List.mem_cons.2 (.inl e))) (fun k hk => .inl hk)
  have HMV : Mv (fun k => k ∈ b :: g :: dsF ds) w (fun k => k ∈ b :: g :: dsF ds) w2 := ⟨HKA,fun k hk => .inl hk⟩
  have hs2 : w.heap.size < w2.heap.size := HB.lt
  -- which kid
  obtain ⟨i,hi⟩ : ∃ i,under (ds.map fun d => d.2.2) s = i := ⟨_,rfl⟩
  have hil : i < ds.length := by rw [← hi]; have := under_lt (ds.map fun d => d.2.2) s (by simpa using h1); simpa using this
  obtain ⟨d,hd⟩ : ∃ d,ds[i]? = some d := ⟨ds[i],List.getElem?_eq_getElem hil⟩
  have HUN : Hid (Calls Tryz.prog 108 #[.pointer (some ⟨b,0,none⟩),.int .i64 s] w2 fun e w' => e = .returned (.int .i64 i) ∧ w2 = w') := by
    have := under_any w2 h b _ _ s (inner_at HI2) hk (by show 1 ≤ (ds.map _).length; simpa using h1) (by show (ds.map _).length ≤ 100; simp; omega)
    rw [show under (mkI (-1) (ds.map fun d => d.2.2)).ks s = i from hi] at this
    exact this
  obtain ⟨kb,kF,f1,f2⟩ := (HI2.2.2 d (List.mem_of_getElem? hd)).form
  have hkw : Wf d.2.2 := hk.mem (by show d.2.2 ∈ ds.map _; exact List.mem_map.2 ⟨d,List.mem_of_getElem? hd,rfl⟩)
  have hfi : Inc (flat d.2.2) := by
    obtain ⟨e,_⟩ := list_at hd
    rw [e] at hinc
    simp only [List.map_append,List.map_cons,List.map_nil,flats_append,flats_cons,flats_nil,List.append_nil] at hinc
    exact (List.pairwise_append.1 (List.pairwise_append.1 hinc).1).2.1
  have hbig : Big d.2.2 := by
    cases h with
    | zero => trivial
    | succ h => exact Nat.le_trans (by omega) hkw.1.1
  have hok := rem_ok d.2.2 s hkw.2 hbig (by have := hkw.1.1; omega) hfi
  obtain ⟨k',hk'⟩ : ∃ k',remN d.2.2 s = k' := ⟨_,rfl⟩
  rw [hk'] at hok
  have hsz1 := hok.lo
  have hsz2 := hok.up
  have hsz3 := hkw.1
  have hrem : remN (mkI (-1) (ds.map fun d => d.2.2)) s = if k'.size < 4 then mkI (-1) (mendL ((ds.map fun d => d.2.2).set i k') i) else mkI (-1) ((ds.map fun d => d.2.2).set i k') := by
    show (let i := under (mkI (-1) (ds.map fun d => d.2.2)).ks s; let k := remN ((mkI (-1) (ds.map fun d => d.2.2)).ks.getD i (dft h)) s; if k.size < 4 then mkI (-1) (mendL ((mkI (-1) (ds.map fun d => d.2.2)).ks.set i k) i) else mkI (-1) ((mkI (-1) (ds.map fun d => d.2.2)).ks.set i k)) = _
    simp only [ks_mk,hi,getD_of hd,hk']
  have hw20 : Keep (fun _ => False) w2 w2.drew := Keep.drew (Keep.refl _ _)
  have hin0 : InAt w2.drew b g c (-1) ds := ⟨HI2.1.keep hw20 (fun h => h),HI2.2.1.keep hw20 (fun h => h),kids_keep hw20 HI2.2.2 (fun _ _ h => h)⟩
  obtain ⟨n,hn⟩ : ∃ n,ds.length = n := ⟨_,rfl⟩
  have HREM : Hid (Calls Tryz.prog 101 #[.iface (ndT h) (.pointer (some ⟨kb,0,none⟩)),.int .i64 s] w2.drew fun e w' => e = .returned (.tuple #[]) ∧ (w'.cell? ⟨b,1,none⟩ = some (.slice (some ⟨g,0,none⟩) n c) ∧ w'.cell? ⟨g,i,none⟩ = some (.iface (ndT h) (.pointer (some ⟨kb,0,none⟩))) ∧ w'.cell? ⟨w.heap.size,0,none⟩ = some (.int .i64 s)) ∧
      (Calls Tryz.prog (szF h) #[.pointer (some ⟨kb,0,none⟩)] w' fun e w'' => e = .returned (.int .i64 k'.size) ∧ w' = w'') ∧
      (k'.size < 4 → Calls Tryz.prog 125 #[.pointer (some ⟨b,0,none⟩),.int .i64 i] w' fun e w'' => e = .returned (.tuple #[]) ∧ RemPost w (b :: g :: dsF ds) (ptrV (h + 1) b) (remN (mkI (-1) (ds.map fun d => d.2.2)) s) w'') ∧
      (¬ k'.size < 4 → RemPost w (b :: g :: dsF ds) (ptrV (h + 1) b) (remN (mkI (-1) (ds.map fun d => d.2.2)) s) w')) := by
    have hc := IH w2.drew d.1 d.2.1 d.2.2 s (sub_nd hin0 hnd hd) hkw.2 hbig (by omega) (by omega) hfi
    rw [hk'] at hc
    have hc2 : Calls Tryz.prog 101 #[d.2.1,.int .i64 s] w2.drew fun e w' => e = .returned (.tuple #[]) ∧ (w'.cell? ⟨b,1,none⟩ = some (.slice (some ⟨g,0,none⟩) n c) ∧ w'.cell? ⟨g,i,none⟩ = some d.2.1 ∧ w'.cell? ⟨w.heap.size,0,none⟩ = some (.int .i64 s)) ∧
      (Calls Tryz.prog (szF h) #[.pointer (some ⟨kb,0,none⟩)] w' fun e w'' => e = .returned (.int .i64 k'.size) ∧ w' = w'') ∧
      (k'.size < 4 → Calls Tryz.prog 125 #[.pointer (some ⟨b,0,none⟩),.int .i64 i] w' fun e w'' => e = .returned (.tuple #[]) ∧ RemPost w (b :: g :: dsF ds) (ptrV (h + 1) b) (remN (mkI (-1) (ds.map fun d => d.2.2)) s) w'') ∧
      (¬ k'.size < 4 → RemPost w (b :: g :: dsF ds) (ptrV (h + 1) b) (remN (mkI (-1) (ds.map fun d => d.2.2)) s) w') := by
      refine hc.mono ?_
      rintro e w5 ⟨rfl,F',q1,q2⟩
      obtain ⟨p1,p2,p3⟩ := one_mid hin0 hnd hd q1 q2
      have hc1 := p1.1.cell 1
      rw [List.length_set,hn] at hc1
      have hsetd : (ds.set i (F',d.2.1,k'))[i]? = some (F',d.2.1,k') := by simp [hil]
      have hMV5 : Mv (fun k => k ∈ b :: g :: dsF ds) w (fun k => k ∈ b :: g :: dsF (ds.set i (F',d.2.1,k'))) w5 := HMV.trans ⟨⟨p3.keep.os,p3.keep.tape,p3.keep.output,p3.keep.size,p3.keep.block⟩,p3.sub⟩
      refine ⟨rfl,⟨hc1,?_,?_⟩,?_,?_,?_⟩
      · exact p1.2.1.cell (by rw [List.getElem?_map,hsetd]; rfl)
      · refine p3.keep.cell (p := ⟨w.heap.size,0,none⟩) (HB.cell 0) (fun hm => ?_)
        rcases List.mem_cons.1 hm with e | hm
        · exact hpb e
        · rcases List.mem_cons.1 hm with e | hm
          · have e' : w.heap.size = g := e
            omega
          · have := kids_lt hin.2.2 _ hm
            exact absurd this (Nat.lt_irrefl _)
      · have h1 := q1.at_
        rw [f2] at h1
        exact size_any w5 kb h _ _ h1
      · intro hlt
        have hm := mend_any w5 h b g c i i (-1) (ds.set i (F',d.2.1,k')) (F',d.2.1,k') p1 p2 (by rw [List.length_set]; omega) hsetd (by show 1 ≤ k'.size; omega) (fun x hx => by
          rcases List.mem_or_eq_of_mem_set hx with hx | rfl
          · have hw := hk.mem (show x.2.2 ∈ (mkI (-1) (ds.map fun d => d.2.2)).ks from List.mem_map.2 ⟨x,hx,rfl⟩)
            have := hw.1.2; omega
          · show k'.size ≤ 100; omega) rfl
        refine hm.mono ?_
        rintro e w6 ⟨rfl,g',c',ds',⟨r1,r2,r3⟩,r4⟩
        refine ⟨rfl,b :: g' :: dsF ds',⟨?_,r2⟩,hMV5.trans r3⟩
        rw [hrem,if_pos hlt]
        rw [map_set] at r4
        rw [← r4]
        exact inner_at r1
      · intro hlt
        refine ⟨b :: g :: dsF (ds.set i (F',d.2.1,k')),⟨?_,p2⟩,hMV5⟩
        rw [hrem,if_neg hlt]
        have := inner_at p1
        rw [map_set] at this
        exact this
    rw [f2] at hc2
    exact hc2
  have y11 : w2.cell? ⟨b,1,none⟩ = some (.slice (some ⟨g,0,none⟩) n c) := by have := HI2.1.cell 1; rw [hn] at this; exact this
  have y12 : w2.cell? ⟨g,i,none⟩ = some (.iface (ndT h) (.pointer (some ⟨kb,0,none⟩))) := by rw [← f2]; exact HI2.2.1.cell (by rw [List.getElem?_map,hd]; rfl)
  have y13 : w2.cell? ⟨w.heap.size,0,none⟩ = some (.int .i64 s) := HB.cell 0
  obtain ⟨sz,hsz⟩ : ∃ sz,k'.size = sz := ⟨_,rfl⟩
  rw [hsz] at HREM hsz2
  have hz1 : (sz : Int) ≤ 100 := by omega
  have hii : (i : Int) < (n : Int) := by omega
  have hi0 : (0 : Int) ≤ (i : Int) := by omega
  have hme := fun w => meWh (.pointer (some ⟨b,0,none⟩)) w (h + 1)
  have hen := fun w => enWh #[.pointer (some ⟨b,0,none⟩)] w (h + 1)
  simp only [ndT,whF] at hme hen
  have hmeS := fun w => meSz (.pointer (some ⟨kb,0,none⟩)) w h
  have henS := fun w => enSz #[.pointer (some ⟨kb,0,none⟩)] w h
  have hta := ta_ii
  have htb := ta_il
  have HWH := Lib.hid (fun wq => where_any wq b (h + 1))
  obtain ⟨R,hR⟩ : ∃ R,remN (mkI (-1) (ds.map fun d => d.2.2)) s = R := ⟨_,rfl⟩
  rw [hR] at HREM ⊢
  obtain ⟨FL,hFL⟩ : ∃ FL,b :: g :: dsF ds = FL := ⟨_,rfl⟩
  rw [hFL] at HREM ⊢
  clear hFL hR hsz hn hin0 hw20 hrem hsz1 hsz2 hsz3 hok hk' hbig hfi hkw f1 f2 hd hil hi hs2 HMV HKA HB HI2 hbn HK2 hV1 hbox hA hbl hgl hin hnd hk h1 h8 hinc IH
  show Calls Tryz.prog 101 #[.iface 94 (.pointer (some ⟨b,0,none⟩)),.int .i64 s] w _
  go_enter Tryz.func101,Tryz.ntmps101
  go_wp2_with fail
  refine (HWH.out _).mono ?_
  rintro e w' ⟨rfl,rfl⟩
  go_wp2_with fail
  with_reducible refine HUN.out.mono ?_
  rintro e w' ⟨rfl,rfl⟩
  go_wp2_with fail
  go_region_held3 (fun w' => w'.cell? ⟨b,1,none⟩ = some (.slice (some ⟨g,0,none⟩) n c) ∧ w'.cell? ⟨g,i,none⟩ = some (.iface (ndT h) (.pointer (some ⟨kb,0,none⟩))) ∧ w'.cell? ⟨w.heap.size,0,none⟩ = some (.int .i64 s)) (first | with_reducible exact SH5.out | exact ⟨y11,y12,y13⟩) ((go_at_call 101; (with_reducible refine HREM.out.mono ?_); rintro e w5 ⟨rfl,hc5,hs5,hm5,hr5⟩; have SH5 := Lib.hid hc5; have HS5 := Lib.hid hs5; have HM5 := Lib.hid hm5; have HR5 := Lib.hid hr5; clear hc5 hs5 hm5 hr5))
  clear y11 y12 y13
  obtain ⟨y1,y2,y3⟩ := SH5.out
  by_cases hlt : sz < 4
  · have hlt' : (sz : Int) < 4 := by omega
    have HM6 := Lib.hid (HM5.out hlt)
    go_wp2_with fail
    with_reducible refine HS5.out.mono ?_
    rintro e w' ⟨rfl,rfl⟩
    go_wp2_with fail
    with_reducible refine HM6.out.mono ?_
    rintro e w6 ⟨rfl,hp⟩
    have HP := Lib.hid hp
    clear hp
    go_wp2_with fail
    go_end0
    exact ⟨rfl,HP.out⟩
  · have hlt' : ¬ (sz : Int) < 4 := by omega
    have HP := Lib.hid (HR5.out hlt)
    go_wp2_with fail
    with_reducible refine HS5.out.mono ?_
    rintro e w' ⟨rfl,rfl⟩
    go_wp2_with fail
    go_end0
    exact ⟨rfl,HP.out⟩
theorem rem_any : ∀ h,RemCtr h
  | 0 => fun w F v n s hn hk hb h1 h8 hi => by
    obtain ⟨b,g,c,rfl,rfl,hl⟩ := leaf_open hn.at_
    have hnd := hn.nd
    simp at hnd
    exact rem_leaf w b g c _ _ s hl hnd (by have : n.l.length ≤ 8 := h8; omega)
  | h + 1 => fun w F v n s hn hk hb h1 h8 hi => by
    obtain ⟨b,g,c,ds,rfl,rfl,hl,e⟩ := inner_open hn.at_
    have hlen : n.ks.length = ds.length := by rw [e,List.length_map]
    have h1' : 1 ≤ n.ks.length := h1
    have h8' : n.ks.length ≤ 8 := h8
    have hr : remN n s = remN (mkI (-1) (ds.map fun d => d.2.2)) s := by
      show (let i := under n.ks s; let k := remN (n.ks.getD i (dft h)) s; if k.size < 4 then mkI (-1) (mendL (n.ks.set i k) i) else mkI (-1) (n.ks.set i k)) = _
      rw [e]
      rfl
    rw [hr]
    refine rem_inner h (rem_any h) w b g c _ ds s hl hn.nd ?_ (by omega) (by omega) ?_
    · intro k hm
      exact hk k (by rw [e]; exact hm)
    · have : flat n = flats n.ks := rfl
      rw [this,e] at hi
      exact hi
end Go.Proofs.YtneammhkgmkkfaaGreatDoor.tr
