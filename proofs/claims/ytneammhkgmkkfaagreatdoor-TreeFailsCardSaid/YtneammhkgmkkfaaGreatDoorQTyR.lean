/- A part of the proof. -/
import Derived.Test.YtneammhkgmkkfaaGreatDoorQTyMe
namespace Go.Proofs.YtneammhkgmkkfaaGreatDoor.tr
open Go.RowKit Go.Proofs.YtneammhkgmkkfaaGreatDoor.er
set_option linter.unusedVariables false
set_option linter.unusedSimpArgs false
theorem kid_at {w : World} {h b g c : Nat} {a : Int} {ds : List (Kd h)} (hin : InAt w b g c a ds) {j : Nat} {d : Kd h} (hd : ds[j]? = some d) : ∃ kb,d.2.1 = .iface (ndT h) (.pointer (some ⟨kb,0,none⟩)) ∧ w.cell? ⟨g,j,none⟩ = some (.iface (ndT h) (.pointer (some ⟨kb,0,none⟩))) ∧
    ∀ wq,Keep (fun _ => False) w wq → Calls Tryz.prog (szF h) #[.pointer (some ⟨kb,0,none⟩)] wq fun e w' => e = .returned (.int .i64 d.2.2.size) ∧ wq = w' := by
  have hat := hin.2.2 d (List.mem_of_getElem? hd)
  obtain ⟨kb,F',f1,f2⟩ := hat.form
  refine ⟨kb,f2,?_,fun wq hk => ?_⟩
  · rw [← f2]
    exact hin.2.1.cell (by rw [List.getElem?_map,hd]; rfl)
  · have h1 := hat.keep hk (fun _ _ h => h)
    rw [f2] at h1
    exact size_any wq kb h _ _ h1
def MendRet {h : Nat} (w : World) (b g : Nat) (a : Int) (ds : List (Kd h)) (ks' : List (Nd h)) (e : Ending) (w' : World) : Prop := e = .returned (.tuple #[]) ∧ ∃ g' c' ds',InPost w b g ds w' g' c' a ds' ∧ ds'.map (fun d => d.2.2) = ks'
theorem list_two {α : Type} {l : List α} {j : Nat} {x y : α} (h1 : l[j]? = some x) (h2 : l[j + 1]? = some y) : l = l.take j ++ [x,y] ++ l.drop (j + 2) ∧ (l.take j).length = j := by
  obtain ⟨i1,e1⟩ := List.getElem?_eq_some_iff.1 h1
  obtain ⟨i2,e2⟩ := List.getElem?_eq_some_iff.1 h2
  refine ⟨?_,by rw [List.length_take]; omega⟩
  have a1 : l.drop j = x :: l.drop (j + 1) := by rw [← e1]; exact List.drop_eq_getElem_cons i1
  have a2 : l.drop (j + 1) = y :: l.drop (j + 2) := by rw [← e2]; exact List.drop_eq_getElem_cons i2
  conv => lhs; rw [← List.take_append_drop j l,a1,a2]
  simp
theorem shift_in {w : World} {h b g c : Nat} {a : Int} {P Q : List (Kd h)} {d1 d2 : Kd h} {K : Nat} (hin : InAt w b g c a (P ++ [d1,d2] ++ Q)) (hnd : (b :: g :: dsF (P ++ [d1,d2] ++ Q)).Nodup) (hK0 : 0 < K) (hK : K < d1.2.2.size + d2.2.2.size) (hm : d1.2.2.size + d2.2.2.size ≤ 1000) :
    Calls Tryz.prog 149 #[d1.2.1,d2.2.1,.int .i64 K] w fun e w' => e = .returned (.tuple #[]) ∧ ∃ G1 G2,InPost w b g (P ++ [d1,d2] ++ Q) w' g c a (P ++ [(G1,d1.2.1,(shiftN d1.2.2 d2.2.2 K).1),(G2,d2.2.1,(shiftN d1.2.2 d2.2.2 K).2)] ++ Q) := by
  obtain ⟨t1,t2,t3,t4⟩ := two_nd hin hnd
  refine (shift_any w d1.1 d2.1 d1.2.1 d2.2.1 d1.2.2 d2.2.2 K t1 t2 t3 hK0 (by omega) hm).mono ?_
  rintro e w' ⟨rfl,G1,G2,q1,q2,q3,q4⟩
  have q2' := q2 hK
  refine ⟨rfl,G1,G2,?_⟩
  have hF : dsF [(G1,d1.2.1,(shiftN d1.2.2 d2.2.2 K).1),(G2,d2.2.1,(shiftN d1.2.2 d2.2.2 K).2)] = G1 ++ G2 := by simp [dsF]
  obtain ⟨m1,m2,m3,m4,m5⟩ := mid_keep hin hnd (M' := [(G1,d1.2.1,(shiftN d1.2.2 d2.2.2 K).1),(G2,d2.2.1,(shiftN d1.2.2 d2.2.2 K).2)]) (w' := w')
    ⟨q4.keep.mono (fun k _ hk => by rw [t4]; exact List.mem_append.2 hk),fun k hk => by
      rw [hF] at hk
      rw [t4]
      rcases q4.sub k (List.mem_append.1 hk) with h | h
      · exact .inl (List.mem_append.2 h)
      · exact .inr h⟩
    (fun d hd => by
      simp only [List.mem_cons,List.not_mem_nil,or_false] at hd
      rcases hd with rfl | rfl
      · exact q1.at_
      · exact q2'.at_)
    (by rw [hF]; exact List.nodup_append.2 ⟨q1.nd,q2'.nd,fun x hx y hy e => q3 x hx (e ▸ hy)⟩)
  exact ⟨⟨by simpa using m1,by simpa using m2,m3⟩,m4,m5⟩
theorem getD_of {h : Nat} {ds : List (Kd h)} {j : Nat} {d : Kd h} (hd : ds[j]? = some d) : (ds.map fun d => d.2.2).getD j (dft h) = d.2.2 := by simp [List.getD,hd]
theorem szAt_of {h : Nat} {ds : List (Kd h)} {j : Nat} {d : Kd h} (hd : ds[j]? = some d) : szAt (ds.map fun d => d.2.2) j = d.2.2.size := by unfold szAt; rw [getD_of hd]
set_option maxHeartbeats 4000000 in
set_option maxRecDepth 100000 in
theorem mend_A (w : World) (h b g c j : Nat) (a : Int) (ds : List (Kd h)) (dl dm dr : Kd h) (hin : InAt w b g c a ds) (hnd : (b :: g :: dsF ds).Nodup) (hl : ds.length ≤ 100) (hs1 : 1 ≤ dm.2.2.size) (hsz : ∀ d ∈ ds,d.2.2.size ≤ 100) (hdl : ds[j]? = some dl) (hdm : ds[j + 1]? = some dm) (hsl : 4 < dl.2.2.size) :
    Calls Tryz.prog 125 #[.pointer (some ⟨b,0,none⟩),.int .i64 ((j : Int) + 1)] w (MendRet w b g a ds (mendL (ds.map fun d => d.2.2) (j + 1))) := by
  obtain ⟨m,hm⟩ : ∃ m,ds.length = m + 1 := ⟨ds.length - 1,by have := (List.getElem?_eq_some_iff.1 hdm).1; omega⟩
  have him : j + 1 ≤ m := by have := (List.getElem?_eq_some_iff.1 hdm).1; omega
  have hzl := szAt_of hdl
  have hzm := szAt_of hdm
  have hML : mendL (ds.map fun d => d.2.2) (j + 1) = shiftL (ds.map fun d => d.2.2) j (dl.2.2.size - 1) := by unfold mendL; rw [if_pos ⟨by omega,by rw [Nat.add_sub_cancel,hzl]; exact hsl⟩,Nat.add_sub_cancel,hzl]
  rw [hML]
  obtain ⟨kl,fl,cl,Sl⟩ := kid_at hin hdl
  obtain ⟨sl,el⟩ : ∃ s,dl.2.2.size = s := ⟨_,rfl⟩
  have bl := hsz dl (List.mem_of_getElem? hdl)
  rw [el] at Sl bl
  have HSl := Lib.hid Sl
  have hmel := fun w => meSz (.pointer (some ⟨kl,0,none⟩)) w h
  have henl := fun w => enSz #[.pointer (some ⟨kl,0,none⟩)] w h
  obtain ⟨km,fm,cm,Sm⟩ := kid_at hin hdm
  obtain ⟨sm,em⟩ : ∃ s,dm.2.2.size = s := ⟨_,rfl⟩
  have bm := hsz dm (List.mem_of_getElem? hdm)
  rw [em] at Sm bm
  have HSm := Lib.hid Sm
  have hmem := fun w => meSz (.pointer (some ⟨km,0,none⟩)) w h
  have henm := fun w => enSz #[.pointer (some ⟨km,0,none⟩)] w h
  obtain ⟨hsp,hpl⟩ := list_two hdl hdm
  have HSH : Hid (∀ wq,Keep (fun _ => False) w wq → Calls Tryz.prog 149 #[.iface (ndT h) (.pointer (some ⟨kl,0,none⟩)),.iface (ndT h) (.pointer (some ⟨km,0,none⟩)),.int .i64 ((sl : Int) - 1)] wq fun e w' => MendRet w b g a ds (shiftL (ds.map fun d => d.2.2) (j) (sl - 1)) e w' ∧ w'.cell? ⟨b,1,none⟩ = some (.slice (some ⟨g,0,none⟩) (m + 1) c) ∧ w'.cell? ⟨g,j,none⟩ = some (.iface (ndT h) (.pointer (some ⟨kl,0,none⟩))) ∧ w'.cell? ⟨g,j + 1,none⟩ = some (.iface (ndT h) (.pointer (some ⟨km,0,none⟩)))) := by
    intro wq hk
    have hin2 : InAt wq b g c a (ds.take (j) ++ [dl,dm] ++ ds.drop (j + 2)) := by rw [← hsp]; exact ⟨hin.1.keep hk (fun h => h),hin.2.1.keep hk (fun h => h),kids_keep hk hin.2.2 (fun _ _ h => h)⟩
    have hnd2 := hnd; rw [hsp] at hnd2
    have key := shift_in (K := (sl - 1)) hin2 hnd2 (by omega) (by rw [el,em]; omega) (by rw [el,em]; omega)
    have hcast : ((((sl - 1) : Nat)) : Int) = (sl : Int) - 1 := by omega
    rw [hcast] at key
    have key2 : Calls Tryz.prog 149 #[dl.2.1,dm.2.1,.int .i64 ((sl : Int) - 1)] wq fun e w' => MendRet w b g a ds (shiftL (ds.map fun d => d.2.2) (j) (sl - 1)) e w' ∧ w'.cell? ⟨b,1,none⟩ = some (.slice (some ⟨g,0,none⟩) (m + 1) c) ∧ w'.cell? ⟨g,j,none⟩ = some dl.2.1 ∧ w'.cell? ⟨g,j + 1,none⟩ = some dm.2.1 := by
      refine key.mono ?_
      rintro e w' ⟨rfl,G1,G2,q1,q2,q3⟩
      have hlen : (ds.take (j) ++ [(G1,dl.2.1,(shiftN dl.2.2 dm.2.2 (sl - 1)).1),(G2,dm.2.1,(shiftN dl.2.2 dm.2.2 (sl - 1)).2)] ++ ds.drop (j + 2)).length = m + 1 := by rw [← hm]; conv => { rhs; rw [hsp] }; simp
      have hc1 := q1.1.cell 1
      rw [hlen] at hc1
      refine ⟨⟨rfl,g,c,_,⟨q1,q2,?_⟩,?_⟩,hc1,q1.2.1.cell ?_,q1.2.1.cell ?_⟩
      · rw [← hsp] at q3
        exact ⟨⟨q3.keep.os.trans hk.os,q3.keep.tape.trans hk.tape,q3.keep.output.trans hk.output,Nat.le_trans hk.size q3.keep.size,fun k h1 h2 => (q3.keep.block k (Nat.lt_of_lt_of_le h1 hk.size) h2).trans (hk.block k h1 (fun h => h))⟩,fun k hk2 => (q3.sub k hk2).imp (fun h => h) (fun h => Nat.le_trans hk.size h)⟩
      · conv => rhs; rw [hsp]
        have hml := shiftL_mid ((ds.take (j)).map fun d => d.2.2) ((ds.drop (j + 2)).map fun d => d.2.2) dl.2.2 dm.2.2 (sl - 1)
        rw [List.length_map,hpl] at hml
        simp only [List.map_append,List.map_cons,List.map_nil,List.append_assoc,List.cons_append,List.nil_append]
        exact hml.symm
      · simp only [List.map_append]; rw [List.append_assoc,List.getElem?_append_right (by rw [List.length_map,hpl]; exact Nat.le_refl _),List.length_map,hpl]; simp
      · simp only [List.map_append]; rw [List.append_assoc,List.getElem?_append_right (by rw [List.length_map,hpl]; omega),List.length_map,hpl]; simp
    rw [fl,fm] at key2
    exact key2
  have cb : w.cell? ⟨b,1,none⟩ = some (.slice (some ⟨g,0,none⟩) (m + 1) c) := by have := hin.1.cell 1; rw [hm] at this; exact this
  have q1 : (0 : Int) ≤ (j : Int) := by omega
  have q2 : (j : Int) < (m : Int) + 1 := by omega
  have q3 : (j : Int) + 1 < (m : Int) + 1 := by omega
  have q4 : (0 : Int) ≤ (j : Int) + 1 := by omega
  have q5 : (0 : Int) < (j : Int) + 1 := by omega
  have q6 : ((j : Int) + 1).toNat = j + 1 := by omega
  have q7 : (j : Int) ≤ 1000 := by omega
  have v1 : IntKind.i64.wrap ((j : Int) + 1 - 1) = (j : Int) := by rw [IntKind.wrap_i64]; omega
  have v2 : IntKind.i64.wrap (j : Int) = (j : Int) := by rw [IntKind.wrap_i64]; omega
  have q0 : (m : Int) ≤ 1000 := by omega
  have t1 : (4 : Int) < (sl : Int) := by omega
  have ul : (sl : Int) ≤ 100 := by omega
  have um : (sm : Int) ≤ 100 := by omega
  have v5 : IntKind.i64.wrap ((sl : Int) - 1) = (sl : Int) - 1 := by rw [IntKind.wrap_i64]; omega
  obtain ⟨KS,hKS⟩ : ∃ KS,shiftL (ds.map fun d => d.2.2) (j) (sl - 1) = KS := ⟨_,rfl⟩
  rw [el]
  rw [hKS] at HSH ⊢
  clear hKS hML hm hin hnd hl hsz hzm hdm hs1 him hdl hzl hsl hsp hpl Sl fl el Sm fm em
  go_enter Tryz.func125,Tryz.ntmps125
  go_wp2_with fail
  with_reducible refine (HSl.out _ (Keep.refl _ _)).mono ?_
  rintro e w' ⟨rfl,rfl⟩
  go_wp2_with fail
  go_region_held3 (fun w' => True ∧ w'.cell? ⟨b,1,none⟩ = some (.slice (some ⟨g,0,none⟩) (m + 1) c) ∧ w'.cell? ⟨g,j,none⟩ = some (.iface (ndT h) (.pointer (some ⟨kl,0,none⟩))) ∧ w'.cell? ⟨g,j + 1,none⟩ = some (.iface (ndT h) (.pointer (some ⟨km,0,none⟩)))) (first | exact ⟨trivial,cb,cl,cm⟩ | exact ⟨trivial,SH5.out⟩) ((first | (go_at_call 149; (with_reducible refine (HSH.out _ (Keep.drew (Keep.refl _ _))).mono ?_); intro e w5 ⟨hret,hc5⟩; have HRT := Lib.hid hret; have SH5 := Lib.hid hc5; obtain ⟨rfl,_⟩ := hret; clear hc5) | ((with_reducible refine (HSl.out _ (Keep.drew (Keep.refl _ _))).mono ?_); rintro e w' ⟨rfl,rfl⟩)))
  go_wp2_with fail
  go_end0
  exact HRT.out
set_option maxHeartbeats 4000000 in
set_option maxRecDepth 100000 in
theorem mend_B0 (w : World) (h b g c j : Nat) (a : Int) (ds : List (Kd h)) (dl dm dr : Kd h) (hin : InAt w b g c a ds) (hnd : (b :: g :: dsF ds).Nodup) (hl : ds.length ≤ 100) (hs1 : 1 ≤ dm.2.2.size) (hsz : ∀ d ∈ ds,d.2.2.size ≤ 100) (hdm : ds[0]? = some dm) (hdr : ds[0 + 1]? = some dr) (hsr : 4 < dr.2.2.size) :
    Calls Tryz.prog 125 #[.pointer (some ⟨b,0,none⟩),.int .i64 0] w (MendRet w b g a ds (mendL (ds.map fun d => d.2.2) (0))) := by
  obtain ⟨m,hm⟩ : ∃ m,ds.length = m + 1 := ⟨ds.length - 1,by have := (List.getElem?_eq_some_iff.1 hdm).1; omega⟩
  have him : 0 ≤ m := by have := (List.getElem?_eq_some_iff.1 hdm).1; omega
  have hir : 0 + 1 ≤ m := by have := (List.getElem?_eq_some_iff.1 hdr).1; omega
  have hzm := szAt_of hdm
  have hzr := szAt_of hdr
  have hML : mendL (ds.map fun d => d.2.2) (0) = shiftL (ds.map fun d => d.2.2) (0) (dm.2.2.size + 1) := by unfold mendL; rw [if_neg (by rintro ⟨q1,q2⟩; omega)]; rw [if_pos ⟨by rw [List.length_map]; omega,by rw [hzr]; exact hsr⟩,hzm]
  rw [hML]
  obtain ⟨km,fm,cm,Sm⟩ := kid_at hin hdm
  obtain ⟨sm,em⟩ : ∃ s,dm.2.2.size = s := ⟨_,rfl⟩
  have bm := hsz dm (List.mem_of_getElem? hdm)
  rw [em] at Sm bm
  have HSm := Lib.hid Sm
  have hmem := fun w => meSz (.pointer (some ⟨km,0,none⟩)) w h
  have henm := fun w => enSz #[.pointer (some ⟨km,0,none⟩)] w h
  obtain ⟨kr,fr,cr,Sr⟩ := kid_at hin hdr
  obtain ⟨sr,er⟩ : ∃ s,dr.2.2.size = s := ⟨_,rfl⟩
  have br := hsz dr (List.mem_of_getElem? hdr)
  rw [er] at Sr br
  have HSr := Lib.hid Sr
  have hmer := fun w => meSz (.pointer (some ⟨kr,0,none⟩)) w h
  have henr := fun w => enSz #[.pointer (some ⟨kr,0,none⟩)] w h
  obtain ⟨hsp,hpl⟩ := list_two hdm hdr
  have HSH : Hid (∀ wq,Keep (fun _ => False) w wq → Calls Tryz.prog 149 #[.iface (ndT h) (.pointer (some ⟨km,0,none⟩)),.iface (ndT h) (.pointer (some ⟨kr,0,none⟩)),.int .i64 ((sm : Int) + 1)] wq fun e w' => MendRet w b g a ds (shiftL (ds.map fun d => d.2.2) (0) (sm + 1)) e w' ∧ w'.cell? ⟨b,1,none⟩ = some (.slice (some ⟨g,0,none⟩) (m + 1) c) ∧ w'.cell? ⟨g,0,none⟩ = some (.iface (ndT h) (.pointer (some ⟨km,0,none⟩))) ∧ w'.cell? ⟨g,0 + 1,none⟩ = some (.iface (ndT h) (.pointer (some ⟨kr,0,none⟩)))) := by
    intro wq hk
    have hin2 : InAt wq b g c a (ds.take (0) ++ [dm,dr] ++ ds.drop (0 + 2)) := by rw [← hsp]; exact ⟨hin.1.keep hk (fun h => h),hin.2.1.keep hk (fun h => h),kids_keep hk hin.2.2 (fun _ _ h => h)⟩
    have hnd2 := hnd; rw [hsp] at hnd2
    have key := shift_in (K := (sm + 1)) hin2 hnd2 (by omega) (by rw [em,er]; omega) (by rw [em,er]; omega)
    have hcast : ((((sm + 1) : Nat)) : Int) = (sm : Int) + 1 := by omega
    rw [hcast] at key
    have key2 : Calls Tryz.prog 149 #[dm.2.1,dr.2.1,.int .i64 ((sm : Int) + 1)] wq fun e w' => MendRet w b g a ds (shiftL (ds.map fun d => d.2.2) (0) (sm + 1)) e w' ∧ w'.cell? ⟨b,1,none⟩ = some (.slice (some ⟨g,0,none⟩) (m + 1) c) ∧ w'.cell? ⟨g,0,none⟩ = some dm.2.1 ∧ w'.cell? ⟨g,0 + 1,none⟩ = some dr.2.1 := by
      refine key.mono ?_
      rintro e w' ⟨rfl,G1,G2,q1,q2,q3⟩
      have hlen : (ds.take (0) ++ [(G1,dm.2.1,(shiftN dm.2.2 dr.2.2 (sm + 1)).1),(G2,dr.2.1,(shiftN dm.2.2 dr.2.2 (sm + 1)).2)] ++ ds.drop (0 + 2)).length = m + 1 := by rw [← hm]; conv => { rhs; rw [hsp] }; simp
      have hc1 := q1.1.cell 1
      rw [hlen] at hc1
      refine ⟨⟨rfl,g,c,_,⟨q1,q2,?_⟩,?_⟩,hc1,q1.2.1.cell ?_,q1.2.1.cell ?_⟩
      · rw [← hsp] at q3
        exact ⟨⟨q3.keep.os.trans hk.os,q3.keep.tape.trans hk.tape,q3.keep.output.trans hk.output,Nat.le_trans hk.size q3.keep.size,fun k h1 h2 => (q3.keep.block k (Nat.lt_of_lt_of_le h1 hk.size) h2).trans (hk.block k h1 (fun h => h))⟩,fun k hk2 => (q3.sub k hk2).imp (fun h => h) (fun h => Nat.le_trans hk.size h)⟩
      · conv => rhs; rw [hsp]
        have hml := shiftL_mid ((ds.take (0)).map fun d => d.2.2) ((ds.drop (0 + 2)).map fun d => d.2.2) dm.2.2 dr.2.2 (sm + 1)
        rw [List.length_map,hpl] at hml
        simp only [List.map_append,List.map_cons,List.map_nil,List.append_assoc,List.cons_append,List.nil_append]
        exact hml.symm
      · simp only [List.map_append]; rw [List.append_assoc,List.getElem?_append_right (by rw [List.length_map,hpl]; exact Nat.le_refl _),List.length_map,hpl]; simp
      · simp only [List.map_append]; rw [List.append_assoc,List.getElem?_append_right (by rw [List.length_map,hpl]; omega),List.length_map,hpl]; simp
    rw [fm,fr] at key2
    exact key2
  have cb : w.cell? ⟨b,1,none⟩ = some (.slice (some ⟨g,0,none⟩) (m + 1) c) := by have := hin.1.cell 1; rw [hm] at this; exact this
  have q1 : (0 : Int) < (m : Int) + 1 := by omega
  have q8 : (0 : Int) < (m : Int) := by omega
  have q9 : (1 : Int) < (m : Int) + 1 := by omega
  have q9b : 1 < m + 1 := by omega
  have q9c : 0 < m := by omega
  have v3 : IntKind.i64.wrap (0 + 1) = 1 := by rw [IntKind.wrap_i64]; omega
  have v4 : IntKind.i64.wrap 1 = 1 := by rw [IntKind.wrap_i64]; omega
  have q0 : (m : Int) ≤ 1000 := by omega
  have t2 : (4 : Int) < (sr : Int) := by omega
  have um : (sm : Int) ≤ 100 := by omega
  have ur : (sr : Int) ≤ 100 := by omega
  have v5 : IntKind.i64.wrap ((sm : Int) + 1) = (sm : Int) + 1 := by rw [IntKind.wrap_i64]; omega
  obtain ⟨KS,hKS⟩ : ∃ KS,shiftL (ds.map fun d => d.2.2) (0) (sm + 1) = KS := ⟨_,rfl⟩
  rw [em]
  rw [hKS] at HSH ⊢
  clear hKS hML hm hin hnd hl hsz hzm hdm hs1 him hdr hzr hsr hir hsp hpl Sm fm em Sr fr er
  go_enter Tryz.func125,Tryz.ntmps125
  go_wp2_with fail
  with_reducible refine (HSr.out _ (Keep.refl _ _)).mono ?_
  rintro e w' ⟨rfl,rfl⟩
  go_wp2_with fail
  go_region_held3 (fun w' => True ∧ w'.cell? ⟨b,1,none⟩ = some (.slice (some ⟨g,0,none⟩) (m + 1) c) ∧ w'.cell? ⟨g,0,none⟩ = some (.iface (ndT h) (.pointer (some ⟨km,0,none⟩))) ∧ w'.cell? ⟨g,0 + 1,none⟩ = some (.iface (ndT h) (.pointer (some ⟨kr,0,none⟩)))) (first | exact ⟨trivial,cb,cm,cr⟩ | exact ⟨trivial,SH5.out⟩) ((first | (go_at_call 149; (with_reducible refine (HSH.out _ (Keep.drew (Keep.refl _ _))).mono ?_); intro e w5 ⟨hret,hc5⟩; have HRT := Lib.hid hret; have SH5 := Lib.hid hc5; obtain ⟨rfl,_⟩ := hret; clear hc5) | ((with_reducible refine (HSm.out _ (Keep.drew (Keep.refl _ _))).mono ?_); rintro e w' ⟨rfl,rfl⟩)))
  go_wp2_with fail
  go_end0
  exact HRT.out
set_option maxHeartbeats 4000000 in
set_option maxRecDepth 100000 in
theorem mend_B1 (w : World) (h b g c j : Nat) (a : Int) (ds : List (Kd h)) (dl dm dr : Kd h) (hin : InAt w b g c a ds) (hnd : (b :: g :: dsF ds).Nodup) (hl : ds.length ≤ 100) (hs1 : 1 ≤ dm.2.2.size) (hsz : ∀ d ∈ ds,d.2.2.size ≤ 100) (hdl : ds[j]? = some dl) (hdm : ds[j + 1]? = some dm) (hdr : ds[j + 1 + 1]? = some dr) (hsl : dl.2.2.size ≤ 4) (hsr : 4 < dr.2.2.size) :
    Calls Tryz.prog 125 #[.pointer (some ⟨b,0,none⟩),.int .i64 ((j : Int) + 1)] w (MendRet w b g a ds (mendL (ds.map fun d => d.2.2) (j + 1))) := by
  obtain ⟨m,hm⟩ : ∃ m,ds.length = m + 1 := ⟨ds.length - 1,by have := (List.getElem?_eq_some_iff.1 hdm).1; omega⟩
  have him : j + 1 ≤ m := by have := (List.getElem?_eq_some_iff.1 hdm).1; omega
  have hir : j + 1 + 1 ≤ m := by have := (List.getElem?_eq_some_iff.1 hdr).1; omega
  have hzl := szAt_of hdl
  have hzm := szAt_of hdm
  have hzr := szAt_of hdr
  have hML : mendL (ds.map fun d => d.2.2) (j + 1) = shiftL (ds.map fun d => d.2.2) (j + 1) (dm.2.2.size + 1) := by unfold mendL; rw [if_neg (by rintro ⟨q1,q2⟩; rw [Nat.add_sub_cancel,hzl] at q2; omega)]; rw [if_pos ⟨by rw [List.length_map]; omega,by rw [hzr]; exact hsr⟩,hzm]
  rw [hML]
  obtain ⟨kl,fl,cl,Sl⟩ := kid_at hin hdl
  obtain ⟨sl,el⟩ : ∃ s,dl.2.2.size = s := ⟨_,rfl⟩
  have bl := hsz dl (List.mem_of_getElem? hdl)
  rw [el] at Sl bl
  have HSl := Lib.hid Sl
  have hmel := fun w => meSz (.pointer (some ⟨kl,0,none⟩)) w h
  have henl := fun w => enSz #[.pointer (some ⟨kl,0,none⟩)] w h
  obtain ⟨km,fm,cm,Sm⟩ := kid_at hin hdm
  obtain ⟨sm,em⟩ : ∃ s,dm.2.2.size = s := ⟨_,rfl⟩
  have bm := hsz dm (List.mem_of_getElem? hdm)
  rw [em] at Sm bm
  have HSm := Lib.hid Sm
  have hmem := fun w => meSz (.pointer (some ⟨km,0,none⟩)) w h
  have henm := fun w => enSz #[.pointer (some ⟨km,0,none⟩)] w h
  obtain ⟨kr,fr,cr,Sr⟩ := kid_at hin hdr
  obtain ⟨sr,er⟩ : ∃ s,dr.2.2.size = s := ⟨_,rfl⟩
  have br := hsz dr (List.mem_of_getElem? hdr)
  rw [er] at Sr br
  have HSr := Lib.hid Sr
  have hmer := fun w => meSz (.pointer (some ⟨kr,0,none⟩)) w h
  have henr := fun w => enSz #[.pointer (some ⟨kr,0,none⟩)] w h
  obtain ⟨hsp,hpl⟩ := list_two hdm hdr
  have HSH : Hid (∀ wq,Keep (fun _ => False) w wq → Calls Tryz.prog 149 #[.iface (ndT h) (.pointer (some ⟨km,0,none⟩)),.iface (ndT h) (.pointer (some ⟨kr,0,none⟩)),.int .i64 ((sm : Int) + 1)] wq fun e w' => MendRet w b g a ds (shiftL (ds.map fun d => d.2.2) (j + 1) (sm + 1)) e w' ∧ w'.cell? ⟨b,1,none⟩ = some (.slice (some ⟨g,0,none⟩) (m + 1) c) ∧ w'.cell? ⟨g,j + 1,none⟩ = some (.iface (ndT h) (.pointer (some ⟨km,0,none⟩))) ∧ w'.cell? ⟨g,j + 1 + 1,none⟩ = some (.iface (ndT h) (.pointer (some ⟨kr,0,none⟩)))) := by
    intro wq hk
    have hin2 : InAt wq b g c a (ds.take (j + 1) ++ [dm,dr] ++ ds.drop (j + 1 + 2)) := by rw [← hsp]; exact ⟨hin.1.keep hk (fun h => h),hin.2.1.keep hk (fun h => h),kids_keep hk hin.2.2 (fun _ _ h => h)⟩
    have hnd2 := hnd; rw [hsp] at hnd2
    have key := shift_in (K := (sm + 1)) hin2 hnd2 (by omega) (by rw [em,er]; omega) (by rw [em,er]; omega)
    have hcast : ((((sm + 1) : Nat)) : Int) = (sm : Int) + 1 := by omega
    rw [hcast] at key
    have key2 : Calls Tryz.prog 149 #[dm.2.1,dr.2.1,.int .i64 ((sm : Int) + 1)] wq fun e w' => MendRet w b g a ds (shiftL (ds.map fun d => d.2.2) (j + 1) (sm + 1)) e w' ∧ w'.cell? ⟨b,1,none⟩ = some (.slice (some ⟨g,0,none⟩) (m + 1) c) ∧ w'.cell? ⟨g,j + 1,none⟩ = some dm.2.1 ∧ w'.cell? ⟨g,j + 1 + 1,none⟩ = some dr.2.1 := by
      refine key.mono ?_
      rintro e w' ⟨rfl,G1,G2,q1,q2,q3⟩
      have hlen : (ds.take (j + 1) ++ [(G1,dm.2.1,(shiftN dm.2.2 dr.2.2 (sm + 1)).1),(G2,dr.2.1,(shiftN dm.2.2 dr.2.2 (sm + 1)).2)] ++ ds.drop (j + 1 + 2)).length = m + 1 := by rw [← hm]; conv => { rhs; rw [hsp] }; simp
      have hc1 := q1.1.cell 1
      rw [hlen] at hc1
      refine ⟨⟨rfl,g,c,_,⟨q1,q2,?_⟩,?_⟩,hc1,q1.2.1.cell ?_,q1.2.1.cell ?_⟩
      · rw [← hsp] at q3
        exact ⟨⟨q3.keep.os.trans hk.os,q3.keep.tape.trans hk.tape,q3.keep.output.trans hk.output,Nat.le_trans hk.size q3.keep.size,fun k h1 h2 => (q3.keep.block k (Nat.lt_of_lt_of_le h1 hk.size) h2).trans (hk.block k h1 (fun h => h))⟩,fun k hk2 => (q3.sub k hk2).imp (fun h => h) (fun h => Nat.le_trans hk.size h)⟩
      · conv => rhs; rw [hsp]
        have hml := shiftL_mid ((ds.take (j + 1)).map fun d => d.2.2) ((ds.drop (j + 1 + 2)).map fun d => d.2.2) dm.2.2 dr.2.2 (sm + 1)
        rw [List.length_map,hpl] at hml
        simp only [List.map_append,List.map_cons,List.map_nil,List.append_assoc,List.cons_append,List.nil_append]
        exact hml.symm
      · simp only [List.map_append]; rw [List.append_assoc,List.getElem?_append_right (by rw [List.length_map,hpl]; exact Nat.le_refl _),List.length_map,hpl]; simp
      · simp only [List.map_append]; rw [List.append_assoc,List.getElem?_append_right (by rw [List.length_map,hpl]; omega),List.length_map,hpl]; simp
    rw [fm,fr] at key2
    exact key2
  have cb : w.cell? ⟨b,1,none⟩ = some (.slice (some ⟨g,0,none⟩) (m + 1) c) := by have := hin.1.cell 1; rw [hm] at this; exact this
  have q1 : (0 : Int) ≤ (j : Int) := by omega
  have q2 : (j : Int) < (m : Int) + 1 := by omega
  have q3 : (j : Int) + 1 < (m : Int) + 1 := by omega
  have q4 : (0 : Int) ≤ (j : Int) + 1 := by omega
  have q5 : (0 : Int) < (j : Int) + 1 := by omega
  have q6 : ((j : Int) + 1).toNat = j + 1 := by omega
  have q7 : (j : Int) ≤ 1000 := by omega
  have v1 : IntKind.i64.wrap ((j : Int) + 1 - 1) = (j : Int) := by rw [IntKind.wrap_i64]; omega
  have v2 : IntKind.i64.wrap (j : Int) = (j : Int) := by rw [IntKind.wrap_i64]; omega
  have q8 : (j : Int) + 1 < (m : Int) := by omega
  have q9 : (j : Int) + 1 + 1 < (m : Int) + 1 := by omega
  have q10 : (0 : Int) ≤ (j : Int) + 1 + 1 := by omega
  have q11 : ((j : Int) + 1 + 1).toNat = j + 1 + 1 := by omega
  have v3 : IntKind.i64.wrap ((j : Int) + 1 + 1) = (j : Int) + 1 + 1 := by rw [IntKind.wrap_i64]; omega
  have q0 : (m : Int) ≤ 1000 := by omega
  have t1 : ¬ (4 : Int) < (sl : Int) := by omega
  have t2 : (4 : Int) < (sr : Int) := by omega
  have ul : (sl : Int) ≤ 100 := by omega
  have um : (sm : Int) ≤ 100 := by omega
  have ur : (sr : Int) ≤ 100 := by omega
  have v5 : IntKind.i64.wrap ((sm : Int) + 1) = (sm : Int) + 1 := by rw [IntKind.wrap_i64]; omega
  obtain ⟨KS,hKS⟩ : ∃ KS,shiftL (ds.map fun d => d.2.2) (j + 1) (sm + 1) = KS := ⟨_,rfl⟩
  rw [em]
  rw [hKS] at HSH ⊢
  clear hKS hML hm hin hnd hl hsz hzm hdm hs1 him hdl hzl hsl hdr hzr hsr hir hsp hpl Sl fl el Sm fm em Sr fr er
  go_enter Tryz.func125,Tryz.ntmps125
  go_wp2_with fail
  with_reducible refine (HSl.out _ (Keep.refl _ _)).mono ?_
  rintro e w' ⟨rfl,rfl⟩
  go_wp2_with fail
  with_reducible refine (HSr.out _ (Keep.refl _ _)).mono ?_
  rintro e w' ⟨rfl,rfl⟩
  go_wp2_with fail
  go_region_held3 (fun w' => True ∧ w'.cell? ⟨b,1,none⟩ = some (.slice (some ⟨g,0,none⟩) (m + 1) c) ∧ w'.cell? ⟨g,j + 1,none⟩ = some (.iface (ndT h) (.pointer (some ⟨km,0,none⟩))) ∧ w'.cell? ⟨g,j + 1 + 1,none⟩ = some (.iface (ndT h) (.pointer (some ⟨kr,0,none⟩)))) (first | exact ⟨trivial,cb,cm,cr⟩ | exact ⟨trivial,SH5.out⟩) ((first | (go_at_call 149; (with_reducible refine (HSH.out _ (Keep.drew (Keep.refl _ _))).mono ?_); intro e w5 ⟨hret,hc5⟩; have HRT := Lib.hid hret; have SH5 := Lib.hid hc5; obtain ⟨rfl,_⟩ := hret; clear hc5) | ((with_reducible refine (HSm.out _ (Keep.drew (Keep.refl _ _))).mono ?_); rintro e w' ⟨rfl,rfl⟩)))
  go_wp2_with fail
  go_end0
  exact HRT.out
set_option maxHeartbeats 4000000 in
set_option maxRecDepth 100000 in
theorem mend_C0 (w : World) (h b g c j : Nat) (a : Int) (ds : List (Kd h)) (dl dm dr : Kd h) (hin : InAt w b g c a ds) (hnd : (b :: g :: dsF ds).Nodup) (hl : ds.length ≤ 100) (hs1 : 1 ≤ dm.2.2.size) (hsz : ∀ d ∈ ds,d.2.2.size ≤ 100) (hdl : ds[j]? = some dl) (hdm : ds[j + 1]? = some dm) (hr : ds.length = j + 1 + 1) (hsl : dl.2.2.size ≤ 4) :
    Calls Tryz.prog 125 #[.pointer (some ⟨b,0,none⟩),.int .i64 ((j : Int) + 1)] w (MendRet w b g a ds (mendL (ds.map fun d => d.2.2) (j + 1))) := by
  obtain ⟨m,hm⟩ : ∃ m,ds.length = m + 1 := ⟨ds.length - 1,by have := (List.getElem?_eq_some_iff.1 hdm).1; omega⟩
  have him : j + 1 ≤ m := by have := (List.getElem?_eq_some_iff.1 hdm).1; omega
  have hzl := szAt_of hdl
  have hzm := szAt_of hdm
  have hML : mendL (ds.map fun d => d.2.2) (j + 1) = mergeL (ds.map fun d => d.2.2) j := by unfold mendL; rw [if_neg (by rintro ⟨q1,q2⟩; rw [Nat.add_sub_cancel,hzl] at q2; omega)]; rw [if_neg (by rintro ⟨q1,q2⟩; rw [List.length_map] at q1; omega)]; rw [if_pos (by omega),Nat.add_sub_cancel]
  rw [hML]
  obtain ⟨kl,fl,cl,Sl⟩ := kid_at hin hdl
  obtain ⟨sl,el⟩ : ∃ s,dl.2.2.size = s := ⟨_,rfl⟩
  have bl := hsz dl (List.mem_of_getElem? hdl)
  rw [el] at Sl bl
  have HSl := Lib.hid Sl
  have hmel := fun w => meSz (.pointer (some ⟨kl,0,none⟩)) w h
  have henl := fun w => enSz #[.pointer (some ⟨kl,0,none⟩)] w h
  obtain ⟨km,fm,cm,Sm⟩ := kid_at hin hdm
  obtain ⟨sm,em⟩ : ∃ s,dm.2.2.size = s := ⟨_,rfl⟩
  have bm := hsz dm (List.mem_of_getElem? hdm)
  rw [em] at Sm bm
  have HSm := Lib.hid Sm
  have hmem := fun w => meSz (.pointer (some ⟨km,0,none⟩)) w h
  have henm := fun w => enSz #[.pointer (some ⟨km,0,none⟩)] w h
  obtain ⟨hsp,hpl⟩ := list_two hdl hdm
  have HMG : Hid (Calls Tryz.prog 150 #[.pointer (some ⟨b,0,none⟩),.int .i64 (j : Int)] w (MendRet w b g a ds (mergeL (ds.map fun d => d.2.2) j))) := by
    have hin2 := hin; rw [hsp] at hin2
    have hnd2 := hnd; rw [hsp] at hnd2
    have hl2 := hl; rw [hsp] at hl2
    have key := merge_any w h b g c j (j : Int) a _ _ dl dm hin2 hnd2 hpl (by simp) (by rw [el,em]; omega) (by rw [el,em]; omega) (by omega)
    refine key.mono ?_
    rintro e w' ⟨rfl,G1,q⟩
    refine ⟨rfl,g,c,_,by rw [← hsp] at q; exact q,?_⟩
    conv => rhs; rw [hsp]
    have hml := mergeL_mid ((ds.take j).map fun d => d.2.2) ((ds.drop (j + 2)).map fun d => d.2.2) dl.2.2 dm.2.2
    rw [List.length_map,hpl] at hml
    simp only [List.map_append,List.map_cons,List.map_nil,List.append_assoc,List.cons_append,List.nil_append]
    exact hml.symm
  have cb : w.cell? ⟨b,1,none⟩ = some (.slice (some ⟨g,0,none⟩) (m + 1) c) := by have := hin.1.cell 1; rw [hm] at this; exact this
  have q1 : (0 : Int) ≤ (j : Int) := by omega
  have q2 : (j : Int) < (m : Int) + 1 := by omega
  have q3 : (j : Int) + 1 < (m : Int) + 1 := by omega
  have q4 : (0 : Int) ≤ (j : Int) + 1 := by omega
  have q5 : (0 : Int) < (j : Int) + 1 := by omega
  have q6 : ((j : Int) + 1).toNat = j + 1 := by omega
  have q7 : (j : Int) ≤ 1000 := by omega
  have v1 : IntKind.i64.wrap ((j : Int) + 1 - 1) = (j : Int) := by rw [IntKind.wrap_i64]; omega
  have v2 : IntKind.i64.wrap (j : Int) = (j : Int) := by rw [IntKind.wrap_i64]; omega
  have q8 : ¬ (j : Int) + 1 < (m : Int) := by omega
  have q0 : (m : Int) ≤ 1000 := by omega
  have t1 : ¬ (4 : Int) < (sl : Int) := by omega
  have ul : (sl : Int) ≤ 100 := by omega
  have um : (sm : Int) ≤ 100 := by omega
  obtain ⟨KS,hKS⟩ : ∃ KS,mergeL (ds.map fun d => d.2.2) j = KS := ⟨_,rfl⟩
  rw [hKS] at HMG ⊢
  clear hKS hML hm hin hnd hl hsz hzm hdm hs1 him hdl hzl hsl hr hsp hpl Sl fl el Sm fm em
  go_enter Tryz.func125,Tryz.ntmps125
  go_wp2_with fail
  with_reducible refine (HSl.out _ (Keep.refl _ _)).mono ?_
  rintro e w' ⟨rfl,rfl⟩
  go_wp2_with fail
  with_reducible refine (HMG.out).mono ?_
  intro e w5 hret
  have HRT := Lib.hid hret
  obtain ⟨rfl,_⟩ := hret
  go_wp2_with fail
  go_end0
  exact HRT.out
set_option maxHeartbeats 4000000 in
set_option maxRecDepth 100000 in
theorem mend_C1 (w : World) (h b g c j : Nat) (a : Int) (ds : List (Kd h)) (dl dm dr : Kd h) (hin : InAt w b g c a ds) (hnd : (b :: g :: dsF ds).Nodup) (hl : ds.length ≤ 100) (hs1 : 1 ≤ dm.2.2.size) (hsz : ∀ d ∈ ds,d.2.2.size ≤ 100) (hdl : ds[j]? = some dl) (hdm : ds[j + 1]? = some dm) (hdr : ds[j + 1 + 1]? = some dr) (hsl : dl.2.2.size ≤ 4) (hsr : dr.2.2.size ≤ 4) :
    Calls Tryz.prog 125 #[.pointer (some ⟨b,0,none⟩),.int .i64 ((j : Int) + 1)] w (MendRet w b g a ds (mendL (ds.map fun d => d.2.2) (j + 1))) := by
  obtain ⟨m,hm⟩ : ∃ m,ds.length = m + 1 := ⟨ds.length - 1,by have := (List.getElem?_eq_some_iff.1 hdm).1; omega⟩
  have him : j + 1 ≤ m := by have := (List.getElem?_eq_some_iff.1 hdm).1; omega
  have hir : j + 1 + 1 ≤ m := by have := (List.getElem?_eq_some_iff.1 hdr).1; omega
  have hzl := szAt_of hdl
  have hzm := szAt_of hdm
  have hzr := szAt_of hdr
  have hML : mendL (ds.map fun d => d.2.2) (j + 1) = mergeL (ds.map fun d => d.2.2) j := by unfold mendL; rw [if_neg (by rintro ⟨q1,q2⟩; rw [Nat.add_sub_cancel,hzl] at q2; omega)]; rw [if_neg (by rintro ⟨q1,q2⟩; rw [hzr] at q2; omega)]; rw [if_pos (by omega),Nat.add_sub_cancel]
  rw [hML]
  obtain ⟨kl,fl,cl,Sl⟩ := kid_at hin hdl
  obtain ⟨sl,el⟩ : ∃ s,dl.2.2.size = s := ⟨_,rfl⟩
  have bl := hsz dl (List.mem_of_getElem? hdl)
  rw [el] at Sl bl
  have HSl := Lib.hid Sl
  have hmel := fun w => meSz (.pointer (some ⟨kl,0,none⟩)) w h
  have henl := fun w => enSz #[.pointer (some ⟨kl,0,none⟩)] w h
  obtain ⟨km,fm,cm,Sm⟩ := kid_at hin hdm
  obtain ⟨sm,em⟩ : ∃ s,dm.2.2.size = s := ⟨_,rfl⟩
  have bm := hsz dm (List.mem_of_getElem? hdm)
  rw [em] at Sm bm
  have HSm := Lib.hid Sm
  have hmem := fun w => meSz (.pointer (some ⟨km,0,none⟩)) w h
  have henm := fun w => enSz #[.pointer (some ⟨km,0,none⟩)] w h
  obtain ⟨kr,fr,cr,Sr⟩ := kid_at hin hdr
  obtain ⟨sr,er⟩ : ∃ s,dr.2.2.size = s := ⟨_,rfl⟩
  have br := hsz dr (List.mem_of_getElem? hdr)
  rw [er] at Sr br
  have HSr := Lib.hid Sr
  have hmer := fun w => meSz (.pointer (some ⟨kr,0,none⟩)) w h
  have henr := fun w => enSz #[.pointer (some ⟨kr,0,none⟩)] w h
  obtain ⟨hsp,hpl⟩ := list_two hdl hdm
  have HMG : Hid (Calls Tryz.prog 150 #[.pointer (some ⟨b,0,none⟩),.int .i64 (j : Int)] w (MendRet w b g a ds (mergeL (ds.map fun d => d.2.2) j))) := by
    have hin2 := hin; rw [hsp] at hin2
    have hnd2 := hnd; rw [hsp] at hnd2
    have hl2 := hl; rw [hsp] at hl2
    have key := merge_any w h b g c j (j : Int) a _ _ dl dm hin2 hnd2 hpl (by simp) (by rw [el,em]; omega) (by rw [el,em]; omega) (by omega)
    refine key.mono ?_
    rintro e w' ⟨rfl,G1,q⟩
    refine ⟨rfl,g,c,_,by rw [← hsp] at q; exact q,?_⟩
    conv => rhs; rw [hsp]
    have hml := mergeL_mid ((ds.take j).map fun d => d.2.2) ((ds.drop (j + 2)).map fun d => d.2.2) dl.2.2 dm.2.2
    rw [List.length_map,hpl] at hml
    simp only [List.map_append,List.map_cons,List.map_nil,List.append_assoc,List.cons_append,List.nil_append]
    exact hml.symm
  have cb : w.cell? ⟨b,1,none⟩ = some (.slice (some ⟨g,0,none⟩) (m + 1) c) := by have := hin.1.cell 1; rw [hm] at this; exact this
  have q1 : (0 : Int) ≤ (j : Int) := by omega
  have q2 : (j : Int) < (m : Int) + 1 := by omega
  have q3 : (j : Int) + 1 < (m : Int) + 1 := by omega
  have q4 : (0 : Int) ≤ (j : Int) + 1 := by omega
  have q5 : (0 : Int) < (j : Int) + 1 := by omega
  have q6 : ((j : Int) + 1).toNat = j + 1 := by omega
  have q7 : (j : Int) ≤ 1000 := by omega
  have v1 : IntKind.i64.wrap ((j : Int) + 1 - 1) = (j : Int) := by rw [IntKind.wrap_i64]; omega
  have v2 : IntKind.i64.wrap (j : Int) = (j : Int) := by rw [IntKind.wrap_i64]; omega
  have q8 : (j : Int) + 1 < (m : Int) := by omega
  have q9 : (j : Int) + 1 + 1 < (m : Int) + 1 := by omega
  have q10 : (0 : Int) ≤ (j : Int) + 1 + 1 := by omega
  have q11 : ((j : Int) + 1 + 1).toNat = j + 1 + 1 := by omega
  have v3 : IntKind.i64.wrap ((j : Int) + 1 + 1) = (j : Int) + 1 + 1 := by rw [IntKind.wrap_i64]; omega
  have q0 : (m : Int) ≤ 1000 := by omega
  have t1 : ¬ (4 : Int) < (sl : Int) := by omega
  have t2 : ¬ (4 : Int) < (sr : Int) := by omega
  have ul : (sl : Int) ≤ 100 := by omega
  have um : (sm : Int) ≤ 100 := by omega
  have ur : (sr : Int) ≤ 100 := by omega
  obtain ⟨KS,hKS⟩ : ∃ KS,mergeL (ds.map fun d => d.2.2) j = KS := ⟨_,rfl⟩
  rw [hKS] at HMG ⊢
  clear hKS hML hm hin hnd hl hsz hzm hdm hs1 him hdl hzl hsl hdr hzr hsr hir hsp hpl Sl fl el Sm fm em Sr fr er
  go_enter Tryz.func125,Tryz.ntmps125
  go_wp2_with fail
  with_reducible refine (HSl.out _ (Keep.refl _ _)).mono ?_
  rintro e w' ⟨rfl,rfl⟩
  go_wp2_with fail
  with_reducible refine (HSr.out _ (Keep.refl _ _)).mono ?_
  rintro e w' ⟨rfl,rfl⟩
  go_wp2_with fail
  with_reducible refine (HMG.out).mono ?_
  intro e w5 hret
  have HRT := Lib.hid hret
  obtain ⟨rfl,_⟩ := hret
  go_wp2_with fail
  go_end0
  exact HRT.out
set_option maxHeartbeats 4000000 in
set_option maxRecDepth 100000 in
theorem mend_D (w : World) (h b g c j : Nat) (a : Int) (ds : List (Kd h)) (dl dm dr : Kd h) (hin : InAt w b g c a ds) (hnd : (b :: g :: dsF ds).Nodup) (hl : ds.length ≤ 100) (hs1 : 1 ≤ dm.2.2.size) (hsz : ∀ d ∈ ds,d.2.2.size ≤ 100) (hdm : ds[0]? = some dm) (hdr : ds[0 + 1]? = some dr) (hsr : dr.2.2.size ≤ 4) :
    Calls Tryz.prog 125 #[.pointer (some ⟨b,0,none⟩),.int .i64 0] w (MendRet w b g a ds (mendL (ds.map fun d => d.2.2) (0))) := by
  obtain ⟨m,hm⟩ : ∃ m,ds.length = m + 1 := ⟨ds.length - 1,by have := (List.getElem?_eq_some_iff.1 hdm).1; omega⟩
  have him : 0 ≤ m := by have := (List.getElem?_eq_some_iff.1 hdm).1; omega
  have hir : 0 + 1 ≤ m := by have := (List.getElem?_eq_some_iff.1 hdr).1; omega
  have hzm := szAt_of hdm
  have hzr := szAt_of hdr
  have hML : mendL (ds.map fun d => d.2.2) 0 = mergeL (ds.map fun d => d.2.2) 0 := by unfold mendL; rw [if_neg (by rintro ⟨q1,q2⟩; omega)]; rw [if_neg (by rintro ⟨q1,q2⟩; rw [hzr] at q2; omega)]; rw [if_neg (by omega),if_pos (by rw [List.length_map]; omega)]
  rw [hML]
  obtain ⟨km,fm,cm,Sm⟩ := kid_at hin hdm
  obtain ⟨sm,em⟩ : ∃ s,dm.2.2.size = s := ⟨_,rfl⟩
  have bm := hsz dm (List.mem_of_getElem? hdm)
  rw [em] at Sm bm
  have HSm := Lib.hid Sm
  have hmem := fun w => meSz (.pointer (some ⟨km,0,none⟩)) w h
  have henm := fun w => enSz #[.pointer (some ⟨km,0,none⟩)] w h
  obtain ⟨kr,fr,cr,Sr⟩ := kid_at hin hdr
  obtain ⟨sr,er⟩ : ∃ s,dr.2.2.size = s := ⟨_,rfl⟩
  have br := hsz dr (List.mem_of_getElem? hdr)
  rw [er] at Sr br
  have HSr := Lib.hid Sr
  have hmer := fun w => meSz (.pointer (some ⟨kr,0,none⟩)) w h
  have henr := fun w => enSz #[.pointer (some ⟨kr,0,none⟩)] w h
  obtain ⟨hsp,hpl⟩ := list_two hdm hdr
  have HMG : Hid (Calls Tryz.prog 150 #[.pointer (some ⟨b,0,none⟩),.int .i64 0] w (MendRet w b g a ds (mergeL (ds.map fun d => d.2.2) 0))) := by
    have hin2 := hin; rw [hsp] at hin2
    have hnd2 := hnd; rw [hsp] at hnd2
    have hl2 := hl; rw [hsp] at hl2
    have key := merge_any w h b g c 0 0 a _ _ dm dr hin2 hnd2 hpl (by simp) (by rw [em,er]; omega) (by rw [em,er]; omega) (by omega)
    refine key.mono ?_
    rintro e w' ⟨rfl,G1,q⟩
    refine ⟨rfl,g,c,_,by rw [← hsp] at q; exact q,?_⟩
    conv => rhs; rw [hsp]
    have hml := mergeL_mid ((ds.take 0).map fun d => d.2.2) ((ds.drop (0 + 2)).map fun d => d.2.2) dm.2.2 dr.2.2
    rw [List.length_map,hpl] at hml
    simp only [List.map_append,List.map_cons,List.map_nil,List.append_assoc,List.cons_append,List.nil_append]
    exact hml.symm
  have cb : w.cell? ⟨b,1,none⟩ = some (.slice (some ⟨g,0,none⟩) (m + 1) c) := by have := hin.1.cell 1; rw [hm] at this; exact this
  have q1 : (0 : Int) < (m : Int) + 1 := by omega
  have q8 : (0 : Int) < (m : Int) := by omega
  have q9 : (1 : Int) < (m : Int) + 1 := by omega
  have q9b : 1 < m + 1 := by omega
  have q9c : 0 < m := by omega
  have v3 : IntKind.i64.wrap (0 + 1) = 1 := by rw [IntKind.wrap_i64]; omega
  have v4 : IntKind.i64.wrap 1 = 1 := by rw [IntKind.wrap_i64]; omega
  have q0 : (m : Int) ≤ 1000 := by omega
  have t2 : ¬ (4 : Int) < (sr : Int) := by omega
  have um : (sm : Int) ≤ 100 := by omega
  have ur : (sr : Int) ≤ 100 := by omega
  obtain ⟨KS,hKS⟩ : ∃ KS,mergeL (ds.map fun d => d.2.2) 0 = KS := ⟨_,rfl⟩
  rw [hKS] at HMG ⊢
  clear hKS hML hm hin hnd hl hsz hzm hdm hs1 him hdr hzr hsr hir hsp hpl Sm fm em Sr fr er
  go_enter Tryz.func125,Tryz.ntmps125
  go_wp2_with fail
  with_reducible refine (HSr.out _ (Keep.refl _ _)).mono ?_
  rintro e w' ⟨rfl,rfl⟩
  go_wp2_with fail
  with_reducible refine (HMG.out).mono ?_
  intro e w5 hret
  have HRT := Lib.hid hret
  obtain ⟨rfl,_⟩ := hret
  go_wp2_with fail
  go_end0
  exact HRT.out
set_option maxHeartbeats 4000000 in
set_option maxRecDepth 100000 in
theorem mend_E (w : World) (h b g c j : Nat) (a : Int) (ds : List (Kd h)) (dl dm dr : Kd h) (hin : InAt w b g c a ds) (hnd : (b :: g :: dsF ds).Nodup) (hl : ds.length ≤ 100) (hs1 : 1 ≤ dm.2.2.size) (hsz : ∀ d ∈ ds,d.2.2.size ≤ 100) (hdm : ds[0]? = some dm) (hr : ds.length = 0 + 1) :
    Calls Tryz.prog 125 #[.pointer (some ⟨b,0,none⟩),.int .i64 0] w (MendRet w b g a ds (mendL (ds.map fun d => d.2.2) (0))) := by
  obtain ⟨m,hm⟩ : ∃ m,ds.length = m + 1 := ⟨ds.length - 1,by have := (List.getElem?_eq_some_iff.1 hdm).1; omega⟩
  have him : 0 ≤ m := by have := (List.getElem?_eq_some_iff.1 hdm).1; omega
  have hzm := szAt_of hdm
  have hML : mendL (ds.map fun d => d.2.2) 0 = ds.map fun d => d.2.2 := by unfold mendL; rw [if_neg (by rintro ⟨q1,q2⟩; omega)]; rw [if_neg (by rintro ⟨q1,q2⟩; rw [List.length_map] at q1; omega)]; rw [if_neg (by omega),if_neg (by rw [List.length_map]; omega)]
  rw [hML]
  obtain ⟨km,fm,cm,Sm⟩ := kid_at hin hdm
  obtain ⟨sm,em⟩ : ∃ s,dm.2.2.size = s := ⟨_,rfl⟩
  have bm := hsz dm (List.mem_of_getElem? hdm)
  rw [em] at Sm bm
  have HSm := Lib.hid Sm
  have hmem := fun w => meSz (.pointer (some ⟨km,0,none⟩)) w h
  have henm := fun w => enSz #[.pointer (some ⟨km,0,none⟩)] w h
  have HRET : Hid (MendRet w b g a ds (ds.map fun d => d.2.2) (.returned (.tuple #[])) w) := ⟨rfl,g,c,ds,⟨hin,hnd,Mv.refl _ _⟩,rfl⟩
  have cb : w.cell? ⟨b,1,none⟩ = some (.slice (some ⟨g,0,none⟩) (m + 1) c) := by have := hin.1.cell 1; rw [hm] at this; exact this
  have q1 : (0 : Int) < (m : Int) + 1 := by omega
  obtain rfl : m = 0 := by omega
  have um : (sm : Int) ≤ 100 := by omega
  obtain ⟨KS,hKS⟩ : ∃ KS,ds.map (fun d => d.2.2) = KS := ⟨_,rfl⟩
  rw [hKS] at HRET ⊢
  clear hKS hML hm hin hnd hl hsz hzm hdm hs1 him hr Sm fm em
  go_enter Tryz.func125,Tryz.ntmps125
  go_wp2_with fail
  go_end0
  exact HRET.out
theorem mend_any (w : World) (h b g c i : Nat) (z : Int) (a : Int) (ds : List (Kd h)) (dm : Kd h) (hin : InAt w b g c a ds) (hnd : (b :: g :: dsF ds).Nodup) (hl : ds.length ≤ 100) (hd : ds[i]? = some dm) (hs1 : 1 ≤ dm.2.2.size) (hsz : ∀ d ∈ ds,d.2.2.size ≤ 100) (hz : z = i) :
    Calls Tryz.prog 125 #[.pointer (some ⟨b,0,none⟩),.int .i64 z] w (MendRet w b g a ds (mendL (ds.map fun d => d.2.2) i)) := by
  subst hz
  have hil := (List.getElem?_eq_some_iff.1 hd).1
  cases i with
  | zero =>
    by_cases h1 : 1 < ds.length
    · have hr : ds[0 + 1]? = some ds[1] := List.getElem?_eq_getElem h1
      by_cases h2 : 4 < ds[1].2.2.size
      · exact mend_B0 w h b g c 0 a ds dm dm _ hin hnd hl hs1 hsz hd hr h2
      · exact mend_D w h b g c 0 a ds dm dm _ hin hnd hl hs1 hsz hd hr (by omega)
    · exact mend_E w h b g c 0 a ds dm dm dm hin hnd hl hs1 hsz hd (by omega)
  | succ j =>
    have hjl : ds[j]? = some (ds[j]'(by omega)) := List.getElem?_eq_getElem (by omega)
    by_cases h0 : 4 < (ds[j]'(by omega)).2.2.size
    · exact mend_A w h b g c j a ds _ dm dm hin hnd hl hs1 hsz hjl hd h0
    · by_cases h1 : j + 1 + 1 < ds.length
      · have hr : ds[j + 1 + 1]? = some ds[j + 1 + 1] := List.getElem?_eq_getElem h1
        by_cases h2 : 4 < ds[j + 1 + 1].2.2.size
        · exact mend_B1 w h b g c j a ds _ dm _ hin hnd hl hs1 hsz hjl hd hr (by omega) h2
        · exact mend_C1 w h b g c j a ds _ dm _ hin hnd hl hs1 hsz hjl hd hr (by omega) (by omega)
      · exact mend_C0 w h b g c j a ds _ dm dm hin hnd hl hs1 hsz hjl hd (by omega) (by omega)
end Go.Proofs.YtneammhkgmkkfaaGreatDoor.tr
