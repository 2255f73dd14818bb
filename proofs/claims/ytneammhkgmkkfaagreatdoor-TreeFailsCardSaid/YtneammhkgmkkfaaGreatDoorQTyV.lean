/- A part of the proof. -/
import Derived.Test.YtneammhkgmkkfaaGreatDoorQTyU
namespace Go.Proofs.YtneammhkgmkkfaaGreatDoor.tr
open Go.RowKit Go.Proofs.YtneammhkgmkkfaaGreatDoor.er
set_option linter.unusedVariables false
set_option linter.unusedSimpArgs false
def InsCtr (h : Nat) : Prop := ∀ (w : World) (F : List Nat) (v : Value) (n : Nd h) (e : Ext),NdIn w F v n → Kw n → 1 ≤ n.size → n.size ≤ 8 → (∀ x ∈ flat n,oneB x = true) → Inc (flat n) → oneB e = true →
  Calls Tryz.prog 102 #[v,e.val] w (InsPost w F v (insN n e).1 (insN n e).2)
theorem insN_inner {h : Nat} (ks : List (Nd h)) (e : Ext) : insN (mkI (-1) ks) e = (match (insN (ks.getD (under ks e.fr) (dft h)) e).2 with
    | none => (mkI (-1) (ks.set (under ks e.fr) (insN (ks.getD (under ks e.fr) (dft h)) e).1),none)
    | some s => splitI ((ks.set (under ks e.fr) (insN (ks.getD (under ks e.fr) (dft h)) e).1).take (under ks e.fr + 1) ++ s :: (ks.set (under ks e.fr) (insN (ks.getD (under ks e.fr) (dft h)) e).1).drop (under ks e.fr + 1))) := rfl
theorem two_mid {w w' : World} {h b g c : Nat} {a : Int} {ds : List (Kd h)} {j : Nat} {d : Kd h} {F' G' : List Nat} {v' : Value} {k' s' : Nd h} (hin : InAt w b g c a ds) (hnd : (b :: g :: dsF ds).Nodup) (hd : ds[j]? = some d) (hk : NdIn w' F' d.2.1 k') (hs : NdIn w' G' v' s') (hx : ∀ k ∈ F',k ∉ G') (hmv : Mv (fun k => k ∈ d.1) w (fun k => k ∈ F' ∨ k ∈ G') w') :
    Whole w' b 97 #[.int .i64 a,.slice (some ⟨g,0,none⟩) ds.length c] ∧ Row w' g c 1 62 (ds.map fun d => d.2.1) ∧ (∀ x ∈ ds.take j ++ [(F',d.2.1,k'),(G',v',s')] ++ ds.drop (j + 1),NdAt w' x.1 x.2.1 x.2.2) ∧ (b :: g :: dsF (ds.take j ++ [(F',d.2.1,k'),(G',v',s')] ++ ds.drop (j + 1))).Nodup ∧
      Mv (fun k => k ∈ b :: g :: dsF ds) w (fun k => k ∈ b :: g :: dsF (ds.take j ++ [(F',d.2.1,k'),(G',v',s')] ++ ds.drop (j + 1))) w' := by
  obtain ⟨e,hl⟩ := list_at hd
  have hin2 := hin
  have hnd2 := hnd
  rw [e] at hin2 hnd2
  have hM : dsF [d] = d.1 := by simp [dsF]
  have hM' : dsF [(F',d.2.1,k'),(G',v',s')] = F' ++ G' := by simp [dsF]
  obtain ⟨m1,m2,m3,m4,m5⟩ := mid_keep hin2 hnd2 (M' := [(F',d.2.1,k'),(G',v',s')]) (w' := w') (by
    rw [hM]
    refine ⟨hmv.keep,fun k hk => ?_⟩
    rw [hM'] at hk
    exact hmv.sub k (List.mem_append.1 hk)) (fun x hx => by
      simp only [List.mem_cons,List.not_mem_nil,or_false] at hx
      rcases hx with rfl | rfl
      · exact hk.at_
      · exact hs.at_) (by rw [hM']; exact List.nodup_append.2 ⟨hk.nd,hs.nd,fun x hx1 y hy e => hx x hx1 (e ▸ hy)⟩)
  rw [← e] at m1 m2 m5
  exact ⟨m1,m2,m3,m4,m5⟩
theorem inner_split_end {w w7 w9 w10 : World} {h b g' c' r : Nat} {FL : List Nat} {ds : List (Kd h)} {A : Option Addr} {m c2 : Nat} {xs : List Value} (hL : InAt w7 b g' c' (-1) ds) (hnd : (b :: g' :: dsF ds).Nodup) (hmv : Mv (fun k => k ∈ FL) w (fun k => k ∈ b :: g' :: dsF ds) w7) (h9 : ds.length = 9) (hr : w7.heap.size = r)
    (hb9 : Below (w7.alloc (.cells #[.int .i64 (-1),.slice none 0 0] 97)).heap.size (w7.alloc (.cells #[.int .i64 (-1),.slice none 0 0] 97)) w9) (ho : w9.ownsRow (w7.alloc (.cells #[.int .i64 (-1),.slice none 0 0] 97)).heap.size 62 1 (.slice A m c2) 5 xs) (hxs : xs = (ds.map fun d => d.2.1).drop (4 * 1))
    (hw : w10 = (w9.setCell ⟨b,1,none⟩ (.slice (some ⟨g',0,none⟩) 4 4)).setCell ⟨r,1,none⟩ (.slice A m c2)) :
    InsPost w FL (ptrV (h + 1) b) (mkI (-1) ((ds.take 4).map fun d => d.2.2)) (some (mkI (-1) ((ds.drop 4).map fun d => d.2.2))) (.returned (.iface 94 (.pointer (some ⟨r,0,none⟩)))) w10 := by
  subst hr hw hxs
  rw [Nat.mul_one,← List.map_drop] at ho
  obtain ⟨n2,d2,e2,hr2,hn2⟩ := Row.own ho (by omega)
  rw [e2]
  have hkA : Keep (fun _ => False) w7 (w7.alloc (.cells #[.int .i64 (-1),.slice none 0 0] 97)) := Keep.alloc (Keep.refl _ _) _
  have hk9 : Keep (fun _ => False) w7 w9 := hkA.transBelow hb9
  have hL9 : InAt w9 b g' c' (-1) ds := ⟨hL.1.keep hk9 (fun h => h),hL.2.1.keep hk9 (fun h => h),kids_keep hk9 hL.2.2 (fun _ _ h => h)⟩
  have hR9 : Whole w9 w7.heap.size 97 #[.int .i64 (-1),.slice none 0 0] := (Whole.new w7 _ _).below hb9 (by simp)
  have hbl := hL.1.lt
  have hgl := hL.2.1.lt
  have hkl := kids_lt hL.2.2
  have hs1 : (w7.alloc (.cells #[.int .i64 (-1),.slice none 0 0] 97)).heap.size = w7.heap.size + 1 := by simp
  rw [hs1] at hn2
  have hbr : b ≠ w7.heap.size := by omega
  have hK1 : Keep (fun k => k = b ∨ k = w7.heap.size) w9 ((w9.setCell ⟨b,1,none⟩ (.slice (some ⟨g',0,none⟩) 4 4)).setCell ⟨w7.heap.size,1,none⟩ (.slice (some ⟨n2,0,none⟩) 5 d2)) :=
    ((Keep.refl _ _).setCell (p := ⟨b,1,none⟩) (.inl (.inl rfl)) _).setCell (p := ⟨w7.heap.size,1,none⟩) (.inl (.inr rfl)) _
  have n1 := List.nodup_cons.1 hnd
  have n2' := List.nodup_cons.1 n1.2
  have hbg : b ≠ g' := fun e => n1.1 (by simp [e])
  have hbd : b ∉ dsF ds := fun hm => n1.1 (by simp [hm])
  have hkids : ∀ d ∈ ds,NdAt ((w9.setCell ⟨b,1,none⟩ (.slice (some ⟨g',0,none⟩) 4 4)).setCell ⟨w7.heap.size,1,none⟩ (.slice (some ⟨n2,0,none⟩) 5 d2)) d.1 d.2.1 d.2.2 :=
    kids_keep hK1 hL9.2.2 (fun k hk e => by
      have := hkl k hk
      rcases e with e | e
      · exact hbd (e ▸ hk)
      · omega)
  obtain ⟨nt,nd,nx⟩ := nodup_take n2'.2 4
  have ht4 : (ds.take 4).length = 4 := by rw [List.length_take]; omega
  have hd5 : (ds.drop 4).length = 5 := by rw [List.length_drop]; omega
  have hrow1 : Row w9 g' 4 1 62 ((ds.take 4).map fun d => d.2.1) := by
    have := hL9.2.1.front (q := 4) (by have := hL9.2.1.fit; rw [List.length_map] at this; omega) (by rw [List.length_take,List.length_map]; omega)
    rw [Nat.mul_one,← List.map_take] at this
    exact this
  refine ⟨w7.heap.size,b :: g' :: dsF (ds.take 4),w7.heap.size :: n2 :: dsF (ds.drop 4),rfl,⟨inner_at (c := 4) ⟨?_,hrow1.keep hK1 (by omega),fun d hd => hkids d (List.mem_of_mem_take hd)⟩,?_⟩,⟨inner_at (c := d2) ⟨?_,hr2.keep hK1 (by omega),fun d hd => hkids d (List.mem_of_mem_drop hd)⟩,?_⟩,fun k hk hkq => ?_,⟨?_,fun k hk => ?_⟩⟩
  · rw [ht4]
    have := (hL9.1.set 1 (.slice (some ⟨g',0,none⟩) 4 4)).far (p := ⟨w7.heap.size,1,none⟩) hbr (.slice (some ⟨n2,0,none⟩) 5 d2)
    simpa using this
  · refine List.nodup_cons.2 ⟨fun hm => ?_,List.nodup_cons.2 ⟨fun hm => n2'.1 (mem_dsF_take hm),nt⟩⟩
    rcases List.mem_cons.1 hm with e | hm
    · exact hbg e
    · exact hbd (mem_dsF_take hm)
  · rw [hd5]
    have := (hR9.far (p := ⟨b,1,none⟩) hbr.symm (.slice (some ⟨g',0,none⟩) 4 4)).set 1 (.slice (some ⟨n2,0,none⟩) 5 d2)
    simpa using this
  · refine List.nodup_cons.2 ⟨fun hm => ?_,List.nodup_cons.2 ⟨fun hm => ?_,nd⟩⟩
    · rcases List.mem_cons.1 hm with e | hm
      · omega
      · have := hkl _ (mem_dsF_drop hm); omega
    · have := hkl _ (mem_dsF_drop hm); omega
  · simp only [List.mem_cons] at hk hkq
    rcases hk with rfl | rfl | hk
    · rcases hkq with e | e | hm
      · omega
      · omega
      · exact hbd (mem_dsF_drop hm)
    · rcases hkq with e | e | hm
      · omega
      · omega
      · exact n2'.1 (mem_dsF_drop hm)
    · have := hkl _ (mem_dsF_take hk)
      rcases hkq with e | e | hm
      · omega
      · omega
      · exact nx k hk hm
  · have h1 : Keep (fun k => k ∈ b :: g' :: dsF ds) w7 w9 := hk9.mono (fun _ _ h => h.elim)
    have h2 : Keep (fun k => k ∈ b :: g' :: dsF ds) w7 ((w9.setCell ⟨b,1,none⟩ (.slice (some ⟨g',0,none⟩) 4 4)).setCell ⟨w7.heap.size,1,none⟩ (.slice (some ⟨n2,0,none⟩) 5 d2)) :=
      h1.trans hK1 (fun k hk => by rcases hk with rfl | rfl; exact .inl (by simp); exact .inr (Nat.le_refl _))
    exact hmv.keep.trans h2 hmv.sub
  · have hsz := hmv.keep.size
    simp only [List.mem_cons] at hk
    rcases hk with (rfl | rfl | hk) | rfl | rfl | hk
    · exact hmv.sub _ (by simp)
    · exact hmv.sub _ (by simp)
    · exact hmv.sub _ (by simp [mem_dsF_take hk])
    · exact .inr (by omega)
    · exact .inr (by omega)
    · exact hmv.sub _ (by simp [mem_dsF_drop hk])
set_option maxHeartbeats 4000000 in
set_option maxRecDepth 100000 in
theorem ins_inner_none (h : Nat) (IH : InsCtr h) (w : World) (b g c : Nat) (a : Int) (ds : List (Kd h)) (e : Ext) (i : Nat) (d : Kd h) (k' : Nd h) (hin : InAt w b g c a ds) (hnd : (b :: g :: dsF ds).Nodup) (hk : Kw (mkI (-1) (ds.map fun d => d.2.2))) (h1 : 1 ≤ ds.length) (h8 : ds.length ≤ 8) (ho : ∀ x ∈ flats (ds.map fun d => d.2.2),oneB x = true) (hinc : Inc (flats (ds.map fun d => d.2.2))) (he : oneB e = true)
    (hi : under (ds.map fun d => d.2.2) e.fr = i) (hd : ds[i]? = some d) (hk' : (insN d.2.2 e).1 = k') (hs' : (insN d.2.2 e).2 = none) :
    Calls Tryz.prog 102 #[ptrV (h + 1) b,e.val] w (InsPost w (b :: g :: dsF ds) (ptrV (h + 1) b) (insN (mkI (-1) (ds.map fun d => d.2.2)) e).1 (insN (mkI (-1) (ds.map fun d => d.2.2)) e).2) := by
  have hbl := hin.1.lt
  have hgl := hin.2.1.lt
  have hsp := one_spec he
  have hbg : b ≠ g := fun e => (List.nodup_cons.1 hnd).1 (by simp [e])
  obtain ⟨CE,hCE⟩ : ∃ CE : Obj,.cells #[.int .i64 e.fr,.int .i64 e.n,.int .i64 e.kind,.int .i64 e.at_] 59 = CE := ⟨_,rfl⟩
  have hA : Keep (fun _ => False) w (w.alloc CE) := Keep.alloc (Keep.refl _ _) _
  have hbox : Whole (w.alloc CE) w.heap.size 59 #[.int .i64 e.fr,.int .i64 e.n,.int .i64 e.kind,.int .i64 e.at_] := by rw [← hCE]; exact Whole.new w _ _
  have hV1 : InAt (w.alloc CE) b g c a ds := ⟨hin.1.keep hA (fun h => h),hin.2.1.keep hA (fun h => h),kids_keep hA hin.2.2 (fun _ _ h => h)⟩
  have x10 := hV1.1.cell 0
  have z10 := hV1.1.fz 0
  simp at x10
  have hpb : w.heap.size ≠ b := by omega
  obtain ⟨w2,hw2⟩ : ∃ w2,(w.alloc CE).setCell ⟨b,0,none⟩ (.int .i64 (-1)) = w2 := ⟨_,rfl⟩
  have HK2 : Keep (fun k => k = b) (w.alloc CE) w2 := by rw [← hw2]; exact Keep.set1 _ b 0 _
  have hbn := (List.nodup_cons.1 hnd).1
  have HI2 : InAt w2 b g c (-1) ds := by
    refine ⟨?_,hV1.2.1.keep HK2 (by simpa using hbg.symm),kids_keep HK2 hV1.2.2 (fun k hk e => hbn (by have e' : k = b := e; rw [← e']; simp [hk]))⟩
    rw [← hw2]
    have := hV1.1.set 0 (.int .i64 (-1))
    simpa using this
  have HB : Whole w2 w.heap.size 59 #[.int .i64 e.fr,.int .i64 e.n,.int .i64 e.kind,.int .i64 e.at_] := hbox.keep HK2 (by simpa using hpb)
  have HKA : Keep (fun k => k ∈ b :: g :: dsF ds) w w2 := (hA.mono (fun _ _ h => h.elim)).trans (HK2.mono (fun k _ e => List.mem_cons.2 (.inl e))) (fun k hk => .inl hk)
  have HMV : Mv (fun k => k ∈ b :: g :: dsF ds) w (fun k => k ∈ b :: g :: dsF ds) w2 := ⟨HKA,fun k hk => .inl hk⟩
  have hs2 : w.heap.size < w2.heap.size := HB.lt
  have hil : i < ds.length := (List.getElem?_eq_some_iff.1 hd).1
  have HUN : Hid (Calls Tryz.prog 108 #[.pointer (some ⟨b,0,none⟩),.int .i64 e.fr] w2 fun e w' => e = .returned (.int .i64 i) ∧ w2 = w') := by
    have := under_any w2 h b _ _ e.fr (inner_at HI2) hk (by show 1 ≤ (ds.map _).length; simpa using h1) (by show (ds.map _).length ≤ 100; simp; omega)
    rw [show under (mkI (-1) (ds.map fun d => d.2.2)).ks e.fr = i from hi] at this
    exact this
  obtain ⟨kb,kF,f1,f2⟩ := (HI2.2.2 d (List.mem_of_getElem? hd)).form
  have hkw : Wf d.2.2 := hk.mem (by show d.2.2 ∈ ds.map _; exact List.mem_map.2 ⟨d,List.mem_of_getElem? hd,rfl⟩)
  have hfm : ∀ x ∈ flat d.2.2,x ∈ flats (ds.map fun d => d.2.2) := fun x hx => by
    obtain ⟨e,_⟩ := list_at hd
    rw [e]
    simp [hx]
  have hfi : Inc (flat d.2.2) := by
    obtain ⟨e,_⟩ := list_at hd
    rw [e] at hinc
    simp only [List.map_append,List.map_cons,List.map_nil,flats_append,flats_cons,flats_nil,List.append_nil] at hinc
    exact (List.pairwise_append.1 (List.pairwise_append.1 hinc).1).2.1
  have hw20 : Keep (fun _ => False) w2 w2.drew := Keep.drew (Keep.refl _ _)
  have hin0 : InAt w2.drew b g c (-1) ds := ⟨HI2.1.keep hw20 (fun h => h),HI2.2.1.keep hw20 (fun h => h),kids_keep hw20 HI2.2.2 (fun _ _ h => h)⟩
  have hc := IH w2.drew d.1 d.2.1 d.2.2 e (sub_nd hin0 hnd hd) hkw.2 (by have := hkw.1; omega) (by have := hkw.1; omega) (fun x hx => ho x (hfm x hx)) hfi he
  rw [hk',hs'] at hc
  obtain ⟨n,hn⟩ : ∃ n,ds.length = n := ⟨_,rfl⟩
  have hCell : ∀ w5,(Whole w5 b 97 #[.int .i64 (-1),.slice (some ⟨g,0,none⟩) ds.length c] ∧ Row w5 g c 1 62 (ds.map fun d => d.2.1)) → Keep (fun k => k ∈ b :: g :: dsF ds) w2.drew w5 → w5.cell? ⟨b,1,none⟩ = some (.slice (some ⟨g,0,none⟩) n c) ∧ w5.cell? ⟨g,i,none⟩ = some (.iface (ndT h) (.pointer (some ⟨kb,0,none⟩))) ∧
      w5.cell? ⟨w.heap.size,0,none⟩ = some (.int .i64 e.fr) ∧ w5.cell? ⟨w.heap.size,1,none⟩ = some (.int .i64 e.n) ∧ w5.cell? ⟨w.heap.size,2,none⟩ = some (.int .i64 e.kind) ∧ w5.cell? ⟨w.heap.size,3,none⟩ = some (.int .i64 e.at_) := by
    intro w5 ⟨v1,v2⟩ v3
    have hB5 : Whole w5 w.heap.size 59 #[.int .i64 e.fr,.int .i64 e.n,.int .i64 e.kind,.int .i64 e.at_] := by
      refine Whole.keep (w := w2.drew) HB v3 (fun hm => ?_)
      rcases List.mem_cons.1 hm with e | hm
      · exact hpb e
      · rcases List.mem_cons.1 hm with e | hm
        · have e' : w.heap.size = g := e
          omega
        · have := kids_lt hin.2.2 _ hm
          exact absurd this (Nat.lt_irrefl _)
    rw [hn] at v1
    exact ⟨v1.cell 1,by rw [← f2]; exact v2.cell (by rw [List.getElem?_map,hd]; rfl),hB5.cell 0,hB5.cell 1,hB5.cell 2,hB5.cell 3⟩
  have SA := Lib.hid (hCell w2.drew ⟨hin0.1,hin0.2.1⟩ (Keep.refl _ _))
  obtain ⟨R1,hR1⟩ : ∃ R,(insN (mkI (-1) (ds.map fun d => d.2.2)) e).1 = R := ⟨_,rfl⟩
  obtain ⟨R2,hR2⟩ : ∃ R,(insN (mkI (-1) (ds.map fun d => d.2.2)) e).2 = R := ⟨_,rfl⟩
  have hR := insN_inner (ds.map fun d => d.2.2) e
  rw [hi,getD_of hd,hk',hs'] at hR
  simp only at hR
  have hc2 : Calls Tryz.prog 102 #[d.2.1,e.val] w2.drew fun x w5 => x = .returned .nilIface ∧ (w5.cell? ⟨b,1,none⟩ = some (.slice (some ⟨g,0,none⟩) n c) ∧ w5.cell? ⟨g,i,none⟩ = some (.iface (ndT h) (.pointer (some ⟨kb,0,none⟩))) ∧ w5.cell? ⟨w.heap.size,0,none⟩ = some (.int .i64 e.fr) ∧ w5.cell? ⟨w.heap.size,1,none⟩ = some (.int .i64 e.n) ∧ w5.cell? ⟨w.heap.size,2,none⟩ = some (.int .i64 e.kind) ∧ w5.cell? ⟨w.heap.size,3,none⟩ = some (.int .i64 e.at_)) ∧
      InsPost w (b :: g :: dsF ds) (ptrV (h + 1) b) R1 R2 (.returned .nilIface) w5 := by
    refine hc.mono ?_
    rintro x w5 ⟨rfl,F',q1,q2⟩
    obtain ⟨p1,p2,p3⟩ := one_mid hin0 hnd hd q1 q2
    have hsetd : ((ds.set i (F',d.2.1,k')).map fun d => d.2.1) = ds.map fun d => d.2.1 := by
      rw [List.map_set]
      have hdv : (ds.map fun d => d.2.1)[i]? = some d.2.1 := by rw [List.getElem?_map,hd]; rfl
      rw [set_at hdv,← (list_at hdv).1]
    have p1' := p1.1
    rw [List.length_set] at p1'
    have p12 := p1.2.1
    rw [hsetd] at p12
    refine ⟨rfl,hCell w5 ⟨p1',p12⟩ p3.keep,?_⟩
    have hMV5 : Mv (fun k => k ∈ b :: g :: dsF ds) w (fun k => k ∈ b :: g :: dsF (ds.set i (F',d.2.1,k'))) w5 := HMV.trans ⟨⟨p3.keep.os,p3.keep.tape,p3.keep.output,p3.keep.size,p3.keep.block⟩,p3.sub⟩
    rw [← hR1,← hR2,hR]
    refine ⟨rfl,_,⟨?_,p2⟩,hMV5⟩
    have := inner_at p1
    rw [map_set] at this
    exact this
  rw [f2] at hc2
  have HINS := Lib.hid hc2
  have hme := fun w => meWh (.pointer (some ⟨b,0,none⟩)) w (h + 1)
  have hen := fun w => enWh #[.pointer (some ⟨b,0,none⟩)] w (h + 1)
  simp only [ndT,whF] at hme hen
  have hta := ta_ii
  have htb := ta_il
  have HWH := Lib.hid (fun wq => where_any wq b (h + 1))
  have hii : (i : Int) < (n : Int) := by omega
  have hi0 : (0 : Int) ≤ (i : Int) := by omega
  have hn8 : (n : Int) ≤ 8 := by omega
  have y13 := HB.cell 0
  have y14 := HB.cell 1
  have y15 := HB.cell 2
  have y16 := HB.cell 3
  simp at y13 y14 y15 y16
  have y11 : w2.cell? ⟨b,1,none⟩ = some (.slice (some ⟨g,0,none⟩) n c) := SA.out.1
  have y12 : w2.cell? ⟨g,i,none⟩ = some (.iface (ndT h) (.pointer (some ⟨kb,0,none⟩))) := SA.out.2.1
  rw [hR1,hR2]
  obtain ⟨f,en,k,t⟩ := e
  simp only at hsp y13 y14 y15 y16 HINS SA HUN
  simp only [Ext.val] at HINS
  obtain ⟨FL,hFL⟩ : ∃ FL,b :: g :: dsF ds = FL := ⟨_,rfl⟩
  rw [hFL] at HINS ⊢
  clear hFL hc2 hR hR1 hR2 hCell hc hin0 hw20 hfi hfm hkw f1 f2 hil hs2 HMV HKA HB HI2 hbn HK2 hV1 hbox hA hbl hgl hin hnd hk h1 h8 ho hinc he hi hd hk' hs' hn IH
  subst hCE
  show Calls Tryz.prog 102 #[.iface 94 (.pointer (some ⟨b,0,none⟩)),.agg #[.int .i64 f,.int .i64 en,.int .i64 k,.int .i64 t]] w _
  go_enter Tryz.func102,Tryz.ntmps102
  go_wp2_with fail
  refine (HWH.out _).mono ?_
  rintro e w' ⟨rfl,rfl⟩
  go_wp2_with fail
  with_reducible refine HUN.out.mono ?_
  rintro e w' ⟨rfl,rfl⟩
  go_wp2_with fail
  go_region_held3 (fun w' => w'.cell? ⟨b,1,none⟩ = some (.slice (some ⟨g,0,none⟩) n c) ∧ w'.cell? ⟨g,i,none⟩ = some (.iface (ndT h) (.pointer (some ⟨kb,0,none⟩))) ∧ w'.cell? ⟨w.heap.size,0,none⟩ = some (.int .i64 f) ∧ w'.cell? ⟨w.heap.size,1,none⟩ = some (.int .i64 en) ∧ w'.cell? ⟨w.heap.size,2,none⟩ = some (.int .i64 k) ∧ w'.cell? ⟨w.heap.size,3,none⟩ = some (.int .i64 t)) (first | with_reducible exact SH5.out | exact SA.out) ((go_at_call 102; (with_reducible refine HINS.out.mono ?_); rintro e w5 ⟨rfl,hc5,hp5⟩; have SH5 := Lib.hid hc5; have HP5 := Lib.hid hp5; clear hc5 hp5))
  clear y11 y12 y13 y14 y15 y16
  obtain ⟨y1,y2,y3,y4,y5,y6⟩ := SH5.out
  go_wp2_with fail
  go_ret
  exact HP5.out
set_option maxHeartbeats 4000000 in
set_option maxRecDepth 100000 in
theorem ins_inner_some (h : Nat) (IH : InsCtr h) (w : World) (b g c : Nat) (a : Int) (ds : List (Kd h)) (e : Ext) (i : Nat) (d : Kd h) (k' : Nd h) (s : Nd h) (hin : InAt w b g c a ds) (hnd : (b :: g :: dsF ds).Nodup) (hk : Kw (mkI (-1) (ds.map fun d => d.2.2))) (h1 : 1 ≤ ds.length) (h8 : ds.length ≤ 8) (ho : ∀ x ∈ flats (ds.map fun d => d.2.2),oneB x = true) (hinc : Inc (flats (ds.map fun d => d.2.2))) (he : oneB e = true)
    (hi : under (ds.map fun d => d.2.2) e.fr = i) (hd : ds[i]? = some d) (hk' : (insN d.2.2 e).1 = k') (hs' : (insN d.2.2 e).2 = some s) :
    Calls Tryz.prog 102 #[ptrV (h + 1) b,e.val] w (InsPost w (b :: g :: dsF ds) (ptrV (h + 1) b) (insN (mkI (-1) (ds.map fun d => d.2.2)) e).1 (insN (mkI (-1) (ds.map fun d => d.2.2)) e).2) := by
  have hbl := hin.1.lt
  have hgl := hin.2.1.lt
  have hsp := one_spec he
  have hbg : b ≠ g := fun e => (List.nodup_cons.1 hnd).1 (by simp [e])
  obtain ⟨CE,hCE⟩ : ∃ CE : Obj,.cells #[.int .i64 e.fr,.int .i64 e.n,.int .i64 e.kind,.int .i64 e.at_] 59 = CE := ⟨_,rfl⟩
  have hA : Keep (fun _ => False) w (w.alloc CE) := Keep.alloc (Keep.refl _ _) _
  have hbox : Whole (w.alloc CE) w.heap.size 59 #[.int .i64 e.fr,.int .i64 e.n,.int .i64 e.kind,.int .i64 e.at_] := by rw [← hCE]; exact Whole.new w _ _
  have hV1 : InAt (w.alloc CE) b g c a ds := ⟨hin.1.keep hA (fun h => h),hin.2.1.keep hA (fun h => h),kids_keep hA hin.2.2 (fun _ _ h => h)⟩
  have x10 := hV1.1.cell 0
  have z10 := hV1.1.fz 0
  simp at x10
  have hpb : w.heap.size ≠ b := by omega
  obtain ⟨w2,hw2⟩ : ∃ w2,(w.alloc CE).setCell ⟨b,0,none⟩ (.int .i64 (-1)) = w2 := ⟨_,rfl⟩
  have HK2 : Keep (fun k => k = b) (w.alloc CE) w2 := by rw [← hw2]; exact Keep.set1 _ b 0 _
  have hbn := (List.nodup_cons.1 hnd).1
  have HI2 : InAt w2 b g c (-1) ds := by
    refine ⟨?_,hV1.2.1.keep HK2 (by simpa using hbg.symm),kids_keep HK2 hV1.2.2 (fun k hk e => hbn (by have e' : k = b := e; rw [← e']; simp [hk]))⟩
    rw [← hw2]
    have := hV1.1.set 0 (.int .i64 (-1))
    simpa using this
  have HB : Whole w2 w.heap.size 59 #[.int .i64 e.fr,.int .i64 e.n,.int .i64 e.kind,.int .i64 e.at_] := hbox.keep HK2 (by simpa using hpb)
  have HKA : Keep (fun k => k ∈ b :: g :: dsF ds) w w2 := (hA.mono (fun _ _ h => h.elim)).trans (HK2.mono (fun k _ e => List.mem_cons.2 (.inl e))) (fun k hk => .inl hk)
  have HMV : Mv (fun k => k ∈ b :: g :: dsF ds) w (fun k => k ∈ b :: g :: dsF ds) w2 := ⟨HKA,fun k hk => .inl hk⟩
  have hs2 : w.heap.size < w2.heap.size := HB.lt
  have hil : i < ds.length := (List.getElem?_eq_some_iff.1 hd).1
  have HUN : Hid (Calls Tryz.prog 108 #[.pointer (some ⟨b,0,none⟩),.int .i64 e.fr] w2 fun e w' => e = .returned (.int .i64 i) ∧ w2 = w') := by
    have := under_any w2 h b _ _ e.fr (inner_at HI2) hk (by show 1 ≤ (ds.map _).length; simpa using h1) (by show (ds.map _).length ≤ 100; simp; omega)
    rw [show under (mkI (-1) (ds.map fun d => d.2.2)).ks e.fr = i from hi] at this
    exact this
  obtain ⟨kb,kF,f1,f2⟩ := (HI2.2.2 d (List.mem_of_getElem? hd)).form
  have hkw : Wf d.2.2 := hk.mem (by show d.2.2 ∈ ds.map _; exact List.mem_map.2 ⟨d,List.mem_of_getElem? hd,rfl⟩)
  have hfm : ∀ x ∈ flat d.2.2,x ∈ flats (ds.map fun d => d.2.2) := fun x hx => by
    obtain ⟨e,_⟩ := list_at hd
    rw [e]
    simp [hx]
  have hfi : Inc (flat d.2.2) := by
    obtain ⟨e,_⟩ := list_at hd
    rw [e] at hinc
    simp only [List.map_append,List.map_cons,List.map_nil,flats_append,flats_cons,flats_nil,List.append_nil] at hinc
    exact (List.pairwise_append.1 (List.pairwise_append.1 hinc).1).2.1
  have hw20 : Keep (fun _ => False) w2 w2.drew := Keep.drew (Keep.refl _ _)
  have hin0 : InAt w2.drew b g c (-1) ds := ⟨HI2.1.keep hw20 (fun h => h),HI2.2.1.keep hw20 (fun h => h),kids_keep hw20 HI2.2.2 (fun _ _ h => h)⟩
  have hc := IH w2.drew d.1 d.2.1 d.2.2 e (sub_nd hin0 hnd hd) hkw.2 (by have := hkw.1; omega) (by have := hkw.1; omega) (fun x hx => ho x (hfm x hx)) hfi he
  rw [hk',hs'] at hc
  obtain ⟨n,hn⟩ : ∃ n,ds.length = n := ⟨_,rfl⟩
  have hCell : ∀ w5,(Whole w5 b 97 #[.int .i64 (-1),.slice (some ⟨g,0,none⟩) ds.length c] ∧ Row w5 g c 1 62 (ds.map fun d => d.2.1)) → Keep (fun k => k ∈ b :: g :: dsF ds) w2.drew w5 → w5.cell? ⟨b,1,none⟩ = some (.slice (some ⟨g,0,none⟩) n c) ∧ w5.cell? ⟨g,i,none⟩ = some (.iface (ndT h) (.pointer (some ⟨kb,0,none⟩))) ∧
      w5.cell? ⟨w.heap.size,0,none⟩ = some (.int .i64 e.fr) ∧ w5.cell? ⟨w.heap.size,1,none⟩ = some (.int .i64 e.n) ∧ w5.cell? ⟨w.heap.size,2,none⟩ = some (.int .i64 e.kind) ∧ w5.cell? ⟨w.heap.size,3,none⟩ = some (.int .i64 e.at_) := by
    intro w5 ⟨v1,v2⟩ v3
    have hB5 : Whole w5 w.heap.size 59 #[.int .i64 e.fr,.int .i64 e.n,.int .i64 e.kind,.int .i64 e.at_] := by
      refine Whole.keep (w := w2.drew) HB v3 (fun hm => ?_)
      rcases List.mem_cons.1 hm with e | hm
      · exact hpb e
      · rcases List.mem_cons.1 hm with e | hm
        · have e' : w.heap.size = g := e
          omega
        · have := kids_lt hin.2.2 _ hm
          exact absurd this (Nat.lt_irrefl _)
    rw [hn] at v1
    exact ⟨v1.cell 1,by rw [← f2]; exact v2.cell (by rw [List.getElem?_map,hd]; rfl),hB5.cell 0,hB5.cell 1,hB5.cell 2,hB5.cell 3⟩
  have SA := Lib.hid (hCell w2.drew ⟨hin0.1,hin0.2.1⟩ (Keep.refl _ _))
  obtain ⟨R1,hR1⟩ : ∃ R,(insN (mkI (-1) (ds.map fun d => d.2.2)) e).1 = R := ⟨_,rfl⟩
  obtain ⟨R2,hR2⟩ : ∃ R,(insN (mkI (-1) (ds.map fun d => d.2.2)) e).2 = R := ⟨_,rfl⟩
  have hR := insN_inner (ds.map fun d => d.2.2) e
  rw [hi,getD_of hd,hk',hs'] at hR
  simp only at hR
  -- the list behind
  have hls : ((ds.map fun d => d.2.2).set i k').take (i + 1) ++ s :: ((ds.map fun d => d.2.2).set i k').drop (i + 1) = (ds.map fun d => d.2.2).take i ++ [k',s] ++ (ds.map fun d => d.2.2).drop (i + 1) := by
    have hdn : (ds.map fun d => d.2.2)[i]? = some d.2.2 := by rw [List.getElem?_map,hd]; rfl
    obtain ⟨_,hl⟩ := list_at hdn
    have e1 : (ds.map fun d => d.2.2).set i k' = (ds.map fun d => d.2.2).take i ++ k' :: (ds.map fun d => d.2.2).drop (i + 1) := by rw [set_at hdn]; simp
    rw [e1]
    have t1 := take_mid ((ds.map fun d => d.2.2).take i) ((ds.map fun d => d.2.2).drop (i + 1)) k'
    have t2 := drop_mid ((ds.map fun d => d.2.2).take i) ((ds.map fun d => d.2.2).drop (i + 1)) k'
    rw [hl] at t1 t2
    rw [t1,t2]
    simp
  rw [hls] at hR
  have hlen9 : ((ds.map fun d => d.2.2).take i ++ [k',s] ++ (ds.map fun d => d.2.2).drop (i + 1)).length = n + 1 := by simp; omega
  have hRR : if n < 8 then R1 = mkI (-1) ((ds.map fun d => d.2.2).take i ++ [k',s] ++ (ds.map fun d => d.2.2).drop (i + 1)) ∧ R2 = none else R1 = mkI (-1) (((ds.map fun d => d.2.2).take i ++ [k',s] ++ (ds.map fun d => d.2.2).drop (i + 1)).take 4) ∧ R2 = some (mkI (-1) (((ds.map fun d => d.2.2).take i ++ [k',s] ++ (ds.map fun d => d.2.2).drop (i + 1)).drop 4)) := by
    rw [← hR1,← hR2,hR]
    show if n < 8 then (splitI _).1 = _ ∧ (splitI _).2 = _ else _
    unfold splitI
    by_cases h8 : n < 8
    · rw [if_pos h8,if_neg (by omega)]; exact ⟨rfl,rfl⟩
    · rw [if_neg h8,if_pos (by omega),hlen9,show (n + 1) / 2 = 4 by omega]; exact ⟨rfl,rfl⟩
  have HRR := Lib.hid hRR
  have hc2 : Calls Tryz.prog 102 #[d.2.1,e.val] w2.drew fun x w5 => ∃ rb,x = .returned (.iface (ndT h) (.pointer (some ⟨rb,0,none⟩))) ∧ (w5.cell? ⟨b,1,none⟩ = some (.slice (some ⟨g,0,none⟩) n c) ∧ w5.cell? ⟨g,i,none⟩ = some (.iface (ndT h) (.pointer (some ⟨kb,0,none⟩))) ∧ w5.cell? ⟨w.heap.size,0,none⟩ = some (.int .i64 e.fr) ∧ w5.cell? ⟨w.heap.size,1,none⟩ = some (.int .i64 e.n) ∧ w5.cell? ⟨w.heap.size,2,none⟩ = some (.int .i64 e.kind) ∧ w5.cell? ⟨w.heap.size,3,none⟩ = some (.int .i64 e.at_)) ∧ b < w5.heap.size ∧
      (∀ wq,Below w5.heap.size w5 wq → Whole wq w5.heap.size 62 #[.iface (ndT h) (.pointer (some ⟨rb,0,none⟩))] →
        Calls Tryz.prog 130 #[.slice (some ⟨g,0,none⟩) n c,.int .i64 ((i : Int) + 1),.slice (some ⟨w5.heap.size,0,none⟩) 1 1] wq fun e w6 => ∃ g' c',e = .returned (.slice (some ⟨g',0,none⟩) (n + 1) c') ∧ (w6.cell? ⟨b,1,none⟩ = some (.slice (some ⟨g,0,none⟩) n c) ∧ w6.frozen? ⟨b,1,none⟩ = false) ∧
          ∃ ds',(ds'.length = n + 1 ∧ ds'.map (fun d => d.2.2) = (ds.map fun d => d.2.2).take i ++ [k',s] ++ (ds.map fun d => d.2.2).drop (i + 1)) ∧ InAt (w6.setCell ⟨b,1,none⟩ (.slice (some ⟨g',0,none⟩) (n + 1) c')) b g' c' (-1) ds' ∧ (b :: g' :: dsF ds').Nodup ∧ Mv (fun k => k ∈ b :: g :: dsF ds) w (fun k => k ∈ b :: g' :: dsF ds') (w6.setCell ⟨b,1,none⟩ (.slice (some ⟨g',0,none⟩) (n + 1) c'))) := by
    refine hc.mono ?_
    rintro x w5 ⟨rb,F',G',rfl,q1,q2,q3,q4⟩
    obtain ⟨m1,m2,m3,m4,m5⟩ := two_mid hin0 hnd hd q1 q2 q3 q4
    refine ⟨rb,rfl,hCell w5 ⟨m1,m2⟩ m5.keep,m1.lt,fun wq hbq hwq => ?_⟩
    obtain ⟨DS,hDS⟩ : ∃ DS,ds.take i ++ [(F',d.2.1,k'),(G',ptrV h rb,s)] ++ ds.drop (i + 1) = DS := ⟨_,rfl⟩
    have hDm : DS.map (fun d => d.2.2) = (ds.map fun d => d.2.2).take i ++ [k',s] ++ (ds.map fun d => d.2.2).drop (i + 1) := by rw [← hDS]; simp [List.map_take,List.map_drop]
    have hDl : DS.length = n + 1 := by have := congrArg List.length hDm; rw [hlen9,List.length_map] at this; exact this
    have hDv : DS.map (fun d => d.2.1) = (ds.map fun d => d.2.1).take ((i + 1) * 1) ++ [.iface (ndT h) (.pointer (some ⟨rb,0,none⟩))] ++ (ds.map fun d => d.2.1).drop ((i + 1) * 1) := by
      have hdv : (ds.map fun d => d.2.1)[i]? = some d.2.1 := by rw [List.getElem?_map,hd]; rfl
      obtain ⟨i1,e1⟩ := List.getElem?_eq_some_iff.1 hdv
      rw [← hDS,Nat.mul_one,List.take_succ_eq_append_getElem i1,e1]
      simp [List.map_take,List.map_drop,ptrV]
    rw [hDS] at m3 m4 m5
    rw [hn] at m1
    have hgl5 := m2.lt
    have key := insertN n c g (i + 1) w5.heap.size (ds.map fun d => d.2.1) [.iface (ndT h) (.pointer (some ⟨rb,0,none⟩))] wq (m2.below hbq) (by rw [List.length_map,hn,Nat.mul_one]) (by omega) (by omega) (by simpa using hwq) rfl (by omega) (kids_one hin.2.2) (by simp [Value.oneCell'])
    rw [← hDv] at key
    have hcast : ((i + 1 : Nat) : Int) = (i : Int) + 1 := by omega
    rw [hcast] at key
    refine key.mono ?_
    rintro x w6 ⟨g',c',rfl,r2,r3,r4⟩
    have v1 := (m1.below hbq m1.lt).keep r3 (by simpa using hbg)
    have hb5l := m1.lt
    have hk5l : ∀ k ∈ dsF DS,k < w5.heap.size := kids_lt m3
    have hbg' : b ≠ g' := by
      rcases r4 with rfl | r4
      · exact hbg
      · have := hbq.size; omega
    have n1 := List.nodup_cons.1 m4
    have n2 := List.nodup_cons.1 n1.2
    have hg'n : g' ∉ dsF DS := by
      rcases r4 with rfl | r4
      · exact n2.1
      · intro hm
        have := hk5l _ hm; have := hbq.size; omega
    refine ⟨g',c',rfl,⟨v1.cell 1,v1.fz 1⟩,DS,⟨hDl,hDm⟩,⟨?_,r2.keep (Keep.set1 w6 b 1 _) (by simpa using hbg'.symm),?_⟩,?_,?_⟩
    · rw [hDl]
      have := v1.set 1 (.slice (some ⟨g',0,none⟩) (n + 1) c')
      simpa using this
    · refine kids_keep (Keep.set1 w6 b 1 _) (kids_keep r3 (kids_keep (Keep.below (F := fun _ => False) hbq) m3 (fun _ _ h => h)) (fun k hk e => n2.1 (by have e' : k = g := e; rw [← e']; exact hk))) (fun k hk e => n1.1 (List.mem_cons_of_mem _ (by have e' : k = b := e; rw [← e']; exact hk)))
    · exact List.nodup_cons.2 ⟨fun hm => by
        rcases List.mem_cons.1 hm with e | hm
        · exact hbg' e
        · exact n1.1 (List.mem_cons_of_mem _ hm),List.nodup_cons.2 ⟨hg'n,n2.2⟩⟩
    · have hm0 : Mv (fun k => k ∈ b :: g :: dsF ds) w (fun k => k ∈ b :: g :: dsF DS) w5 := HMV.trans ⟨⟨m5.keep.os,m5.keep.tape,m5.keep.output,m5.keep.size,m5.keep.block⟩,m5.sub⟩
      have hq : Keep (fun k => k ∈ b :: g :: dsF DS) w5 w6 := (Keep.below (F := fun k => k ∈ b :: g :: dsF DS) hbq).trans (r3.mono (G := fun k => k ∈ b :: g :: dsF DS) (fun k _ e => by
        have e' : k = g := e
        rw [e']; exact List.mem_cons_of_mem _ List.mem_cons_self)) (fun k hk => .inl hk)
      have hq2 : Keep (fun k => k ∈ b :: g :: dsF DS) w5 (w6.setCell ⟨b,1,none⟩ (.slice (some ⟨g',0,none⟩) (n + 1) c')) := hq.setCell (p := ⟨b,1,none⟩) (.inl List.mem_cons_self) _
      refine hm0.trans ⟨hq2,fun k hk => ?_⟩
      rcases List.mem_cons.1 hk with rfl | hk
      · exact .inl List.mem_cons_self
      · rcases List.mem_cons.1 hk with rfl | hk
        · rcases r4 with rfl | r4
          · exact .inl (List.mem_cons_of_mem _ List.mem_cons_self)
          · have := hbq.size; exact .inr (by omega)
        · exact .inl (List.mem_cons_of_mem _ (List.mem_cons_of_mem _ hk))
  rw [f2] at hc2
  have HINS := Lib.hid hc2
  have hme := fun w => meWh (.pointer (some ⟨b,0,none⟩)) w (h + 1)
  have hen := fun w => enWh #[.pointer (some ⟨b,0,none⟩)] w (h + 1)
  simp only [ndT,whF] at hme hen
  have hta := ta_ii
  have htb := ta_il
  have HWH := Lib.hid (fun wq => where_any wq b (h + 1))
  have hii : (i : Int) < (n : Int) := by omega
  have hi0 : (0 : Int) ≤ (i : Int) := by omega
  have hn8 : (n : Int) ≤ 8 := by omega
  have y13 := HB.cell 0
  have y14 := HB.cell 1
  have y15 := HB.cell 2
  have y16 := HB.cell 3
  simp at y13 y14 y15 y16
  have y11 : w2.cell? ⟨b,1,none⟩ = some (.slice (some ⟨g,0,none⟩) n c) := SA.out.1
  have y12 : w2.cell? ⟨g,i,none⟩ = some (.iface (ndT h) (.pointer (some ⟨kb,0,none⟩))) := SA.out.2.1
  rw [hR1,hR2]
  obtain ⟨f,en,k,t⟩ := e
  simp only at hsp y13 y14 y15 y16 HINS SA HUN
  simp only [Ext.val] at HINS
  obtain ⟨FL,hFL⟩ : ∃ FL,b :: g :: dsF ds = FL := ⟨_,rfl⟩
  rw [hFL] at HINS ⊢
  clear hRR hlen9 hls hFL hc2 hR hR1 hR2 hCell hc hin0 hw20 hfi hfm hkw f1 f2 hil hs2 HMV HKA HB HI2 hbn HK2 hV1 hbox hA hbl hgl hin hnd hk h1 h8 ho hinc he hi hd hk' hs' hn IH
  subst hCE
  show Calls Tryz.prog 102 #[.iface 94 (.pointer (some ⟨b,0,none⟩)),.agg #[.int .i64 f,.int .i64 en,.int .i64 k,.int .i64 t]] w _
  go_enter Tryz.func102,Tryz.ntmps102
  go_wp2_with fail
  refine (HWH.out _).mono ?_
  rintro e w' ⟨rfl,rfl⟩
  go_wp2_with fail
  with_reducible refine HUN.out.mono ?_
  rintro e w' ⟨rfl,rfl⟩
  go_wp2_with fail
  go_region_held3 (fun w' => w'.cell? ⟨b,1,none⟩ = some (.slice (some ⟨g,0,none⟩) n c) ∧ w'.cell? ⟨g,i,none⟩ = some (.iface (ndT h) (.pointer (some ⟨kb,0,none⟩))) ∧ w'.cell? ⟨w.heap.size,0,none⟩ = some (.int .i64 f) ∧ w'.cell? ⟨w.heap.size,1,none⟩ = some (.int .i64 en) ∧ w'.cell? ⟨w.heap.size,2,none⟩ = some (.int .i64 k) ∧ w'.cell? ⟨w.heap.size,3,none⟩ = some (.int .i64 t)) (first | with_reducible exact SH5.out | exact SA.out) ((go_at_call 102; (with_reducible refine HINS.out.mono ?_); rintro e w5 ⟨rb,rfl,hc5,hb5,hi5⟩; have SH5 := Lib.hid hc5; have HI5 := Lib.hid hi5; clear hc5 hi5))
  clear y11 y12 y13 y14 y15 y16
  obtain ⟨y1,y2,y3,y4,y5,y6⟩ := SH5.out
  have hwi : IntKind.i64.wrap ((i : Int) + 1) = (i : Int) + 1 := by rw [IntKind.wrap_i64]; omega
  have qa := fun o => (World.cell?_alloc_lt w5 o ⟨b,1,none⟩ hb5).trans y1
  have hbw5 : b ≠ w5.heap.size := by omega
  go_wp2_with fail
  with_reducible refine (HI5.out _ ((Below.refl _ _).alloc (Nat.le_refl _) _) (Whole.new w5 _ _)).mono ?_
  rintro e w6 ⟨g',c',rfl,⟨r1,r2⟩,ds',⟨hdl,hdm⟩,hpost⟩
  have HP6 := Lib.hid hpost
  have HDM := Lib.hid hdm
  have HDL := Lib.hid hdl
  clear hpost hdl hdm
  by_cases h8 : n < 8
  · have h8' : ¬ (8 : Int) < (n : Int) + 1 := by omega
    obtain ⟨e1,e2⟩ : R1 = mkI (-1) (ds'.map fun d => d.2.2) ∧ R2 = none := by have := HRR.out; rw [if_pos h8,← HDM.out] at this; exact this
    subst e1 e2
    go_wp2_with fail
    go_ret
    exact ⟨rfl,b :: g' :: dsF ds',⟨inner_at HP6.out.1,HP6.out.2.1⟩,HP6.out.2.2⟩
  · obtain rfl : n = 8 := by omega
    obtain ⟨e1,e2⟩ : R1 = mkI (-1) ((ds'.take 4).map fun d => d.2.2) ∧ R2 = some (mkI (-1) ((ds'.drop 4).map fun d => d.2.2)) := by
      have := HRR.out
      rw [if_neg h8,← HDM.out,← List.map_take,← List.map_drop] at this
      exact this
    subst e1 e2
    clear h8
    obtain ⟨w7,hw7⟩ : ∃ w7,w6.setCell ⟨b,1,none⟩ (.slice (some ⟨g',0,none⟩) (8 + 1) c') = w7 := ⟨_,rfl⟩
    rw [hw7] at HP6
    simp only [Nat.reduceAdd] at hw7
    have y71 : w7.cell? ⟨b,1,none⟩ = some (.slice (some ⟨g',0,none⟩) 9 c') := by have := HP6.out.1.1.cell 1; rw [HDL.out] at this; exact this
    have hb7 : b < w7.heap.size := HP6.out.1.1.lt
    have hbn7 : b ≠ w7.heap.size := by omega
    have hbn8 : w7.heap.size ≠ b := by omega
    have hs67 : w6.heap.size = w7.heap.size := by rw [← hw7]; simp [World.setCell]
    have qb := fun o => (World.cell?_alloc_lt w7 o ⟨b,1,none⟩ hb7).trans y71
    have HSPL : Hid (Calls Tryz.prog 131 #[.slice (some ⟨g',0,none⟩) 9 c'] (w7.alloc (.cells #[.int .i64 (-1),.slice none 0 0] 97)) fun e w9 => ∃ A c2,e = .returned (.tuple #[.slice (some ⟨g',0,none⟩) 4 4,.slice A 5 c2]) ∧ ((w9.cell? ⟨b,1,none⟩ = some (.slice (some ⟨g',0,none⟩) 9 c') ∧ w9.frozen? ⟨b,1,none⟩ = false) ∧ w9.cell? ⟨w7.heap.size,1,none⟩ = some (.slice none 0 0) ∧ w9.frozen? ⟨w7.heap.size,1,none⟩ = false) ∧
        InsPost w FL (ptrV (h + 1) b) (mkI (-1) ((ds'.take 4).map fun d => d.2.2)) (some (mkI (-1) ((ds'.drop 4).map fun d => d.2.2))) (.returned (.iface 94 (.pointer (some ⟨w7.heap.size,0,none⟩)))) ((w9.setCell ⟨b,1,none⟩ (.slice (some ⟨g',0,none⟩) 4 4)).setCell ⟨w7.heap.size,1,none⟩ (.slice A 5 c2))) := by
      have hkA : Keep (fun _ => False) w7 (w7.alloc (.cells #[.int .i64 (-1),.slice none 0 0] 97)) := Keep.alloc (Keep.refl (fun _ => False) _) _
      have hW8 := HP6.out.1.1.keep hkA (fun h => h)
      have hR8 := HP6.out.1.2.1.keep hkA (fun h => h)
      refine (splitN 9 g' c' (ds'.map fun d => d.2.1) _ hR8 (by rw [List.length_map,HDL.out]) (by omega) (by omega) (kids_one HP6.out.1.2.2)).mono ?_
      rintro e w9 ⟨v',rfl,ho,hb⟩
      obtain ⟨A,c2,rfl⟩ := own_slice ho
      have hX := hW8.below hb hW8.lt
      have hY : Whole w9 w7.heap.size 97 #[.int .i64 (-1),.slice none 0 0] := (Whole.new w7 _ _).below hb (by simp)
      have h1 := hX.cell 1
      rw [HDL.out] at h1
      exact ⟨A,c2,rfl,⟨⟨h1,hX.fz 1⟩,hY.cell 1,hY.fz 1⟩,inner_split_end HP6.out.1 HP6.out.2.1 HP6.out.2.2 HDL.out rfl hb ho rfl rfl⟩
    go_wp2_with fail
    with_reducible refine HSPL.out.mono ?_
    rintro e w9 ⟨A,c2,rfl,⟨⟨p1,p2⟩,p3,p4⟩,hfin⟩
    have HFIN := Lib.hid hfin
    clear hfin
    go_wp2_with fail
    go_ret
    exact HFIN.out
theorem ins_any : ∀ h,InsCtr h
  | 0 => fun w F v n e hn hk h1 h8 ho hi he => by
    obtain ⟨b,g,c,rfl,rfl,hl⟩ := leaf_open hn.at_
    have hnd := hn.nd
    simp at hnd
    exact ins_leaf w b g c _ _ e hl hnd h8 ho hi he
  | h + 1 => fun w F v n e hn hk h1 h8 ho hi he => by
    obtain ⟨b,g,c,ds,rfl,rfl,hl,e1⟩ := inner_open hn.at_
    have hlen : n.ks.length = ds.length := by rw [e1,List.length_map]
    have h1' : 1 ≤ n.ks.length := h1
    have h8' : n.ks.length ≤ 8 := h8
    have hr : insN n e = insN (mkI (-1) (ds.map fun d => d.2.2)) e := by
      show (let i := under n.ks e.fr; let r := insN (n.ks.getD i (dft h)) e; match r.2 with | none => (mkI (-1) (n.ks.set i r.1),none) | some s => splitI ((n.ks.set i r.1).take (i + 1) ++ s :: (n.ks.set i r.1).drop (i + 1))) = _
      rw [e1]
      rfl
    have hk2 : Kw (mkI (-1) (ds.map fun d => d.2.2)) := fun k hm => hk k (by rw [e1]; exact hm)
    have hf : flat n = flats (ds.map fun d => d.2.2) := by show flats n.ks = _; rw [e1]
    rw [hf] at ho hi
    rw [hr]
    have hil : under (ds.map fun d => d.2.2) e.fr < ds.length := by have := under_lt (ds.map fun d => d.2.2) e.fr (by rw [List.length_map]; omega); simpa using this
    have hd := List.getElem?_eq_getElem hil
    cases hs : (insN (ds[under (ds.map fun d => d.2.2) e.fr]'hil).2.2 e).2 with
    | none => exact ins_inner_none h (ins_any h) w b g c _ ds e _ _ _ hl hn.nd hk2 (by omega) (by omega) ho hi he rfl hd rfl hs
    | some s => exact ins_inner_some h (ins_any h) w b g c _ ds e _ _ _ s hl hn.nd hk2 (by omega) (by omega) ho hi he rfl hd rfl hs
end Go.Proofs.YtneammhkgmkkfaaGreatDoor.tr
