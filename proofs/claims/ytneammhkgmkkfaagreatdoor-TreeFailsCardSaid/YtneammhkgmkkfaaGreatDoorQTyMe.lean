/- A part of the proof. -/
import Derived.Test.YtneammhkgmkkfaaGreatDoorQTyMc
import Derived.Test.YtneammhkgmkkfaaGreatDoorQTyMd
namespace Go.Proofs.YtneammhkgmkkfaaGreatDoor.tr
open Go.RowKit Go.Proofs.YtneammhkgmkkfaaGreatDoor.er
set_option linter.unusedVariables false
set_option linter.unusedSimpArgs false
theorem shift_any {h : Nat} (w : World) (F1 F2 : List Nat) (v1 v2 : Value) (x y : Nd h) (K : Nat) (hx : NdIn w F1 v1 x) (hy : NdIn w F2 v2 y) (hd : ∀ k ∈ F1,k ∉ F2) (hK0 : 0 < K) (hK : K ≤ x.size + y.size) (hm : x.size + y.size ≤ 1000) :
    Calls Tryz.prog 149 #[v1,v2,.int .i64 K] w fun e w' => e = .returned (.tuple #[]) ∧ ShiftPost w (fun k => k ∈ F1 ∨ k ∈ F2) v1 v2 (shiftN x y K).1 (shiftN x y K).2 (K < x.size + y.size) w' := by
  cases h with
  | zero =>
    obtain ⟨b1,g1,c1,rfl,rfl,h1⟩ := leaf_open hx.at_
    obtain ⟨b2,g2,c2,rfl,rfl,h2⟩ := leaf_open hy.at_
    have n1 := hx.nd
    have n2 := hy.nd
    have q1 := hd b1 (by simp)
    have q2 := hd g1 (by simp)
    simp at n1 n2 q1 q2
    exact (shift_leaf w b1 g1 c1 b2 g2 c2 K _ _ _ _ h1 h2 (by omega) ⟨fun e => n1 e.symm,by omega⟩ ⟨fun e => q1.2 e.symm,fun e => n2 e.symm⟩ hK0 hK hm)
  | succ h =>
    obtain ⟨b1,g1,c1,ds1,rfl,rfl,h1,e1⟩ := inner_open hx.at_
    obtain ⟨b2,g2,c2,ds2,rfl,rfl,h2,e2⟩ := inner_open hy.at_
    have n1 := List.nodup_cons.1 hx.nd
    have n1' := List.nodup_cons.1 n1.2
    have n2 := List.nodup_cons.1 hy.nd
    have n2' := List.nodup_cons.1 n2.2
    have q1 := hd b1 (by simp)
    have q2 := hd g1 (by simp)
    have s1 : x.size = ds1.length := by show x.ks.length = _; rw [e1,List.length_map]
    have s2 : y.size = ds2.length := by show y.ks.length = _; rw [e2,List.length_map]
    rw [s1,s2] at hK hm ⊢
    have hnd : (dsF (ds1 ++ ds2)).Nodup := by
      rw [dsF_append]
      refine List.nodup_append.2 ⟨n1'.2,n2'.2,fun a ha b hb e => ?_⟩
      subst e
      exact hd a (by simp [ha]) (by simp [hb])
    have hbd : b1 ∉ dsF (ds1 ++ ds2) ∧ b2 ∉ dsF (ds1 ++ ds2) := by
      rw [dsF_append]
      refine ⟨fun hm => ?_,fun hm => ?_⟩
      · rcases List.mem_append.1 hm with h | h
        · exact n1.1 (by simp [h])
        · exact q1 (by simp [h])
      · rcases List.mem_append.1 hm with h | h
        · exact hd b2 (by simp [h]) (by simp)
        · exact n2.1 (by simp [h])
    simp only [List.mem_cons,not_or] at q1 q2 n1 n2
    have key := shift_inner w h b1 g1 c1 b2 g2 c2 K x.at_ y.at_ ds1 ds2 h1 h2 hnd hbd (by omega) ⟨fun e => n1.1.1 e.symm,by omega⟩ ⟨fun e => q1.2.1 e.symm,fun e => n2.1.1 e.symm⟩ hK0 hK hm
    have ex : (shiftN x y K).1 = mkI (-1) (((ds1 ++ ds2).take K).map fun d => d.2.2) := by
      show mkI (-1) ((x.ks ++ y.ks).take K) = _
      rw [e1,e2,← List.map_append,List.map_take]
    have ey : (shiftN x y K).2 = mkI (-1) (((ds1 ++ ds2).drop K).map fun d => d.2.2) := by
      show mkI (-1) ((x.ks ++ y.ks).drop K) = _
      rw [e1,e2,← List.map_append,List.map_drop]
    rw [ex,ey]
    exact key
theorem mid_keep {w w' : World} {h b g c : Nat} {a : Int} {P M M' Q : List (Kd h)} (hin : InAt w b g c a (P ++ M ++ Q)) (hnd : (b :: g :: dsF (P ++ M ++ Q)).Nodup) (hmv : Mv (fun k => k ∈ dsF M) w (fun k => k ∈ dsF M') w')
    (hM : ∀ d ∈ M',NdAt w' d.1 d.2.1 d.2.2) (hn : (dsF M').Nodup) :
    Whole w' b 97 #[.int .i64 a,.slice (some ⟨g,0,none⟩) (P ++ M ++ Q).length c] ∧ Row w' g c 1 62 ((P ++ M ++ Q).map fun d => d.2.1) ∧ (∀ d ∈ P ++ M' ++ Q,NdAt w' d.1 d.2.1 d.2.2) ∧ (b :: g :: dsF (P ++ M' ++ Q)).Nodup ∧
      Mv (fun k => k ∈ b :: g :: dsF (P ++ M ++ Q)) w (fun k => k ∈ b :: g :: dsF (P ++ M' ++ Q)) w' := by
  have hmv2 : Mv (fun k => k ∈ b :: g :: dsF (P ++ M ++ Q)) w (fun k => k ∈ b :: g :: dsF (P ++ M' ++ Q)) w' := by
    refine ⟨hmv.keep.mono (fun k _ hk => by simp only [dsF_append,List.mem_cons,List.mem_append]; exact .inr (.inr (.inl (.inr hk)))),fun k hk => ?_⟩
    simp only [dsF_append,List.mem_cons,List.mem_append] at hk ⊢
    rcases hk with h | h | (h | h) | h
    · exact .inl (.inl h)
    · exact .inl (.inr (.inl h))
    · exact .inl (.inr (.inr (.inl (.inl h))))
    · rcases hmv.sub k h with h | h
      · exact .inl (.inr (.inr (.inl (.inr h))))
      · exact .inr h
    · exact .inl (.inr (.inr (.inr h)))
  have n1 := List.nodup_cons.1 hnd
  have n2 := List.nodup_cons.1 n1.2
  simp only [dsF_append,List.mem_cons,List.mem_append,not_or] at n1 n2
  have n3 := List.nodup_append.1 n2.2
  have n4 := List.nodup_append.1 n3.1
  have hbl : b < w.heap.size := hin.1.lt
  have hgl : g < w.heap.size := hin.2.1.lt
  have hkl := kids_lt hin.2.2
  have hPl : ∀ k ∈ dsF P,k < w.heap.size := fun k hk => hkl k (by simp [dsF_append,hk])
  have hQl : ∀ k ∈ dsF Q,k < w.heap.size := fun k hk => hkl k (by simp [dsF_append,hk])
  have hMP : ∀ k ∈ dsF P,k ∉ dsF M := fun k hk hk2 => n4.2.2 k hk k hk2 rfl
  have hMQ : ∀ k ∈ dsF Q,k ∉ dsF M := fun k hk hk2 => n3.2.2 k (by simp [hk2]) k hk rfl
  have hMP' : ∀ k ∈ dsF P,k ∉ dsF M' := fun k hk hk2 => by
    rcases hmv.sub k hk2 with h | h
    · exact hMP k hk h
    · have := hPl k hk; omega
  have hMQ' : ∀ k ∈ dsF Q,k ∉ dsF M' := fun k hk hk2 => by
    rcases hmv.sub k hk2 with h | h
    · exact hMQ k hk h
    · have := hQl k hk; omega
  have hb' : b ∉ dsF M' := fun hk2 => by
    rcases hmv.sub b hk2 with h | h
    · exact n1.1.2.1.2 h
    · omega
  have hg' : g ∉ dsF M' := fun hk2 => by
    rcases hmv.sub g hk2 with h | h
    · exact n2.1.1.2 h
    · omega
  refine ⟨hin.1.keep hmv.keep n1.1.2.1.2,hin.2.1.keep hmv.keep n2.1.1.2,fun d hd => ?_,?_,hmv2⟩
  · rcases List.mem_append.1 hd with hd | hd
    · rcases List.mem_append.1 hd with hd | hd
      · exact (hin.2.2 d (by simp [hd])).keep hmv.keep (fun k hk => hMP k (mem_dsF hd hk))
      · exact hM d hd
    · exact (hin.2.2 d (by simp [hd])).keep hmv.keep (fun k hk => hMQ k (mem_dsF hd hk))
  · refine List.nodup_cons.2 ⟨?_,List.nodup_cons.2 ⟨?_,?_⟩⟩
    · simp only [dsF_append,List.mem_cons,List.mem_append,not_or]
      exact ⟨n1.1.1,⟨n1.1.2.1.1,hb'⟩,n1.1.2.2⟩
    · simp only [dsF_append,List.mem_append,not_or]
      exact ⟨⟨n2.1.1.1,hg'⟩,n2.1.2⟩
    · rw [dsF_append,dsF_append]
      refine List.nodup_append.2 ⟨List.nodup_append.2 ⟨n4.1,hn,fun x hx y hy e => hMP' x hx (e ▸ hy)⟩,n3.2.1,fun x hx y hy e => ?_⟩
      subst e
      rcases List.mem_append.1 hx with h | h
      · exact n3.2.2 x (by simp [h]) x hy rfl
      · exact hMQ' x hy h
end Go.Proofs.YtneammhkgmkkfaaGreatDoor.tr
namespace Go.Proofs.YtneammhkgmkkfaaGreatDoor.tr
open Go.RowKit Go.Proofs.YtneammhkgmkkfaaGreatDoor.er
set_option linter.unusedVariables false
set_option linter.unusedSimpArgs false
def InPost {h : Nat} (w : World) (b g : Nat) (ds : List (Kd h)) (w' : World) (g' c' : Nat) (a' : Int) (ds' : List (Kd h)) : Prop :=
  InAt w' b g' c' a' ds' ∧ (b :: g' :: dsF ds').Nodup ∧ Mv (fun k => k ∈ b :: g :: dsF ds) w (fun k => k ∈ b :: g' :: dsF ds') w'
def MergeMid {h : Nat} (w : World) (b g c : Nat) (a : Int) (P Q : List (Kd h)) (d1 d2 : Kd h) (x' : Nd h) (w' : World) : Prop :=
  ∃ G1,Whole w' b 97 #[.int .i64 a,.slice (some ⟨g,0,none⟩) (P ++ [d1,d2] ++ Q).length c] ∧ Row w' g c 1 62 ((P ++ [d1,d2] ++ Q).map fun d => d.2.1) ∧ (∀ d ∈ P ++ [(G1,d1.2.1,x')] ++ Q,NdAt w' d.1 d.2.1 d.2.2) ∧ (b :: g :: dsF (P ++ [(G1,d1.2.1,x')] ++ Q)).Nodup ∧
      Mv (fun k => k ∈ b :: g :: dsF (P ++ [d1,d2] ++ Q)) w (fun k => k ∈ b :: g :: dsF (P ++ [(G1,d1.2.1,x')] ++ Q)) w'
theorem two_nd {w : World} {h b g c : Nat} {a : Int} {P Q : List (Kd h)} {d1 d2 : Kd h} (hin : InAt w b g c a (P ++ [d1,d2] ++ Q)) (hnd : (b :: g :: dsF (P ++ [d1,d2] ++ Q)).Nodup) :
    NdIn w d1.1 d1.2.1 d1.2.2 ∧ NdIn w d2.1 d2.2.1 d2.2.2 ∧ (∀ k ∈ d1.1,k ∉ d2.1) ∧ dsF [d1,d2] = d1.1 ++ d2.1 := by
  have e : dsF [d1,d2] = d1.1 ++ d2.1 := by simp [dsF]
  have n2 := (List.nodup_cons.1 (List.nodup_cons.1 hnd).2).2
  rw [dsF_append,dsF_append,e] at n2
  have n3 := List.nodup_append.1 (List.nodup_append.1 (List.nodup_append.1 n2).1).2.1
  exact ⟨⟨hin.2.2 d1 (by simp),n3.1⟩,⟨hin.2.2 d2 (by simp),n3.2.1⟩,fun k h1 h2 => n3.2.2 k h1 k h2 rfl,e⟩
theorem merge_mid {w : World} {h b g c : Nat} {a : Int} {P Q : List (Kd h)} {d1 d2 : Kd h} {x' y' : Nd h} {some : Prop} {w' : World} (hin : InAt w b g c a (P ++ [d1,d2] ++ Q)) (hnd : (b :: g :: dsF (P ++ [d1,d2] ++ Q)).Nodup)
    (hp : ShiftPost w (fun k => k ∈ d1.1 ∨ k ∈ d2.1) d1.2.1 d2.2.1 x' y' some w') : MergeMid w b g c a P Q d1 d2 x' w' := by
  obtain ⟨_,_,_,e⟩ := two_nd hin hnd
  obtain ⟨G1,G2,h1,h2,h3,h4⟩ := hp
  refine ⟨G1,mid_keep hin hnd (M' := [(G1,d1.2.1,x')]) ⟨?_,?_⟩ ?_ ?_⟩
  · rw [e]
    exact h4.keep.mono (fun k _ hk => List.mem_append.2 hk)
  · intro k hk
    rw [e]
    simp [dsF] at hk
    rcases h4.sub k (.inl hk) with h | h
    · exact .inl (List.mem_append.2 h)
    · exact .inr h
  · intro d hd
    rw [List.mem_singleton] at hd
    subst hd
    exact h1.at_
  · simpa [dsF] using h1.nd
set_option maxHeartbeats 4000000 in
set_option maxRecDepth 100000 in
theorem merge_any (w : World) (h b g c i : Nat) (z : Int) (a : Int) (P Q : List (Kd h)) (d1 d2 : Kd h) (hin : InAt w b g c a (P ++ [d1,d2] ++ Q)) (hnd : (b :: g :: dsF (P ++ [d1,d2] ++ Q)).Nodup) (hi : P.length = i) (hz : z = i) (h0 : 0 < d1.2.2.size + d2.2.2.size) (hm : d1.2.2.size + d2.2.2.size ≤ 1000) (hl : (P ++ [d1,d2] ++ Q).length ≤ 1000) :
    Calls Tryz.prog 150 #[.pointer (some ⟨b,0,none⟩),.int .i64 z] w fun e w' => e = .returned (.tuple #[]) ∧ ∃ G1,InPost w b g (P ++ [d1,d2] ++ Q) w' g c a (P ++ [(G1,d1.2.1,(shiftN d1.2.2 d2.2.2 (d1.2.2.size + d2.2.2.size)).1)] ++ Q) := by
  subst hz
  obtain ⟨t1,t2,t3,t4⟩ := two_nd hin hnd
  obtain ⟨k1,F1',f11,f12⟩ := t1.at_.form
  obtain ⟨k2,F2',f21,f22⟩ := t2.at_.form
  have hw0 : Keep (fun _ => False) w w.drew := Keep.drew (Keep.refl _ _)
  have u1 : NdIn w.drew d1.1 d1.2.1 d1.2.2 := ⟨t1.at_.keep hw0 (fun _ _ h => h),t1.nd⟩
  have u2 : NdIn w.drew d2.1 d2.2.1 d2.2.2 := ⟨t2.at_.keep hw0 (fun _ _ h => h),t2.nd⟩
  obtain ⟨s1,hs1⟩ : ∃ s,d1.2.2.size = s := ⟨_,rfl⟩
  obtain ⟨s2,hs2⟩ : ∃ s,d2.2.2.size = s := ⟨_,rfl⟩
  have HZ1 : Hid (Calls Tryz.prog (szF h) #[.pointer (some ⟨k1,0,none⟩)] w.drew fun e w' => e = .returned (.int .i64 s1) ∧ w.drew = w') := by
    have h1 := u1.at_; rw [f12] at h1
    have h2 := size_any w.drew k1 h _ _ h1
    rw [hs1] at h2; exact h2
  have HZ2 : Hid (Calls Tryz.prog (szF h) #[.pointer (some ⟨k2,0,none⟩)] w.drew fun e w' => e = .returned (.int .i64 s2) ∧ w.drew = w') := by
    have h1 := u2.at_; rw [f22] at h1
    have h2 := size_any w.drew k2 h _ _ h1
    rw [hs2] at h2; exact h2
  obtain ⟨x',hx'⟩ : ∃ x',(shiftN d1.2.2 d2.2.2 (s1 + s2)).1 = x' := ⟨_,rfl⟩
  have hin0 : InAt w.drew b g c a (P ++ [d1,d2] ++ Q) := ⟨hin.1.keep hw0 (fun h => h),hin.2.1.keep hw0 (fun h => h),kids_keep hw0 hin.2.2 (fun _ _ h => h)⟩
  have HSH : Hid (Calls Tryz.prog 149 #[.iface (ndT h) (.pointer (some ⟨k1,0,none⟩)),.iface (ndT h) (.pointer (some ⟨k2,0,none⟩)),.int .i64 ((s1 : Int) + (s2 : Int))] w.drew fun e w' => e = .returned (.tuple #[]) ∧ MergeMid w.drew b g c a P Q d1 d2 x' w') := by
    have h1 := shift_any w.drew d1.1 d2.1 d1.2.1 d2.2.1 d1.2.2 d2.2.2 (s1 + s2) u1 u2 t3 (by omega) (by omega) (by omega)
    rw [hx'] at h1
    simp only [Int.natCast_add] at h1
    have h2 := h1.mono (fun (e : Ending) (w' : World) hq => (⟨hq.1,merge_mid hin0 hnd hq.2⟩ : e = .returned (.tuple #[]) ∧ MergeMid w.drew b g c a P Q d1 d2 x' w'))
    rw [f12,f22] at h2
    exact h2
  obtain ⟨n,hn⟩ : ∃ n,(P ++ [d1,d2] ++ Q).length = n := ⟨_,rfl⟩
  have hin1 : i + 1 < n := by rw [← hn]; simp; omega
  have hrow : ((P ++ [d1,d2] ++ Q).map fun d => d.2.1)[i]? = some d1.2.1 ∧ ((P ++ [d1,d2] ++ Q).map fun d => d.2.1)[i + 1]? = some d2.2.1 := by
    rw [← hi]; simp
  have hera : ((P ++ [d1,d2] ++ Q).map fun d => d.2.1).eraseIdx (i + 1) = (P ++ [(([] : List Nat),d1.2.1,x')] ++ Q).map fun d => d.2.1 := by
    rw [← hi]
    simp only [List.map_append,List.map_cons,List.map_nil,List.append_assoc,List.cons_append,List.nil_append]
    rw [List.eraseIdx_append_of_length_le (by simp),List.length_map,show P.length + 1 - P.length = 1 by omega]
    rfl
  have HDEL : Hid (∀ w5,MergeMid w.drew b g c a P Q d1 d2 x' w5 → (∀ wq,wq = w5 → Calls Tryz.prog 163 #[.slice (some ⟨g,0,none⟩) n c,.int .i64 ((i : Int) + 1),.int .i64 ((i : Int) + 2)] wq (DelNRet 62 g c n (i + 1) ((P ++ [d1,d2] ++ Q).map fun d => d.2.1) w5)) ∧
      (w5.cell? ⟨b,1,none⟩ = some (.slice (some ⟨g,0,none⟩) n c) ∧ w5.cell? ⟨g,i,none⟩ = some (.iface (ndT h) (.pointer (some ⟨k1,0,none⟩))) ∧ w5.cell? ⟨g,i + 1,none⟩ = some (.iface (ndT h) (.pointer (some ⟨k2,0,none⟩)))) ∧
      ∀ e w6,DelNRet 62 g c n (i + 1) ((P ++ [d1,d2] ++ Q).map fun d => d.2.1) w5 e w6 → e = .returned (.slice (some ⟨g,0,none⟩) (n - 1) c) ∧ w6.cell? ⟨b,1,none⟩ = some (.slice (some ⟨g,0,none⟩) n c) ∧ w6.frozen? ⟨b,1,none⟩ = false ∧ ∃ G1,InPost w b g (P ++ [d1,d2] ++ Q) (w6.setCell ⟨b,1,none⟩ (.slice (some ⟨g,0,none⟩) (n - 1) c)) g c a (P ++ [(G1,d1.2.1,x')] ++ Q)) := by
    intro w5 ⟨G1,m1,m2,m3,m4,m5⟩
    have hbg : b ≠ g := fun e => (List.nodup_cons.1 hnd).1 (by simp [e])
    rw [hn] at m1
    refine ⟨fun wq e => ?_,⟨m1.cell 1,by rw [m2.cell hrow.1,f12],by rw [m2.cell hrow.2,f22]⟩,fun e w6 ⟨q1,q2,q3⟩ => ?_⟩
    · subst e
      refine delN_any n g c (i + 1) _ _ _ wq m2 (by rw [List.length_map,hn]) hin1 (by omega) (by omega) (by omega) ?_
      intro u hu
      obtain ⟨d,hd,rfl⟩ := List.mem_map.1 hu
      obtain ⟨bb,FF,_,h2⟩ := (hin.2.2 d hd).form
      rw [h2]; rfl
    · have v1 := m1.keep q3 (by simpa using hbg)
      refine ⟨q1,v1.cell 1,v1.fz 1,G1,⟨?_,?_,?_⟩,m4,?_⟩
      · have := v1.set 1 (.slice (some ⟨g,0,none⟩) (n - 1) c)
        have hl' : (P ++ [(G1,d1.2.1,x')] ++ Q).length = n - 1 := by rw [← hn]; simp <;> omega
        rw [hl']
        simpa using this
      · have hk : Keep (fun k => k = b) w6 (w6.setCell ⟨b,1,none⟩ (.slice (some ⟨g,0,none⟩) (n - 1) c)) := Keep.set1 w6 b 1 _
        rw [hera] at q2
        have := q2.keep hk (by simpa using hbg.symm)
        simpa using this
      · have hk : Keep (fun k => k = b) w6 (w6.setCell ⟨b,1,none⟩ (.slice (some ⟨g,0,none⟩) (n - 1) c)) := Keep.set1 w6 b 1 _
        have n1 := List.nodup_cons.1 m4
        have n2 := List.nodup_cons.1 n1.2
        exact kids_keep hk (kids_keep q3 m3 (fun k hk e => n2.1 (e ▸ hk))) (fun k hk e => n1.1 (List.mem_cons_of_mem _ (by have e' : k = b := e; rw [← e']; exact hk)))
      · have hk : Keep (fun k => k = b) w6 (w6.setCell ⟨b,1,none⟩ (.slice (some ⟨g,0,none⟩) (n - 1) c)) := Keep.set1 w6 b 1 _
        have hm0 : Mv (fun k => k ∈ b :: g :: dsF (P ++ [d1,d2] ++ Q)) w (fun k => k ∈ b :: g :: dsF (P ++ [(G1,d1.2.1,x')] ++ Q)) w5 := ⟨⟨m5.keep.os,m5.keep.tape,m5.keep.output,m5.keep.size,m5.keep.block⟩,m5.sub⟩
        have hq : Keep (fun k => k ∈ b :: g :: dsF (P ++ [(G1,d1.2.1,x')] ++ Q)) w5 w6 := q3.mono (fun k _ e => by
          have e' : k = g := e
          rw [e']; exact List.mem_cons_of_mem _ List.mem_cons_self)
        have hq2 : Keep (fun k => k ∈ b :: g :: dsF (P ++ [(G1,d1.2.1,x')] ++ Q)) w5 (w6.setCell ⟨b,1,none⟩ (.slice (some ⟨g,0,none⟩) (n - 1) c)) := hq.trans hk (fun k e => .inl (by
          have e' : k = b := e
          rw [e']; exact List.mem_cons_self))
        exact hm0.trans ⟨hq2,fun k hk => .inl hk⟩
  have hme1 := fun w => meSz (.pointer (some ⟨k1,0,none⟩)) w h
  have hme2 := fun w => meSz (.pointer (some ⟨k2,0,none⟩)) w h
  have hen1 := fun w => enSz #[.pointer (some ⟨k1,0,none⟩)] w h
  have hen2 := fun w => enSz #[.pointer (some ⟨k2,0,none⟩)] w h
  have c1 : w.cell? ⟨b,1,none⟩ = some (.slice (some ⟨g,0,none⟩) n c) := by have := hin.1.cell 1; rw [hn] at this; exact this
  have c2 : w.cell? ⟨g,i,none⟩ = some (.iface (ndT h) (.pointer (some ⟨k1,0,none⟩))) := by rw [hin.2.1.cell hrow.1,f12]
  have c3 : w.cell? ⟨g,i + 1,none⟩ = some (.iface (ndT h) (.pointer (some ⟨k2,0,none⟩))) := by rw [hin.2.1.cell hrow.2,f22]
  have hwi : IntKind.i64.wrap ((i : Int) + 1) = (i : Int) + 1 := by rw [IntKind.wrap_i64]; omega
  have hws : IntKind.i64.wrap ((s1 : Int) + (s2 : Int)) = (s1 : Int) + (s2 : Int) := by rw [IntKind.wrap_i64]; omega
  have hi1 : (0 : Int) ≤ (i : Int) + 1 := by omega
  have hi2 : (i : Int) + 1 < (n : Int) := by omega
  have hi3 : (i : Int) < (n : Int) := by omega
  have hi4 : (0 : Int) ≤ (i : Int) := by omega
  have hi5 : (i : Int) ≤ 1000 := by omega
  have htn : ((i : Int) + 1).toNat = i + 1 := by omega
  rw [hs1,hs2,hx']
  obtain ⟨DS,hDS⟩ : ∃ DS,P ++ [d1,d2] ++ Q = DS := ⟨_,rfl⟩
  have HPOST : Hid (∀ w7,(∃ G1,InPost w b g DS w7 g c a (P ++ [(G1,d1.2.1,x')] ++ Q)) → ∃ G1,InPost w b g DS w7 g c a (P ++ [(G1,d1.2.1,x')] ++ Q)) := fun _ h => h
  rw [hDS] at HDEL ⊢
  clear hDS hera hrow hn hin0 hx' hs1 hs2 u1 u2 hw0 f11 f12 f21 f22 t1 t2 t3 t4 hin hnd hi
  go_enter Tryz.func150,Tryz.ntmps150
  go_wp2_with fail
  go_region_held3 (fun w' => w'.cell? ⟨b,1,none⟩ = some (.slice (some ⟨g,0,none⟩) n c) ∧ w'.cell? ⟨g,i,none⟩ = some (.iface (ndT h) (.pointer (some ⟨k1,0,none⟩))) ∧ w'.cell? ⟨g,i + 1,none⟩ = some (.iface (ndT h) (.pointer (some ⟨k2,0,none⟩)))) (first | with_reducible exact SH5.out | exact ⟨c1,c2,c3⟩) ((first | (go_at_call 149; (with_reducible refine HSH.out.mono ?_); rintro e w5 ⟨rfl,hmid⟩; have HM5 := Lib.hid (HDEL.out w5 hmid); have SH5 := Lib.hid (HDEL.out w5 hmid).2.1; clear hmid) | ((with_reducible refine HZ1.out.mono ?_); rintro e w' ⟨rfl,rfl⟩) | ((with_reducible refine HZ2.out.mono ?_); rintro e w' ⟨rfl,rfl⟩)))
  obtain ⟨y1,y2,y3⟩ := SH5.out
  clear c1 c2 c3 hme1 hme2 hen1 hen2
  go_wp2_with fail
  with_reducible refine (HM5.out.1 _ rfl).mono ?_
  intro e w6 hdel
  obtain ⟨e6,v1,v2,hpost⟩ := HM5.out.2.2 e w6 hdel
  subst e6
  have HP := Lib.hid hpost
  clear hdel hpost
  go_wp2_with fail
  go_end0
  exact ⟨rfl,HP.out⟩
end Go.Proofs.YtneammhkgmkkfaaGreatDoor.tr
