/- tree: shift at any node; kids in the midst of a node. -/
import Derived.Test.YtneammhkgmkkfaaGreatTyO
import Derived.Test.YtneammhkgmkkfaaGreatTyL
namespace Go.Proofs.YtneammhkgmkkfaaGreat.tr
open Go.RowKit Go.Proofs.YtneammhkgmkkfaaGreat.er
set_option linter.unusedVariables false
set_option linter.unusedSimpArgs false

theorem ShiftPost.congr {h : Nat} {w : World} {F G : Nat → Prop} {v1 v2 : Value} {x' y' : Nd h} {some some' : Prop} {w' : World} (hp : ShiftPost w F v1 v2 x' y' some w') (hF : ∀ k, F k ↔ G k) (hs : some' → some) : ShiftPost w G v1 v2 x' y' some' w' := by
  have : F = G := funext fun k => propext (hF k)
  subst this
  obtain ⟨G1, G2, h1, h2, h3, h4⟩ := hp
  exact ⟨G1, G2, h1, fun h => h2 (hs h), h3, h4⟩
theorem shift_any {h : Nat} (w : World) (F1 F2 : List Nat) (v1 v2 : Value) (x y : Nd h) (K : Nat) (hx : NdIn w F1 v1 x) (hy : NdIn w F2 v2 y) (hd : ∀ k ∈ F1, k ∉ F2) (hK0 : 0 < K) (hK : K ≤ x.size + y.size) (hm : x.size + y.size ≤ 1000) :
    Calls Tryz.prog 149 #[v1, v2, .int .i64 K] w fun e w' => e = .returned (.tuple #[]) ∧ ShiftPost w (fun k => k ∈ F1 ∨ k ∈ F2) v1 v2 (shiftN x y K).1 (shiftN x y K).2 (K < x.size + y.size) w' := by
  cases h with
  | zero =>
    obtain ⟨b1, g1, c1, rfl, rfl, h1⟩ := leaf_open hx.at_
    obtain ⟨b2, g2, c2, rfl, rfl, h2⟩ := leaf_open hy.at_
    have n1 := hx.nd
    have n2 := hy.nd
    have q1 := hd b1 (by simp)
    have q2 := hd g1 (by simp)
    simp at n1 n2 q1 q2
    exact (shift_leaf w b1 g1 c1 b2 g2 c2 K _ _ _ _ h1 h2 (by omega) ⟨fun e => n1 e.symm, by omega⟩ ⟨fun e => q1.2 e.symm, fun e => n2 e.symm⟩ hK0 hK hm)
  | succ h =>
    obtain ⟨b1, g1, c1, ds1, rfl, rfl, h1, e1⟩ := inner_open hx.at_
    obtain ⟨b2, g2, c2, ds2, rfl, rfl, h2, e2⟩ := inner_open hy.at_
    have n1 := List.nodup_cons.1 hx.nd
    have n1' := List.nodup_cons.1 n1.2
    have n2 := List.nodup_cons.1 hy.nd
    have n2' := List.nodup_cons.1 n2.2
    have q1 := hd b1 (by simp)
    have q2 := hd g1 (by simp)
    have s1 : x.size = ds1.length := by show x.ks.length = _; rw [e1, List.length_map]
    have s2 : y.size = ds2.length := by show y.ks.length = _; rw [e2, List.length_map]
    rw [s1, s2] at hK hm ⊢
    have hnd : (dsF (ds1 ++ ds2)).Nodup := by
      rw [dsF_append]
      refine List.nodup_append.2 ⟨n1'.2, n2'.2, fun a ha b hb e => ?_⟩
      subst e
      exact hd a (by simp [ha]) (by simp [hb])
    have hbd : b1 ∉ dsF (ds1 ++ ds2) ∧ b2 ∉ dsF (ds1 ++ ds2) := by
      rw [dsF_append]
      refine ⟨fun hm => ?_, fun hm => ?_⟩
      · rcases List.mem_append.1 hm with h | h
        · exact n1.1 (by simp [h])
        · exact q1 (by simp [h])
      · rcases List.mem_append.1 hm with h | h
        · exact hd b2 (by simp [h]) (by simp)
        · exact n2.1 (by simp [h])
    simp only [List.mem_cons, not_or] at q1 q2 n1 n2
    have key := shift_inner w h b1 g1 c1 b2 g2 c2 K x.at_ y.at_ ds1 ds2 h1 h2 hnd hbd (by omega) ⟨fun e => n1.1.1 e.symm, by omega⟩ ⟨fun e => q1.2.1 e.symm, fun e => n2.1.1 e.symm⟩ hK0 hK hm
    have ex : (shiftN x y K).1 = mkI (-1) (((ds1 ++ ds2).take K).map fun d => d.2.2) := by
      show mkI (-1) ((x.ks ++ y.ks).take K) = _
      rw [e1, e2, ← List.map_append, List.map_take]
    have ey : (shiftN x y K).2 = mkI (-1) (((ds1 ++ ds2).drop K).map fun d => d.2.2) := by
      show mkI (-1) ((x.ks ++ y.ks).drop K) = _
      rw [e1, e2, ← List.map_append, List.map_drop]
    rw [ex, ey]
    exact key
/-- Kids in the midst of a node have turned. -/
theorem mid_keep {w w' : World} {h b g c : Nat} {a : Int} {P M M' Q : List (Kd h)} (hin : InAt w b g c a (P ++ M ++ Q)) (hnd : (b :: g :: dsF (P ++ M ++ Q)).Nodup) (hmv : Mv (fun k => k ∈ dsF M) w (fun k => k ∈ dsF M') w')
    (hM : ∀ d ∈ M', NdAt w' d.1 d.2.1 d.2.2) (hn : (dsF M').Nodup) :
    Whole w' b 85 #[.int .i64 a, .slice (some ⟨g, 0, none⟩) (P ++ M ++ Q).length c] ∧ Row w' g c 1 78 ((P ++ M ++ Q).map fun d => d.2.1) ∧ (∀ d ∈ P ++ M' ++ Q, NdAt w' d.1 d.2.1 d.2.2) ∧ (b :: g :: dsF (P ++ M' ++ Q)).Nodup ∧
      Mv (fun k => k ∈ b :: g :: dsF (P ++ M ++ Q)) w (fun k => k ∈ b :: g :: dsF (P ++ M' ++ Q)) w' := by
  have hmv2 : Mv (fun k => k ∈ b :: g :: dsF (P ++ M ++ Q)) w (fun k => k ∈ b :: g :: dsF (P ++ M' ++ Q)) w' := by
    refine ⟨hmv.keep.mono (fun k _ hk => by simp only [dsF_append, List.mem_cons, List.mem_append]; exact .inr (.inr (.inl (.inr hk)))), fun k hk => ?_⟩
    simp only [dsF_append, List.mem_cons, List.mem_append] at hk ⊢
    rcases hk with h | h | (h | h) | h
    · exact .inl (.inl h)
    · exact .inl (.inr (.inl h))
    · exact .inl (.inr (.inr (.inl (.inl h))))
    · rcases hmv.sub k h with h | h
      · exact .inl (.inr (.inr (.inl (.inr h))))
      · exact .inr h
    · exact .inl (.inr (.inr (.inr h)))
  have n1 := List.nodup_cons.1 hnd
  have n2 := List.nodup_cons.1 n1.2
  simp only [dsF_append, List.mem_cons, List.mem_append, not_or] at n1 n2
  have n3 := List.nodup_append.1 n2.2
  have n4 := List.nodup_append.1 n3.1
  have hbl : b < w.heap.size := hin.1.lt
  have hgl : g < w.heap.size := hin.2.1.lt
  have hkl := kids_lt hin.2.2
  have hPl : ∀ k ∈ dsF P, k < w.heap.size := fun k hk => hkl k (by simp [dsF_append, hk])
  have hQl : ∀ k ∈ dsF Q, k < w.heap.size := fun k hk => hkl k (by simp [dsF_append, hk])
  have hMP : ∀ k ∈ dsF P, k ∉ dsF M := fun k hk hk2 => n4.2.2 k hk k hk2 rfl
  have hMQ : ∀ k ∈ dsF Q, k ∉ dsF M := fun k hk hk2 => n3.2.2 k (by simp [hk2]) k hk rfl
  have hMP' : ∀ k ∈ dsF P, k ∉ dsF M' := fun k hk hk2 => by
    rcases hmv.sub k hk2 with h | h
    · exact hMP k hk h
    · have := hPl k hk; omega
  have hMQ' : ∀ k ∈ dsF Q, k ∉ dsF M' := fun k hk hk2 => by
    rcases hmv.sub k hk2 with h | h
    · exact hMQ k hk h
    · have := hQl k hk; omega
  have hb' : b ∉ dsF M' := fun hk2 => by
    rcases hmv.sub b hk2 with h | h
    · exact n1.1.2.1.2 h
    · omega
  have hg' : g ∉ dsF M' := fun hk2 => by
    rcases hmv.sub g hk2 with h | h
    · exact n2.1.1.2 h
    · omega
  refine ⟨hin.1.keep hmv.keep n1.1.2.1.2, hin.2.1.keep hmv.keep n2.1.1.2, fun d hd => ?_, ?_, hmv2⟩
  · rcases List.mem_append.1 hd with hd | hd
    · rcases List.mem_append.1 hd with hd | hd
      · exact (hin.2.2 d (by simp [hd])).keep hmv.keep (fun k hk => hMP k (mem_dsF hd hk))
      · exact hM d hd
    · exact (hin.2.2 d (by simp [hd])).keep hmv.keep (fun k hk => hMQ k (mem_dsF hd hk))
  · refine List.nodup_cons.2 ⟨?_, List.nodup_cons.2 ⟨?_, ?_⟩⟩
    · simp only [dsF_append, List.mem_cons, List.mem_append, not_or]
      exact ⟨n1.1.1, ⟨n1.1.2.1.1, hb'⟩, n1.1.2.2⟩
    · simp only [dsF_append, List.mem_append, not_or]
      exact ⟨⟨n2.1.1.1, hg'⟩, n2.1.2⟩
    · rw [dsF_append, dsF_append]
      refine List.nodup_append.2 ⟨List.nodup_append.2 ⟨n4.1, hn, fun x hx y hy e => hMP' x hx (e ▸ hy)⟩, n3.2.1, fun x hx y hy e => ?_⟩
      subst e
      rcases List.mem_append.1 hx with h | h
      · exact n3.2.2 x (by simp [h]) x hy rfl
      · exact hMQ' x hy h
end Go.Proofs.YtneammhkgmkkfaaGreat.tr
