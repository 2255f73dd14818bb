/- tree: merge. -/
import Derived.Test.YtneammhkgmkkfaaGreatTyP
namespace Go.Proofs.YtneammhkgmkkfaaGreat.tr
open Go.RowKit Go.Proofs.YtneammhkgmkkfaaGreat.er
set_option linter.unusedVariables false
set_option linter.unusedSimpArgs false

def InPost {h : Nat} (w : World) (b g : Nat) (ds : List (Kd h)) (w' : World) (g' c' : Nat) (a' : Int) (ds' : List (Kd h)) : Prop :=
  InAt w' b g' c' a' ds' ∧ (b :: g' :: dsF ds').Nodup ∧ Mv (fun k => k ∈ b :: g :: dsF ds) w (fun k => k ∈ b :: g' :: dsF ds') w'
/-- Behind shift, where the right one is left with nothing. -/
def MergeMid {h : Nat} (w : World) (b g c : Nat) (a : Int) (P Q : List (Kd h)) (d1 d2 : Kd h) (x' : Nd h) (w' : World) : Prop :=
  ∃ G1, Whole w' b 85 #[.int .i64 a, .slice (some ⟨g, 0, none⟩) (P ++ [d1, d2] ++ Q).length c] ∧ Row w' g c 1 78 ((P ++ [d1, d2] ++ Q).map fun d => d.2.1) ∧ (∀ d ∈ P ++ [(G1, d1.2.1, x')] ++ Q, NdAt w' d.1 d.2.1 d.2.2) ∧ (b :: g :: dsF (P ++ [(G1, d1.2.1, x')] ++ Q)).Nodup ∧
      Mv (fun k => k ∈ b :: g :: dsF (P ++ [d1, d2] ++ Q)) w (fun k => k ∈ b :: g :: dsF (P ++ [(G1, d1.2.1, x')] ++ Q)) w'
theorem two_nd {w : World} {h b g c : Nat} {a : Int} {P Q : List (Kd h)} {d1 d2 : Kd h} (hin : InAt w b g c a (P ++ [d1, d2] ++ Q)) (hnd : (b :: g :: dsF (P ++ [d1, d2] ++ Q)).Nodup) :
    NdIn w d1.1 d1.2.1 d1.2.2 ∧ NdIn w d2.1 d2.2.1 d2.2.2 ∧ (∀ k ∈ d1.1, k ∉ d2.1) ∧ dsF [d1, d2] = d1.1 ++ d2.1 := by
  have e : dsF [d1, d2] = d1.1 ++ d2.1 := by simp [dsF]
  have n2 := (List.nodup_cons.1 (List.nodup_cons.1 hnd).2).2
  rw [dsF_append, dsF_append, e] at n2
  have n3 := List.nodup_append.1 (List.nodup_append.1 (List.nodup_append.1 n2).1).2.1
  exact ⟨⟨hin.2.2 d1 (by simp), n3.1⟩, ⟨hin.2.2 d2 (by simp), n3.2.1⟩, fun k h1 h2 => n3.2.2 k h1 k h2 rfl, e⟩
theorem merge_mid {w : World} {h b g c : Nat} {a : Int} {P Q : List (Kd h)} {d1 d2 : Kd h} {x' y' : Nd h} {some : Prop} {w' : World} (hin : InAt w b g c a (P ++ [d1, d2] ++ Q)) (hnd : (b :: g :: dsF (P ++ [d1, d2] ++ Q)).Nodup)
    (hp : ShiftPost w (fun k => k ∈ d1.1 ∨ k ∈ d2.1) d1.2.1 d2.2.1 x' y' some w') : MergeMid w b g c a P Q d1 d2 x' w' := by
  obtain ⟨_, _, _, e⟩ := two_nd hin hnd
  obtain ⟨G1, G2, h1, h2, h3, h4⟩ := hp
  refine ⟨G1, mid_keep hin hnd (M' := [(G1, d1.2.1, x')]) ⟨?_, ?_⟩ ?_ ?_⟩
  · rw [e]
    exact h4.keep.mono (fun k _ hk => List.mem_append.2 hk)
  · intro k hk
    rw [e]
    simp [dsF] at hk
    rcases h4.sub k (.inl hk) with h | h
    · exact .inl (List.mem_append.2 h)
    · exact .inr h
  · intro d hd
    rw [List.mem_singleton] at hd
    subst hd
    exact h1.at_
  · simpa [dsF] using h1.nd
set_option maxHeartbeats 4000000 in
set_option maxRecDepth 100000 in
theorem merge_any (w : World) (h b g c i : Nat) (z : Int) (a : Int) (P Q : List (Kd h)) (d1 d2 : Kd h) (hin : InAt w b g c a (P ++ [d1, d2] ++ Q)) (hnd : (b :: g :: dsF (P ++ [d1, d2] ++ Q)).Nodup) (hi : P.length = i) (hz : z = i) (h0 : 0 < d1.2.2.size + d2.2.2.size) (hm : d1.2.2.size + d2.2.2.size ≤ 1000) (hl : (P ++ [d1, d2] ++ Q).length ≤ 1000) :
    Calls Tryz.prog 150 #[.pointer (some ⟨b, 0, none⟩), .int .i64 z] w fun e w' => e = .returned (.tuple #[]) ∧ ∃ G1, InPost w b g (P ++ [d1, d2] ++ Q) w' g c a (P ++ [(G1, d1.2.1, (shiftN d1.2.2 d2.2.2 (d1.2.2.size + d2.2.2.size)).1)] ++ Q) := by
  subst hz
  obtain ⟨t1, t2, t3, t4⟩ := two_nd hin hnd
  obtain ⟨k1, F1', f11, f12⟩ := t1.at_.form
  obtain ⟨k2, F2', f21, f22⟩ := t2.at_.form
  have hw0 : Keep (fun _ => False) w w.drew := Keep.drew (Keep.refl _ _)
  have u1 : NdIn w.drew d1.1 d1.2.1 d1.2.2 := ⟨t1.at_.keep hw0 (fun _ _ h => h), t1.nd⟩
  have u2 : NdIn w.drew d2.1 d2.2.1 d2.2.2 := ⟨t2.at_.keep hw0 (fun _ _ h => h), t2.nd⟩
  obtain ⟨s1, hs1⟩ : ∃ s, d1.2.2.size = s := ⟨_, rfl⟩
  obtain ⟨s2, hs2⟩ : ∃ s, d2.2.2.size = s := ⟨_, rfl⟩
  have HZ1 : Hid (Calls Tryz.prog (szF h) #[.pointer (some ⟨k1, 0, none⟩)] w.drew fun e w' => e = .returned (.int .i64 s1) ∧ w.drew = w') := by
    have h1 := u1.at_; rw [f12] at h1
    have h2 := size_any w.drew k1 h _ _ h1
    rw [hs1] at h2; exact h2
  have HZ2 : Hid (Calls Tryz.prog (szF h) #[.pointer (some ⟨k2, 0, none⟩)] w.drew fun e w' => e = .returned (.int .i64 s2) ∧ w.drew = w') := by
    have h1 := u2.at_; rw [f22] at h1
    have h2 := size_any w.drew k2 h _ _ h1
    rw [hs2] at h2; exact h2
  obtain ⟨x', hx'⟩ : ∃ x', (shiftN d1.2.2 d2.2.2 (s1 + s2)).1 = x' := ⟨_, rfl⟩
  have hin0 : InAt w.drew b g c a (P ++ [d1, d2] ++ Q) := ⟨hin.1.keep hw0 (fun h => h), hin.2.1.keep hw0 (fun h => h), kids_keep hw0 hin.2.2 (fun _ _ h => h)⟩
  have HSH : Hid (Calls Tryz.prog 149 #[.iface (ndT h) (.pointer (some ⟨k1, 0, none⟩)), .iface (ndT h) (.pointer (some ⟨k2, 0, none⟩)), .int .i64 ((s1 : Int) + (s2 : Int))] w.drew fun e w' => e = .returned (.tuple #[]) ∧ MergeMid w.drew b g c a P Q d1 d2 x' w') := by
    have h1 := shift_any w.drew d1.1 d2.1 d1.2.1 d2.2.1 d1.2.2 d2.2.2 (s1 + s2) u1 u2 t3 (by omega) (by omega) (by omega)
    rw [hx'] at h1
    simp only [Int.natCast_add] at h1
    have h2 := h1.mono (fun (e : Ending) (w' : World) hq => (⟨hq.1, merge_mid hin0 hnd hq.2⟩ : e = .returned (.tuple #[]) ∧ MergeMid w.drew b g c a P Q d1 d2 x' w'))
    rw [f12, f22] at h2
    exact h2
  obtain ⟨n, hn⟩ : ∃ n, (P ++ [d1, d2] ++ Q).length = n := ⟨_, rfl⟩
  have hin1 : i + 1 < n := by rw [← hn]; simp; omega
  have hrow : ((P ++ [d1, d2] ++ Q).map fun d => d.2.1)[i]? = some d1.2.1 ∧ ((P ++ [d1, d2] ++ Q).map fun d => d.2.1)[i + 1]? = some d2.2.1 := by
    rw [← hi]; simp
  have hera : ((P ++ [d1, d2] ++ Q).map fun d => d.2.1).eraseIdx (i + 1) = (P ++ [(([] : List Nat), d1.2.1, x')] ++ Q).map fun d => d.2.1 := by
    rw [← hi]
    simp only [List.map_append, List.map_cons, List.map_nil, List.append_assoc, List.cons_append, List.nil_append]
    rw [List.eraseIdx_append_of_length_le (by simp), List.length_map, show P.length + 1 - P.length = 1 by omega]
    rfl
  have HDEL : Hid (∀ w5, MergeMid w.drew b g c a P Q d1 d2 x' w5 → (∀ wq, wq = w5 → Calls Tryz.prog 169 #[.slice (some ⟨g, 0, none⟩) n c, .int .i64 ((i : Int) + 1), .int .i64 ((i : Int) + 2)] wq (DelNRet 78 g c n (i + 1) ((P ++ [d1, d2] ++ Q).map fun d => d.2.1) w5)) ∧
      (w5.cell? ⟨b, 1, none⟩ = some (.slice (some ⟨g, 0, none⟩) n c) ∧ w5.cell? ⟨g, i, none⟩ = some (.iface (ndT h) (.pointer (some ⟨k1, 0, none⟩))) ∧ w5.cell? ⟨g, i + 1, none⟩ = some (.iface (ndT h) (.pointer (some ⟨k2, 0, none⟩)))) ∧
      ∀ e w6, DelNRet 78 g c n (i + 1) ((P ++ [d1, d2] ++ Q).map fun d => d.2.1) w5 e w6 → e = .returned (.slice (some ⟨g, 0, none⟩) (n - 1) c) ∧ w6.cell? ⟨b, 1, none⟩ = some (.slice (some ⟨g, 0, none⟩) n c) ∧ w6.frozen? ⟨b, 1, none⟩ = false ∧ ∃ G1, InPost w b g (P ++ [d1, d2] ++ Q) (w6.setCell ⟨b, 1, none⟩ (.slice (some ⟨g, 0, none⟩) (n - 1) c)) g c a (P ++ [(G1, d1.2.1, x')] ++ Q)) := by
    intro w5 ⟨G1, m1, m2, m3, m4, m5⟩
    have hbg : b ≠ g := fun e => (List.nodup_cons.1 hnd).1 (by simp [e])
    rw [hn] at m1
    refine ⟨fun wq e => ?_, ⟨m1.cell 1, by rw [m2.cell hrow.1, f12], by rw [m2.cell hrow.2, f22]⟩, fun e w6 ⟨q1, q2, q3⟩ => ?_⟩
    · subst e
      refine delN_any n g c (i + 1) _ _ _ wq m2 (by rw [List.length_map, hn]) hin1 (by omega) (by omega) (by omega) ?_
      intro u hu
      obtain ⟨d, hd, rfl⟩ := List.mem_map.1 hu
      obtain ⟨bb, FF, _, h2⟩ := (hin.2.2 d hd).form
      rw [h2]; rfl
    · have v1 := m1.keep q3 (by simpa using hbg)
      refine ⟨q1, v1.cell 1, v1.fz 1, G1, ⟨?_, ?_, ?_⟩, m4, ?_⟩
      · have := v1.set 1 (.slice (some ⟨g, 0, none⟩) (n - 1) c)
        have hl' : (P ++ [(G1, d1.2.1, x')] ++ Q).length = n - 1 := by rw [← hn]; simp <;> omega
        rw [hl']
        simpa using this
      · have hk : Keep (fun k => k = b) w6 (w6.setCell ⟨b, 1, none⟩ (.slice (some ⟨g, 0, none⟩) (n - 1) c)) := Keep.set1 w6 b 1 _
        rw [hera] at q2
        have := q2.keep hk (by simpa using hbg.symm)
        simpa using this
      · have hk : Keep (fun k => k = b) w6 (w6.setCell ⟨b, 1, none⟩ (.slice (some ⟨g, 0, none⟩) (n - 1) c)) := Keep.set1 w6 b 1 _
        have n1 := List.nodup_cons.1 m4
        have n2 := List.nodup_cons.1 n1.2
        exact kids_keep hk (kids_keep q3 m3 (fun k hk e => n2.1 (e ▸ hk))) (fun k hk e => n1.1 (List.mem_cons_of_mem _ (by have e' : k = b := e; rw [← e']; exact hk)))
      · have hk : Keep (fun k => k = b) w6 (w6.setCell ⟨b, 1, none⟩ (.slice (some ⟨g, 0, none⟩) (n - 1) c)) := Keep.set1 w6 b 1 _
        have hm0 : Mv (fun k => k ∈ b :: g :: dsF (P ++ [d1, d2] ++ Q)) w (fun k => k ∈ b :: g :: dsF (P ++ [(G1, d1.2.1, x')] ++ Q)) w5 := ⟨⟨m5.keep.os, m5.keep.tape, m5.keep.output, m5.keep.size, m5.keep.block⟩, m5.sub⟩
        have hq : Keep (fun k => k ∈ b :: g :: dsF (P ++ [(G1, d1.2.1, x')] ++ Q)) w5 w6 := q3.mono (fun k _ e => by
          have e' : k = g := e
          rw [e']; exact List.mem_cons_of_mem _ List.mem_cons_self)
        have hq2 : Keep (fun k => k ∈ b :: g :: dsF (P ++ [(G1, d1.2.1, x')] ++ Q)) w5 (w6.setCell ⟨b, 1, none⟩ (.slice (some ⟨g, 0, none⟩) (n - 1) c)) := hq.trans hk (fun k e => .inl (by
          have e' : k = b := e
          rw [e']; exact List.mem_cons_self))
        exact hm0.trans ⟨hq2, fun k hk => .inl hk⟩
  have hme1 := fun w => meSz (.pointer (some ⟨k1, 0, none⟩)) w h
  have hme2 := fun w => meSz (.pointer (some ⟨k2, 0, none⟩)) w h
  have hen1 := fun w => enSz #[.pointer (some ⟨k1, 0, none⟩)] w h
  have hen2 := fun w => enSz #[.pointer (some ⟨k2, 0, none⟩)] w h
  have c1 : w.cell? ⟨b, 1, none⟩ = some (.slice (some ⟨g, 0, none⟩) n c) := by have := hin.1.cell 1; rw [hn] at this; exact this
  have c2 : w.cell? ⟨g, i, none⟩ = some (.iface (ndT h) (.pointer (some ⟨k1, 0, none⟩))) := by rw [hin.2.1.cell hrow.1, f12]
  have c3 : w.cell? ⟨g, i + 1, none⟩ = some (.iface (ndT h) (.pointer (some ⟨k2, 0, none⟩))) := by rw [hin.2.1.cell hrow.2, f22]
  have hwi : IntKind.i64.wrap ((i : Int) + 1) = (i : Int) + 1 := by rw [IntKind.wrap_i64]; omega
  have hws : IntKind.i64.wrap ((s1 : Int) + (s2 : Int)) = (s1 : Int) + (s2 : Int) := by rw [IntKind.wrap_i64]; omega
  have hi1 : (0 : Int) ≤ (i : Int) + 1 := by omega
  have hi2 : (i : Int) + 1 < (n : Int) := by omega
  have hi3 : (i : Int) < (n : Int) := by omega
  have hi4 : (0 : Int) ≤ (i : Int) := by omega
  have hi5 : (i : Int) ≤ 1000 := by omega
  have htn : ((i : Int) + 1).toNat = i + 1 := by omega
  rw [hs1, hs2, hx']
  obtain ⟨DS, hDS⟩ : ∃ DS, P ++ [d1, d2] ++ Q = DS := ⟨_, rfl⟩
  have HPOST : Hid (∀ w7, (∃ G1, InPost w b g DS w7 g c a (P ++ [(G1, d1.2.1, x')] ++ Q)) → ∃ G1, InPost w b g DS w7 g c a (P ++ [(G1, d1.2.1, x')] ++ Q)) := fun _ h => h
  rw [hDS] at HDEL ⊢
  clear hDS hera hrow hn hin0 hx' hs1 hs2 u1 u2 hw0 f11 f12 f21 f22 t1 t2 t3 t4 hin hnd hi
  go_enter Tryz.func150, Tryz.ntmps150
  go_wp2_with fail
  go_region_held3 (fun w' => w'.cell? ⟨b, 1, none⟩ = some (.slice (some ⟨g, 0, none⟩) n c) ∧ w'.cell? ⟨g, i, none⟩ = some (.iface (ndT h) (.pointer (some ⟨k1, 0, none⟩))) ∧ w'.cell? ⟨g, i + 1, none⟩ = some (.iface (ndT h) (.pointer (some ⟨k2, 0, none⟩)))) (first | with_reducible exact SH5.out | exact ⟨c1, c2, c3⟩) ((first | (go_at_call 149; (with_reducible refine HSH.out.mono ?_); rintro e w5 ⟨rfl, hmid⟩; have HM5 := Lib.hid (HDEL.out w5 hmid); have SH5 := Lib.hid (HDEL.out w5 hmid).2.1; clear hmid) | ((with_reducible refine HZ1.out.mono ?_); rintro e w' ⟨rfl, rfl⟩) | ((with_reducible refine HZ2.out.mono ?_); rintro e w' ⟨rfl, rfl⟩)))
  obtain ⟨y1, y2, y3⟩ := SH5.out
  clear c1 c2 c3 hme1 hme2 hen1 hen2
  go_wp2_with fail
  with_reducible refine (HM5.out.1 _ rfl).mono ?_
  intro e w6 hdel
  obtain ⟨e6, v1, v2, hpost⟩ := HM5.out.2.2 e w6 hdel
  subst e6
  have HP := Lib.hid hpost
  clear hdel hpost
  go_wp2_with fail
  go_end0
  exact ⟨rfl, HP.out⟩
end Go.Proofs.YtneammhkgmkkfaaGreat.tr
