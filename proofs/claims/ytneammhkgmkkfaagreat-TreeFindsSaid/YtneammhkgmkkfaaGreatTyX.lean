/- tree: take. -/
import Derived.Test.YtneammhkgmkkfaaGreatTyW
namespace Go.Proofs.YtneammhkgmkkfaaGreat.tr
open Go.RowKit Go.Proofs.YtneammhkgmkkfaaGreat.er
set_option linter.unusedVariables false
set_option linter.unusedSimpArgs false

set_option maxHeartbeats 4000000 in
set_option maxRecDepth 100000 in
theorem take_leaf (w : World) (F : List Nat) (p : Nat) (n : Nd 0) (s : Int) (ht : TrAt w F p (.top 0 n)) (hok : (Tree.top 0 n).Ok) (hi : Inc (flat n)) :
    Calls Tryz.prog 70 #[.pointer (some ⟨p, 0, none⟩), .int .i64 s] w fun x w' => x = .returned (.tuple #[]) ∧ TrPost w F p ((Tree.top 0 n).take s) w' := by
  obtain ⟨F', v, rfl, hp, hn, hpn⟩ := ht
  obtain ⟨q1, q2, q3, q4⟩ := hok.parts
  obtain ⟨kb, kF, f1, f2⟩ := hn.at_.form
  have hc := rem_any 0 w F' v n s hn q1 q2 q3 q4 hi
  have c0 : w.cell? ⟨p, 0, none⟩ = some (.iface 134 (.pointer (some ⟨kb, 0, none⟩))) := by have := hp.cell 0; rw [f2] at this; exact this
  obtain ⟨X, hX⟩ : ∃ X, remN n s = X := ⟨_, rfl⟩
  have hTK : Hid ((Tree.top 0 n).take s = if X.l = [] then .no else .top 0 X) := by show (Tree.low (remN n s)) = _; rw [hX]; rfl
  rw [hTK.out]
  rw [hX] at hc
  have hRM : Hid (Calls Tryz.prog 93 #[.iface 134 (.pointer (some ⟨kb, 0, none⟩)), .int .i64 s] w fun x w5 => x = .returned (.tuple #[]) ∧ (w5.cell? ⟨p, 0, none⟩ = some (.iface 134 (.pointer (some ⟨kb, 0, none⟩))) ∧ w5.frozen? ⟨p, 0, none⟩ = false) ∧ (∃ g c, w5.cell? ⟨kb, 1, none⟩ = some (.slice (some ⟨g, 0, none⟩) X.l.length c)) ∧
      TrPost w (p :: F') p (.top 0 X) w5 ∧ TrPost w (p :: F') p .no (w5.setCell ⟨p, 0, none⟩ .nilIface)) := by
    rw [f2] at hc
    refine hc.mono ?_
    rintro x w5 ⟨rfl, G, g1, g2⟩
    have hp5 := hp.keep g2.keep hpn
    have c5 := hp5.cell 0
    rw [f2] at c5
    obtain ⟨b', g', c', e1, e2, e3⟩ := leaf_open g1.at_
    have hb' : kb = b' := ptr_inj e2
    subst hb'
    have hpG : p ∉ G := fun hm => (g2.sub p hm).elim hpn (fun h => by have := hp.lt; omega)
    have hmv : Mv (fun k => k ∈ p :: F') w (fun k => k ∈ p :: G) w5 := ⟨g2.keep.mono (fun k _ h => List.mem_cons_of_mem _ h), fun k hk => by
      rcases List.mem_cons.1 hk with rfl | hk
      · exact .inl List.mem_cons_self
      · exact (g2.sub k hk).imp (fun h => List.mem_cons_of_mem _ h) (fun h => h)⟩
    refine ⟨rfl, ⟨c5, hp5.fz 0⟩, ⟨g', c', e3.1.cell 1⟩, ⟨p :: G, ⟨G, _, rfl, hp5, by rw [f2]; exact g1, hpG⟩, hmv⟩, [p], ⟨rfl, ?_⟩, ⟨?_, fun k hk => by rw [List.mem_singleton.1 hk]; exact .inl List.mem_cons_self⟩⟩
    · have := hp5.set 0 .nilIface
      simpa using this
    · exact hmv.keep.setCell (p := ⟨p, 0, none⟩) (.inl List.mem_cons_self) _
  have hta := ta_ll
  by_cases hl : X.l = []
  · rw [if_pos hl]
    rw [hl] at hRM
    clear hl hTK hX hc f1 f2 q1 q2 q3 q4 hn hp hpn hok hi
    go_enter Tryz.func70, Tryz.ntmps70
    go_wp2_with fail
    with_reducible refine hRM.out.mono ?_
    rintro e w5 ⟨rfl, ⟨z0, z1⟩, ⟨g, c, z2⟩, hp5, hn5⟩
    have HP5 := Lib.hid hn5
    clear hp5 hn5 c0
    simp only [List.length_nil] at z2
    go_wp2_with fail
    go_end0
    exact ⟨rfl, HP5.out⟩
  · rw [if_neg hl]
    obtain ⟨m, hm⟩ : ∃ m, X.l.length = m + 1 := ⟨X.l.length - 1, by have := List.length_pos_iff.2 hl; omega⟩
    rw [hm] at hRM
    have hm1 : ¬ ((m : Int) + 1 = 0) := by omega
    clear hm hl hTK hX hc f1 f2 q1 q2 q3 q4 hn hp hpn hok hi
    go_enter Tryz.func70, Tryz.ntmps70
    go_wp2_with fail
    with_reducible refine hRM.out.mono ?_
    rintro e w5 ⟨rfl, ⟨z0, z1⟩, ⟨g, c, z2⟩, hp5, hn5⟩
    have HP5 := Lib.hid hp5
    clear hp5 hn5 c0
    go_wp2_with fail
    go_end0
    exact ⟨rfl, HP5.out⟩
set_option maxHeartbeats 4000000 in
set_option maxRecDepth 100000 in
theorem take_inner (w : World) (F : List Nat) (p h : Nat) (n : Nd (h + 1)) (s : Int) (ht : TrAt w F p (.top (h + 1) n)) (hok : (Tree.top (h + 1) n).Ok) (hi : Inc (flat n)) :
    Calls Tryz.prog 70 #[.pointer (some ⟨p, 0, none⟩), .int .i64 s] w fun x w' => x = .returned (.tuple #[]) ∧ TrPost w F p ((Tree.top (h + 1) n).take s) w' := by
  obtain ⟨F', v, rfl, hp, hn, hpn⟩ := ht
  obtain ⟨q1, q2, q3, q4⟩ := hok.parts
  obtain ⟨kb, kF, f1, f2⟩ := hn.at_.form
  have hc := rem_any (h + 1) w F' v n s hn q1 q2 q3 q4 hi
  have hro := rem_ok n s q1 q2 q3 hi
  have c0 : w.cell? ⟨p, 0, none⟩ = some (.iface 81 (.pointer (some ⟨kb, 0, none⟩))) := by have := hp.cell 0; rw [f2] at this; exact this
  obtain ⟨X, hX⟩ : ∃ X, remN n s = X := ⟨_, rfl⟩
  have hTK : Hid ((Tree.top (h + 1) n).take s = match X.ks with | [k] => .top h k | _ => .top (h + 1) X) := by show (Tree.low (remN n s)) = _; rw [hX]; rfl
  rw [hTK.out]
  rw [hX] at hc hro
  have hXs : 1 ≤ X.ks.length := by have h1 : n.size ≤ X.size + 1 := hro.lo; have h2 : 2 ≤ n.ks.length := q2; have h3 : n.size = n.ks.length := rfl; have h4 : X.size = X.ks.length := rfl; omega
  have hmid : ∀ w5 G, NdIn w5 G v X → Mv (fun k => k ∈ F') w (fun k => k ∈ G) w5 → (w5.cell? ⟨p, 0, none⟩ = some (.iface 81 (.pointer (some ⟨kb, 0, none⟩))) ∧ w5.frozen? ⟨p, 0, none⟩ = false) ∧ TrPost w (p :: F') p (.top (h + 1) X) w5 ∧
      ∃ g c, w5.cell? ⟨kb, 1, none⟩ = some (.slice (some ⟨g, 0, none⟩) X.ks.length c) ∧ ∀ k, X.ks = [k] → ∃ cb, w5.cell? ⟨g, 0, none⟩ = some (.iface (ndT h) (.pointer (some ⟨cb, 0, none⟩))) ∧ TrPost w (p :: F') p (.top h k) (w5.setCell ⟨p, 0, none⟩ (.iface (ndT h) (.pointer (some ⟨cb, 0, none⟩)))) := by
    intro w5 G g1 g2
    have hp5 := hp.keep g2.keep hpn
    have c5 := hp5.cell 0
    rw [f2] at c5
    have hpG : p ∉ G := fun hm => (g2.sub p hm).elim hpn (fun h => by have := hp.lt; omega)
    have hmv : Mv (fun k => k ∈ p :: F') w (fun k => k ∈ p :: G) w5 := ⟨g2.keep.mono (fun k _ h => List.mem_cons_of_mem _ h), fun k hk => by
      rcases List.mem_cons.1 hk with rfl | hk
      · exact .inl List.mem_cons_self
      · exact (g2.sub k hk).imp (fun h => List.mem_cons_of_mem _ h) (fun h => h)⟩
    obtain ⟨b', g', c', ds, e1, e2, e3, e4⟩ := inner_open g1.at_
    have hb' : kb = b' := by rw [f2] at e2; exact ptr_inj e2
    subst hb'
    have hlen : X.ks.length = ds.length := by rw [e4, List.length_map]
    refine ⟨⟨c5, hp5.fz 0⟩, ⟨p :: G, ⟨G, _, rfl, hp5, g1, hpG⟩, hmv⟩, g', c', by rw [hlen]; exact e3.1.cell 1, fun k hk => ?_⟩
    rw [hk] at e4
    match ds, e4, e1, e3 with
    | [d], e4, e1, e3 =>
      simp at e4
      obtain ⟨cb, cF, d1, d2⟩ := (e3.2.2 d (by simp)).form
      have hdG : ∀ j ∈ d.1, j ∈ G := fun j hj => by rw [e1]; simp [dsF, hj]
      have hnd : d.1.Nodup := by
        have := g1.nd
        rw [e1] at this
        have := (List.nodup_cons.1 (List.nodup_cons.1 this).2).2
        simpa [dsF] using this
      refine ⟨cb, by rw [← d2]; exact e3.2.1.cell (by simp), ?_⟩
      rw [← d2, e4]
      have hg := tr_new (w := w) (F := p :: F') hp5 (⟨e3.2.2 d (by simp), hnd⟩ : NdIn w5 d.1 d.2.1 d.2.2) (fun hm => hpG (hdG _ hm)) ⟨hmv.keep, fun j hj => hmv.sub j (by
        rcases List.mem_cons.1 hj with rfl | hj
        · exact List.mem_cons_self
        · exact List.mem_cons_of_mem _ (hdG j hj))⟩ rfl
      exact hg
    | [], e4, _, _ => simp at e4
    | _ :: _ :: _, e4, _, _ => simp at e4
  rw [f2] at hc
  have hc' : Hid (Calls Tryz.prog 93 #[.iface 81 (.pointer (some ⟨kb, 0, none⟩)), .int .i64 s] w fun x w5 => x = .returned (.tuple #[]) ∧ ((w5.cell? ⟨p, 0, none⟩ = some (.iface 81 (.pointer (some ⟨kb, 0, none⟩))) ∧ w5.frozen? ⟨p, 0, none⟩ = false) ∧ TrPost w (p :: F') p (.top (h + 1) X) w5 ∧
      ∃ g c, w5.cell? ⟨kb, 1, none⟩ = some (.slice (some ⟨g, 0, none⟩) X.ks.length c) ∧ ∀ k, X.ks = [k] → ∃ cb, w5.cell? ⟨g, 0, none⟩ = some (.iface (ndT h) (.pointer (some ⟨cb, 0, none⟩))) ∧ TrPost w (p :: F') p (.top h k) (w5.setCell ⟨p, 0, none⟩ (.iface (ndT h) (.pointer (some ⟨cb, 0, none⟩)))))) := by
    refine hc.mono ?_
    rintro x w5 ⟨rfl, G, g1, g2⟩
    exact ⟨rfl, hmid w5 G (by rw [f2]; exact g1) g2⟩
  have hta := ta_ii
  have htb := ta_il
  by_cases hl : ∃ k, X.ks = [k]
  · obtain ⟨k, hk⟩ := hl
    rw [hk] at hc' ⊢
    clear hk hmid hXs hTK hX hc hro f1 f2 q1 q2 q3 q4 hn hp hpn hok hi
    go_enter Tryz.func70, Tryz.ntmps70
    go_wp2_with fail
    with_reducible refine hc'.out.mono ?_
    rintro e w5 ⟨rfl, ⟨z0, z1⟩, hp5, g, c, z2, hkk⟩
    obtain ⟨cb, z3, hq⟩ := hkk k rfl
    have HP5 := Lib.hid hq
    simp only [List.length_cons, List.length_nil] at z2
    clear hp5 hkk hq c0
    go_wp2_with fail
    go_end0
    exact ⟨rfl, HP5.out⟩
  · have hTT : Hid ((match X.ks with | [k] => Tree.top h k | _ => .top (h + 1) X) = .top (h + 1) X) := by
      show _ = _
      split
      · rename_i k hk; exact absurd ⟨k, hk⟩ hl
      · rfl
    rw [hTT.out]
    obtain ⟨m, hm⟩ : ∃ m, X.ks.length = m + 2 := ⟨X.ks.length - 2, by
      have : X.ks.length ≠ 1 := fun e => by
        match hh : X.ks, e with
        | [k], _ => exact hl ⟨k, hh⟩
      omega⟩
    rw [hm] at hc'
    have hm1 : ¬ ((m : Int) + 2 = 1) := by omega
    have hm2 : ((m : Int) + 2 == 1) = false := beq_eq_false_iff_ne.2 (by omega)
    clear hTT hl hm hmid hXs hTK hX hc hro f1 f2 q1 q2 q3 q4 hn hp hpn hok hi
    go_enter Tryz.func70, Tryz.ntmps70
    go_wp2_with fail
    with_reducible refine hc'.out.mono ?_
    rintro e w5 ⟨rfl, ⟨z0, z1⟩, hp5, g, c, z2, hkk⟩
    have HP5 := Lib.hid hp5
    clear hp5 hkk c0
    go_wp2_with fail
    go_end0
    exact ⟨rfl, HP5.out⟩
theorem take_any (w : World) (F : List Nat) (p : Nat) (T : Tree) (s : Int) (ht : TrAt w F p T) (hok : T.Ok) (hne : T.flat ≠ []) (hi : Inc T.flat) :
    Calls Tryz.prog 70 #[.pointer (some ⟨p, 0, none⟩), .int .i64 s] w fun x w' => x = .returned (.tuple #[]) ∧ TrPost w F p (T.take s) w' := by
  cases T with
  | no => exact absurd rfl hne
  | top h n =>
    cases h with
    | zero => exact take_leaf w F p n s ht hok hi
    | succ h => exact take_inner w F p h n s ht hok hi
end Go.Proofs.YtneammhkgmkkfaaGreat.tr
