/- The reference's Trail of layer 3. -/
import Derived.Test.YtkkfolbidclonaaDoorErO
namespace Go.Proofs.YtkkfolbidclonaaDoor.er
open Go.RowKit
set_option linter.unusedVariables false
theorem intInfo : (Tryd.prog.info? 3).map (fun i => (i.zero, i.size, i.bytes)) = some (some (.int .i64 0), 1, 8) := by kernel_rfl
def fi : Option Nat → Int
  | none => -1
  | some c => c
theorem RefFirst.fi {w : World} {o : Option Nat} {e : Ending} {w' : World} (h : RefFirst w o e w') : e = .returned (.int .i64 (fi o)) ∧ Below w.heap.size w w' := by
  cases o <;> exact h
def TrailAt (l : List Nd) (i : Nat) : Option Nat → List Nat → Prop
  | none, xs => xs = trailO l i
  | some x, xs => ∃ (nd : Nd) (k : Nat), l[x]? = some nd ∧ nd.kids = [k] ∧ xs.length + x ≤ i ∧ xs ++ (x :: trailO l k) = trailO l i
theorem TrailAt.of_first {l : List Nd} (hd : Down l) (hS : ∀ (i : Nat) (nd : Nd), l[i]? = some nd → nd.kind = 1 → ∃ k, nd.kids = [k]) {i j : Nat} {xs : List Nat} (h1 : xs.length + j ≤ i) (h2 : xs ++ trailO l j = trailO l i) : TrailAt l i (firstO l j) xs := by
  cases ho : firstO l j with
  | none => rw [trailO_none ho, List.append_nil] at h2; exact h2
  | some x =>
    obtain ⟨hx, nd, hnd, hk⟩ := firstO_kind hd j x ho
    obtain ⟨k, hk2⟩ := hS x nd hnd hk
    rw [trailO_some hd ho hnd hk2] at h2
    exact ⟨nd, k, hnd, hk2, by omega, h2⟩
theorem fi_le {l : List Nd} (hd : Down l) (k : Nat) : -1 ≤ fi (firstO l k) ∧ fi (firstO l k) ≤ k := by
  cases ho : firstO l k with
  | none => simp only [fi]; omega
  | some x =>
    obtain ⟨hx, _⟩ := firstO_kind hd k x ho
    simp only [fi]; omega
abbrev ints (xs : List Nat) : List Value := xs.map fun (k : Nat) => Value.int .i64 (k : Int)

set_option maxHeartbeats 4000000 in
set_option maxRecDepth 100000 in
theorem ref_trail (l : List Nd) (g n cap : Nat) (hd : Down l) (hl : l.length = n) (hK : ∀ x ∈ l, x.kids.length ≤ 1000) (hS : ∀ (i : Nat) (nd : Nd), l[i]? = some nd → nd.kind = 1 → ∃ k, nd.kids = [k])
    (hn : n ≤ 1000) (i : Nat) (w : World) (hi : i < n) (hN : Nodes w g l) :
    Calls Tryd.prog 15 #[.slice (some ⟨g, 0, none⟩) n cap, .int .i64 (i : Int)] w fun e w' => ∃ s, e = .returned s ∧ w'.ownsRow w.heap.size 3 1 s (trailO l i).length (ints (trailO l i)) ∧ Below w.heap.size w w' := by
  obtain ⟨i0, hi0, hz0, hz1, hz2⟩ := info_parts intInfo
  have HD := Lib.hid hd
  have HL := Lib.hid hl
  have HK := Lib.hid hK
  have HS := Lib.hid hS
  have NS := Lib.hid hN
  have hfi := fi_le hd i
  have HT0 : Hid (TrailAt l i (firstO l i) []) := TrailAt.of_first hd hS (by simp) rfl
  clear hd hl hK hS hN
  go_enter Tryd.func15, Tryd.ntmps15
  go_wp2_with (go_at_call 22; refine (ref_first l g n cap HD.out HL.out HK.out hn i _ hi NS.out).mono ?_; intro e w1 hh; obtain ⟨rfl, hb1⟩ := hh.fi; have HB1 := Lib.hid hb1; have HH := Lib.hid hh; clear hb1 hh)
  generalize hz : fi (firstO l i) = z0 at *
  have HZ := Lib.hid hz
  clear hz
  go_loopw [5, 6] (fun v s wr => ∃ (z : Int) (o : Option Nat) (xs : List Nat), s = .int .i64 z ∧ -1 ≤ z ∧ z ≤ 1000 ∧ Hid (fi o = z) ∧ Hid (TrailAt l i o xs) ∧ Hid (Below w.heap.size w wr) ∧ Hid (wr.ownsRow w.heap.size 3 1 v xs.length (ints xs))) (fun _ s _ => (intOf s + 1).toNat)
  case atStart => exact ⟨z0, firstO l i, [], rfl, hfi.1, by omega, HZ.out, HT0.out, HB1.out, World.ownsRow_nil _ _ _ _⟩
  case round =>
    obtain ⟨z, o, xs, rfl, hq1, hq2, HO, HT, HBL, HOWN⟩ := hrel
    obtain ⟨A, c, hA⟩ := own_slice HOWN.out
    subst hA
    cases o with
    | none =>
      have hzz : z = -1 := HO.out.symm
      subst hzz
      go_wp2
      go_ret
      have e : xs = trailO l i := HT.out
      subst e
      exact ⟨_, rfl, HOWN.out, HBL.out⟩
    | some x =>
      have hzz : z = (x : Int) := HO.out.symm
      subst hzz
      obtain ⟨nd, k, hnd, hkid, hlen, hcat⟩ := HT.out
      have hkx : k < x := HD.out x nd hnd k (by rw [hkid]; simp)
      have hx0 : (0 : Int) ≤ (x : Int) := by omega
      have hx1 : (x : Int) < (n : Int) := by omega
      obtain ⟨kv, hkv, hcs⟩ := NS.out x nd hnd
      rcases hkv with ⟨hkv, _⟩ | ⟨h, rfl, hw⟩
      · rw [hkid] at hkv; simp at hkv
      · have c4 : w.cell? ⟨g, x * 5 + 4, none⟩ = some (.slice (some ⟨h, 0, none⟩) 1 1) := by
          have := hcs 4 _ rfl
          rw [hkid] at this
          exact this
        have ck : w.cell? ⟨h, 0, none⟩ = some (.int .i64 (k : Int)) := (hw.cell 0).trans (by rw [hkid]; rfl)
        have HCAT := Lib.hid hcat
        have hfk := fi_le HD.out k
        have hkn : k < n := by omega
        have HCS : Hid (∀ w2, Below w.heap.size w w2 → w2.cell? ⟨g, x * 5 + 4, none⟩ = some (.slice (some ⟨h, 0, none⟩) 1 1) ∧ w2.cell? ⟨h, 0, none⟩ = some (.int .i64 (k : Int))) := fun w2 hb => ⟨below_c hb c4, below_c hb ck⟩
        have HLEN : Hid ((ints xs).length = xs.length) := by show _ = _; simp [ints]
        have hsz := HBL.out.size
        have HTn : Hid (TrailAt l i (firstO l k) (xs ++ [x])) := TrailAt.of_first HD.out HS.out (by simp; omega) (by rw [List.append_assoc]; exact HCAT.out)
        clear c4 ck hcs hw hcat hnd hkid HT HO
        go_wp2_with (first | (at_builtin; go_must (refine wpList_append_own _ rfl (.tmp 12) (.tmp 14) 36 rfl w.heap.size 3 i0 _ 1 8 Tryd.underlying36 hi0 hz0 hz1 hz2 rfl (by omega) (.slice A xs.length c) xs.length (ints xs) rfl (HOWN.out.alloc _) ⟨wr.heap.size, 0, none⟩ 1 1 [.int .i64 (x : Int)] rfl rfl (cell_one_new' _ _ _) (by simp [Value.oneCell']) (by simp only [maxLen]; omega) (by omega) (by simp only [World.size_alloc]; omega) ?_; intro v2 w2 hown2 hg2 _; have hb2 := HBL.out.trans (below_append HOWN.out hg2 hsz); obtain ⟨d4, dk⟩ := HCS.out w2 hb2; have HB2 := Lib.hid hb2; have HO2 := Lib.hid hown2; obtain ⟨A2, c2, e2⟩ := own_slice hown2; subst e2; clear hown2 hg2 hb2)) | (go_at_call 22; refine (ref_first l g n cap HD.out HL.out HK.out hn k _ hkn (NS.out.below HB2.out)).mono ?_; intro e w3 hh; obtain ⟨rfl, hb3⟩ := hh.fi; have HB3 := Lib.hid hb3; clear hb3 hh))
        go_roundw
        case rel =>
          refine ⟨fi (firstO l k), firstO l k, xs ++ [x], rfl, by omega, by omega, rfl, HTn.out, HB2.out.trans (HB3.out.mono HB2.out.size), ?_⟩
          show World.ownsRow _ _ _ _ _ _ _
          have := own_below HO2.out HB3.out
          simpa [ints] using this
        case measure => simp only [intOf]; omega
end Go.Proofs.YtkkfolbidclonaaDoor.er
