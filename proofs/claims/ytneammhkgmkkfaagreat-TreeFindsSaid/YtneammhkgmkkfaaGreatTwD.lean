/- tree: Find. -/
import Derived.Test.YtneammhkgmkkfaaGreatTwC
import Derived.Test.YtneammhkgmkkfaaGreatTzF
namespace Go.Proofs.YtneammhkgmkkfaaGreat.tr
open Go.RowKit Go.Proofs.YtneammhkgmkkfaaGreat.er
set_option linter.unusedVariables false
set_option linter.unusedSimpArgs false

def saidBy (s : Int) (done : List Ext) : Int × Int := match done.getLast? with | some e => findL [e] s | none => (0, 0)
theorem said_snoc (s : Int) (done : List Ext) (e : Ext) : saidBy s (done ++ [e]) = findL [e] s := by unfold saidBy; simp
/-- What Find has when it was handed so many. -/
def FindS (w : World) (B ps pk pa : Nat) (s : Int) (done : List Ext) (wq : World) : Prop :=
  Keep (fun _ => False) w wq ∧ B ≤ wq.heap.size ∧ (ps < B ∧ pk < B ∧ pa < B) ∧ (w.heap.size ≤ pk ∧ w.heap.size ≤ pa ∧ ps ≠ pk ∧ ps ≠ pa ∧ pk ≠ pa) ∧ Whole wq ps 3 #[.int .i64 s] ∧ Whole wq pk 3 #[.int .i64 (saidBy s done).1] ∧ Whole wq pa 3 #[.int .i64 (saidBy s done).2]
theorem FindS.below {w : World} {B ps pk pa : Nat} {s : Int} {done : List Ext} {wq w' : World} (h : FindS w B ps pk pa s done wq) (hb : Below wq.heap.size wq w') : FindS w B ps pk pa s done w' := by
  obtain ⟨h1, h2, h3, h4, h5, h6, h7⟩ := h
  exact ⟨h1.transBelow hb, Nat.le_trans h2 hb.size, h3, h4, h5.below hb h5.lt, h6.below hb h6.lt, h7.below hb h7.lt⟩
set_option maxHeartbeats 4000000 in
set_option maxRecDepth 100000 in
theorem find1_any (w : World) (B ps pk pa : Nat) (s : Int) (hs : -9223372036854775808 ≤ s) (hs2 : s ≤ 9223372036854775807) (done : List Ext) (e : Ext) (wq : World) (he : oneB e = true) (h : FindS w B ps pk pa s done wq) :
    Calls Tryz.prog 47 (#[e.val] ++ #[.pointer (some ⟨ps, 0, none⟩), .pointer (some ⟨pk, 0, none⟩), .pointer (some ⟨pa, 0, none⟩)]) wq fun x w' => x = .returned (.bool false) ∧ FindS w B ps pk pa s (done ++ [e]) w' := by
  have hsd := said_snoc s done e
  have hone : ∀ x ∈ [e], oneB x = true := by simpa using he
  obtain ⟨f, en, k, t⟩ := e
  obtain ⟨w2, hw2⟩ : ∃ w2, (wq.alloc (.cells #[.int .i64 f, .int .i64 en, .int .i64 k, .int .i64 t] 39)).alloc (.cells #[.int .i64 f, .int .i64 en, .int .i64 k, .int .i64 t] 39) = w2 := ⟨_, rfl⟩
  have hb2 : Below wq.heap.size wq w2 := by rw [← hw2]; exact ((Below.refl _ _).alloc (Nat.le_refl _) _).alloc (by simp) _
  have hx : Whole w2 (wq.heap.size + 1) 39 #[.int .i64 f, .int .i64 en, .int .i64 k, .int .i64 t] := by rw [← hw2]; exact Whole.new' _ _ _ _ (by simp)
  have h2 := h.below hb2
  have hL : ExtsAt w2 (.slice (some ⟨wq.heap.size + 1, 0, none⟩) 1 1) [⟨f, en, k, t⟩] := by
    refine ⟨_, 1, rfl, fun _ => ⟨_, 0, rfl, fun j e he => ?_⟩⟩
    match j, he with
    | 0, he =>
      simp at he
      subst he
      exact ⟨hx.cell 0, hx.cell 1, hx.cell 2, hx.cell 3⟩
    | j + 1, he => simp at he
  obtain ⟨K, hK⟩ : ∃ K, (findL [⟨f, en, k, t⟩] s).1 = K := ⟨_, rfl⟩
  obtain ⟨T, hT⟩ : ∃ T, (findL [⟨f, en, k, t⟩] s).2 = T := ⟨_, rfl⟩
  have HFX : Hid (Calls Tryz.prog 48 #[.slice (some ⟨wq.heap.size + 1, 0, none⟩) 1 1, .int .i64 s] w2 fun x w' => x = .returned (.tuple #[.int .i64 K, .int .i64 T]) ∧ FindS w B ps pk pa s done w') := by
    refine (findX_any [⟨f, en, k, t⟩] _ s w2 hL hone (by simp) hs hs2).mono ?_
    rintro x w' ⟨rfl, hb⟩
    rw [hK, hT]
    exact ⟨rfl, h2.below hb⟩
  have HEND : Hid (∀ w6, FindS w B ps pk pa s done w6 → FindS w B ps pk pa s (done ++ [⟨f, en, k, t⟩]) ((w6.setCell ⟨pk, 0, none⟩ (.int .i64 K)).setCell ⟨pa, 0, none⟩ (.int .i64 T))) := by
    intro w6 hf
    obtain ⟨h1, h2, h3, ⟨g1, g2, g3, g4, g5⟩, h5, h6, h7⟩ := hf
    refine ⟨(h1.setCell (p := ⟨pk, 0, none⟩) (.inr g1) _).setCell (p := ⟨pa, 0, none⟩) (.inr g2) _, by rw [size_set, size_set]; exact h2, h3, ⟨g1, g2, g3, g4, g5⟩, ?_, ?_, ?_⟩
    · exact (h5.far (p := ⟨pk, 0, none⟩) g3 _).far (p := ⟨pa, 0, none⟩) g4 _
    · have := (h6.set 0 (.int .i64 K)).far (p := ⟨pa, 0, none⟩) g5 (.int .i64 T)
      rw [hsd, hK]
      simpa using this
    · have := (h7.far (p := ⟨pk, 0, none⟩) (Ne.symm g5) (.int .i64 K)).set 0 (.int .i64 T)
      rw [hsd, hT]
      simpa using this
  have HCL : Hid (∀ w6, FindS w B ps pk pa s done w6 → w6.cell? ⟨pk, 0, none⟩ = some (.int .i64 (saidBy s done).1) ∧ w6.frozen? ⟨pk, 0, none⟩ = false ∧ w6.cell? ⟨pa, 0, none⟩ = some (.int .i64 (saidBy s done).2) ∧ w6.frozen? ⟨pa, 0, none⟩ = false ∧ (w6.setCell ⟨pk, 0, none⟩ (.int .i64 K)).cell? ⟨pa, 0, none⟩ = some (.int .i64 (saidBy s done).2) ∧ (w6.setCell ⟨pk, 0, none⟩ (.int .i64 K)).frozen? ⟨pa, 0, none⟩ = false) := by
    intro w6 hf
    obtain ⟨h1, h2, h3, ⟨g1, g2, g3, g4, g5⟩, h5, h6, h7⟩ := hf
    have h8 := h7.far (p := ⟨pk, 0, none⟩) (Ne.symm g5) (.int .i64 K)
    exact ⟨h6.cell 0, h6.fz 0, h7.cell 0, h7.fz 0, h8.cell 0, h8.fz 0⟩
  have cs : w2.cell? ⟨ps, 0, none⟩ = some (.int .i64 s) := by obtain ⟨_, _, _, _, h5, _⟩ := h2; exact h5.cell 0
  have bx : Whole (wq.alloc (.cells #[.int .i64 f, .int .i64 en, .int .i64 k, .int .i64 t] 39)) wq.heap.size 39 #[.int .i64 f, .int .i64 en, .int .i64 k, .int .i64 t] := Whole.new _ _ _
  clear h2 h hL hx hb2 hK hT hsd hone he bx
  show Calls Tryz.prog 47 #[.agg #[.int .i64 f, .int .i64 en, .int .i64 k, .int .i64 t], .pointer (some ⟨ps, 0, none⟩), .pointer (some ⟨pk, 0, none⟩), .pointer (some ⟨pa, 0, none⟩)] wq _
  go_enter Tryz.func47, Tryz.ntmps47
  go_wp2_with fail
  with_reducible refine HFX.out.mono ?_
  rintro x w5 ⟨rfl, hf5⟩
  have HF5 := Lib.hid (HEND.out _ hf5)
  obtain ⟨z0, z1, z2, z3, z4, z5⟩ := HCL.out _ hf5
  clear hf5 HEND HCL HFX
  go_wp2_with fail
  go_ret
  exact ⟨rfl, HF5.out⟩
theorem find_hand (w : World) (B ps pk pa : Nat) (s : Int) (hs : -9223372036854775808 ≤ s) (hs2 : s ≤ 9223372036854775807) : Hand 47 #[.pointer (some ⟨ps, 0, none⟩), .pointer (some ⟨pk, 0, none⟩), .pointer (some ⟨pa, 0, none⟩)] (fun _ => false) (FindS w B ps pk pa s) (fun _ => False) w where
  eg := fun _ _ => by kernel_rfl
  call := fun done e wq hd he h => find1_any w B ps pk pa s hs hs2 done e wq he h
  below := fun done wq w' h hb => h.below hb
  keep := fun done wq h => h.1
theorem said_find {l : List Ext} (h : Chk l) (s : Int) : saidBy s (handed (fun _ => false) (pastL l s)) = findL l s := by
  rw [find_first h]
  have hh : (l.filter fun e => decide (s < e.end_)).head? = l.find? fun e => decide (s < e.end_) := by rw [List.head?_filter]
  unfold pastL
  cases hp : l.filter fun e => decide (s < e.end_) with
  | nil =>
    rw [hp] at hh
    rw [← hh]
    rfl
  | cons e r =>
    rw [hp] at hh
    rw [← hh]
    rfl
set_option maxHeartbeats 4000000 in
set_option maxRecDepth 100000 in
theorem tfind_any (w : World) (F : List Nat) (p : Nat) (T : Tree) (s : Int) (ht : TrAt w F p T) (hok : T.Ok) (hc : Chk T.flat) (hs : -9223372036854775808 ≤ s) (hs2 : s ≤ 9223372036854775807) :
    Calls Tryz.prog 22 #[.pointer (some ⟨p, 0, none⟩), .int .i64 s] w fun x w' => x = .returned (.tuple #[.int .i64 (findL T.flat s).1, .int .i64 (findL T.flat s).2]) ∧ Below w.heap.size w w' := by
  obtain ⟨w3, hw3⟩ : ∃ w3, ((w.alloc (.cells #[.int .i64 s] 3)).alloc (.cells #[.int .i64 0] 3)).alloc (.cells #[.int .i64 0] 3) = w3 := ⟨_, rfl⟩
  have k3 : Keep (fun _ => False) w w3 := by rw [← hw3]; exact (((Keep.refl _ _).alloc _).alloc _).alloc _
  have hs3 : w3.heap.size = w.heap.size + 3 := by rw [← hw3]; simp
  have b1 : Whole w3 w.heap.size 3 #[.int .i64 s] := by rw [← hw3]; exact ((Whole.new w _ _).alloc _).alloc _
  have b2 : Whole w3 (w.heap.size + 1) 3 #[.int .i64 0] := by rw [← hw3]; exact (Whole.new' _ _ _ _ (by simp)).alloc _
  have b3 : Whole w3 (w.heap.size + 2) 3 #[.int .i64 0] := by rw [← hw3]; exact Whole.new' _ _ _ _ (by simp)
  have hN : FindS w (w.heap.size + 3) w.heap.size (w.heap.size + 1) (w.heap.size + 2) s [] w3 := ⟨k3, by omega, ⟨by omega, by omega, by omega⟩, ⟨by omega, by omega, by omega, by omega, by omega⟩, b1, b2, b3⟩
  have hW := walk_any _ _ _ _ _ w (find_hand w (w.heap.size + 3) w.heap.size (w.heap.size + 1) (w.heap.size + 2) s hs hs2) F p T s w3 ht (fun _ _ h => h) hok hc hN
  obtain ⟨K, hK⟩ : ∃ K, (findL T.flat s).1 = K := ⟨_, rfl⟩
  obtain ⟨A, hA⟩ : ∃ A, (findL T.flat s).2 = A := ⟨_, rfl⟩
  have HW : Hid (Calls Tryz.prog 44 #[.pointer (some ⟨p, 0, none⟩), .int .i64 s, .func (.func 47) #[] #[.pointer (some ⟨w.heap.size, 0, none⟩), .pointer (some ⟨w.heap.size + 1, 0, none⟩), .pointer (some ⟨w.heap.size + 1 + 1, 0, none⟩)]] w3 fun x w' => x = .returned (.tuple #[]) ∧ Whole w' (w.heap.size + 1) 3 #[.int .i64 K] ∧ Whole w' (w.heap.size + 1 + 1) 3 #[.int .i64 A] ∧ Below w.heap.size w w') := by
    refine hW.mono ?_
    rintro x w' ⟨rfl, q1, q2, q3, q4, q5, q6, q7⟩
    rw [said_find hc s, hK] at q6
    rw [said_find hc s, hA] at q7
    exact ⟨rfl, q6, q7, ⟨q1.os, q1.tape, q1.output, q1.size, fun j hj => q1.block j hj (fun h => h)⟩⟩
  have c0 : w3.cell? ⟨w.heap.size, 0, none⟩ = some (.int .i64 s) := b1.cell 0
  rw [hK, hA]
  clear hK hA hW hN b1 b2 b3 k3 hs3 ht hok hc
  go_enter Tryz.func22, Tryz.ntmps22
  go_wp2_with fail
  with_reducible refine HW.out.mono ?_
  rintro e w5 ⟨rfl, q1, q2, q3⟩
  have HQ1 := Lib.hid q1
  have HQ2 := Lib.hid q2
  have HQ3 := Lib.hid q3
  have z0 : w5.cell? ⟨w.heap.size + 1, 0, none⟩ = some (.int .i64 K) := q1.cell 0
  have z1 : w5.frozen? ⟨w.heap.size + 1, 0, none⟩ = false := q1.fz 0
  have z2 : w5.cell? ⟨w.heap.size + 1 + 1, 0, none⟩ = some (.int .i64 A) := q2.cell 0
  have z3 : w5.frozen? ⟨w.heap.size + 1 + 1, 0, none⟩ = false := q2.fz 0
  clear q1 q2 q3
  go_wp2_with fail
  go_region
  go_wp2_with fail
  have g1 := (HQ1.out.set 0 (.int .i64 K)).far (p := ⟨w.heap.size + 1 + 1, 0, none⟩) (by simp) (.int .i64 A)
  have g2 := (HQ2.out.far (p := ⟨w.heap.size + 1, 0, none⟩) (by simp) (.int .i64 K)).set 0 (.int .i64 A)
  have r0 : (((w5.setCell ⟨w.heap.size + 1, 0, none⟩ (.int .i64 K)).setCell ⟨w.heap.size + 1 + 1, 0, none⟩ (.int .i64 A)).drew).cell? ⟨w.heap.size + 1, 0, none⟩ = some (.int .i64 K) := (wh_drew g1).cell 0
  have r1 : (((w5.setCell ⟨w.heap.size + 1, 0, none⟩ (.int .i64 K)).setCell ⟨w.heap.size + 1 + 1, 0, none⟩ (.int .i64 A)).drew).cell? ⟨w.heap.size + 1 + 1, 0, none⟩ = some (.int .i64 A) := (wh_drew g2).cell 0
  refine bodyPost_ret (v := .tuple #[.int .i64 K, .int .i64 A]) (by simp [results, Tryz.results22, go_sem, r0, r1]) rfl ⟨rfl, ?_⟩
  exact Below.drew (Below.setCell (Below.setCell HQ3.out (by first | omega | (simp <;> omega)) _) (by first | omega | (simp <;> omega)) _)
end Go.Proofs.YtneammhkgmkkfaaGreat.tr
