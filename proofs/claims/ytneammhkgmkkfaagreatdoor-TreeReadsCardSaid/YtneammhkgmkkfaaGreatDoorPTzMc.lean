/- A part of the proof. -/
import Derived.Test.YtneammhkgmkkfaaGreatDoorPTxMa
import Derived.Test.YtneammhkgmkkfaaGreatDoorPTyMa
namespace Go.Proofs.YtneammhkgmkkfaaGreatDoor.tr
open Go.RowKit Go.Proofs.YtneammhkgmkkfaaGreatDoor.er
set_option linter.unusedVariables false
set_option linter.unusedSimpArgs false
set_option maxHeartbeats 4000000 in
set_option maxRecDepth 100000 in
theorem rtog_any (a b : Ext) (w : World) (ha : oneB a = true) (hb : oneB b = true) : Calls Tryz.prog 32 #[a.val,b.val] w fun x w' => x = .returned (.bool (rTog a b)) ∧ Below w.heap.size w w' := by
  obtain ⟨a1,a2,a3,a4⟩ := one_spec ha
  obtain ⟨b1,b2,b3,b4⟩ := one_spec hb
  obtain ⟨f,n,k,t⟩ := a
  obtain ⟨f',n',k',t'⟩ := b
  simp only at a1 a2 a3 a4 b1 b2 b3 b4
  have HB1 := Lib.hid (((Below.refl w.heap.size w).alloc (Nat.le_refl _) (.cells #[.int .i64 f,.int .i64 n,.int .i64 k,.int .i64 t] 80)).alloc (by simp) (.cells #[.int .i64 f',.int .i64 n',.int .i64 k',.int .i64 t'] 80))
  have hw1 : wrap64 (f + n) = f + n := by unfold wrap64; omega
  have hw2 : wrap64 (t + n) = t + n := by unfold wrap64; omega
  have HR : Hid (rTog ⟨f,n,k,t⟩ ⟨f',n',k',t'⟩ = (decide (f' = f + n) && decide (k = k') && (decide (k = 1) || decide (t' = t + n)))) := rfl
  show Calls Tryz.prog 32 #[.agg #[.int .i64 f,.int .i64 n,.int .i64 k,.int .i64 t],.agg #[.int .i64 f',.int .i64 n',.int .i64 k',.int .i64 t']] w _
  clear ha hb a4 b4
  by_cases h1 : f' = f + n
  · have h1' : (f' == f + n) = true := by simpa using h1
    have h1n : (f' != f + n) = false := by simpa using h1
    by_cases h2 : k = k'
    · have h2' : (k == k') = true := by simpa using h2
      have h2n : (k != k') = false := by simpa using h2
      by_cases h3 : k = 1
      · have h3' : (k == 1) = true := by simpa using h3
        have HRR : Hid (rTog ⟨f,n,k,t⟩ ⟨f',n',k',t'⟩ = true) := by show _ = _; rw [HR.out]; simp [h1,h2,h3]; omega
        clear h1 h2 h3
        go_enter Tryz.func32,Tryz.ntmps32
        go_wp2_with fail
        go_ret
        exact ⟨by rw [HRR.out]; rfl,HB1.out⟩
      · have h3' : (k == 1) = false := by simpa using h3
        have HRR : Hid (rTog ⟨f,n,k,t⟩ ⟨f',n',k',t'⟩ = (t' == t + n)) := by
          show _ = _
          have h4 : ¬ k' = 1 := by omega
          rw [HR.out,h2,h1]
          simp [h4]
          rfl
        clear h1 h2 h3
        go_enter Tryz.func32,Tryz.ntmps32
        go_wp2_with fail
        go_ret
        exact ⟨by rw [HRR.out]; rfl,HB1.out⟩
    · have h2' : (k == k') = false := by simpa using h2
      have h2n : (k != k') = true := by simpa using h2
      have HRR : Hid (rTog ⟨f,n,k,t⟩ ⟨f',n',k',t'⟩ = false) := by show _ = _; rw [HR.out]; simp [h2]
      clear h1 h2
      go_enter Tryz.func32,Tryz.ntmps32
      go_wp2_with fail
      go_ret
      exact ⟨by rw [HRR.out]; rfl,HB1.out⟩
  · have h1' : (f' == f + n) = false := by simpa using h1
    have h1n : (f' != f + n) = true := by simpa using h1
    have HRR : Hid (rTog ⟨f,n,k,t⟩ ⟨f',n',k',t'⟩ = false) := by show _ = _; rw [HR.out]; simp [h1]
    clear h1
    go_enter Tryz.func32,Tryz.ntmps32
    go_wp2_with fail
    go_ret
    exact ⟨by rw [HRR.out]; rfl,HB1.out⟩
end Go.Proofs.YtneammhkgmkkfaaGreatDoor.tr
namespace Go.Proofs.YtneammhkgmkkfaaGreatDoor.tr
open Go.RowKit Go.Proofs.YtneammhkgmkkfaaGreatDoor.er
set_option linter.unusedVariables false
set_option linter.unusedSimpArgs false
theorem infoR : (Tryz.prog.info? 80).map (fun i => (i.zero,i.size,i.bytes)) = some (some (.agg #[.int .i64 0,.int .i64 0,.int .i64 0,.int .i64 0]),4,32) := by kernel_rfl
theorem ExtsAt.ownT {w : World} {B n : Nat} {T : TypeId} {v : Value} {l : List Ext} (h : w.ownsRow B T 4 v n (extCells l)) : ExtsAt w v l ∧ l.length = n := SlAt.exts (SlAt.own h)
theorem take_cells {l : List Ext} {j : Nat} {e : Ext} (h : l[j]? = some e) : extCells (l.take (j + 1)) = extCells (l.take j) ++ [.int .i64 e.fr,.int .i64 e.n,.int .i64 e.kind,.int .i64 e.at_] := by
  obtain ⟨hj,rfl⟩ := List.getElem?_eq_some_iff.1 h
  rw [List.take_succ_eq_append_getElem hj,extCells_snoc]
end Go.Proofs.YtneammhkgmkkfaaGreatDoor.tr
namespace Go.Proofs.YtneammhkgmkkfaaGreatDoor.tr
open Go.RowKit Go.Proofs.YtneammhkgmkkfaaGreatDoor.er
set_option linter.unusedVariables false
set_option linter.unusedSimpArgs false
structure RL (w : World) (B : Nat) (v : Value) (l : List Ext) : Prop where
  own : w.ownsRow B 80 4 v l.length (extCells l)
  one : ∀ x ∈ l,oneB x = true
theorem RL.below {w w' : World} {B : Nat} {v : Value} {l : List Ext} (h : RL w B v l) (hb : Below w.heap.size w w') : RL w' B v l := ⟨own_below h.own hb,h.one⟩
theorem RL.nil (w : World) (B : Nat) : RL w B (.slice none 0 0) [] := ⟨⟨rfl,.inl ⟨rfl,rfl⟩⟩,by simp⟩
end Go.Proofs.YtneammhkgmkkfaaGreatDoor.tr
