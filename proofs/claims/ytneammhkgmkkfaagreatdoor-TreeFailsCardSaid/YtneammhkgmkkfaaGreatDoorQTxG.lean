/- A part of the proof. -/
import Derived.Test.YtneammhkgmkkfaaGreatDoorQTxC
namespace Go.Proofs.YtneammhkgmkkfaaGreatDoor.tr
open Go.RowKit Go.Proofs.YtneammhkgmkkfaaGreatDoor.er
set_option linter.unusedVariables false
set_option linter.unusedSimpArgs false
set_option maxHeartbeats 4000000 in
set_option maxRecDepth 100000 in
theorem rpart_any (e : Ext) (a b : Int) (w : World) (h : oneB e = true) (ha : 0 ≤ a) (ha2 : a ≤ 16777216) (hb : 0 ≤ b) (hb2 : b ≤ 16777216) : Calls Tryz.prog 90 #[e.val,.int .i64 a,.int .i64 b] w fun x w' => x = .returned (rPart e a b).val ∧ Below w.heap.size w w' := by
  obtain ⟨k1,k2,k3,k4⟩ := one_spec h
  obtain ⟨f,n,k,t⟩ := e
  simp only at k1 k2 k3 k4
  show Calls Tryz.prog 90 #[.agg #[.int .i64 f,.int .i64 n,.int .i64 k,.int .i64 t],.int .i64 a,.int .i64 b] w _
  have hve : wrap64 (f + n) = f + n := by unfold wrap64; omega
  have K4 := Lib.hid k4
  have HP : Hid (rPart ⟨f,n,k,t⟩ a b = ⟨max f a,min (f + n) b - max f a,k,if k = 2 then t + max f a - f else 0⟩) := rfl
  clear h k4
  by_cases h1 : b < f + n
  · by_cases h2 : f < a
    · by_cases hk : k = 2
      · skip
        have hk2 : (k == 2) = true := by simpa using hk
        have hv1 : wrap64 (b - a) = b - a := by unfold wrap64; omega
        have hv2 : wrap64 (t + a) = t + a := by have := K4.out; unfold wrap64; omega
        have hv3 : wrap64 (t + a - f) = t + a - f := by have := K4.out; unfold wrap64; omega
        have HR : Hid (rPart ⟨f,n,k,t⟩ a b = ⟨a,b - a,k,t + a - f⟩) := by show _ = _; rw [HP.out,if_pos hk,show max f a = a by omega,show min (f + n) b = b by omega]
        rw [HR.out]
        clear hk
        go_enter Tryz.func90,Tryz.ntmps90
        go_wp2_with fail
        have hT := Lib.hid (tmp4 (Whole.alloc (Whole.new' (w.alloc (.cells #[.int .i64 f,.int .i64 n,.int .i64 k,.int .i64 t] 80)) 80 #[.int .i64 (a),.int .i64 (b - a),.int .i64 k,.int .i64 (t + a - f)] (w.heap.size + 1) (by simp)) (.cells #[.int .i64 (a),.int .i64 (b - a),.int .i64 k,.int .i64 (t + a - f)] 80)))
        obtain ⟨⟨r0,r1,r2,r3⟩,_⟩ := hT.out
        refine bodyPost_ret (v := .agg #[.int .i64 (a),.int .i64 (b - a),.int .i64 k,.int .i64 (t + a - f)]) (by simp [results,Tryz.results90,go_sem,r0,r1,r2,r3]) rfl ⟨rfl,(((Below.refl w.heap.size w).alloc (Nat.le_refl _) _).alloc (by simp) _).alloc (by simp <;> omega) _⟩
      · skip
        have hk2 : (k == 2) = false := by simpa using hk
        have hv1 : wrap64 (b - a) = b - a := by unfold wrap64; omega
        have HR : Hid (rPart ⟨f,n,k,t⟩ a b = ⟨a,b - a,k,0⟩) := by show _ = _; rw [HP.out,if_neg hk,show max f a = a by omega,show min (f + n) b = b by omega]
        rw [HR.out]
        clear hk
        go_enter Tryz.func90,Tryz.ntmps90
        go_wp2_with fail
        have hT := Lib.hid (tmp4 (Whole.alloc (Whole.new' (w.alloc (.cells #[.int .i64 f,.int .i64 n,.int .i64 k,.int .i64 t] 80)) 80 #[.int .i64 (a),.int .i64 (b - a),.int .i64 k,.int .i64 (0)] (w.heap.size + 1) (by simp)) (.cells #[.int .i64 (a),.int .i64 (b - a),.int .i64 k,.int .i64 (0)] 80)))
        obtain ⟨⟨r0,r1,r2,r3⟩,_⟩ := hT.out
        refine bodyPost_ret (v := .agg #[.int .i64 (a),.int .i64 (b - a),.int .i64 k,.int .i64 (0)]) (by simp [results,Tryz.results90,go_sem,r0,r1,r2,r3]) rfl ⟨rfl,(((Below.refl w.heap.size w).alloc (Nat.le_refl _) _).alloc (by simp) _).alloc (by simp <;> omega) _⟩
    · by_cases hk : k = 2
      · skip
        have hk2 : (k == 2) = true := by simpa using hk
        have hv1 : wrap64 (b - f) = b - f := by unfold wrap64; omega
        have hv2 : wrap64 (t + f) = t + f := by have := K4.out; unfold wrap64; omega
        have hv3 : wrap64 (t) = t := by have := K4.out; unfold wrap64; omega
        have HR : Hid (rPart ⟨f,n,k,t⟩ a b = ⟨f,b - f,k,t⟩) := by show _ = _; rw [HP.out,if_pos hk,show max f a = f by omega,show min (f + n) b = b by omega,show t + f - f = t by omega]
        rw [HR.out]
        clear hk
        go_enter Tryz.func90,Tryz.ntmps90
        go_wp2_with fail
        have hT := Lib.hid (tmp4 (Whole.alloc (Whole.new' (w.alloc (.cells #[.int .i64 f,.int .i64 n,.int .i64 k,.int .i64 t] 80)) 80 #[.int .i64 (f),.int .i64 (b - f),.int .i64 k,.int .i64 (t)] (w.heap.size + 1) (by simp)) (.cells #[.int .i64 (f),.int .i64 (b - f),.int .i64 k,.int .i64 (t)] 80)))
        obtain ⟨⟨r0,r1,r2,r3⟩,_⟩ := hT.out
        refine bodyPost_ret (v := .agg #[.int .i64 (f),.int .i64 (b - f),.int .i64 k,.int .i64 (t)]) (by simp [results,Tryz.results90,go_sem,r0,r1,r2,r3]) rfl ⟨rfl,(((Below.refl w.heap.size w).alloc (Nat.le_refl _) _).alloc (by simp) _).alloc (by simp <;> omega) _⟩
      · skip
        have hk2 : (k == 2) = false := by simpa using hk
        have hv1 : wrap64 (b - f) = b - f := by unfold wrap64; omega
        have HR : Hid (rPart ⟨f,n,k,t⟩ a b = ⟨f,b - f,k,0⟩) := by show _ = _; rw [HP.out,if_neg hk,show max f a = f by omega,show min (f + n) b = b by omega]
        rw [HR.out]
        clear hk
        go_enter Tryz.func90,Tryz.ntmps90
        go_wp2_with fail
        have hT := Lib.hid (tmp4 (Whole.alloc (Whole.new' (w.alloc (.cells #[.int .i64 f,.int .i64 n,.int .i64 k,.int .i64 t] 80)) 80 #[.int .i64 (f),.int .i64 (b - f),.int .i64 k,.int .i64 (0)] (w.heap.size + 1) (by simp)) (.cells #[.int .i64 (f),.int .i64 (b - f),.int .i64 k,.int .i64 (0)] 80)))
        obtain ⟨⟨r0,r1,r2,r3⟩,_⟩ := hT.out
        refine bodyPost_ret (v := .agg #[.int .i64 (f),.int .i64 (b - f),.int .i64 k,.int .i64 (0)]) (by simp [results,Tryz.results90,go_sem,r0,r1,r2,r3]) rfl ⟨rfl,(((Below.refl w.heap.size w).alloc (Nat.le_refl _) _).alloc (by simp) _).alloc (by simp <;> omega) _⟩
  · by_cases h2 : f < a
    · by_cases hk : k = 2
      · skip
        have hk2 : (k == 2) = true := by simpa using hk
        have hv1 : wrap64 (f + n - a) = f + n - a := by unfold wrap64; omega
        have hv2 : wrap64 (t + a) = t + a := by have := K4.out; unfold wrap64; omega
        have hv3 : wrap64 (t + a - f) = t + a - f := by have := K4.out; unfold wrap64; omega
        have HR : Hid (rPart ⟨f,n,k,t⟩ a b = ⟨a,f + n - a,k,t + a - f⟩) := by show _ = _; rw [HP.out,if_pos hk,show max f a = a by omega,show min (f + n) b = f + n by omega]
        rw [HR.out]
        clear hk
        go_enter Tryz.func90,Tryz.ntmps90
        go_wp2_with fail
        have hT := Lib.hid (tmp4 (Whole.alloc (Whole.new' (w.alloc (.cells #[.int .i64 f,.int .i64 n,.int .i64 k,.int .i64 t] 80)) 80 #[.int .i64 (a),.int .i64 (f + n - a),.int .i64 k,.int .i64 (t + a - f)] (w.heap.size + 1) (by simp)) (.cells #[.int .i64 (a),.int .i64 (f + n - a),.int .i64 k,.int .i64 (t + a - f)] 80)))
        obtain ⟨⟨r0,r1,r2,r3⟩,_⟩ := hT.out
        refine bodyPost_ret (v := .agg #[.int .i64 (a),.int .i64 (f + n - a),.int .i64 k,.int .i64 (t + a - f)]) (by simp [results,Tryz.results90,go_sem,r0,r1,r2,r3]) rfl ⟨rfl,(((Below.refl w.heap.size w).alloc (Nat.le_refl _) _).alloc (by simp) _).alloc (by simp <;> omega) _⟩
      · skip
        have hk2 : (k == 2) = false := by simpa using hk
        have hv1 : wrap64 (f + n - a) = f + n - a := by unfold wrap64; omega
        have HR : Hid (rPart ⟨f,n,k,t⟩ a b = ⟨a,f + n - a,k,0⟩) := by show _ = _; rw [HP.out,if_neg hk,show max f a = a by omega,show min (f + n) b = f + n by omega]
        rw [HR.out]
        clear hk
        go_enter Tryz.func90,Tryz.ntmps90
        go_wp2_with fail
        have hT := Lib.hid (tmp4 (Whole.alloc (Whole.new' (w.alloc (.cells #[.int .i64 f,.int .i64 n,.int .i64 k,.int .i64 t] 80)) 80 #[.int .i64 (a),.int .i64 (f + n - a),.int .i64 k,.int .i64 (0)] (w.heap.size + 1) (by simp)) (.cells #[.int .i64 (a),.int .i64 (f + n - a),.int .i64 k,.int .i64 (0)] 80)))
        obtain ⟨⟨r0,r1,r2,r3⟩,_⟩ := hT.out
        refine bodyPost_ret (v := .agg #[.int .i64 (a),.int .i64 (f + n - a),.int .i64 k,.int .i64 (0)]) (by simp [results,Tryz.results90,go_sem,r0,r1,r2,r3]) rfl ⟨rfl,(((Below.refl w.heap.size w).alloc (Nat.le_refl _) _).alloc (by simp) _).alloc (by simp <;> omega) _⟩
    · by_cases hk : k = 2
      · skip
        have hk2 : (k == 2) = true := by simpa using hk
        have hv1 : wrap64 (f + n - f) = f + n - f := by unfold wrap64; omega
        have hv2 : wrap64 (t + f) = t + f := by have := K4.out; unfold wrap64; omega
        have hv3 : wrap64 (t) = t := by have := K4.out; unfold wrap64; omega
        have HR : Hid (rPart ⟨f,n,k,t⟩ a b = ⟨f,f + n - f,k,t⟩) := by show _ = _; rw [HP.out,if_pos hk,show max f a = f by omega,show min (f + n) b = f + n by omega,show t + f - f = t by omega]
        rw [HR.out]
        clear hk
        go_enter Tryz.func90,Tryz.ntmps90
        go_wp2_with fail
        have hT := Lib.hid (tmp4 (Whole.alloc (Whole.new' (w.alloc (.cells #[.int .i64 f,.int .i64 n,.int .i64 k,.int .i64 t] 80)) 80 #[.int .i64 (f),.int .i64 (f + n - f),.int .i64 k,.int .i64 (t)] (w.heap.size + 1) (by simp)) (.cells #[.int .i64 (f),.int .i64 (f + n - f),.int .i64 k,.int .i64 (t)] 80)))
        obtain ⟨⟨r0,r1,r2,r3⟩,_⟩ := hT.out
        refine bodyPost_ret (v := .agg #[.int .i64 (f),.int .i64 (f + n - f),.int .i64 k,.int .i64 (t)]) (by simp [results,Tryz.results90,go_sem,r0,r1,r2,r3]) rfl ⟨rfl,(((Below.refl w.heap.size w).alloc (Nat.le_refl _) _).alloc (by simp) _).alloc (by simp <;> omega) _⟩
      · skip
        have hk2 : (k == 2) = false := by simpa using hk
        have hv1 : wrap64 (f + n - f) = f + n - f := by unfold wrap64; omega
        have HR : Hid (rPart ⟨f,n,k,t⟩ a b = ⟨f,f + n - f,k,0⟩) := by show _ = _; rw [HP.out,if_neg hk,show max f a = f by omega,show min (f + n) b = f + n by omega]
        rw [HR.out]
        clear hk
        go_enter Tryz.func90,Tryz.ntmps90
        go_wp2_with fail
        have hT := Lib.hid (tmp4 (Whole.alloc (Whole.new' (w.alloc (.cells #[.int .i64 f,.int .i64 n,.int .i64 k,.int .i64 t] 80)) 80 #[.int .i64 (f),.int .i64 (f + n - f),.int .i64 k,.int .i64 (0)] (w.heap.size + 1) (by simp)) (.cells #[.int .i64 (f),.int .i64 (f + n - f),.int .i64 k,.int .i64 (0)] 80)))
        obtain ⟨⟨r0,r1,r2,r3⟩,_⟩ := hT.out
        refine bodyPost_ret (v := .agg #[.int .i64 (f),.int .i64 (f + n - f),.int .i64 k,.int .i64 (0)]) (by simp [results,Tryz.results90,go_sem,r0,r1,r2,r3]) rfl ⟨rfl,(((Below.refl w.heap.size w).alloc (Nat.le_refl _) _).alloc (by simp) _).alloc (by simp <;> omega) _⟩
end Go.Proofs.YtneammhkgmkkfaaGreatDoor.tr
