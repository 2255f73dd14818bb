/- A part of the proof. -/
import Derived.Test.YtneammhkgmkkfaaGreatDoorQTxMb
namespace Go.Proofs.YtneammhkgmkkfaaGreatDoor.tr
open Go.RowKit Go.Proofs.YtneammhkgmkkfaaGreatDoor.er
set_option linter.unusedVariables false
set_option linter.unusedSimpArgs false
theorem range_any (fr n : Int) (w : World) : Calls Tryz.prog 59 #[.int .i64 fr,.int .i64 n] w fun e w' => e = .returned (.bool (spanB fr n)) ∧ w = w' := by
  have key : ∀ b,spanB fr n = b → Calls Tryz.prog 59 #[.int .i64 fr,.int .i64 n] w fun e w' => e = .returned (.bool b) ∧ w = w' := by
    intro b hb
    unfold spanB at hb
    by_cases h1 : 0 ≤ fr
    · by_cases h3 : fr ≤ 16777216
      · by_cases h2 : 0 ≤ n
        · have hw : wrap64 (16777216 - fr) = 16777216 - fr := by unfold wrap64; omega
          by_cases h4 : n ≤ 16777216 - fr
          · obtain rfl : true = b := by rw [← hb]; simp [h1,h2,h3,h4]
            clear hb
            go_enter Tryz.func59,Tryz.ntmps59
            go_wp2_with fail
            go_ret
            exact ⟨rfl,rfl⟩
          · obtain rfl : false = b := by rw [← hb]; simp [h1,h2,h3,h4]
            clear hb
            go_enter Tryz.func59,Tryz.ntmps59
            go_wp2_with fail
            go_ret
            exact ⟨rfl,rfl⟩
        · obtain rfl : false = b := by rw [← hb]; simp [h1,h2,h3]
          clear hb
          go_enter Tryz.func59,Tryz.ntmps59
          go_wp2_with fail
          go_ret
          exact ⟨rfl,rfl⟩
      · obtain rfl : false = b := by rw [← hb]; simp [h1,h3]
        clear hb
        go_enter Tryz.func59,Tryz.ntmps59
        go_wp2_with fail
        go_ret
        exact ⟨rfl,rfl⟩
    · obtain rfl : false = b := by rw [← hb]; simp [h1]
      clear hb
      go_enter Tryz.func59,Tryz.ntmps59
      go_wp2_with fail
      go_ret
      exact ⟨rfl,rfl⟩
  exact key _ rfl
theorem rone_any (e : Ext) (w : World) : Calls Tryz.prog 31 #[e.val] w fun x w' => x = .returned (.bool (oneB e)) ∧ Below w.heap.size w w' := by
  obtain ⟨f,n,k,t⟩ := e
  show Calls Tryz.prog 31 #[.agg #[.int .i64 f,.int .i64 n,.int .i64 k,.int .i64 t]] w _
  have HB := Lib.hid ((Below.refl w.heap.size w).alloc (Nat.le_refl _) (.cells #[.int .i64 f,.int .i64 n,.int .i64 k,.int .i64 t] 80))
  cases hs : spanB f n
  · have HS := Lib.hid hs
    have HR : Hid (oneB ⟨f,n,k,t⟩ = false) := by show _ = _; unfold oneB; rw [hs]; rfl
    clear hs
    go_enter Tryz.func31,Tryz.ntmps31
    go_wp2_with fail
    refine (range_any _ _ _).mono ?_
    rintro e w1 ⟨rfl,rfl⟩
    rw [HS.out]
    go_wp2_with fail
    go_ret
    exact ⟨by rw [HR.out]; (first | rfl | simp [*]),HB.out⟩
  · have HS := Lib.hid hs
    by_cases h1 : n = 0
    · subst h1
      have HR : Hid (oneB ⟨f,0,k,t⟩ = false) := by show _ = _; unfold oneB; rw [hs]; simp
      clear hs
      go_enter Tryz.func31,Tryz.ntmps31
      go_wp2_with fail
      refine (range_any _ _ _).mono ?_
      rintro e w1 ⟨rfl,rfl⟩
      rw [HS.out]
      go_wp2_with fail
      go_ret
      exact ⟨by rw [HR.out]; (first | rfl | simp [*]),HB.out⟩
    · have h1' : (1 : Int) ≤ n := by
        have h := hs
        unfold spanB at h
        simp only [Bool.and_eq_true,decide_eq_true_eq] at h
        omega
      have h1b : (n == 0) = false := by simpa using h1
      by_cases h2 : k = 1
      · subst h2
        have HR : Hid (oneB ⟨f,n,1,t⟩ = (t == 0)) := by show _ = _; unfold oneB; rw [hs,if_pos rfl]; simp [h1']; rfl
        clear hs
        go_enter Tryz.func31,Tryz.ntmps31
        go_wp2_with fail
        refine (range_any _ _ _).mono ?_
        rintro e w1 ⟨rfl,rfl⟩
        rw [HS.out]
        go_wp2_with fail
        go_ret
        exact ⟨by rw [HR.out]; (first | rfl | simp [*]),HB.out⟩
      · by_cases h3 : k = 2
        · subst h3
          by_cases h4 : 0 ≤ t
          · by_cases h5 : t ≤ 2048
            · have hw : wrap64 (2048 - t) = 2048 - t := by unfold wrap64; omega
              by_cases h6 : n ≤ 2048 - t
              · have HR : Hid (oneB ⟨f,n,2,t⟩ = true) := by show _ = _; unfold oneB; rw [hs]; simp; omega
                clear hs
                go_enter Tryz.func31,Tryz.ntmps31
                go_wp2_with fail
                refine (range_any _ _ _).mono ?_
                rintro e w1 ⟨rfl,rfl⟩
                rw [HS.out]
                go_wp2_with fail
                go_ret
                exact ⟨by rw [HR.out]; (first | rfl | simp [*]),HB.out⟩
              · have HR : Hid (oneB ⟨f,n,2,t⟩ = false) := by show _ = _; unfold oneB; rw [hs]; simp; omega
                clear hs
                go_enter Tryz.func31,Tryz.ntmps31
                go_wp2_with fail
                refine (range_any _ _ _).mono ?_
                rintro e w1 ⟨rfl,rfl⟩
                rw [HS.out]
                go_wp2_with fail
                go_ret
                exact ⟨by rw [HR.out]; (first | rfl | simp [*]),HB.out⟩
            · have HR : Hid (oneB ⟨f,n,2,t⟩ = false) := by show _ = _; unfold oneB; rw [hs]; simp; omega
              clear hs
              go_enter Tryz.func31,Tryz.ntmps31
              go_wp2_with fail
              refine (range_any _ _ _).mono ?_
              rintro e w1 ⟨rfl,rfl⟩
              rw [HS.out]
              go_wp2_with fail
              go_ret
              exact ⟨by rw [HR.out]; (first | rfl | simp [*]),HB.out⟩
          · have HR : Hid (oneB ⟨f,n,2,t⟩ = false) := by show _ = _; unfold oneB; rw [hs]; simp; omega
            clear hs
            go_enter Tryz.func31,Tryz.ntmps31
            go_wp2_with fail
            refine (range_any _ _ _).mono ?_
            rintro e w1 ⟨rfl,rfl⟩
            rw [HS.out]
            go_wp2_with fail
            go_ret
            exact ⟨by rw [HR.out]; (first | rfl | simp [*]),HB.out⟩
        · have HR : Hid (oneB ⟨f,n,k,t⟩ = false) := by show _ = _; unfold oneB; rw [hs]; simp [h2,h3]
          clear hs
          go_enter Tryz.func31,Tryz.ntmps31
          go_wp2_with fail
          refine (range_any _ _ _).mono ?_
          rintro e w1 ⟨rfl,rfl⟩
          rw [HS.out]
          go_wp2_with fail
          go_ret
          exact ⟨by rw [HR.out]; (first | rfl | simp [*]),HB.out⟩
end Go.Proofs.YtneammhkgmkkfaaGreatDoor.tr
