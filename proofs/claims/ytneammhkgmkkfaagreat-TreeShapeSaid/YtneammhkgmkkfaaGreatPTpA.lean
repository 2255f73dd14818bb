/- A part of the proof. -/
import Derived.Test.YtneammhkgmkkfaaGreatPTqH
namespace Go.Proofs.YtneammhkgmkkfaaGreat.tr
open Go.RowKit Go.Proofs.YtneammhkgmkkfaaGreat.er
set_option linter.unusedVariables false
set_option linter.unusedSimpArgs false
theorem leN_snoc (s : ByteArray) : ∀ (k a : Nat),leN s a (k + 1) = leN s a k + 256 ^ k * byteAt s (a + k)
  | 0,a => by simp [leN]
  | k + 1,a => by
    have ih := leN_snoc s k (a + 1)
    show byteAt s a + 256 * leN s (a + 1) (k + 1) = byteAt s a + 256 * leN s (a + 1) k + 256 ^ (k + 1) * byteAt s (a + (k + 1))
    rw [ih,show a + 1 + k = a + (k + 1) by omega,Int.mul_add,Int.pow_succ,← Int.mul_assoc,Int.mul_comm 256 (256 ^ k)]
    omega
set_option maxHeartbeats 4000000 in
set_option maxRecDepth 100000 in
theorem rget_short (s : ByteArray) (a k : Nat) (w : World) (hk : 1 ≤ k) (hk8 : k ≤ 8) (ha : a ≤ 1000000000) (hs : s.size ≤ 70368744177664) (h : s.size < a + k) :
    Calls Tryz.prog 116 #[.string s,.int .i64 a,.int .i64 k] w fun e w' => e = .returned (.tuple #[.int .u64 0,.int .i64 5]) ∧ w = w' := by
  have k1 : (1 : Int) ≤ (k : Int) := by omega
  have k8 : (k : Int) ≤ 8 := by omega
  have a0 : (0 : Int) ≤ (a : Int) := by omega
  by_cases hc : s.size < a
  · have a1 : (s.size : Int) < (a : Int) := by omega
    have hb1 : decide (s.size < a) = true := by simp; omega
    have hb2 : decide ((s.size : Int) < (a : Int)) = true := by simp; omega
    go_enter Tryz.func116,Tryz.ntmps116
    go_wp2_with fail
    refine bodyPost_ret (v := .tuple #[.int .u64 0,.int .i64 5]) (by simp [results,Tryz.results116,go_sem]) rfl ⟨rfl,rfl⟩
  · have a1 : (a : Int) ≤ (s.size : Int) := by omega
    have h1 : (s.size : Int) - (a : Int) < (k : Int) := by omega
    have hb1 : decide (s.size < a) = false := by simp; omega
    have hb2 : decide ((s.size : Int) - (a : Int) < (k : Int)) = true := by simp; omega
    go_enter Tryz.func116,Tryz.ntmps116
    go_wp2_with fail
    refine bodyPost_ret (v := .tuple #[.int .u64 0,.int .i64 5]) (by simp [results,Tryz.results116,go_sem]) rfl ⟨rfl,rfl⟩
theorem pow_le3 {j : Nat} (h : j ≤ 3) : (256 : Int) ^ j ≤ 16777216 := by
  match j,h with
  | 0,_ => decide
  | 1,_ => decide
  | 2,_ => decide
  | 3,_ => decide
set_option maxHeartbeats 4000000 in
set_option maxRecDepth 100000 in
theorem rget_some (s : ByteArray) (a k : Nat) (w : World) (hk : 1 ≤ k) (hk4 : k ≤ 4) (hs : s.size ≤ 70368744177664) (h : a + k ≤ s.size) :
    Calls Tryz.prog 116 #[.string s,.int .i64 a,.int .i64 k] w fun e w' => e = .returned (.tuple #[.int .u64 (leN s a k),.int .i64 0]) ∧ w = w' := by
  have k1 : (1 : Int) ≤ (k : Int) := by omega
  have k8 : (k : Int) ≤ 8 := by omega
  have a0 : (0 : Int) ≤ (a : Int) := by omega
  have a1 : (a : Int) ≤ (s.size : Int) := by omega
  have h1 : (k : Int) ≤ (s.size : Int) - (a : Int) := by omega
  have hb0 : decide ((a : Int) < 0) = false := by simp
  have hb1 : decide (s.size < a) = false := by simp; omega
  have hb2 : decide ((s.size : Int) - (a : Int) < (k : Int)) = false := by simp; omega
  go_enter Tryz.func116,Tryz.ntmps116
  go_wp2_with fail
  go_loopw [8,9,10] (fun s8 s9 s10 wr => ∃ (j : Nat) (x P : Int),j ≤ k ∧ s10 = .int .i64 j ∧ s8 = .int .u64 x ∧ s9 = .int .u64 P ∧ Hid (x = leN s a j ∧ P = 256 ^ j) ∧ w = wr) (fun _ _ i _ => k - (intOf i).toNat)
  case atStart => exact ⟨0,0,1,by omega,rfl,rfl,rfl,⟨rfl,rfl⟩,rfl⟩
  case round =>
    obtain ⟨j,x,P,hj,rfl,rfl,rfl,hx,rfl⟩ := hrel
    by_cases hlt : j < k
    · have hji : (j : Int) < (k : Int) := by omega
      have hi1 : a + j < s.size := by omega
      have hi2 : (a : Int) + (j : Int) < (s.size : Int) := by omega
      obtain ⟨b,hb⟩ : ∃ b : Nat,s[a + j].toNat = b := ⟨_,rfl⟩
      have hb256 : b < 256 := by rw [← hb]; exact UInt8.toNat_lt _
      have hby : byteAt s (a + j) = (b : Int) := by unfold byteAt; rw [dif_pos hi1,hb]
      have hP : 0 < P ∧ P ≤ 16777216 := by rw [hx.out.2]; exact ⟨pow256_pos j,pow_le3 (by omega)⟩
      have hX : 0 ≤ x ∧ x < P := by rw [hx.out.1,hx.out.2]; exact leN_rng s j a
      have hPb : 0 ≤ P * (b : Int) ∧ P * (b : Int) ≤ 16777216 * 255 := ⟨Int.mul_nonneg (by omega) (by omega),Int.mul_le_mul hP.2 (by omega) (by omega) (by omega)⟩
      have HN : Hid (x + P * (b : Int) = leN s a (j + 1) ∧ P * 256 = 256 ^ (j + 1)) := by
        show _ ∧ _
        rw [leN_snoc,hby,hx.out.1,hx.out.2,Int.pow_succ]
        exact ⟨rfl,rfl⟩
      have hw1 : IntKind.u64.wrap (P * (b : Int)) = P * (b : Int) := wrap_u64 hPb.1 (by omega)
      have hw2 : IntKind.u64.wrap (x + P * (b : Int)) = x + P * (b : Int) := wrap_u64 (by omega) (by omega)
      have hw3 : IntKind.u64.wrap (P * 256) = P * 256 := wrap_u64 (by omega) (by omega)
      clear hx hby hP hX hPb
      go_wp2_with fail
      go_roundw
      case rel => exact ⟨j + 1,x + P * (b : Int),P * 256,by omega,by go_num,by first | rfl | simp [hw1,hw2],by first | rfl | simp [hw3],HN.out,trivial⟩
      case measure => simp [intOf] <;> omega
    · obtain rfl : j = k := by omega
      have HX := Lib.hid hx.out.1
      clear hx
      go_wp2_with fail
      refine bodyPost_ret (v := .tuple #[.int .u64 x,.int .i64 0]) (by simp [results,Tryz.results116,go_sem]) rfl ⟨by rw [HX.out],rfl⟩
def getZ (s : ByteArray) (a k : Nat) : Int := if a + k ≤ s.size then leN s a k else 0
theorem getZ_rng (s : ByteArray) (a k : Nat) (hk : k ≤ 4) : 0 ≤ getZ s a k ∧ getZ s a k < 4294967296 := by
  unfold getZ
  split
  · have := leN_rng s k a
    have h2 : (256 : Int) ^ k ≤ 4294967296 := by
      match k,hk with
      | 0,_ => decide
      | 1,_ => decide
      | 2,_ => decide
      | 3,_ => decide
      | 4,_ => decide
    omega
  · omega
set_option maxHeartbeats 4000000 in
set_option maxRecDepth 100000 in
theorem rgetz_any (s : ByteArray) (a k : Nat) (w : World) (hk : 1 ≤ k) (hk4 : k ≤ 4) (ha : a ≤ 1000000000) (hs : s.size ≤ 70368744177664) :
    Calls Tryz.prog 80 #[.string s,.int .i64 a,.int .i64 k] w fun e w' => e = .returned (.int .i64 (getZ s a k)) ∧ w = w' := by
  have HG : Hid (Calls Tryz.prog 116 #[.string s,.int .i64 a,.int .i64 k] w fun e w' => (∃ c : Int,e = .returned (.tuple #[.int .u64 (getZ s a k),.int .i64 c])) ∧ w = w') := by
    by_cases h : a + k ≤ s.size
    · refine (rget_some s a k w hk hk4 hs h).mono ?_
      rintro e w' ⟨rfl,rfl⟩
      exact ⟨⟨0,by unfold getZ; rw [if_pos h]⟩,rfl⟩
    · refine (rget_short s a k w hk (by omega) ha hs (by omega)).mono ?_
      rintro e w' ⟨rfl,rfl⟩
      exact ⟨⟨5,by unfold getZ; rw [if_neg h]⟩,rfl⟩
  have hr := getZ_rng s a k hk4
  obtain ⟨x,hx⟩ : ∃ x,getZ s a k = x := ⟨_,rfl⟩
  rw [hx] at HG hr ⊢
  obtain ⟨h0,h1⟩ := hr
  have hw : IntKind.i64.wrap x = x := by rw [IntKind.wrap_i64]; omega
  go_enter Tryz.func80,Tryz.ntmps80
  go_wp2_with fail
  with_reducible refine HG.out.mono ?_
  rintro e w1 ⟨⟨c,rfl⟩,rfl⟩
  go_wp2_with fail
  go_ret
  exact ⟨rfl,rfl⟩
end Go.Proofs.YtneammhkgmkkfaaGreat.tr
