/- A part of the proof. -/
import Derived.Test.YtneammhkgmkkfaaGreatPTsMg
import Derived.Laws.BitsAllLaws
namespace Go.Proofs.YtneammhkgmkkfaaGreat.tr
open Go.RowKit Go.Proofs.YtneammhkgmkkfaaGreat.er
set_option linter.unusedVariables false
set_option linter.unusedSimpArgs false
def byteAt (s : ByteArray) (i : Nat) : Int := if h : i < s.size then s[i].toNat else 0
def getStep (x b : Int) : Int := bits .or .u64 (IntKind.u64.wrap (x * 256)) (IntKind.u64.wrap b)
def getN (s : ByteArray) (a k : Nat) : Nat → Int
  | 0 => 0
  | d + 1 => getStep (getN s a k d) (byteAt s (a + (k - 1 - d)))
theorem wrap_u64 {n : Int} (h0 : 0 ≤ n) (h1 : n < 18446744073709551616) : IntKind.u64.wrap n = n := by
  show n % 18446744073709551616 = n
  omega
theorem getStep_eq (x b : Int) (h0 : 0 ≤ x) (h1 : x < 72057594037927936) (h2 : 0 ≤ b) (h3 : b < 256) : getStep x b = x * 256 + b := by
  unfold getStep
  rw [wrap_u64 (by omega) (by omega),wrap_u64 (by omega) (by omega),u64_or _ _ (by omega) (by omega) h2 (by omega)]
  obtain ⟨m,rfl⟩ : ∃ m : Nat,x = (m : Int) := ⟨x.toNat,by omega⟩
  obtain ⟨c,rfl⟩ : ∃ c : Nat,b = (c : Int) := ⟨b.toNat,by omega⟩
  have e1 : ((m : Int) * 256).toNat = m <<< 8 := by rw [Nat.shiftLeft_eq]; omega
  rw [e1,Int.toNat_natCast,← Nat.shiftLeft_add_eq_or_of_lt (show c < 2 ^ 8 by omega),Nat.shiftLeft_eq,show (2 : Nat) ^ 8 = 256 from rfl]
  omega
theorem pow256_pos (k : Nat) : (0 : Int) < 256 ^ k := Int.pow_pos (by decide)
theorem getN_bytes (s : ByteArray) (a k : Nat) (n : Int) (h0 : 0 ≤ n) (h1 : n < 256 ^ k) (hk : k ≤ 7) (hb : ∀ i,i < k → byteAt s (a + i) = n / 256 ^ i % 256) : ∀ d,d ≤ k → getN s a k d = n / 256 ^ (k - d)
  | 0,_ => by
    show 0 = n / 256 ^ k
    rw [Int.ediv_eq_zero_of_lt h0 h1]
  | d + 1,hd => by
    have ih := getN_bytes s a k n h0 h1 hk hb d (by omega)
    show getStep (getN s a k d) (byteAt s (a + (k - 1 - d))) = _
    rw [ih,hb _ (by omega)]
    have e : k - d = (k - 1 - d) + 1 := by omega
    have e2 : k - (d + 1) = k - 1 - d := by omega
    rw [e2,e,Int.pow_succ,← Int.ediv_ediv_of_nonneg (Int.le_of_lt (pow256_pos _))]
    obtain ⟨y,hy⟩ : ∃ y,n / 256 ^ (k - 1 - d) = y := ⟨_,rfl⟩
    have hy0 : 0 ≤ y := by rw [← hy]; exact Int.ediv_nonneg h0 (Int.le_of_lt (pow256_pos _))
    have hy1 : y ≤ n := by rw [← hy]; exact Int.ediv_le_self _ h0
    have hn : n < 72057594037927936 := by
      have h7 : ∀ k,k ≤ 7 → (256 : Int) ^ k ≤ 72057594037927936 := by decide
      have := h7 k hk
      omega
    rw [hy,getStep_eq _ _ (by omega) (by omega) (by omega) (by omega)]
    omega
theorem byte_mod (x : Int) (h0 : 0 ≤ x) (h1 : x < 256) : ((UInt8.ofNat x.toNat).toNat : Int) = x := by
  rw [UInt8.toNat_ofNat']
  omega
def leN (s : ByteArray) : Nat → Nat → Int
  | _,0 => 0
  | a,k + 1 => byteAt s a + 256 * leN s (a + 1) k
theorem byteAt_rng (s : ByteArray) (i : Nat) : 0 ≤ byteAt s i ∧ byteAt s i < 256 := by
  unfold byteAt
  split
  · have := UInt8.toNat_lt s[i]
    omega
  · omega
theorem leN_rng (s : ByteArray) : ∀ (k a : Nat),0 ≤ leN s a k ∧ leN s a k < 256 ^ k
  | 0,a => by show (0 : Int) ≤ 0 ∧ (0 : Int) < 256 ^ 0; omega
  | k + 1,a => by
    have ih := leN_rng s k (a + 1)
    have hb := byteAt_rng s a
    show 0 ≤ byteAt s a + 256 * leN s (a + 1) k ∧ byteAt s a + 256 * leN s (a + 1) k < 256 ^ (k + 1)
    rw [Int.pow_succ]
    omega
theorem leN_digit (s : ByteArray) : ∀ (k a i : Nat),i < k → byteAt s (a + i) = leN s a k / 256 ^ i % 256
  | 0,a,i,h => by omega
  | k + 1,a,0,h => by
    have hb := byteAt_rng s a
    show byteAt s a = (byteAt s a + 256 * leN s (a + 1) k) / 256 ^ 0 % 256
    rw [Int.pow_zero,Int.ediv_one]
    omega
  | k + 1,a,i + 1,h => by
    have ih := leN_digit s k (a + 1) i (by omega)
    have hb := byteAt_rng s a
    show byteAt s (a + (i + 1)) = (byteAt s a + 256 * leN s (a + 1) k) / 256 ^ (i + 1) % 256
    rw [show a + (i + 1) = a + 1 + i by omega,ih,Int.pow_succ,Int.mul_comm (256 ^ i) 256,← Int.ediv_ediv_of_nonneg (by omega)]
    congr 2
    omega
theorem getN_le (s : ByteArray) (a k : Nat) (hk : k ≤ 7) : getN s a k k = leN s a k := by
  have h := leN_rng s k a
  have := getN_bytes s a k (leN s a k) h.1 h.2 hk (fun i hi => leN_digit s k a i hi) k (Nat.le_refl _)
  rw [this,Nat.sub_self,Int.pow_zero,Int.ediv_one]
theorem leN_of (s : ByteArray) (a k : Nat) (n : Int) (h0 : 0 ≤ n) (h1 : n < 256 ^ k) (hk : k ≤ 7) (hb : ∀ i,i < k → byteAt s (a + i) = n / 256 ^ i % 256) : leN s a k = n := by
  rw [← getN_le s a k hk,getN_bytes s a k n h0 h1 hk hb k (Nat.le_refl _),Nat.sub_self,Int.pow_zero,Int.ediv_one]
end Go.Proofs.YtneammhkgmkkfaaGreat.tr
namespace Go.Proofs.YtneammhkgmkkfaaGreat.tr
open Go.RowKit Go.Proofs.YtneammhkgmkkfaaGreat.er
set_option linter.unusedVariables false
set_option linter.unusedSimpArgs false
def extD (s : ByteArray) (o : Nat) : Ext := ⟨leN s o 3,leN s (o + 3) 4,leN s (o + 7) 1,leN s (o + 8) 2⟩
def extsD (s : ByteArray) : List Ext := (List.range (byteAt s 0).toNat).map fun i => extD s (1 + 10 * i)
theorem extsD_len (s : ByteArray) : (extsD s).length = (byteAt s 0).toNat := by simp [extsD]
theorem extsD_at (s : ByteArray) (j : Nat) (h : j < (byteAt s 0).toNat) : (extsD s)[j]? = some (extD s (1 + 10 * j)) := by
  unfold extsD
  rw [List.getElem?_map,List.getElem?_range h]
  rfl
def kidD (s : ByteArray) (o : Nat) : Kid := ⟨leN s o 3,leN s (o + 3) 2⟩
def kidsD (s : ByteArray) : List Kid := (List.range (byteAt s 0).toNat).map fun i => kidD s (1 + 5 * i)
theorem kidsD_len (s : ByteArray) : (kidsD s).length = (byteAt s 0).toNat := by simp [kidsD]
theorem kidsD_at (s : ByteArray) (j : Nat) (h : j < (byteAt s 0).toNat) : (kidsD s)[j]? = some (kidD s (1 + 5 * j)) := by
  unfold kidsD
  rw [List.getElem?_map,List.getElem?_range h]
  rfl
def okE (s : ByteArray) : Bool := decide (s.size ≠ 0) && decide (byteAt s 0 ≤ 8) && decide (s.size = 1 + 10 * (byteAt s 0).toNat)
def okK (s : ByteArray) : Bool := decide (s.size ≠ 0) && decide (byteAt s 0 ≤ 8) && decide (s.size = 1 + 5 * (byteAt s 0).toNat)
end Go.Proofs.YtneammhkgmkkfaaGreat.tr
namespace Go.Proofs.YtneammhkgmkkfaaGreat.tr
open Go.RowKit Go.Proofs.YtneammhkgmkkfaaGreat.er
set_option linter.unusedVariables false
set_option linter.unusedSimpArgs false
theorem own_le {w : World} {B B' k n : Nat} {e : TypeId} {v : Value} {xs : List Value} (h : w.ownsRow B' e k v n xs) (hB : B ≤ B') : w.ownsRow B e k v n xs := by
  obtain ⟨h1,h2⟩ := h
  refine ⟨h1,?_⟩
  rcases h2 with h2 | ⟨g,cap,cur,a1,a2,a3⟩
  · exact .inl h2
  · exact .inr ⟨g,cap,cur,a1,Nat.le_trans hB a2,a3⟩
def getB (L : Bk) (pg : Int) : Option (Int × ByteArray) := if pg < 0 then none else L[pg.toNat]?
end Go.Proofs.YtneammhkgmkkfaaGreat.tr
