/- page: what was written is read (plain). -/
import Derived.Test.YtfacgeappbgldaaGreatDoorPgC
namespace Go.Proofs.YtfacgeappbgldaaGreatDoor.pg
open Go.RowKit Go.Proofs.YtfacgeappbgldaaGreatDoor.er Go.Proofs.YtfacgeappbgldaaGreatDoor.fd Go.Proofs.YtfacgeappbgldaaGreatDoor.ck
set_option linter.unusedVariables false

theorem getStep_eq (x b : Int) (h0 : 0 ≤ x) (h1 : x < 72057594037927936) (h2 : 0 ≤ b) (h3 : b < 256) : getStep x b = x * 256 + b := by
  unfold getStep
  rw [wrap_u64 (by omega) (by omega), wrap_u64 (by omega) (by omega), u64_or _ _ (by omega) (by omega) h2 (by omega)]
  obtain ⟨m, rfl⟩ : ∃ m : Nat, x = (m : Int) := ⟨x.toNat, by omega⟩
  obtain ⟨c, rfl⟩ : ∃ c : Nat, b = (c : Int) := ⟨b.toNat, by omega⟩
  have e1 : ((m : Int) * 256).toNat = m <<< 8 := by rw [Nat.shiftLeft_eq]; omega
  rw [e1, Int.toNat_natCast, ← Nat.shiftLeft_add_eq_or_of_lt (show c < 2 ^ 8 by omega), Nat.shiftLeft_eq, show (2 : Nat) ^ 8 = 256 from rfl]
  omega
theorem pow256_pos (k : Nat) : (0 : Int) < 256 ^ k := Int.pow_pos (by decide)
theorem getN_bytes (s : ByteArray) (a k : Nat) (n : Int) (h0 : 0 ≤ n) (h1 : n < 256 ^ k) (hk : k ≤ 7) (hb : ∀ i, i < k → byteAt s (a + i) = n / 256 ^ i % 256) : ∀ d, d ≤ k → getN s a k d = n / 256 ^ (k - d)
  | 0, _ => by
    show 0 = n / 256 ^ k
    rw [Int.ediv_eq_zero_of_lt h0 h1]
  | d + 1, hd => by
    have ih := getN_bytes s a k n h0 h1 hk hb d (by omega)
    show getStep (getN s a k d) (byteAt s (a + (k - 1 - d))) = _
    rw [ih, hb _ (by omega)]
    have e : k - d = (k - 1 - d) + 1 := by omega
    have e2 : k - (d + 1) = k - 1 - d := by omega
    rw [e2, e, Int.pow_succ, ← Int.ediv_ediv_of_nonneg (Int.le_of_lt (pow256_pos _))]
    obtain ⟨y, hy⟩ : ∃ y, n / 256 ^ (k - 1 - d) = y := ⟨_, rfl⟩
    have hy0 : 0 ≤ y := by rw [← hy]; exact Int.ediv_nonneg h0 (Int.le_of_lt (pow256_pos _))
    have hy1 : y ≤ n := by rw [← hy]; exact Int.ediv_le_self _ h0
    have hn : n < 72057594037927936 := by
      have h7 : ∀ k, k ≤ 7 → (256 : Int) ^ k ≤ 72057594037927936 := by decide
      have := h7 k hk
      omega
    rw [hy, getStep_eq _ _ (by omega) (by omega) (by omega) (by omega)]
    omega
theorem byteAt_data (l : List UInt8) (r : ByteArray) (i : Nat) (h : i < l.length) : byteAt ((⟨l.toArray⟩ : ByteArray) ++ r) i = (l[i].toNat : Int) := by
  have hs : i < ((⟨l.toArray⟩ : ByteArray) ++ r).size := by rw [ByteArray.size_append]; show i < l.toArray.size + _; simp; omega
  unfold byteAt
  rw [dif_pos hs]
  have : ((⟨l.toArray⟩ : ByteArray) ++ r)[i] = l[i] := by
    rw [ByteArray.getElem_append_left (by show i < l.toArray.size; simpa using h)]
    show l.toArray[i] = l[i]
    simp
  rw [this]
theorem byte_mod (x : Int) (h0 : 0 ≤ x) (h1 : x < 256) : ((UInt8.ofNat x.toNat).toNat : Int) = x := by
  rw [UInt8.toNat_ofNat']
  omega
/-- The bytes of a row stand where their number's place is. -/
theorem rowL_at (n : Nat → Int) : ∀ (m j i : Nat), j < m → i < widN j → (rowL n m)[offN j + i]? = some (UInt8.ofNat ((n j) / 256 ^ i % 256).toNat)
  | m + 1, j, i, hj, hi => by
    have hlen : ∀ m, (rowL n m).length = offN m := by
      intro m
      induction m with
      | zero => rfl
      | succ m ih => simp [rowL, offN, ih, bytesOf_length]
    have hmono : ∀ a b, a ≤ b → offN a ≤ offN b := by
      intro a b hab
      induction b with
      | zero => have : a = 0 := by omega
                subst this; exact Nat.le_refl _
      | succ b ih =>
        rcases Nat.lt_or_ge b a with h | h
        · have : a = b + 1 := by omega
          subst this; exact Nat.le_refl _
        · exact Nat.le_trans (ih h) (by simp [offN])
    rcases Nat.lt_or_ge j m with h | h
    · have h1 : offN j + i < (rowL n m).length := by
        rw [hlen]
        have := hmono (j + 1) m h
        simp only [offN] at this
        omega
      show (rowL n m ++ _)[_]? = _
      rw [List.getElem?_append_left h1]
      exact rowL_at n m j i h hi
    · obtain rfl : j = m := by omega
      show (rowL n j ++ _)[_]? = _
      rw [List.getElem?_append_right (by rw [hlen]; omega), hlen, Nat.add_sub_cancel_left]
      rw [List.getElem?_map]
      simp [bytesOf, hi]
theorem numAt_row (p : Page) (h : mayB p = true) (j : Nat) (hj : j < 5) : numAt ((⟨(rowL (numsOf p) 5).toArray⟩ : ByteArray) ++ p.body) j = numsOf p j := by
  have h0 := numsOf_lo h j hj
  have h1 := numsOf_hi h j hj
  have hw : widN j ≤ 7 := by unfold widN; split <;> omega
  have := getN_bytes ((⟨(rowL (numsOf p) 5).toArray⟩ : ByteArray) ++ p.body) (offN j) (widN j) (numsOf p j) h0 h1 hw (fun i hi => by
    have hr := rowL_at (numsOf p) 5 j i hj hi
    obtain ⟨hlt, he⟩ := List.getElem?_eq_some_iff.1 hr
    rw [byteAt_data _ _ _ hlt, he]
    exact byte_mod _ (Int.emod_nonneg _ (by decide)) (Int.emod_lt_of_pos _ (by decide))) (widN j) (Nat.le_refl _)
  rw [numAt, this, Nat.sub_self]
  simp
theorem wrap_i64 {n : Int} (h0 : 0 ≤ n) (h1 : n < 9223372036854775808) : IntKind.i64.wrap n = n := by rw [IntKind.wrap_i64]; omega
theorem extract_back (a b : ByteArray) : (a ++ b).extract a.size (a ++ b).size = b := by
  rw [ByteArray.size_append, ByteArray.extract_append]
  have h : a.extract a.size (a.size + b.size) = ByteArray.empty := by
    apply ByteArray.ext
    simp
  simp [h]
theorem extract_front (a b : ByteArray) : (a ++ b).extract 0 a.size = a := by
  rw [ByteArray.extract_append]
  simp
/-- WHAT WAS WRITTEN IS READ. -/
theorem read_write (p : Page) (h : mayB p = true) : readF (writeF p) = (p, 0) := by
  have hm := mayB_yes h
  unfold readF writeF
  rw [open_seal, if_pos rfl]
  obtain ⟨r, hr⟩ : ∃ r : ByteArray, r = ⟨(rowL (numsOf p) 5).toArray⟩ := ⟨_, rfl⟩
  have hrz : r.size = 14 := by rw [hr]; exact rowB_size _
  have hu : headF p ++ p.body = (⟨#[83, 99]⟩ : ByteArray) ++ (r ++ p.body) := by rw [headF, ← hr, ByteArray.append_assoc]
  have h2 : (⟨#[83, 99]⟩ : ByteArray).size = 2 := rfl
  have hs : (headF p ++ p.body).extract 2 (headF p ++ p.body).size = r ++ p.body := by
    rw [hu]
    exact extract_back ⟨#[83, 99]⟩ (r ++ p.body)
  have hb : (r ++ p.body).extract 14 (r ++ p.body).size = p.body := by
    have := extract_back r p.body
    rw [hrz] at this
    exact this
  have hn : ∀ j, j < 5 → numAt (r ++ p.body) j = numsOf p j := fun j hj => by rw [hr]; exact numAt_row p h j hj
  show readIn (headF p ++ p.body) = (p, 0)
  unfold readIn
  rw [hs, if_neg (by rw [ByteArray.size_append, headF_size]; omega)]
  have hf : (headF p ++ p.body).extract 0 2 = ⟨#[83, 99]⟩ := by
    rw [hu]
    exact extract_front ⟨#[83, 99]⟩ (r ++ p.body)
  rw [hf, if_neg (by simp [go_sem])]
  have hl : lenOk (r ++ p.body) = true := by
    unfold lenOk
    rw [hb, hn 4 (by omega)]
    simp [numsOf]
  have hp : pageOf (r ++ p.body) = p := by
    unfold pageOf
    rw [hb, hn 0 (by omega), hn 1 (by omega), hn 2 (by omega), hn 3 (by omega)]
    obtain ⟨k, s, y, q, b⟩ := p
    simp only at hm
    show (⟨IntKind.i64.wrap k, IntKind.i64.wrap s, IntKind.i64.wrap y, IntKind.i64.wrap q, b⟩ : Page) = _
    rw [wrap_i64 (by omega) (by omega), wrap_i64 (by omega) (by omega), wrap_i64 (by omega) (by omega), wrap_i64 (by omega) (by omega)]
  rw [hl, if_neg (by simp), hp, h, if_neg (by simp)]
end Go.Proofs.YtfacgeappbgldaaGreatDoor.pg
