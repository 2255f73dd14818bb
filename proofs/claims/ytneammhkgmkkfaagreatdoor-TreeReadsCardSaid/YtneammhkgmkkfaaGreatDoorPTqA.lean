/- A part of the proof. -/
import Derived.Test.YtneammhkgmkkfaaGreatDoorPTsMg
import Derived.Laws.BitsAllLaws
namespace Go.Proofs.YtneammhkgmkkfaaGreatDoor.tr
open Go.RowKit Go.Proofs.YtneammhkgmkkfaaGreatDoor.er
set_option linter.unusedVariables false
set_option linter.unusedSimpArgs false
def byteAt (s : ByteArray) (i : Nat) : Int := if h : i < s.size then s[i].toNat else 0
def getStep (x b : Int) : Int := bits .or .u64 (IntKind.u64.wrap (x * 256)) (IntKind.u64.wrap b)
def getN (s : ByteArray) (a k : Nat) : Nat → Int
  | 0 => 0
  | d + 1 => getStep (getN s a k d) (byteAt s (a + (k - 1 - d)))
set_option maxHeartbeats 4000000 in
set_option maxRecDepth 100000 in
theorem get_short (s : ByteArray) (a k : Nat) (w : World) (hk : 1 ≤ k) (hk8 : k ≤ 8) (ha : a ≤ s.size) (hs : s.size ≤ 70368744177664) (h : s.size < a + k) :
    Calls Tryz.prog 134 #[.string s,.int .i64 a,.int .i64 k] w fun e w' => e = .returned (.tuple #[.int .u64 0,.int .i64 5]) ∧ w = w' := by
  have k1 : (1 : Int) ≤ (k : Int) := by omega
  have k8 : (k : Int) ≤ 8 := by omega
  have a0 : (0 : Int) ≤ (a : Int) := by omega
  have a1 : (a : Int) ≤ (s.size : Int) := by omega
  have h1 : (s.size : Int) - (a : Int) < (k : Int) := by omega
  go_enter Tryz.func134,Tryz.ntmps134
  go_wp2_with fail
  refine (width_any k _).mono ?_
  rintro e w' ⟨rfl,rfl⟩
  go_wp2_with fail
  refine bodyPost_ret (v := .tuple #[.int .u64 0,.int .i64 5]) (by simp [results,Tryz.results134,go_sem]) rfl ⟨rfl,rfl⟩
set_option maxHeartbeats 4000000 in
set_option maxRecDepth 100000 in
theorem get_some (s : ByteArray) (a k : Nat) (w : World) (hk : 1 ≤ k) (hk8 : k ≤ 8) (hs : s.size ≤ 70368744177664) (h : a + k ≤ s.size) :
    Calls Tryz.prog 134 #[.string s,.int .i64 a,.int .i64 k] w fun e w' => e = .returned (.tuple #[.int .u64 (getN s a k k),.int .i64 0]) ∧ w = w' := by
  have k1 : (1 : Int) ≤ (k : Int) := by omega
  have k8 : (k : Int) ≤ 8 := by omega
  have a0 : (0 : Int) ≤ (a : Int) := by omega
  have a1 : (a : Int) ≤ (s.size : Int) := by omega
  have h1 : (k : Int) ≤ (s.size : Int) - (a : Int) := by omega
  have hb0 : decide ((a : Int) < 0) = false := by simp
  have hb1 : decide (s.size < a) = false := by simp; omega
  have hb2 : decide ((s.size : Int) - (a : Int) < (k : Int)) = false := by simp; omega
  go_enter Tryz.func134,Tryz.ntmps134
  go_wp2_with fail
  refine (width_any k _).mono ?_
  rintro e w' ⟨rfl,rfl⟩
  go_wp2_with fail
  go_loopw [8,9] (fun nv i wr => ∃ (d : Nat) (x : Int),d ≤ k ∧ i = .int .i64 ((k : Int) - 1 - (d : Int)) ∧ nv = .int .u64 x ∧ 0 ≤ x ∧ x < 18446744073709551616 ∧ Hid (x = getN s a k d) ∧ w = wr) (fun _ i _ => (intOf i + 1).toNat)
  case atStart => exact ⟨0,0,by omega,by simp,rfl,by omega,by omega,rfl,rfl⟩
  case round =>
    obtain ⟨d,x,hd,rfl,rfl,hx0,hx1,hx,rfl⟩ := hrel
    by_cases hlt : d < k
    · obtain ⟨i,hi⟩ : ∃ i : Nat,a + i < s.size ∧ (k : Int) - 1 - (d : Int) = (i : Int) ∧ k - 1 - d = i := ⟨k - 1 - d,by omega,by omega,rfl⟩
      obtain ⟨hi1,hi2,hi3⟩ := hi
      rw [hi2]
      have HN : Hid (getStep x s[a + i].toNat = getN s a k (d + 1)) := by show _ = getStep _ _; rw [hi3,← hx.out]; unfold byteAt; rw [dif_pos hi1]
      have HI2 := Lib.hid hi2
      have HL1 := Lib.hid (bits_within .or .u64 (IntKind.u64.wrap (x * 256)) (IntKind.u64.wrap s[a + i].toNat))
      clear hi2 hi3
      have i0 : (0 : Int) ≤ (i : Int) := by omega
      have i1 : (a : Int) + (i : Int) < (s.size : Int) := by omega
      go_wp2_with fail
      go_roundw
      case rel => exact ⟨d + 1,getStep x s[a + i].toNat,by omega,by rw [← HI2.out]; congr 1; push_cast; omega,rfl,HL1.out.1,by have := HL1.out.2; exact Int.lt_of_le_of_lt this (by decide),HN.out,trivial⟩
      case measure => simp [intOf] <;> omega
    · obtain rfl : d = k := by omega
      have HX : Hid (x = getN s a d d) := hx.out
      clear hx
      have e : (d : Int) - 1 - (d : Int) = -1 := by omega
      rw [e]
      go_wp2_with fail
      refine bodyPost_ret (v := .tuple #[.int .u64 x,.int .i64 0]) (by simp [results,Tryz.results134,go_sem]) rfl ⟨by rw [HX.out],rfl⟩
theorem wrap_u64 {n : Int} (h0 : 0 ≤ n) (h1 : n < 18446744073709551616) : IntKind.u64.wrap n = n := by
  show n % 18446744073709551616 = n
  omega
theorem getStep_eq (x b : Int) (h0 : 0 ≤ x) (h1 : x < 72057594037927936) (h2 : 0 ≤ b) (h3 : b < 256) : getStep x b = x * 256 + b := by
  unfold getStep
  rw [wrap_u64 (by omega) (by omega),wrap_u64 (by omega) (by omega),u64_or _ _ (by omega) (by omega) h2 (by omega)]
  obtain ⟨m,rfl⟩ : ∃ m : Nat,x = (m : Int) := ⟨x.toNat,by omega⟩
  obtain ⟨c,rfl⟩ : ∃ c : Nat,b = (c : Int) := ⟨b.toNat,by omega⟩
  have e1 : ((m : Int) * 256).toNat = m <<< 8 := by rw [Nat.shiftLeft_eq]; omega
  rw [e1,Int.toNat_natCast,← Nat.shiftLeft_add_eq_or_of_lt (show c < 2 ^ 8 by omega),Nat.shiftLeft_eq,show (2 : Nat) ^ 8 = 256 from rfl]
  omega
theorem pow256_pos (k : Nat) : (0 : Int) < 256 ^ k := Int.pow_pos (by decide)
theorem getN_bytes (s : ByteArray) (a k : Nat) (n : Int) (h0 : 0 ≤ n) (h1 : n < 256 ^ k) (hk : k ≤ 7) (hb : ∀ i,i < k → byteAt s (a + i) = n / 256 ^ i % 256) : ∀ d,d ≤ k → getN s a k d = n / 256 ^ (k - d)
  | 0,_ => by
    show 0 = n / 256 ^ k
    rw [Int.ediv_eq_zero_of_lt h0 h1]
  | d + 1,hd => by
    have ih := getN_bytes s a k n h0 h1 hk hb d (by omega)
    show getStep (getN s a k d) (byteAt s (a + (k - 1 - d))) = _
    rw [ih,hb _ (by omega)]
    have e : k - d = (k - 1 - d) + 1 := by omega
    have e2 : k - (d + 1) = k - 1 - d := by omega
    rw [e2,e,Int.pow_succ,← Int.ediv_ediv_of_nonneg (Int.le_of_lt (pow256_pos _))]
    obtain ⟨y,hy⟩ : ∃ y,n / 256 ^ (k - 1 - d) = y := ⟨_,rfl⟩
    have hy0 : 0 ≤ y := by rw [← hy]; exact Int.ediv_nonneg h0 (Int.le_of_lt (pow256_pos _))
    have hy1 : y ≤ n := by rw [← hy]; exact Int.ediv_le_self _ h0
    have hn : n < 72057594037927936 := by
      have h7 : ∀ k,k ≤ 7 → (256 : Int) ^ k ≤ 72057594037927936 := by decide
      have := h7 k hk
      omega
    rw [hy,getStep_eq _ _ (by omega) (by omega) (by omega) (by omega)]
    omega
theorem byte_mod (x : Int) (h0 : 0 ≤ x) (h1 : x < 256) : ((UInt8.ofNat x.toNat).toNat : Int) = x := by
  rw [UInt8.toNat_ofNat']
  omega
def leN (s : ByteArray) : Nat → Nat → Int
  | _,0 => 0
  | a,k + 1 => byteAt s a + 256 * leN s (a + 1) k
theorem byteAt_rng (s : ByteArray) (i : Nat) : 0 ≤ byteAt s i ∧ byteAt s i < 256 := by
  unfold byteAt
  split
  · have := UInt8.toNat_lt s[i]
    omega
  · omega
theorem leN_rng (s : ByteArray) : ∀ (k a : Nat),0 ≤ leN s a k ∧ leN s a k < 256 ^ k
  | 0,a => by show (0 : Int) ≤ 0 ∧ (0 : Int) < 256 ^ 0; omega
  | k + 1,a => by
    have ih := leN_rng s k (a + 1)
    have hb := byteAt_rng s a
    show 0 ≤ byteAt s a + 256 * leN s (a + 1) k ∧ byteAt s a + 256 * leN s (a + 1) k < 256 ^ (k + 1)
    rw [Int.pow_succ]
    omega
theorem leN_digit (s : ByteArray) : ∀ (k a i : Nat),i < k → byteAt s (a + i) = leN s a k / 256 ^ i % 256
  | 0,a,i,h => by omega
  | k + 1,a,0,h => by
    have hb := byteAt_rng s a
    show byteAt s a = (byteAt s a + 256 * leN s (a + 1) k) / 256 ^ 0 % 256
    rw [Int.pow_zero,Int.ediv_one]
    omega
  | k + 1,a,i + 1,h => by
    have ih := leN_digit s k (a + 1) i (by omega)
    have hb := byteAt_rng s a
    show byteAt s (a + (i + 1)) = (byteAt s a + 256 * leN s (a + 1) k) / 256 ^ (i + 1) % 256
    rw [show a + (i + 1) = a + 1 + i by omega,ih,Int.pow_succ,Int.mul_comm (256 ^ i) 256,← Int.ediv_ediv_of_nonneg (by omega)]
    congr 2
    omega
theorem getN_le (s : ByteArray) (a k : Nat) (hk : k ≤ 7) : getN s a k k = leN s a k := by
  have h := leN_rng s k a
  have := getN_bytes s a k (leN s a k) h.1 h.2 hk (fun i hi => leN_digit s k a i hi) k (Nat.le_refl _)
  rw [this,Nat.sub_self,Int.pow_zero,Int.ediv_one]
theorem leN_of (s : ByteArray) (a k : Nat) (n : Int) (h0 : 0 ≤ n) (h1 : n < 256 ^ k) (hk : k ≤ 7) (hb : ∀ i,i < k → byteAt s (a + i) = n / 256 ^ i % 256) : leN s a k = n := by
  rw [← getN_le s a k hk,getN_bytes s a k n h0 h1 hk hb k (Nat.le_refl _),Nat.sub_self,Int.pow_zero,Int.ediv_one]
theorem byteAt_extract (s : ByteArray) (a i : Nat) (h : a + i < s.size) : byteAt (s.extract a s.size) i = byteAt s (a + i) := by
  unfold byteAt
  have h1 : i < (s.extract a s.size).size := by rw [ByteArray.size_extract]; omega
  rw [dif_pos h1,dif_pos h]
  congr 2
  exact ByteArray.getElem_extract h1
theorem leN_extract (s : ByteArray) (a : Nat) : ∀ (k o : Nat),a + o + k ≤ s.size → leN (s.extract a s.size) o k = leN s (a + o) k
  | 0,_,_ => rfl
  | k + 1,o,h => by
    show byteAt _ o + 256 * leN _ (o + 1) k = byteAt s (a + o) + 256 * leN s (a + o + 1) k
    rw [byteAt_extract s a o (by omega),leN_extract s a k (o + 1) (by omega)]
    rfl
def offW (ws : List Nat) (j : Nat) : Nat := (ws.take j).sum
def numsW (s : ByteArray) (ws : List Nat) (j : Nat) : List Value := (List.range j).map fun i => .int .u64 (leN s (offW ws i) (ws.getD i 0))
theorem offW_succ {ws : List Nat} {j k : Nat} (h : ws[j]? = some k) : offW ws (j + 1) = offW ws j + k := by
  unfold offW
  rw [List.take_add_one,h]
  simp
theorem offW_le {ws : List Nat} (h : ∀ k ∈ ws,k ≤ 4) : ∀ j,offW ws j ≤ 4 * j
  | 0 => by simp [offW]
  | j + 1 => by
    have ih := offW_le h j
    cases hk : ws[j]? with
    | none => unfold offW at ih ⊢; rw [List.take_add_one,hk]; simp; omega
    | some k => rw [offW_succ hk]; have := h k (List.mem_of_getElem? hk); omega
theorem offW_all (ws : List Nat) (n : Nat) (h : ws.length = n) : offW ws n = ws.sum := by unfold offW; rw [← h,List.take_length]
theorem offW_mono (ws : List Nat) : ∀ (i d : Nat),offW ws i ≤ offW ws (i + d)
  | i,0 => Nat.le_refl _
  | i,d + 1 => by
    have := offW_mono ws i d
    unfold offW at this ⊢
    rw [← Nat.add_assoc,List.take_add_one,List.sum_append]
    omega
theorem numsW_succ {s : ByteArray} {ws : List Nat} {j k : Nat} (h : ws[j]? = some k) : numsW s ws (j + 1) = numsW s ws j ++ [.int .u64 (leN s (offW ws j) k)] := by
  unfold numsW
  rw [List.range_succ,List.map_append]
  simp [List.getD,h]
theorem u64Info : (Tryz.prog.info? 160).map (fun i => (i.zero,i.size,i.bytes)) = some (some (.int .u64 0),1,8) := by kernel_rfl
def TakeRet (s : ByteArray) (ws : List Nat) (w : World) (x : Ending) (w' : World) : Prop :=
  (ws.sum ≤ s.size ∧ ∃ A c,x = .returned (.tuple #[.slice A ws.length c,.string (s.extract ws.sum s.size),.int .i64 0]) ∧ w'.ownsRow w.heap.size 160 1 (.slice A ws.length c) ws.length (numsW s ws ws.length) ∧ Below w.heap.size w w') ∨
  (s.size < ws.sum ∧ x = .returned (.tuple #[.slice none 0 0,.string ⟨#[]⟩,.int .i64 5]) ∧ Below w.heap.size w w')
set_option maxHeartbeats 4000000 in
set_option maxRecDepth 100000 in
theorem takeW_any (s : ByteArray) (ws : List Nat) (gw cw : Nat) (w : World) (hw : WidAt w gw (ws.map fun k => (k,0))) (h1 : ∀ k ∈ ws,1 ≤ k) (h4 : ∀ k ∈ ws,k ≤ 4) (h8 : ws.length ≤ 8) (hs : s.size ≤ 70368744177664) :
    Calls Tryz.prog 103 #[.string s,.slice (some ⟨gw,0,none⟩) ws.length cw] w (TakeRet s ws w) := by
  have hfit : FitL (ws.map fun k => (k,(0 : Int))) := by
    refine ⟨fun p hp => ?_,fun p hp => ?_,fun p hp => ?_,fun p hp => ?_,by rw [List.length_map]; exact h8⟩
    all_goals (obtain ⟨k,hk,rfl⟩ := List.mem_map.1 hp)
    · exact h1 k hk
    · exact h4 k hk
    · exact Int.le_refl _
    · exact Int.pow_pos (by decide)
  have HCO := Lib.hid (containsW gw cw _ w hw hfit ws.length (by rw [List.length_map]))
  have HW : Hid (∀ (j k : Nat),ws[j]? = some k → w.cell? ⟨gw,j,none⟩ = some (.int .i64 k)) := fun j k hk => hw j (k,0) (by rw [List.getElem?_map,hk]; rfl)
  have HK := Lib.hid (fun (j k : Nat) (h : ws[j]? = some k) => (show 1 ≤ k ∧ k ≤ 4 from ⟨h1 k (List.mem_of_getElem? h),h4 k (List.mem_of_getElem? h)⟩))
  have HLE := Lib.hid (offW_le h4)
  have HALL := Lib.hid (offW_all ws ws.length rfl)
  have HMO : Hid (∀ j,j ≤ ws.length → offW ws j ≤ ws.sum) := fun j hj => by
    rw [← offW_all ws ws.length rfl]
    have := offW_mono ws j (ws.length - j)
    rw [show j + (ws.length - j) = ws.length by omega] at this
    exact this
  have HRET : Hid (∀ x w',TakeRet s ws w x w' ↔ ((ws.sum ≤ s.size ∧ ∃ A c,x = .returned (.tuple #[.slice A ws.length c,.string (s.extract ws.sum s.size),.int .i64 0]) ∧ w'.ownsRow w.heap.size 160 1 (.slice A ws.length c) ws.length (numsW s ws ws.length) ∧ Below w.heap.size w w') ∨
  (s.size < ws.sum ∧ x = .returned (.tuple #[.slice none 0 0,.string ⟨#[]⟩,.int .i64 5]) ∧ Below w.heap.size w w'))) := fun x w' => Iff.rfl
  obtain ⟨n,hn⟩ : ∃ n,ws.length = n := ⟨_,rfl⟩
  have HN := Lib.hid hn
  rw [hn] at HCO h8 HALL HMO HRET ⊢
  have h8i : (n : Int) ≤ 8 := by omega
  obtain ⟨i0,hi0,hz0,hz1,hz2⟩ := info_parts u64Info
  have HI0 := Lib.hid hi0
  have HZ0 := Lib.hid hz0
  have HZ1 := Lib.hid hz1
  have HZ2 := Lib.hid hz2
  have HS := Lib.hid hs
  have hsi : (s.size : Int) ≤ 70368744177664 := by omega
  clear hw h1 h4 hfit hn hi0 hz0 hz1 hz2 hs
  go_enter Tryz.func103,Tryz.ntmps103
  go_wp2_with fail
  with_reducible refine HCO.out.mono ?_
  rintro e w2 ⟨rfl,rfl⟩
  go_wp2_with fail
  go_loopw [4,7,9,10,11,16] (fun nv av s9 s10 s11 i wr => ∃ (j : Nat) (A : Option Addr) (c o : Nat),j ≤ n ∧ nv = .slice A j c ∧ av = .int .i64 o ∧ Hid (o = offW ws j) ∧ o ≤ s.size ∧ i = .int .i64 j ∧ Hid (wr.ownsRow w.heap.size 160 1 (.slice A j c) j (numsW s ws j)) ∧ Hid (Below w.heap.size w wr)) (fun _ _ _ _ _ i _ => n - (intOf i).toNat)
  case atStart => exact ⟨0,none,0,0,Nat.zero_le _,rfl,rfl,rfl,Nat.zero_le _,rfl,⟨rfl,.inl ⟨rfl,rfl⟩⟩,Below.refl _ _⟩
  case round =>
    obtain ⟨j,A,c,o,hj,rfl,rfl,HOF,hos,rfl,HOWN,HBEL⟩ := hrel
    have hosi : (o : Int) ≤ (s.size : Int) := by omega
    by_cases hlt : j < n
    · have hji : (j : Int) < (n : Int) := by omega
      obtain ⟨k,hk⟩ : ∃ k,ws[j]? = some k := ⟨_,List.getElem?_eq_getElem (by rw [HN.out]; exact hlt)⟩
      have c0 := below_c HBEL.out (HW.out j k hk)
      obtain ⟨k1,k4⟩ := HK.out j k hk
      have HOS : Hid (o + k = offW ws (j + 1)) := by show _ = _; rw [offW_succ hk,HOF.out]
      have HNS : Hid (numsW s ws (j + 1) = numsW s ws j ++ [.int .u64 (leN s o k)]) := by show _ = _; rw [numsW_succ hk,HOF.out]
      have k4i : (k : Int) ≤ 4 := by omega
      have k1i : (1 : Int) ≤ (k : Int) := by omega
      clear hk
      by_cases hsk : o + k ≤ s.size
      · have HG : Hid (Calls Tryz.prog 134 #[.string s,.int .i64 o,.int .i64 k] wr fun e w' => e = .returned (.tuple #[.int .u64 (leN s o k),.int .i64 0]) ∧ wr = w') := by
          have := get_some s o k wr k1 (by omega) HS.out hsk
          rw [getN_le s o k (by omega)] at this
          exact this
        obtain ⟨x,hx⟩ : ∃ x,leN s o k = x := ⟨_,rfl⟩
        rw [hx] at HG HNS
        have hone : ∀ u ∈ [Value.int .u64 x],u.oneCell' = true := by simp [Value.oneCell']
        have HONE := Lib.hid hone
        have HO1 := Lib.hid (HOWN.out.alloc (.cells #[.int .u64 x] 160))
        have HSZ : Hid (w.heap.size ≤ (wr.alloc (.cells #[.int .u64 x] 160)).heap.size) := by show _ ≤ _; have := HBEL.out.size; simp only [World.size_alloc]; omega
        have hoki : (o : Int) + (k : Int) ≤ (s.size : Int) := by omega
        clear hone hx
        go_wp2_with fail
        refine HG.out.mono ?_
        rintro e w2 ⟨rfl,rfl⟩
        go_wp2_with (at_builtin; go_must (refine wpList_append_own _ rfl (.tmp 30) (.tmp 32) 159 rfl w.heap.size 160 i0 _ 1 8 Tryz.underlying159 HI0.out HZ0.out HZ1.out HZ2.out rfl (by omega) (.slice A j c) j (numsW s ws j) rfl HO1.out ⟨wr.heap.size,0,none⟩ 1 1 [.int .u64 x] rfl rfl (cell_one_new' _ _ _) HONE.out (by simp only [maxLen]; omega) (by omega) HSZ.out ?_; intro v2 w2 hown2 hg2 _; have HO2 := Lib.hid hown2; have HB2 := Lib.hid (below_append HOWN.out hg2 HBEL.out.size); obtain ⟨A2,c2,e2⟩ := own_slice hown2; subst e2; clear hown2 hg2))
        go_roundw
        case rel => exact ⟨j + 1,A2,c2,o + k,by omega,rfl,by show _ = Value.int .i64 _; push_cast; go_num,HOS.out,by omega,by go_num,by rw [HNS.out]; with_reducible exact HO2,HBEL.out.trans (HB2.out)⟩
        case measure => simp [intOf]; omega
      · have HG : Hid (Calls Tryz.prog 134 #[.string s,.int .i64 o,.int .i64 k] wr fun e w' => e = .returned (.tuple #[.int .u64 0,.int .i64 5]) ∧ wr = w') := get_short s o k wr k1 (by omega) hos HS.out (by omega)
        have HEND : Hid (TakeRet s ws w (.returned (.tuple #[.slice none 0 0,.string ⟨#[]⟩,.int .i64 5])) wr) := by
          refine (HRET.out _ _).2 (.inr ⟨?_,rfl,HBEL.out⟩)
          have := HMO.out (j + 1) (by omega)
          have := HOS.out
          omega
        go_wp2_with fail
        refine HG.out.mono ?_
        rintro e w2 ⟨rfl,rfl⟩
        go_wp2_with fail
        refine bodyPost_ret (v := .tuple #[.slice none 0 0,.string ⟨#[]⟩,.int .i64 5]) (by simp [results,Tryz.results103,go_sem]) rfl HEND.out
    · obtain rfl : j = n := by omega
      have HEND : Hid (∀ m,TakeRet s ws w (.returned (.tuple #[.slice A j c,.string (s.extract o s.size),.int .i64 0])) (wr.drewN m)) := by
        intro m
        have h1 := HALL.out
        have h2 := HOF.out
        refine (HRET.out _ _).2 (.inl ⟨by omega,A,c,by rw [show o = ws.sum by omega],?_,below_drewN HBEL.out m⟩)
        exact own_keep HOWN.out (Keep.drewN (Keep.refl (fun _ => False) _) m) (fun _ _ h => h)
      go_wp2_with fail
      go_quiet (fail)
      go_wp2_with fail
      refine bodyPost_ret (v := .tuple #[.slice A j c,.string (s.extract o s.size),.int .i64 0]) (by simp [results,Tryz.results103,go_sem]) rfl (HEND.out _)
end Go.Proofs.YtneammhkgmkkfaaGreatDoor.tr
