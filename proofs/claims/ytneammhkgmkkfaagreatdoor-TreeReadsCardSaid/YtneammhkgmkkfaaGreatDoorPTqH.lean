/- A part of the proof. -/
import Derived.Test.YtneammhkgmkkfaaGreatDoorPTqG
import Derived.Test.YtneammhkgmkkfaaGreatDoorPTwA
import Derived.Shelf.Sort.Plain
import Derived.Sort.OwnSortedInts
namespace Go.Proofs.YtneammhkgmkkfaaGreatDoor.tr
open Go.RowKit Go.Proofs.YtneammhkgmkkfaaGreatDoor.er
set_option linter.unusedVariables false
set_option linter.unusedSimpArgs false
def SzOk (L : Bk) : Prop := ∀ p ∈ L,p.2.size ≤ 1000000
end Go.Proofs.YtneammhkgmkkfaaGreatDoor.tr
namespace Go.Proofs.YtneammhkgmkkfaaGreatDoor.tr
open Go.RowKit Go.Proofs.YtneammhkgmkkfaaGreatDoor.er
set_option linter.unusedVariables false
set_option linter.unusedSimpArgs false
def getF (bb : Nat) : Value := .func (.func 7) #[.pointer (some ⟨bb,0,none⟩)] #[]
def TreadPost (T : Tree) (w : World) (x : Ending) (w' : World) : Prop := ∃ p F,x = .returned (.tuple #[.pointer (some ⟨p,0,none⟩),.nilIface]) ∧ TrAt w' F p T ∧ (∀ k ∈ F,w.heap.size ≤ k) ∧ Below w.heap.size w w'
set_option maxHeartbeats 8000000 in
set_option maxRecDepth 100000 in
theorem tread_no (w : World) (g : Value) :
    Calls Tryz.prog 6 #[.int .i64 (-1),.int .i64 0,g] w (TreadPost .no w) := by
  have HNEW : Hid (Calls Tryz.prog 19 #[] w fun x w' => ∃ p,x = .returned (.pointer (some ⟨p,0,none⟩)) ∧ TreadPost .no w (.returned (.tuple #[.pointer (some ⟨p,0,none⟩),.nilIface])) w') := by
    refine (new_any w).mono ?_
    rintro x w' ⟨rfl,rfl⟩
    exact ⟨_,rfl,_,[w.heap.size],rfl,⟨rfl,Whole.new _ _ _⟩,by simp,(Below.refl _ _).alloc (Nat.le_refl _) _⟩
  go_enter Tryz.func6,Tryz.ntmps6
  go_wp2_with fail
  with_reducible refine HNEW.out.mono ?_
  rintro e w1 ⟨p,rfl,hp⟩
  have HP := Lib.hid hp
  clear hp
  go_wp2_with fail
  refine bodyPost_ret (v := .tuple #[.pointer (some ⟨p,0,none⟩),.nilIface]) (by simp [results,Tryz.results6,go_sem]) rfl HP.out
end Go.Proofs.YtneammhkgmkkfaaGreatDoor.tr
namespace Go.Proofs.YtneammhkgmkkfaaGreatDoor.tr
open Go.RowKit Go.Proofs.YtneammhkgmkkfaaGreatDoor.er
set_option linter.unusedVariables false
set_option linter.unusedSimpArgs false
theorem leN_snoc (s : ByteArray) : ∀ (k a : Nat),leN s a (k + 1) = leN s a k + 256 ^ k * byteAt s (a + k)
  | 0,a => by simp [leN]
  | k + 1,a => by
    have ih := leN_snoc s k (a + 1)
    show byteAt s a + 256 * leN s (a + 1) (k + 1) = byteAt s a + 256 * leN s (a + 1) k + 256 ^ (k + 1) * byteAt s (a + (k + 1))
    rw [ih,show a + 1 + k = a + (k + 1) by omega,Int.mul_add,Int.pow_succ,← Int.mul_assoc,Int.mul_comm 256 (256 ^ k)]
    omega
set_option maxHeartbeats 4000000 in
set_option maxRecDepth 100000 in
theorem rget_short (s : ByteArray) (a k : Nat) (w : World) (hk : 1 ≤ k) (hk8 : k ≤ 8) (ha : a ≤ 1000000000) (hs : s.size ≤ 70368744177664) (h : s.size < a + k) :
    Calls Tryz.prog 85 #[.string s,.int .i64 a,.int .i64 k] w fun e w' => e = .returned (.tuple #[.int .u64 0,.int .i64 5]) ∧ w = w' := by
  have k1 : (1 : Int) ≤ (k : Int) := by omega
  have k8 : (k : Int) ≤ 8 := by omega
  have a0 : (0 : Int) ≤ (a : Int) := by omega
  by_cases hc : s.size < a
  · have a1 : (s.size : Int) < (a : Int) := by omega
    have hb1 : decide (s.size < a) = true := by simp; omega
    have hb2 : decide ((s.size : Int) < (a : Int)) = true := by simp; omega
    go_enter Tryz.func85,Tryz.ntmps85
    go_wp2_with fail
    refine bodyPost_ret (v := .tuple #[.int .u64 0,.int .i64 5]) (by simp [results,Tryz.results85,go_sem]) rfl ⟨rfl,rfl⟩
  · have a1 : (a : Int) ≤ (s.size : Int) := by omega
    have h1 : (s.size : Int) - (a : Int) < (k : Int) := by omega
    have hb1 : decide (s.size < a) = false := by simp; omega
    have hb2 : decide ((s.size : Int) - (a : Int) < (k : Int)) = true := by simp; omega
    go_enter Tryz.func85,Tryz.ntmps85
    go_wp2_with fail
    refine bodyPost_ret (v := .tuple #[.int .u64 0,.int .i64 5]) (by simp [results,Tryz.results85,go_sem]) rfl ⟨rfl,rfl⟩
theorem pow_le3 {j : Nat} (h : j ≤ 3) : (256 : Int) ^ j ≤ 16777216 := by
  match j,h with
  | 0,_ => decide
  | 1,_ => decide
  | 2,_ => decide
  | 3,_ => decide
set_option maxHeartbeats 4000000 in
set_option maxRecDepth 100000 in
theorem rget_some (s : ByteArray) (a k : Nat) (w : World) (hk : 1 ≤ k) (hk4 : k ≤ 4) (hs : s.size ≤ 70368744177664) (h : a + k ≤ s.size) :
    Calls Tryz.prog 85 #[.string s,.int .i64 a,.int .i64 k] w fun e w' => e = .returned (.tuple #[.int .u64 (leN s a k),.int .i64 0]) ∧ w = w' := by
  have k1 : (1 : Int) ≤ (k : Int) := by omega
  have k8 : (k : Int) ≤ 8 := by omega
  have a0 : (0 : Int) ≤ (a : Int) := by omega
  have a1 : (a : Int) ≤ (s.size : Int) := by omega
  have h1 : (k : Int) ≤ (s.size : Int) - (a : Int) := by omega
  have hb0 : decide ((a : Int) < 0) = false := by simp
  have hb1 : decide (s.size < a) = false := by simp; omega
  have hb2 : decide ((s.size : Int) - (a : Int) < (k : Int)) = false := by simp; omega
  go_enter Tryz.func85,Tryz.ntmps85
  go_wp2_with fail
  go_loopw [8,9,10] (fun s8 s9 s10 wr => ∃ (j : Nat) (x P : Int),j ≤ k ∧ s10 = .int .i64 j ∧ s8 = .int .u64 x ∧ s9 = .int .u64 P ∧ Hid (x = leN s a j ∧ P = 256 ^ j) ∧ w = wr) (fun _ _ i _ => k - (intOf i).toNat)
  case atStart => exact ⟨0,0,1,by omega,rfl,rfl,rfl,⟨rfl,rfl⟩,rfl⟩
  case round =>
    obtain ⟨j,x,P,hj,rfl,rfl,rfl,hx,rfl⟩ := hrel
    by_cases hlt : j < k
    · have hji : (j : Int) < (k : Int) := by omega
      have hi1 : a + j < s.size := by omega
      have hi2 : (a : Int) + (j : Int) < (s.size : Int) := by omega
      obtain ⟨b,hb⟩ : ∃ b : Nat,s[a + j].toNat = b := ⟨_,rfl⟩
      have hb256 : b < 256 := by rw [← hb]; exact UInt8.toNat_lt _
      have hby : byteAt s (a + j) = (b : Int) := by unfold byteAt; rw [dif_pos hi1,hb]
      have hP : 0 < P ∧ P ≤ 16777216 := by rw [hx.out.2]; exact ⟨pow256_pos j,pow_le3 (by omega)⟩
      have hX : 0 ≤ x ∧ x < P := by rw [hx.out.1,hx.out.2]; exact leN_rng s j a
      have hPb : 0 ≤ P * (b : Int) ∧ P * (b : Int) ≤ 16777216 * 255 := ⟨Int.mul_nonneg (by omega) (by omega),Int.mul_le_mul hP.2 (by omega) (by omega) (by omega)⟩
      have HN : Hid (x + P * (b : Int) = leN s a (j + 1) ∧ P * 256 = 256 ^ (j + 1)) := by
        show _ ∧ _
        rw [leN_snoc,hby,hx.out.1,hx.out.2,Int.pow_succ]
        exact ⟨rfl,rfl⟩
      have hw1 : IntKind.u64.wrap (P * (b : Int)) = P * (b : Int) := wrap_u64 hPb.1 (by omega)
      have hw2 : IntKind.u64.wrap (x + P * (b : Int)) = x + P * (b : Int) := wrap_u64 (by omega) (by omega)
      have hw3 : IntKind.u64.wrap (P * 256) = P * 256 := wrap_u64 (by omega) (by omega)
      clear hx hby hP hX hPb
      go_wp2_with fail
      go_roundw
      case rel => exact ⟨j + 1,x + P * (b : Int),P * 256,by omega,by go_num,by first | rfl | simp [hw1,hw2],by first | rfl | simp [hw3],HN.out,trivial⟩
      case measure => simp [intOf] <;> omega
    · obtain rfl : j = k := by omega
      have HX := Lib.hid hx.out.1
      clear hx
      go_wp2_with fail
      refine bodyPost_ret (v := .tuple #[.int .u64 x,.int .i64 0]) (by simp [results,Tryz.results85,go_sem]) rfl ⟨by rw [HX.out],rfl⟩
def getZ (s : ByteArray) (a k : Nat) : Int := if a + k ≤ s.size then leN s a k else 0
theorem getZ_rng (s : ByteArray) (a k : Nat) (hk : k ≤ 4) : 0 ≤ getZ s a k ∧ getZ s a k < 4294967296 := by
  unfold getZ
  split
  · have := leN_rng s k a
    have h2 : (256 : Int) ^ k ≤ 4294967296 := by
      match k,hk with
      | 0,_ => decide
      | 1,_ => decide
      | 2,_ => decide
      | 3,_ => decide
      | 4,_ => decide
    omega
  · omega
set_option maxHeartbeats 4000000 in
set_option maxRecDepth 100000 in
theorem rgetz_any (s : ByteArray) (a k : Nat) (w : World) (hk : 1 ≤ k) (hk4 : k ≤ 4) (ha : a ≤ 1000000000) (hs : s.size ≤ 70368744177664) :
    Calls Tryz.prog 56 #[.string s,.int .i64 a,.int .i64 k] w fun e w' => e = .returned (.int .i64 (getZ s a k)) ∧ w = w' := by
  have HG : Hid (Calls Tryz.prog 85 #[.string s,.int .i64 a,.int .i64 k] w fun e w' => (∃ c : Int,e = .returned (.tuple #[.int .u64 (getZ s a k),.int .i64 c])) ∧ w = w') := by
    by_cases h : a + k ≤ s.size
    · refine (rget_some s a k w hk hk4 hs h).mono ?_
      rintro e w' ⟨rfl,rfl⟩
      exact ⟨⟨0,by unfold getZ; rw [if_pos h]⟩,rfl⟩
    · refine (rget_short s a k w hk (by omega) ha hs (by omega)).mono ?_
      rintro e w' ⟨rfl,rfl⟩
      exact ⟨⟨5,by unfold getZ; rw [if_neg h]⟩,rfl⟩
  have hr := getZ_rng s a k hk4
  obtain ⟨x,hx⟩ : ∃ x,getZ s a k = x := ⟨_,rfl⟩
  rw [hx] at HG hr ⊢
  obtain ⟨h0,h1⟩ := hr
  have hw : IntKind.i64.wrap x = x := by rw [IntKind.wrap_i64]; omega
  go_enter Tryz.func56,Tryz.ntmps56
  go_wp2_with fail
  with_reducible refine HG.out.mono ?_
  rintro e w1 ⟨⟨c,rfl⟩,rfl⟩
  go_wp2_with fail
  go_ret
  exact ⟨rfl,rfl⟩
end Go.Proofs.YtneammhkgmkkfaaGreatDoor.tr
namespace Go.Proofs.YtneammhkgmkkfaaGreatDoor.tr
open Go.RowKit Go.Proofs.YtneammhkgmkkfaaGreatDoor.er
set_option linter.unusedVariables false
set_option linter.unusedSimpArgs false
theorem u8Info : (Tryz.prog.info? 5).map (fun i => (i.zero,i.size,i.bytes)) = some (some (.int .u8 0),1,1) := by kernel_rfl
theorem bytesOf_succ (k : Nat) (n : Int) : bytesOf (k + 1) n = bytesOf k n ++ [n / 256 ^ k % 256] := by
  unfold bytesOf
  rw [List.range_succ,List.map_append]
  rfl
set_option maxHeartbeats 8000000 in
set_option maxRecDepth 100000 in
theorem rfield_any (n : Int) (k : Nat) (w : World) (hk : 1 ≤ k) (hk4 : k ≤ 4) (h0 : 0 ≤ n) (h1 : n < 256 ^ k) (hn : n < 18446744073709551616) :
    Calls Tryz.prog 137 #[.int .u64 n,.int .i64 k] w fun e w' => e = .returned (.tuple #[.string (strOfNums (bytesOf k n)),.bool true]) ∧ Below w.heap.size w w' := by
  have hki : (k : Int) ≤ 4 := by omega
  have H0 := Lib.hid h0
  have H1 := Lib.hid h1
  have HNB := Lib.hid hn
  clear h0 h1 hn
  go_enter Tryz.func137,Tryz.ntmps137
  go_wp2_with fail
  go_loopw [0,6,7] (fun s0 s6 s7 wr => ∃ (j : Nat) (x : Int) (A : Option Addr) (c : Nat),j ≤ k ∧ s7 = .int .i64 j ∧ s0 = .int .u64 x ∧ s6 = .slice A j c ∧ Hid (x = n / 256 ^ j) ∧ Hid (wr.ownsRow w.heap.size 5 1 (.slice A j c) j ((bytesOf j n).map (Value.int .u8))) ∧ Hid (Below w.heap.size w wr)) (fun _ _ i _ => k - (intOf i).toNat)
  case atStart => exact ⟨0,n,none,0,by omega,rfl,rfl,rfl,by show n = n / 256 ^ 0; simp,⟨rfl,.inl ⟨rfl,rfl⟩⟩,Below.refl _ _⟩
  case round =>
    obtain ⟨j,x,A,c,hj,rfl,rfl,rfl,HX,HO,HB⟩ := hrel
    have hx : 0 ≤ x ∧ x < 18446744073709551616 := by
      rw [HX.out]
      have hp := pow256_pos j
      have h0 := H0.out
      have h1 := HNB.out
      exact ⟨Int.ediv_nonneg h0 (by omega),Int.lt_of_le_of_lt (Int.ediv_le_self _ h0) h1⟩
    obtain ⟨hx0,hx1⟩ := hx
    by_cases hlt : j < k
    · have hji : (j : Int) < (k : Int) := by omega
      obtain ⟨r,hr⟩ : ∃ r,x % 256 = r := ⟨_,rfl⟩
      obtain ⟨q,hq⟩ : ∃ q,x / 256 = q := ⟨_,rfl⟩
      have hr0 : 0 ≤ r ∧ r < 256 := by omega
      have hw8 : IntKind.u8.wrap r = r := by show r % 256 = r; omega
      have HR : Hid (r = n / 256 ^ j % 256) := by rw [← hr,HX.out]; exact rfl
      have HQ : Hid (q = n / 256 ^ (j + 1)) := by
        show _ = _
        rw [← hq,HX.out,Int.pow_succ,Int.ediv_ediv_of_nonneg (Int.le_of_lt (pow256_pos j))]
      have HOA := Lib.hid (HO.out.alloc (.cells #[.int .u8 r] 5))
      have HNW : Hid (∀ (j' : Nat) (u : Value),([.int .u8 r] : List Value)[j']? = some u → (wr.alloc (.cells #[.int .u8 r] 5)).cell? ((⟨wr.heap.size,0,none⟩ : Addr).add j') = some u) := World.news_of_block (by simpa using heap_alloc_new wr (.cells #[.int .u8 r] 5))
      have hone : ∀ u ∈ ([.int .u8 r] : List Value),u.oneCell' = true := by simp [Value.oneCell']
      have HONE := Lib.hid hone
      have HSZ2 : Hid (w.heap.size ≤ (wr.alloc (.cells #[.int .u8 r] 5)).heap.size) := by
        show _ ≤ _
        have := HB.out.size
        simp only [World.size_alloc]; omega
      have HSZ3 := Lib.hid HB.out.size
      obtain ⟨i0,hi0,hz0,hz1,hz2⟩ := info_parts u8Info
      have HI0 := Lib.hid hi0
      have HZ0 := Lib.hid hz0
      have HZ1 := Lib.hid hz1
      have HZ2 := Lib.hid hz2
      have hj4 : (j : Int) ≤ 4 := by omega
      clear hi0 hz0 hz1 hz2 hone
      go_wp2_with (at_builtin; go_must (refine wpList_append_own _ rfl (.tmp 13) (.tmp 17) 208 rfl w.heap.size 5 i0 _ 1 1 Tryz.underlying208 HI0.out HZ0.out HZ1.out HZ2.out rfl (by omega) (.slice A j c) j ((bytesOf j n).map (Value.int .u8)) rfl HOA.out ⟨wr.heap.size,0,none⟩ 1 1 [.int .u8 r] rfl rfl HNW.out HONE.out (by simp only [maxLen]; omega) (by omega) HSZ2.out ?_; intro v2 w6 hown6 hg6 _; have HO6 := Lib.hid hown6; have HB6 := Lib.hid (below_append HO.out hg6 HSZ3.out); obtain ⟨A2,c2',e2⟩ := own_slice hown6; subst e2; clear hown6 hg6))
      have hmeas : k - (intOf (.int .i64 ((j : Int) + 1))).toNat < k - (intOf (.int .i64 (j : Int))).toNat := by simp [intOf]; omega
      refine ⟨⟨j + 1,q,A2,c2',?_,?_,?_,rfl,HQ,?_,?_⟩,hmeas⟩
      · omega
      · go_num
      · first | rfl | (rw [← hq]; rfl) | simp [hq]
      · rw [bytesOf_succ,List.map_append,← HR.out,List.map_cons,List.map_nil]; with_reducible exact HO6
      · exact HB.out.trans HB6.out
    · obtain rfl : j = k := by omega
      have hx00 : x = 0 := by
        rw [HX.out]
        exact Int.ediv_eq_zero_of_lt H0.out H1.out
      subst hx00
      obtain ⟨g,rfl,_,hgl,hgf,hc,_⟩ := own_cell HO.out (by omega)
      have hcv := run_convert_bytes_arg (P := Tryz.prog) wr 208 5 Tryz.underlying208 Tryz.underlying5 g 0 j c (bytesOf j n) (bytesOf_length j n) (fun i hi => by
        have hi' : i < (bytesOf j n).length := by rw [bytesOf_length]; exact hi
        have := hc i (.int .u8 ((bytesOf j n)[i]'hi')) (by rw [List.getElem?_map,List.getElem?_eq_getElem hi']; rfl)
        rw [Nat.zero_add,this,List.getD_eq_getElem?_getD,List.getElem?_eq_getElem hi']
        rfl) 9 Tryz.underlying9
      clear hc hgl hgf HX HO
      go_wp2_with fail
      refine bodyPost_ret (v := .tuple #[.string (strOfNums (bytesOf j n)),.bool true]) (by simp [results,Tryz.results137,go_sem]) rfl ⟨rfl,HB.out⟩
set_option maxHeartbeats 4000000 in
set_option maxRecDepth 100000 in
theorem rput01_any (n : Int) (k : Nat) (w : World) (hk : 1 ≤ k) (hk4 : k ≤ 4) (h0 : 0 ≤ n) (h1 : n < 256 ^ k) (hn : n < 18446744073709551616) :
    Calls Tryz.prog 109 #[.int .u64 n,.int .i64 k] w fun e w' => e = .returned (.tuple #[.string (strOfNums (bytesOf k n)),.int .i64 0]) ∧ Below w.heap.size w w' := by
  have HF := Lib.hid (rfield_any n k w hk hk4 h0 h1 hn)
  have hki : (k : Int) ≤ 4 := by omega
  have hk1 : (1 : Int) ≤ (k : Int) := by omega
  obtain ⟨S,hS⟩ : ∃ S,strOfNums (bytesOf k n) = S := ⟨_,rfl⟩
  rw [hS] at HF ⊢
  clear hS
  go_enter Tryz.func109,Tryz.ntmps109
  go_wp2_with fail
  with_reducible refine HF.out.mono ?_
  rintro e w1 ⟨rfl,hb⟩
  have HB := Lib.hid hb
  clear hb
  go_wp2_with fail
  refine bodyPost_ret (v := .tuple #[.string S,.int .i64 0]) (by simp [results,Tryz.results109,go_sem]) rfl ⟨rfl,HB.out⟩
set_option maxHeartbeats 4000000 in
set_option maxRecDepth 100000 in
theorem rputn_any (n : Int) (k : Nat) (w : World) (hk : 1 ≤ k) (hk4 : k ≤ 4) (h0 : 0 ≤ n) (h1 : n < 256 ^ k) (hn : n < 4294967296) :
    Calls Tryz.prog 87 #[.int .i64 n,.int .i64 k] w fun e w' => e = .returned (.string (strOfNums (bytesOf k n))) ∧ Below w.heap.size w w' := by
  have HF := Lib.hid (rput01_any n k w hk hk4 h0 h1 (by omega))
  have hw : IntKind.u64.wrap n = n := wrap_u64 h0 (by omega)
  obtain ⟨S,hS⟩ : ∃ S,strOfNums (bytesOf k n) = S := ⟨_,rfl⟩
  rw [hS] at HF ⊢
  clear hS
  go_enter Tryz.func87,Tryz.ntmps87
  go_wp2_with fail
  with_reducible refine HF.out.mono ?_
  rintro e w1 ⟨rfl,hb⟩
  have HB := Lib.hid hb
  clear hb
  go_wp2_with fail
  go_ret
  exact ⟨rfl,HB.out⟩
end Go.Proofs.YtneammhkgmkkfaaGreatDoor.tr
