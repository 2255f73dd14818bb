/- A part of the proof. -/
import Derived.Test.YtneammhkgmkkfaaGreatPTpA
namespace Go.Proofs.YtneammhkgmkkfaaGreat.tr
open Go.RowKit Go.Proofs.YtneammhkgmkkfaaGreat.er
set_option linter.unusedVariables false
set_option linter.unusedSimpArgs false
theorem u8Info : (Tryz.prog.info? 5).map (fun i => (i.zero,i.size,i.bytes)) = some (some (.int .u8 0),1,1) := by kernel_rfl
theorem bytesOf_succ (k : Nat) (n : Int) : bytesOf (k + 1) n = bytesOf k n ++ [n / 256 ^ k % 256] := by
  unfold bytesOf
  rw [List.range_succ,List.map_append]
  rfl
set_option maxHeartbeats 8000000 in
set_option maxRecDepth 100000 in
theorem rfield_any (n : Int) (k : Nat) (w : World) (hk : 1 ≤ k) (hk4 : k ≤ 4) (h0 : 0 ≤ n) (h1 : n < 256 ^ k) (hn : n < 18446744073709551616) :
    Calls Tryz.prog 165 #[.int .u64 n,.int .i64 k] w fun e w' => e = .returned (.tuple #[.string (strOfNums (bytesOf k n)),.bool true]) ∧ Below w.heap.size w w' := by
  have hki : (k : Int) ≤ 4 := by omega
  have H0 := Lib.hid h0
  have H1 := Lib.hid h1
  have HNB := Lib.hid hn
  clear h0 h1 hn
  go_enter Tryz.func165,Tryz.ntmps165
  go_wp2_with fail
  go_loopw [0,6,7] (fun s0 s6 s7 wr => ∃ (j : Nat) (x : Int) (A : Option Addr) (c : Nat),j ≤ k ∧ s7 = .int .i64 j ∧ s0 = .int .u64 x ∧ s6 = .slice A j c ∧ Hid (x = n / 256 ^ j) ∧ Hid (wr.ownsRow w.heap.size 5 1 (.slice A j c) j ((bytesOf j n).map (Value.int .u8))) ∧ Hid (Below w.heap.size w wr)) (fun _ _ i _ => k - (intOf i).toNat)
  case atStart => exact ⟨0,n,none,0,by omega,rfl,rfl,rfl,by show n = n / 256 ^ 0; simp,⟨rfl,.inl ⟨rfl,rfl⟩⟩,Below.refl _ _⟩
  case round =>
    obtain ⟨j,x,A,c,hj,rfl,rfl,rfl,HX,HO,HB⟩ := hrel
    have hx : 0 ≤ x ∧ x < 18446744073709551616 := by
      rw [HX.out]
      have hp := pow256_pos j
      have h0 := H0.out
      have h1 := HNB.out
      exact ⟨Int.ediv_nonneg h0 (by omega),Int.lt_of_le_of_lt (Int.ediv_le_self _ h0) h1⟩
    obtain ⟨hx0,hx1⟩ := hx
    by_cases hlt : j < k
    · have hji : (j : Int) < (k : Int) := by omega
      obtain ⟨r,hr⟩ : ∃ r,x % 256 = r := ⟨_,rfl⟩
      obtain ⟨q,hq⟩ : ∃ q,x / 256 = q := ⟨_,rfl⟩
      have hr0 : 0 ≤ r ∧ r < 256 := by omega
      have hw8 : IntKind.u8.wrap r = r := by show r % 256 = r; omega
      have HR : Hid (r = n / 256 ^ j % 256) := by rw [← hr,HX.out]; exact rfl
      have HQ : Hid (q = n / 256 ^ (j + 1)) := by
        show _ = _
        rw [← hq,HX.out,Int.pow_succ,Int.ediv_ediv_of_nonneg (Int.le_of_lt (pow256_pos j))]
      have HOA := Lib.hid (HO.out.alloc (.cells #[.int .u8 r] 5))
      have HNW : Hid (∀ (j' : Nat) (u : Value),([.int .u8 r] : List Value)[j']? = some u → (wr.alloc (.cells #[.int .u8 r] 5)).cell? ((⟨wr.heap.size,0,none⟩ : Addr).add j') = some u) := World.news_of_block (by simpa using heap_alloc_new wr (.cells #[.int .u8 r] 5))
      have hone : ∀ u ∈ ([.int .u8 r] : List Value),u.oneCell' = true := by simp [Value.oneCell']
      have HONE := Lib.hid hone
      have HSZ2 : Hid (w.heap.size ≤ (wr.alloc (.cells #[.int .u8 r] 5)).heap.size) := by
        show _ ≤ _
        have := HB.out.size
        simp only [World.size_alloc]; omega
      have HSZ3 := Lib.hid HB.out.size
      obtain ⟨i0,hi0,hz0,hz1,hz2⟩ := info_parts u8Info
      have HI0 := Lib.hid hi0
      have HZ0 := Lib.hid hz0
      have HZ1 := Lib.hid hz1
      have HZ2 := Lib.hid hz2
      have hj4 : (j : Int) ≤ 4 := by omega
      clear hi0 hz0 hz1 hz2 hone
      go_wp2_with (at_builtin; go_must (refine wpList_append_own _ rfl (.tmp 13) (.tmp 17) 213 rfl w.heap.size 5 i0 _ 1 1 Tryz.underlying213 HI0.out HZ0.out HZ1.out HZ2.out rfl (by omega) (.slice A j c) j ((bytesOf j n).map (Value.int .u8)) rfl HOA.out ⟨wr.heap.size,0,none⟩ 1 1 [.int .u8 r] rfl rfl HNW.out HONE.out (by simp only [maxLen]; omega) (by omega) HSZ2.out ?_; intro v2 w6 hown6 hg6 _; have HO6 := Lib.hid hown6; have HB6 := Lib.hid (below_append HO.out hg6 HSZ3.out); obtain ⟨A2,c2',e2⟩ := own_slice hown6; subst e2; clear hown6 hg6))
      have hmeas : k - (intOf (.int .i64 ((j : Int) + 1))).toNat < k - (intOf (.int .i64 (j : Int))).toNat := by simp [intOf]; omega
      refine ⟨⟨j + 1,q,A2,c2',?_,?_,?_,rfl,HQ,?_,?_⟩,hmeas⟩
      · omega
      · go_num
      · first | rfl | (rw [← hq]; rfl) | simp [hq]
      · rw [bytesOf_succ,List.map_append,← HR.out,List.map_cons,List.map_nil]; with_reducible exact HO6
      · exact HB.out.trans HB6.out
    · obtain rfl : j = k := by omega
      have hx00 : x = 0 := by
        rw [HX.out]
        exact Int.ediv_eq_zero_of_lt H0.out H1.out
      subst hx00
      obtain ⟨g,rfl,_,hgl,hgf,hc,_⟩ := own_cell HO.out (by omega)
      have hcv := run_convert_bytes_arg (P := Tryz.prog) wr 213 5 Tryz.underlying213 Tryz.underlying5 g 0 j c (bytesOf j n) (bytesOf_length j n) (fun i hi => by
        have hi' : i < (bytesOf j n).length := by rw [bytesOf_length]; exact hi
        have := hc i (.int .u8 ((bytesOf j n)[i]'hi')) (by rw [List.getElem?_map,List.getElem?_eq_getElem hi']; rfl)
        rw [Nat.zero_add,this,List.getD_eq_getElem?_getD,List.getElem?_eq_getElem hi']
        rfl) 9 Tryz.underlying9
      clear hc hgl hgf HX HO
      go_wp2_with fail
      refine bodyPost_ret (v := .tuple #[.string (strOfNums (bytesOf j n)),.bool true]) (by simp [results,Tryz.results165,go_sem]) rfl ⟨rfl,HB.out⟩
set_option maxHeartbeats 4000000 in
set_option maxRecDepth 100000 in
theorem rput01_any (n : Int) (k : Nat) (w : World) (hk : 1 ≤ k) (hk4 : k ≤ 4) (h0 : 0 ≤ n) (h1 : n < 256 ^ k) (hn : n < 18446744073709551616) :
    Calls Tryz.prog 147 #[.int .u64 n,.int .i64 k] w fun e w' => e = .returned (.tuple #[.string (strOfNums (bytesOf k n)),.int .i64 0]) ∧ Below w.heap.size w w' := by
  have HF := Lib.hid (rfield_any n k w hk hk4 h0 h1 hn)
  have hki : (k : Int) ≤ 4 := by omega
  have hk1 : (1 : Int) ≤ (k : Int) := by omega
  obtain ⟨S,hS⟩ : ∃ S,strOfNums (bytesOf k n) = S := ⟨_,rfl⟩
  rw [hS] at HF ⊢
  clear hS
  go_enter Tryz.func147,Tryz.ntmps147
  go_wp2_with fail
  with_reducible refine HF.out.mono ?_
  rintro e w1 ⟨rfl,hb⟩
  have HB := Lib.hid hb
  clear hb
  go_wp2_with fail
  refine bodyPost_ret (v := .tuple #[.string S,.int .i64 0]) (by simp [results,Tryz.results147,go_sem]) rfl ⟨rfl,HB.out⟩
set_option maxHeartbeats 4000000 in
set_option maxRecDepth 100000 in
theorem rputn_any (n : Int) (k : Nat) (w : World) (hk : 1 ≤ k) (hk4 : k ≤ 4) (h0 : 0 ≤ n) (h1 : n < 256 ^ k) (hn : n < 4294967296) :
    Calls Tryz.prog 118 #[.int .i64 n,.int .i64 k] w fun e w' => e = .returned (.string (strOfNums (bytesOf k n))) ∧ Below w.heap.size w w' := by
  have HF := Lib.hid (rput01_any n k w hk hk4 h0 h1 (by omega))
  have hw : IntKind.u64.wrap n = n := wrap_u64 h0 (by omega)
  obtain ⟨S,hS⟩ : ∃ S,strOfNums (bytesOf k n) = S := ⟨_,rfl⟩
  rw [hS] at HF ⊢
  clear hS
  go_enter Tryz.func118,Tryz.ntmps118
  go_wp2_with fail
  with_reducible refine HF.out.mono ?_
  rintro e w1 ⟨rfl,hb⟩
  have HB := Lib.hid hb
  clear hb
  go_wp2_with fail
  go_ret
  exact ⟨rfl,HB.out⟩
end Go.Proofs.YtneammhkgmkkfaaGreat.tr
