/- A part of the proof. -/
import Derived.Test.YtneammhkgmkkfaaGreatPTpC
namespace Go.Proofs.YtneammhkgmkkfaaGreat.tr
open Go.RowKit Go.Proofs.YtneammhkgmkkfaaGreat.er
set_option linter.unusedVariables false
set_option linter.unusedSimpArgs false
set_option maxHeartbeats 8000000 in
set_option maxRecDepth 100000 in
theorem leafy_ok (l : List Ext) (v : Value) (w : World) (h : ExtsAt w v l) (hl : Chk l) (h1 : 1 ≤ l.length) (h8 : l.length ≤ 8) :
    Calls Tryz.prog 117 #[v] w fun x w' => x = .returned (.bool true) ∧ Below w.heap.size w w' := by
  have HCK := Lib.hid (rcheck_ok l v w h hl)
  obtain ⟨A,c,rfl,hc⟩ := h
  have HC := Lib.hid hc
  obtain ⟨n,hn⟩ : ∃ n,l.length = n := ⟨_,rfl⟩
  rw [hn] at h1 h8 HCK
  have HN := Lib.hid hn
  rw [hn]
  have HL := Lib.hid hl
  have hni : (n : Int) ≤ 8 := by omega
  have hn1 : (1 : Int) ≤ (n : Int) := by omega
  clear hc hn hl
  go_enter Tryz.func117,Tryz.ntmps117
  go_wp2_with fail
  go_loopw [3] (fun i wr => ∃ (j : Nat),j ≤ n ∧ i = .int .i64 j ∧ w = wr) (fun i _ => n - (intOf i).toNat)
  case atStart => exact ⟨0,Nat.zero_le _,rfl,rfl⟩
  case round =>
    obtain ⟨j,hj,rfl,rfl⟩ := hrel
    by_cases hlt : j < n
    · have hji : (j : Int) < (n : Int) := by omega
      obtain ⟨g,o,rfl,hcc⟩ := HC.out (by have := HN.out; omega)
      obtain ⟨e,hx⟩ : ∃ e,l[j]? = some e := ⟨l[j]'(by have := HN.out; omega),List.getElem?_eq_getElem (by have := HN.out; omega)⟩
      obtain ⟨c0,c1,c2,c3⟩ := hcc j e hx
      have ho := one_spec (HL.out.one e (List.mem_of_getElem? hx))
      obtain ⟨f,en,k,t⟩ := e
      simp only at c0 c1 c2 c3 ho
      have ht : ¬ 2047 < t := by omega
      have ht2 : decide (2047 < t) = false := by simp; omega
      clear hcc hx ho
      go_wp2_with fail
      go_roundw
      case rel => exact ⟨j + 1,by omega,by go_num,trivial⟩
      case measure => simp [intOf]; omega
    · obtain rfl : j = n := by omega
      go_wp2_with fail
      with_reducible refine HCK.out.mono ?_
      rintro e w5 ⟨rfl,hb5⟩
      have HB5 := Lib.hid hb5
      clear hb5
      go_wp2_with fail
      go_ret
      exact ⟨rfl,HB5.out⟩
theorem str_nums (k : Nat) (n : Int) : strOfNums (bytesOf k n) = ⟨((bytesOf k n).map fun x => UInt8.ofNat x.toNat).toArray⟩ := by
  unfold strOfNums
  simp
theorem row_strs (S : List UInt8) (e : Ext) : (⟨S.toArray⟩ : ByteArray) ++ strOfNums (bytesOf 3 e.fr) ++ strOfNums (bytesOf 4 e.n) ++ strOfNums (bytesOf 1 e.kind) ++ strOfNums (bytesOf 2 e.at_) = ⟨(S ++ extRow e).toArray⟩ := by
  rw [str_nums,str_nums,str_nums,str_nums,str_app,str_app,str_app,str_app]
  congr 2
  simp [extRow,rowB,extNums,List.append_assoc]
set_option maxHeartbeats 16000000 in
set_option maxRecDepth 100000 in
theorem rleaf_ok (l : List Ext) (v : Value) (w : World) (h : ExtsAt w v l) (hl : Chk l) (h1 : 1 ≤ l.length) (h8 : l.length ≤ 8) :
    Calls Tryz.prog 81 #[v] w fun x w' => x = .returned (.tuple #[.string ⟨(leafL l).toArray⟩,.int .i64 0]) ∧ Below w.heap.size w w' := by
  have HLF := Lib.hid (leafy_ok l v w h hl h1 h8)
  have HP0 : Hid (∀ wq,Calls Tryz.prog 118 #[.int .i64 l.length,.int .i64 1] wq fun e w' => e = .returned (.string ⟨([UInt8.ofNat l.length] : List UInt8).toArray⟩) ∧ Below wq.heap.size wq w') := by
    intro wq
    have := rputn_any (l.length : Int) 1 wq (by omega) (by omega) (by omega) (by omega) (by omega)
    rw [str_nums] at this
    have e : ((bytesOf 1 (l.length : Int)).map fun x => UInt8.ofNat x.toNat) = [UInt8.ofNat l.length] := by
      have : (l.length : Int) / 256 ^ 0 % 256 = (l.length : Int) := by simp; omega
      show [UInt8.ofNat ((l.length : Int) / 256 ^ 0 % 256).toNat] = _
      rw [this]
      simp
    rw [e] at this
    exact this
  obtain ⟨A,c,rfl,hc⟩ := h
  have HC := Lib.hid hc
  have HLL : Hid (leafL l = [UInt8.ofNat l.length] ++ l.flatMap extRow) := rfl
  obtain ⟨n,hn⟩ : ∃ n,l.length = n := ⟨_,rfl⟩
  rw [hn] at h1 h8 HLF HP0 HLL
  have HN := Lib.hid hn
  rw [hn]
  have HL := Lib.hid hl
  have hni : (n : Int) ≤ 8 := by omega
  clear hc hn hl
  go_enter Tryz.func81,Tryz.ntmps81
  go_wp2_with fail
  with_reducible refine HLF.out.mono ?_
  rintro e w1 ⟨rfl,hb1⟩
  have HB1 := Lib.hid hb1
  clear hb1
  go_wp2_with fail
  with_reducible refine (HP0.out _).mono ?_
  rintro e w2 ⟨rfl,hb2⟩
  have HB2 := Lib.hid (bel_tr HB1.out hb2)
  clear hb2
  go_wp2_with fail
  go_loopw [4,5] (fun s4 s5 wr => ∃ j : Nat,j ≤ n ∧ s5 = .int .i64 j ∧ s4 = .string ⟨([UInt8.ofNat n] ++ (l.take j).flatMap extRow).toArray⟩ ∧ Hid (Below w.heap.size w wr)) (fun _ i _ => n - (intOf i).toNat)
  case atStart => exact ⟨0,Nat.zero_le _,rfl,by simp,HB2⟩
  case round =>
    obtain ⟨j,hj,rfl,rfl,HB⟩ := hrel
    by_cases hlt : j < n
    · have hji : (j : Int) < (n : Int) := by omega
      obtain ⟨g,o,rfl,hcc⟩ := HC.out (by have := HN.out; omega)
      obtain ⟨x,hx⟩ : ∃ x,l[j]? = some x := ⟨_,List.getElem?_eq_getElem (by rw [HN.out]; exact hlt)⟩
      obtain ⟨c0,c1,c2,c3⟩ := (hcc j x hx).below HB.out
      have ho := one_spec (HL.out.one x (List.mem_of_getElem? hx))
      have HP3 : Hid (∀ wq,Calls Tryz.prog 118 #[.int .i64 x.fr,.int .i64 3] wq fun e w' => e = .returned (.string (strOfNums (bytesOf 3 x.fr))) ∧ Below wq.heap.size wq w') := fun wq => rputn_any x.fr 3 wq (by omega) (by omega) (by omega) (by omega) (by omega)
      have HP4 : Hid (∀ wq,Calls Tryz.prog 118 #[.int .i64 x.n,.int .i64 4] wq fun e w' => e = .returned (.string (strOfNums (bytesOf 4 x.n))) ∧ Below wq.heap.size wq w') := fun wq => rputn_any x.n 4 wq (by omega) (by omega) (by omega) (by omega) (by omega)
      have HP1 : Hid (∀ wq,Calls Tryz.prog 118 #[.int .i64 x.kind,.int .i64 1] wq fun e w' => e = .returned (.string (strOfNums (bytesOf 1 x.kind))) ∧ Below wq.heap.size wq w') := fun wq => rputn_any x.kind 1 wq (by omega) (by omega) (by omega) (by omega) (by omega)
      have HP2 : Hid (∀ wq,Calls Tryz.prog 118 #[.int .i64 x.at_,.int .i64 2] wq fun e w' => e = .returned (.string (strOfNums (bytesOf 2 x.at_))) ∧ Below wq.heap.size wq w') := fun wq => rputn_any x.at_ 2 wq (by omega) (by omega) (by omega) (by omega) (by omega)
      have HKA : Hid (∀ w',Below wr.heap.size wr w' → ExtAt w' g (o + j * 4) x) := fun w' hb => ((hcc j x hx).below HB.out).below hb
      have HT : Hid (⟨([UInt8.ofNat n] ++ (l.take j).flatMap extRow).toArray⟩ ++ strOfNums (bytesOf 3 x.fr) ++ strOfNums (bytesOf 4 x.n) ++ strOfNums (bytesOf 1 x.kind) ++ strOfNums (bytesOf 2 x.at_) = (⟨([UInt8.ofNat n] ++ (l.take (j + 1)).flatMap extRow).toArray⟩ : ByteArray)) := by
        show _ = _
        rw [row_strs,list_take_flat _ _ _ _ hx,List.append_assoc]
      have z0 : (⟨([UInt8.ofNat n] ++ (l.take j).flatMap extRow).toArray⟩ : ByteArray).size ≤ 1000 := by
        show ([UInt8.ofNat n] ++ (l.take j).flatMap extRow).toArray.size ≤ 1000
        have : (l.take j).length ≤ j := by rw [List.length_take]; omega
        rw [List.size_toArray,List.length_append,rows_len,List.length_singleton]; omega
      have z3 : (strOfNums (bytesOf 3 x.fr)).size ≤ 1000 := by rw [strOfNums_size,bytesOf_length]; omega
      have z4 : (strOfNums (bytesOf 4 x.n)).size ≤ 1000 := by rw [strOfNums_size,bytesOf_length]; omega
      have z1 : (strOfNums (bytesOf 1 x.kind)).size ≤ 1000 := by rw [strOfNums_size,bytesOf_length]; omega
      have z2 : (strOfNums (bytesOf 2 x.at_)).size ≤ 1000 := by rw [strOfNums_size,bytesOf_length]; omega
      obtain ⟨S,hS⟩ : ∃ S : ByteArray,⟨([UInt8.ofNat n] ++ (l.take j).flatMap extRow).toArray⟩ = S := ⟨_,rfl⟩
      obtain ⟨S3,hS3⟩ : ∃ S : ByteArray,strOfNums (bytesOf 3 x.fr) = S := ⟨_,rfl⟩
      obtain ⟨S4,hS4⟩ : ∃ S : ByteArray,strOfNums (bytesOf 4 x.n) = S := ⟨_,rfl⟩
      obtain ⟨S1,hS1⟩ : ∃ S : ByteArray,strOfNums (bytesOf 1 x.kind) = S := ⟨_,rfl⟩
      obtain ⟨S2,hS2⟩ : ∃ S : ByteArray,strOfNums (bytesOf 2 x.at_) = S := ⟨_,rfl⟩
      rw [hS,hS3,hS4,hS1,hS2] at HT
      rw [hS] at z0 ⊢
      rw [hS3] at z3 HP3
      rw [hS4] at z4 HP4
      rw [hS1] at z1 HP1
      rw [hS2] at z2 HP2
      obtain ⟨f,en,k,t⟩ := x
      simp only at c0 c1 c2 c3 HP3 HP4 HP1 HP2
      have y1 : ¬ 9223372036854775807 < S.size + S3.size := by (try simp only [ByteArray.size_append]); omega
      have y2 : ¬ 9223372036854775807 < (S ++ S3).size + S4.size := by (try simp only [ByteArray.size_append]); omega
      have x2 : ¬ 9223372036854775807 < S.size + S3.size + S4.size := by omega
      have y3 : ¬ 9223372036854775807 < (S ++ S3 ++ S4).size + S1.size := by (try simp only [ByteArray.size_append]); omega
      have x3 : ¬ 9223372036854775807 < S.size + S3.size + S4.size + S1.size := by omega
      have y4 : ¬ 9223372036854775807 < (S ++ S3 ++ S4 ++ S1).size + S2.size := by (try simp only [ByteArray.size_append]); omega
      have x4 : ¬ 9223372036854775807 < S.size + S3.size + S4.size + S1.size + S2.size := by omega
      clear hcc hx ho hS hS3 hS4 hS1 hS2
      go_wp2_with fail
      go_region_held3 (fun w' => w'.cell? ⟨g,o + j * 4,none⟩ = some (.int .i64 f) ∧ w'.cell? ⟨g,o + j * 4 + 1,none⟩ = some (.int .i64 en) ∧ w'.cell? ⟨g,o + j * 4 + 2,none⟩ = some (.int .i64 k) ∧ w'.cell? ⟨g,o + j * 4 + 3,none⟩ = some (.int .i64 t)) (first | exact HKA.out _ (by repeat (first | with_reducible exact HB6.out | with_reducible exact Below.refl _ _ | refine Below.drew ?_))) ((first | (go_at_call 118; (with_reducible refine (HP3.out _).mono ?_); rintro e w6 ⟨rfl,hb6⟩; have HB6 : Hid (Below wr.heap.size wr w6) := bel_tr (by repeat (first | with_reducible exact HB6.out | with_reducible exact Below.refl _ _ | refine Below.drew ?_)) hb6; clear hb6) | (go_at_call 118; (with_reducible refine (HP4.out _).mono ?_); rintro e w6 ⟨rfl,hb6⟩; have HB6 : Hid (Below wr.heap.size wr w6) := bel_tr (by repeat (first | with_reducible exact HB6.out | with_reducible exact Below.refl _ _ | refine Below.drew ?_)) hb6; clear hb6) | (go_at_call 118; (with_reducible refine (HP1.out _).mono ?_); rintro e w6 ⟨rfl,hb6⟩; have HB6 : Hid (Below wr.heap.size wr w6) := bel_tr (by repeat (first | with_reducible exact HB6.out | with_reducible exact Below.refl _ _ | refine Below.drew ?_)) hb6; clear hb6) | (go_at_call 118; (with_reducible refine (HP2.out _).mono ?_); rintro e w6 ⟨rfl,hb6⟩; have HB6 : Hid (Below wr.heap.size wr w6) := bel_tr (by repeat (first | with_reducible exact HB6.out | with_reducible exact Below.refl _ _ | refine Below.drew ?_)) hb6; clear hb6)))
      go_wp2_with fail
      go_roundw
      case rel => exact ⟨j + 1,by omega,by go_num,by rw [HT.out],HB.out.trans (Below.mono (by first | with_reducible exact HB6.out | exact Below.drew HB6.out) HB.out.size)⟩
      case measure => simp [intOf]; omega
    · obtain rfl : j = n := by omega
      have hfull : l.take j = l := by rw [← HN.out]; exact List.take_length
      rw [hfull,← HLL.out]
      clear hfull
      go_wp2_with fail
      refine bodyPost_ret (v := .tuple #[.string ⟨(leafL l).toArray⟩,.int .i64 0]) (by simp [results,Tryz.results81,go_sem]) rfl ⟨rfl,HB.out⟩
end Go.Proofs.YtneammhkgmkkfaaGreat.tr
