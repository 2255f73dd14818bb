/- A part of the proof. -/
import Derived.Test.YtneammhkgmkkfaaGreatDoorPTpC
namespace Go.Proofs.YtneammhkgmkkfaaGreatDoor.tr
open Go.RowKit Go.Proofs.YtneammhkgmkkfaaGreatDoor.er
set_option linter.unusedVariables false
set_option linter.unusedSimpArgs false
set_option maxHeartbeats 8000000 in
set_option maxRecDepth 100000 in
theorem leafy_ok (l : List Ext) (v : Value) (w : World) (h : ExtsAt w v l) (hl : Chk l) (h1 : 1 ≤ l.length) (h8 : l.length ≤ 8) :
    Calls Tryz.prog 86 #[v] w fun x w' => x = .returned (.bool true) ∧ Below w.heap.size w w' := by
  have HCK := Lib.hid (rcheck_ok l v w h hl)
  obtain ⟨A,c,rfl,hc⟩ := h
  have HC := Lib.hid hc
  obtain ⟨n,hn⟩ : ∃ n,l.length = n := ⟨_,rfl⟩
  rw [hn] at h1 h8 HCK
  have HN := Lib.hid hn
  rw [hn]
  have HL := Lib.hid hl
  have hni : (n : Int) ≤ 8 := by omega
  have hn1 : (1 : Int) ≤ (n : Int) := by omega
  clear hc hn hl
  go_enter Tryz.func86,Tryz.ntmps86
  go_wp2_with fail
  go_loopw [3] (fun i wr => ∃ (j : Nat),j ≤ n ∧ i = .int .i64 j ∧ w = wr) (fun i _ => n - (intOf i).toNat)
  case atStart => exact ⟨0,Nat.zero_le _,rfl,rfl⟩
  case round =>
    obtain ⟨j,hj,rfl,rfl⟩ := hrel
    by_cases hlt : j < n
    · have hji : (j : Int) < (n : Int) := by omega
      obtain ⟨g,o,rfl,hcc⟩ := HC.out (by have := HN.out; omega)
      obtain ⟨e,hx⟩ : ∃ e,l[j]? = some e := ⟨l[j]'(by have := HN.out; omega),List.getElem?_eq_getElem (by have := HN.out; omega)⟩
      obtain ⟨c0,c1,c2,c3⟩ := hcc j e hx
      have ho := one_spec (HL.out.one e (List.mem_of_getElem? hx))
      obtain ⟨f,en,k,t⟩ := e
      simp only at c0 c1 c2 c3 ho
      have ht : ¬ 2047 < t := by omega
      have ht2 : decide (2047 < t) = false := by simp; omega
      clear hcc hx ho
      go_wp2_with fail
      go_roundw
      case rel => exact ⟨j + 1,by omega,by go_num,trivial⟩
      case measure => simp [intOf]; omega
    · obtain rfl : j = n := by omega
      go_wp2_with fail
      with_reducible refine HCK.out.mono ?_
      rintro e w5 ⟨rfl,hb5⟩
      have HB5 := Lib.hid hb5
      clear hb5
      go_wp2_with fail
      go_ret
      exact ⟨rfl,HB5.out⟩
theorem str_nums (k : Nat) (n : Int) : strOfNums (bytesOf k n) = ⟨((bytesOf k n).map fun x => UInt8.ofNat x.toNat).toArray⟩ := by
  unfold strOfNums
  simp
theorem row_strs (S : List UInt8) (e : Ext) : (⟨S.toArray⟩ : ByteArray) ++ strOfNums (bytesOf 3 e.fr) ++ strOfNums (bytesOf 4 e.n) ++ strOfNums (bytesOf 1 e.kind) ++ strOfNums (bytesOf 2 e.at_) = ⟨(S ++ extRow e).toArray⟩ := by
  rw [str_nums,str_nums,str_nums,str_nums,str_app,str_app,str_app,str_app]
  congr 2
  simp [extRow,rowB,extNums,List.append_assoc]
set_option maxHeartbeats 16000000 in
set_option maxRecDepth 100000 in
theorem rleaf_ok (l : List Ext) (v : Value) (w : World) (h : ExtsAt w v l) (hl : Chk l) (h1 : 1 ≤ l.length) (h8 : l.length ≤ 8) :
    Calls Tryz.prog 57 #[v] w fun x w' => x = .returned (.tuple #[.string ⟨(leafL l).toArray⟩,.int .i64 0]) ∧ Below w.heap.size w w' := by
  have HLF := Lib.hid (leafy_ok l v w h hl h1 h8)
  have HP0 : Hid (∀ wq,Calls Tryz.prog 87 #[.int .i64 l.length,.int .i64 1] wq fun e w' => e = .returned (.string ⟨([UInt8.ofNat l.length] : List UInt8).toArray⟩) ∧ Below wq.heap.size wq w') := by
    intro wq
    have := rputn_any (l.length : Int) 1 wq (by omega) (by omega) (by omega) (by omega) (by omega)
    rw [str_nums] at this
    have e : ((bytesOf 1 (l.length : Int)).map fun x => UInt8.ofNat x.toNat) = [UInt8.ofNat l.length] := by
      have : (l.length : Int) / 256 ^ 0 % 256 = (l.length : Int) := by simp; omega
      show [UInt8.ofNat ((l.length : Int) / 256 ^ 0 % 256).toNat] = _
      rw [this]
      simp
    rw [e] at this
    exact this
  obtain ⟨A,c,rfl,hc⟩ := h
  have HC := Lib.hid hc
  have HLL : Hid (leafL l = [UInt8.ofNat l.length] ++ l.flatMap extRow) := rfl
  obtain ⟨n,hn⟩ : ∃ n,l.length = n := ⟨_,rfl⟩
  rw [hn] at h1 h8 HLF HP0 HLL
  have HN := Lib.hid hn
  rw [hn]
  have HL := Lib.hid hl
  have hni : (n : Int) ≤ 8 := by omega
  clear hc hn hl
  go_enter Tryz.func57,Tryz.ntmps57
  go_wp2_with fail
  with_reducible refine HLF.out.mono ?_
  rintro e w1 ⟨rfl,hb1⟩
  have HB1 := Lib.hid hb1
  clear hb1
  go_wp2_with fail
  with_reducible refine (HP0.out _).mono ?_
  rintro e w2 ⟨rfl,hb2⟩
  have HB2 := Lib.hid (bel_tr HB1.out hb2)
  clear hb2
  go_wp2_with fail
  go_loopw [4,5] (fun s4 s5 wr => ∃ j : Nat,j ≤ n ∧ s5 = .int .i64 j ∧ s4 = .string ⟨([UInt8.ofNat n] ++ (l.take j).flatMap extRow).toArray⟩ ∧ Hid (Below w.heap.size w wr)) (fun _ i _ => n - (intOf i).toNat)
  case atStart => exact ⟨0,Nat.zero_le _,rfl,by simp,HB2⟩
  case round =>
    obtain ⟨j,hj,rfl,rfl,HB⟩ := hrel
    by_cases hlt : j < n
    · have hji : (j : Int) < (n : Int) := by omega
      obtain ⟨g,o,rfl,hcc⟩ := HC.out (by have := HN.out; omega)
      obtain ⟨x,hx⟩ : ∃ x,l[j]? = some x := ⟨_,List.getElem?_eq_getElem (by rw [HN.out]; exact hlt)⟩
      obtain ⟨c0,c1,c2,c3⟩ := (hcc j x hx).below HB.out
      have ho := one_spec (HL.out.one x (List.mem_of_getElem? hx))
      have HP3 : Hid (∀ wq,Calls Tryz.prog 87 #[.int .i64 x.fr,.int .i64 3] wq fun e w' => e = .returned (.string (strOfNums (bytesOf 3 x.fr))) ∧ Below wq.heap.size wq w') := fun wq => rputn_any x.fr 3 wq (by omega) (by omega) (by omega) (by omega) (by omega)
      have HP4 : Hid (∀ wq,Calls Tryz.prog 87 #[.int .i64 x.n,.int .i64 4] wq fun e w' => e = .returned (.string (strOfNums (bytesOf 4 x.n))) ∧ Below wq.heap.size wq w') := fun wq => rputn_any x.n 4 wq (by omega) (by omega) (by omega) (by omega) (by omega)
      have HP1 : Hid (∀ wq,Calls Tryz.prog 87 #[.int .i64 x.kind,.int .i64 1] wq fun e w' => e = .returned (.string (strOfNums (bytesOf 1 x.kind))) ∧ Below wq.heap.size wq w') := fun wq => rputn_any x.kind 1 wq (by omega) (by omega) (by omega) (by omega) (by omega)
      have HP2 : Hid (∀ wq,Calls Tryz.prog 87 #[.int .i64 x.at_,.int .i64 2] wq fun e w' => e = .returned (.string (strOfNums (bytesOf 2 x.at_))) ∧ Below wq.heap.size wq w') := fun wq => rputn_any x.at_ 2 wq (by omega) (by omega) (by omega) (by omega) (by omega)
      have HKA : Hid (∀ w',Below wr.heap.size wr w' → ExtAt w' g (o + j * 4) x) := fun w' hb => ((hcc j x hx).below HB.out).below hb
      have HT : Hid (⟨([UInt8.ofNat n] ++ (l.take j).flatMap extRow).toArray⟩ ++ strOfNums (bytesOf 3 x.fr) ++ strOfNums (bytesOf 4 x.n) ++ strOfNums (bytesOf 1 x.kind) ++ strOfNums (bytesOf 2 x.at_) = (⟨([UInt8.ofNat n] ++ (l.take (j + 1)).flatMap extRow).toArray⟩ : ByteArray)) := by
        show _ = _
        rw [row_strs,list_take_flat _ _ _ _ hx,List.append_assoc]
      have z0 : (⟨([UInt8.ofNat n] ++ (l.take j).flatMap extRow).toArray⟩ : ByteArray).size ≤ 1000 := by
        show ([UInt8.ofNat n] ++ (l.take j).flatMap extRow).toArray.size ≤ 1000
        have : (l.take j).length ≤ j := by rw [List.length_take]; omega
        rw [List.size_toArray,List.length_append,rows_len,List.length_singleton]; omega
      have z3 : (strOfNums (bytesOf 3 x.fr)).size ≤ 1000 := by rw [strOfNums_size,bytesOf_length]; omega
      have z4 : (strOfNums (bytesOf 4 x.n)).size ≤ 1000 := by rw [strOfNums_size,bytesOf_length]; omega
      have z1 : (strOfNums (bytesOf 1 x.kind)).size ≤ 1000 := by rw [strOfNums_size,bytesOf_length]; omega
      have z2 : (strOfNums (bytesOf 2 x.at_)).size ≤ 1000 := by rw [strOfNums_size,bytesOf_length]; omega
      obtain ⟨S,hS⟩ : ∃ S : ByteArray,⟨([UInt8.ofNat n] ++ (l.take j).flatMap extRow).toArray⟩ = S := ⟨_,rfl⟩
      obtain ⟨S3,hS3⟩ : ∃ S : ByteArray,strOfNums (bytesOf 3 x.fr) = S := ⟨_,rfl⟩
      obtain ⟨S4,hS4⟩ : ∃ S : ByteArray,strOfNums (bytesOf 4 x.n) = S := ⟨_,rfl⟩
      obtain ⟨S1,hS1⟩ : ∃ S : ByteArray,strOfNums (bytesOf 1 x.kind) = S := ⟨_,rfl⟩
      obtain ⟨S2,hS2⟩ : ∃ S : ByteArray,strOfNums (bytesOf 2 x.at_) = S := ⟨_,rfl⟩
      rw [hS,hS3,hS4,hS1,hS2] at HT
      rw [hS] at z0 ⊢
      rw [hS3] at z3 HP3
      rw [hS4] at z4 HP4
      rw [hS1] at z1 HP1
      rw [hS2] at z2 HP2
      obtain ⟨f,en,k,t⟩ := x
      simp only at c0 c1 c2 c3 HP3 HP4 HP1 HP2
      have y1 : ¬ 9223372036854775807 < S.size + S3.size := by (try simp only [ByteArray.size_append]); omega
      have y2 : ¬ 9223372036854775807 < (S ++ S3).size + S4.size := by (try simp only [ByteArray.size_append]); omega
      have x2 : ¬ 9223372036854775807 < S.size + S3.size + S4.size := by omega
      have y3 : ¬ 9223372036854775807 < (S ++ S3 ++ S4).size + S1.size := by (try simp only [ByteArray.size_append]); omega
      have x3 : ¬ 9223372036854775807 < S.size + S3.size + S4.size + S1.size := by omega
      have y4 : ¬ 9223372036854775807 < (S ++ S3 ++ S4 ++ S1).size + S2.size := by (try simp only [ByteArray.size_append]); omega
      have x4 : ¬ 9223372036854775807 < S.size + S3.size + S4.size + S1.size + S2.size := by omega
      clear hcc hx ho hS hS3 hS4 hS1 hS2
      go_wp2_with fail
      go_region_held3 (fun w' => w'.cell? ⟨g,o + j * 4,none⟩ = some (.int .i64 f) ∧ w'.cell? ⟨g,o + j * 4 + 1,none⟩ = some (.int .i64 en) ∧ w'.cell? ⟨g,o + j * 4 + 2,none⟩ = some (.int .i64 k) ∧ w'.cell? ⟨g,o + j * 4 + 3,none⟩ = some (.int .i64 t)) (first | exact HKA.out _ (by repeat (first | with_reducible exact HB6.out | with_reducible exact Below.refl _ _ | refine Below.drew ?_))) ((first | (go_at_call 87; (with_reducible refine (HP3.out _).mono ?_); rintro e w6 ⟨rfl,hb6⟩; have HB6 : Hid (Below wr.heap.size wr w6) := bel_tr (by repeat (first | with_reducible exact HB6.out | with_reducible exact Below.refl _ _ | refine Below.drew ?_)) hb6; clear hb6) | (go_at_call 87; (with_reducible refine (HP4.out _).mono ?_); rintro e w6 ⟨rfl,hb6⟩; have HB6 : Hid (Below wr.heap.size wr w6) := bel_tr (by repeat (first | with_reducible exact HB6.out | with_reducible exact Below.refl _ _ | refine Below.drew ?_)) hb6; clear hb6) | (go_at_call 87; (with_reducible refine (HP1.out _).mono ?_); rintro e w6 ⟨rfl,hb6⟩; have HB6 : Hid (Below wr.heap.size wr w6) := bel_tr (by repeat (first | with_reducible exact HB6.out | with_reducible exact Below.refl _ _ | refine Below.drew ?_)) hb6; clear hb6) | (go_at_call 87; (with_reducible refine (HP2.out _).mono ?_); rintro e w6 ⟨rfl,hb6⟩; have HB6 : Hid (Below wr.heap.size wr w6) := bel_tr (by repeat (first | with_reducible exact HB6.out | with_reducible exact Below.refl _ _ | refine Below.drew ?_)) hb6; clear hb6)))
      go_wp2_with fail
      go_roundw
      case rel => exact ⟨j + 1,by omega,by go_num,by rw [HT.out],HB.out.trans (Below.mono (by first | with_reducible exact HB6.out | exact Below.drew HB6.out) HB.out.size)⟩
      case measure => simp [intOf]; omega
    · obtain rfl : j = n := by omega
      have hfull : l.take j = l := by rw [← HN.out]; exact List.take_length
      rw [hfull,← HLL.out]
      clear hfull
      go_wp2_with fail
      refine bodyPost_ret (v := .tuple #[.string ⟨(leafL l).toArray⟩,.int .i64 0]) (by simp [results,Tryz.results57,go_sem]) rfl ⟨rfl,HB.out⟩
end Go.Proofs.YtneammhkgmkkfaaGreatDoor.tr
namespace Go.Proofs.YtneammhkgmkkfaaGreatDoor.tr
open Go.RowKit Go.Proofs.YtneammhkgmkkfaaGreatDoor.er
set_option linter.unusedVariables false
set_option linter.unusedSimpArgs false
theorem rExtInfo : (Tryz.prog.info? 80).map (fun i => (i.zero,i.size,i.bytes)) = some (some (.agg #[.int .i64 0,.int .i64 0,.int .i64 0,.int .i64 0]),4,32) := by kernel_rfl
end Go.Proofs.YtneammhkgmkkfaaGreatDoor.tr
namespace Go.Proofs.YtneammhkgmkkfaaGreatDoor.tr
open Go.RowKit Go.Proofs.YtneammhkgmkkfaaGreatDoor.er
set_option linter.unusedVariables false
set_option linter.unusedSimpArgs false
theorem KidsAt.ownT {w : World} {B n : Nat} {T : TypeId} {v : Value} {l : List Kid} (h : w.ownsRow B T 2 v n (kidCells l)) : KidsAt w v l ∧ l.length = n := by
  obtain ⟨A,c,rfl⟩ := own_slice h
  have hl : (kidCells l).length = n * 2 := own_lenE h
  have hn : l.length = n := by rw [kidCells_len] at hl; omega
  refine ⟨⟨A,c,by rw [hn],by rw [hn]; exact own_cap h,fun h0 => ?_⟩,hn⟩
  obtain ⟨g,rfl,_,_,_,hc,_⟩ := own_cell h (by omega)
  refine ⟨g,0,rfl,fun j k hk => ?_⟩
  obtain ⟨q1,q2⟩ := kidCells_at l j k hk
  rw [Nat.zero_add]
  exact ⟨hc _ _ q1,hc _ _ q2⟩
set_option maxHeartbeats 8000000 in
set_option maxRecDepth 100000 in
theorem rkids_ok (l : List Kid) (v : Value) (w : World) (h : KidsAt w v l) (hl : KidsOk l) (h2 : 2 ≤ l.length) (h8 : l.length ≤ 8) :
    Calls Tryz.prog 88 #[v] w fun x w' => x = .returned (.bool true) ∧ Below w.heap.size w w' := by
  obtain ⟨A,c,rfl,_,hc⟩ := h
  have HC := Lib.hid hc
  obtain ⟨n,hn⟩ : ∃ n,l.length = n := ⟨_,rfl⟩
  rw [hn] at h2 h8
  have HN := Lib.hid hn
  rw [hn]
  have HL := Lib.hid hl
  have HNE : Hid (∀ (q j : Nat) (y e : Kid),q < j → l[q]? = some y → l[j]? = some e → y.at_ ≠ e.at_) := by
    intro q j y e hqj hy he
    obtain ⟨i1,rfl⟩ := List.getElem?_eq_some_iff.1 hy
    obtain ⟨i2,rfl⟩ := List.getElem?_eq_some_iff.1 he
    exact List.pairwise_iff_getElem.1 hl.ne q j i1 i2 hqj
  have HINC : Hid (∀ (q j : Nat) (y e : Kid),q < j → l[q]? = some y → l[j]? = some e → y.key < e.key) := by
    intro q j y e hqj hy he
    obtain ⟨i1,rfl⟩ := List.getElem?_eq_some_iff.1 hy
    obtain ⟨i2,rfl⟩ := List.getElem?_eq_some_iff.1 he
    exact List.pairwise_iff_getElem.1 hl.inc q j i1 i2 hqj
  have hni : (n : Int) ≤ 8 := by omega
  have hn2 : (2 : Int) ≤ (n : Int) := by omega
  clear hc hn hl
  go_enter Tryz.func88,Tryz.ntmps88
  go_wp2_with fail
  go_loopw [3,4] (fun i _ wr => ∃ (j : Nat),j ≤ n ∧ i = .int .i64 j ∧ Hid (Below w.heap.size w wr)) (fun i _ _ => n - (intOf i).toNat)
  case atStart => exact ⟨0,Nat.zero_le _,rfl,Below.refl _ _⟩
  case round =>
    obtain ⟨j,hj,rfl,HB⟩ := hrel
    by_cases hlt : j < n
    · have hji : (j : Int) < (n : Int) := by omega
      have hj0 : (0 : Int) ≤ (j : Int) := by omega
      obtain ⟨g,o,rfl,hcc⟩ := HC.out (by have := HN.out; omega)
      have HCC := Lib.hid hcc
      obtain ⟨e,hx⟩ : ∃ e,l[j]? = some e := ⟨l[j]'(by have := HN.out; omega),List.getElem?_eq_getElem (by have := HN.out; omega)⟩
      have HX := Lib.hid hx
      obtain ⟨c0,c1⟩ := (hcc j e hx).below HB.out
      have hk := HL.out.each e (List.mem_of_getElem? hx)
      unfold kidB at hk
      simp at hk
      have d1 : decide (e.key < 0) = false := by simp; omega
      have d2 : decide (16777215 < e.key) = false := by simp; omega
      have d3 : decide (e.at_ < 0) = false := by simp; omega
      have d4 : decide (2047 < e.at_) = false := by simp; omega
      clear hcc hx hk
      rcases Nat.eq_zero_or_pos j with hj0 | hj0
      · subst hj0
        simp only [Nat.zero_mul,Nat.add_zero] at c0 c1
        go_wp2_with fail
        refine wp_region_held_drew (S := fun _ => True) (by kernel_rfl) trivial (fun hHeld => ?_)
        refine wpAnyH_take (i := 0) (oi := { dst := some 41,op := _,type := _,pos := _,after := _,guard := _ }) (v := ?_) rfl (by kernel_rfl) (by kernel_rfl) (by kernel_rfl) (fun _ _ _ h => h) (Or.inl ⟨by rfl,?_⟩) (by assumption) ?_
        rotate_left
        · intro wz hSw; (try dsimp only at hSw); go_simp; (try with_reducible rfl)
        try simp only [Act.put,List.setIfInBounds_toArray,List.set_cons_zero,List.set_cons_succ]
        refine wpAnyH_take (i := 1) (oi := { dst := some 42,op := _,type := _,pos := _,after := _,guard := _ }) (v := ?_) rfl (by kernel_rfl) (by kernel_rfl) (by kernel_rfl) (fun _ _ _ h => h) (Or.inl ⟨by rfl,?_⟩) (by assumption) ?_
        rotate_left
        · intro wz hSw; (try dsimp only at hSw); go_simp; (try with_reducible rfl)
        try simp only [Act.put,List.setIfInBounds_toArray,List.set_cons_zero,List.set_cons_succ]
        refine wpAnyH_take (i := 2) (oi := { dst := some 43,op := _,type := _,pos := _,after := _,guard := _ }) (v := ?_) rfl (by kernel_rfl) (by kernel_rfl) (by kernel_rfl) (fun _ _ _ h => h) (Or.inl ⟨by rfl,?_⟩) (by assumption) ?_
        rotate_left
        · intro wz hSw; (try dsimp only at hSw); go_simp; (try with_reducible rfl)
        try simp only [Act.put,List.setIfInBounds_toArray,List.set_cons_zero,List.set_cons_succ]
        refine wpAnyH_take (i := 3) (oi := { dst := some 44,op := _,type := _,pos := _,after := _,guard := _ }) (v := undef) rfl (by kernel_rfl) (by kernel_rfl) (by kernel_rfl) (fun _ _ _ h => h) (Or.inr ⟨by rfl,rfl⟩) (by assumption) ?_
        try simp only [Act.put,List.setIfInBounds_toArray,List.set_cons_zero,List.set_cons_succ]
        refine wpAnyH_take (i := 4) (oi := { dst := some 45,op := _,type := _,pos := _,after := _,guard := _ }) (v := undef) rfl (by kernel_rfl) (by kernel_rfl) (by kernel_rfl) (fun _ _ _ h => h) (Or.inr ⟨by rfl,rfl⟩) (by assumption) ?_
        try simp only [Act.put,List.setIfInBounds_toArray,List.set_cons_zero,List.set_cons_succ]
        refine wpAnyH_take (i := 5) (oi := { dst := some 46,op := _,type := _,pos := _,after := _,guard := _ }) (v := undef) rfl (by kernel_rfl) (by kernel_rfl) (by kernel_rfl) (fun _ _ _ h => h) (Or.inr ⟨by rfl,rfl⟩) (by assumption) ?_
        try simp only [Act.put,List.setIfInBounds_toArray,List.set_cons_zero,List.set_cons_succ]
        refine wpAnyH_take (i := 6) (oi := { dst := some 47,op := _,type := _,pos := _,after := _,guard := _ }) (v := undef) rfl (by kernel_rfl) (by kernel_rfl) (by kernel_rfl) (fun _ _ _ h => h) (Or.inr ⟨by rfl,rfl⟩) (by assumption) ?_
        try simp only [Act.put,List.setIfInBounds_toArray,List.set_cons_zero,List.set_cons_succ]
        refine wpAnyH_take (i := 7) (oi := { dst := some 48,op := _,type := _,pos := _,after := _,guard := _ }) (v := undef) rfl (by kernel_rfl) (by kernel_rfl) (by kernel_rfl) (fun _ _ _ h => h) (Or.inr ⟨by rfl,rfl⟩) (by assumption) ?_
        try simp only [Act.put,List.setIfInBounds_toArray,List.set_cons_zero,List.set_cons_succ]
        refine wpAnyH_take (i := 8) (oi := { dst := some 49,op := _,type := _,pos := _,after := _,guard := _ }) (v := undef) rfl (by kernel_rfl) (by kernel_rfl) (by kernel_rfl) (fun _ _ _ h => h) (Or.inr ⟨by rfl,rfl⟩) (by assumption) ?_
        try simp only [Act.put,List.setIfInBounds_toArray,List.set_cons_zero,List.set_cons_succ]
        refine wpAnyH_take (i := 9) (oi := { dst := some 50,op := _,type := _,pos := _,after := _,guard := _ }) (v := undef) rfl (by kernel_rfl) (by kernel_rfl) (by kernel_rfl) (fun _ _ _ h => h) (Or.inr ⟨by rfl,rfl⟩) (by assumption) ?_
        try simp only [Act.put,List.setIfInBounds_toArray,List.set_cons_zero,List.set_cons_succ]
        refine wpAnyH_take (i := 10) (oi := { dst := some 51,op := _,type := _,pos := _,after := _,guard := _ }) (v := undef) rfl (by kernel_rfl) (by kernel_rfl) (by kernel_rfl) (fun _ _ _ h => h) (Or.inr ⟨by rfl,rfl⟩) (by assumption) ?_
        try simp only [Act.put,List.setIfInBounds_toArray,List.set_cons_zero,List.set_cons_succ]
        refine wpAnyH_take (i := 11) (oi := { dst := some 52,op := _,type := _,pos := _,after := _,guard := _ }) (v := undef) rfl (by kernel_rfl) (by kernel_rfl) (by kernel_rfl) (fun _ _ _ h => h) (Or.inr ⟨by rfl,rfl⟩) (by assumption) ?_
        try simp only [Act.put,List.setIfInBounds_toArray,List.set_cons_zero,List.set_cons_succ]
        refine wpAnyH_take (i := 12) (oi := { dst := some 53,op := _,type := _,pos := _,after := _,guard := _ }) (v := undef) rfl (by kernel_rfl) (by kernel_rfl) (by kernel_rfl) (fun _ _ _ h => h) (Or.inr ⟨by rfl,rfl⟩) (by assumption) ?_
        try simp only [Act.put,List.setIfInBounds_toArray,List.set_cons_zero,List.set_cons_succ]
        refine wpAnyH_take (i := 13) (oi := { dst := some 54,op := _,type := _,pos := _,after := _,guard := _ }) (v := undef) rfl (by kernel_rfl) (by kernel_rfl) (by kernel_rfl) (fun _ _ _ h => h) (Or.inr ⟨by rfl,rfl⟩) (by assumption) ?_
        try simp only [Act.put,List.setIfInBounds_toArray,List.set_cons_zero,List.set_cons_succ]
        refine wpAnyH_take (i := 14) (oi := { dst := some 55,op := _,type := _,pos := _,after := _,guard := _ }) (v := undef) rfl (by kernel_rfl) (by kernel_rfl) (by kernel_rfl) (fun _ _ _ h => h) (Or.inr ⟨by rfl,rfl⟩) (by assumption) ?_
        try simp only [Act.put,List.setIfInBounds_toArray,List.set_cons_zero,List.set_cons_succ]
        refine wpAnyH_take (i := 15) (oi := { dst := some 56,op := _,type := _,pos := _,after := _,guard := _ }) (v := ?_) rfl (by kernel_rfl) (by kernel_rfl) (by kernel_rfl) (fun _ _ _ h => h) (Or.inl ⟨by rfl,?_⟩) (by assumption) ?_
        rotate_left
        · intro wz hSw; (try dsimp only at hSw); go_simp; (try with_reducible rfl)
        try simp only [Act.put,List.setIfInBounds_toArray,List.set_cons_zero,List.set_cons_succ]
        refine wpAnyH_done (by kernel_rfl) ?_ _
        go_wp2_with fail
        obtain ⟨wo,hwo⟩ : ∃ wo,wo = wr.drew := ⟨_,rfl⟩
        have HBO : Hid (Below w.heap.size w wo) := by show Below _ _ _; rw [hwo]; exact Below.drew HB.out
        subst hwo
        go_loopw [4] (fun s4 wr => s4 = .int .i64 0 ∧ Hid (Below w.heap.size w wr)) (fun s4 _ => 0)
        case atStart => exact ⟨rfl,HBO⟩
        case round =>
          obtain ⟨rfl,HQ⟩ := hrel
          go_wp2_with fail
          have hmeas : n - (intOf (.int .i64 (((0 : Nat) : Int) + 1))).toNat < n - (intOf (.int .i64 ((0 : Nat) : Int))).toNat := by simp [intOf]; omega
          refine ⟨⟨0 + 1,?_,?_,HQ⟩,hmeas⟩
          · omega
          · go_num
      · obtain ⟨i,hij⟩ : ∃ i,i + 1 = j := ⟨j - 1,by omega⟩
        obtain ⟨a,hxa⟩ : ∃ a,l[i]? = some a := ⟨l[i]'(by have := HN.out; omega),List.getElem?_eq_getElem (by have := HN.out; omega)⟩
        have hinc := HINC.out i j a e (by omega) hxa HX.out
        have hi1 : (j : Int) - 1 = (i : Int) := by omega
        have hw1 : IntKind.i64.wrap ((j : Int) - 1) = (i : Int) := by rw [hi1,IntKind.wrap_i64]; omega
        have hwi : IntKind.i64.wrap (i : Int) = (i : Int) := by rw [IntKind.wrap_i64]; omega
        have hi2 : (i : Int) < (n : Int) := by omega
        have hi0 : (0 : Int) ≤ (i : Int) := by omega
        have hj0i : (0 : Int) < (j : Int) := by omega
        have hdg : decide (e.key ≤ a.key) = false := by simp; omega
        have HKA : Hid (∀ w',Below w.heap.size w w' → w'.cell? ⟨g,o + i * 2,none⟩ = some (.int .i64 a.key) ∧ w'.cell? ⟨g,o + j * 2,none⟩ = some (.int .i64 e.key)) := fun w' hb => ⟨((HCC.out i a hxa).below hb).1,((HCC.out j e HX.out).below hb).1⟩
        obtain ⟨z0,z1⟩ := HKA.out _ HB.out
        clear hxa hinc
        go_wp2_with fail
        go_region_held3 (fun w' => w'.cell? ⟨g,o + i * 2,none⟩ = some (.int .i64 a.key) ∧ w'.cell? ⟨g,o + j * 2,none⟩ = some (.int .i64 e.key)) (first | exact HKA.out _ (by repeat (first | with_reducible exact HB.out | refine Below.drew ?_))) (fail)
        clear z0 z1 c0 c1
        go_wp2_with fail
        obtain ⟨wo,hwo⟩ : ∃ wo,wo = wr.drew := ⟨_,rfl⟩
        have HBO : Hid (Below w.heap.size w wo) := by show Below _ _ _; rw [hwo]; exact Below.drew HB.out
        subst hwo
        go_loopw [4] (fun s4 wr => ∃ q : Nat,q ≤ j ∧ s4 = .int .i64 q ∧ Hid (Below w.heap.size w wr)) (fun s4 _ => j - (intOf s4).toNat)
        case atStart => exact ⟨0,Nat.zero_le _,rfl,HBO⟩
        case round =>
          obtain ⟨q,hq,rfl,HQ⟩ := hrel
          by_cases hql : q < j
          · have hqi : (q : Int) < (j : Int) := by omega
            obtain ⟨y,hy⟩ : ∃ y,l[q]? = some y := ⟨l[q]'(by have := HN.out; omega),List.getElem?_eq_getElem (by have := HN.out; omega)⟩
            have hne := HNE.out q j y e hql hy HX.out
            have hqn : (q : Int) < (n : Int) := by omega
            have hq0 : (0 : Int) ≤ (q : Int) := by omega
            have HKB : Hid (∀ w',Below w.heap.size w w' → w'.cell? ⟨g,o + q * 2 + 1,none⟩ = some (.int .i64 y.at_) ∧ w'.cell? ⟨g,o + j * 2 + 1,none⟩ = some (.int .i64 e.at_)) := fun w' hb => ⟨((HCC.out q y hy).below hb).2,((HCC.out j e HX.out).below hb).2⟩
            obtain ⟨b0,b1⟩ := HKB.out _ HQ.out
            have hdn : (y.at_ == e.at_) = false := by simpa using hne
            clear hy hne
            go_wp2_with fail
            go_region_held3 (fun w' => w'.cell? ⟨g,o + q * 2 + 1,none⟩ = some (.int .i64 y.at_) ∧ w'.cell? ⟨g,o + j * 2 + 1,none⟩ = some (.int .i64 e.at_)) (first | exact HKB.out _ (by repeat (first | with_reducible exact HQ.out | refine Below.drew ?_))) (fail)
            go_wp2_with fail
            go_roundw
            case rel => exact ⟨q + 1,by omega,by go_num,Below.drew HQ.out⟩
            case measure => simp [intOf]; omega
          · obtain rfl : q = j := by omega
            go_wp2_with fail
            have hmeas : n - (intOf (.int .i64 ((q : Int) + 1))).toNat < n - (intOf (.int .i64 (q : Int))).toNat := by simp [intOf]; omega
            refine ⟨⟨q + 1,?_,?_,HQ⟩,hmeas⟩
            · omega
            · go_num
    · obtain rfl : j = n := by omega
      go_wp2_with fail
      go_ret
      exact ⟨rfl,HB.out⟩
end Go.Proofs.YtneammhkgmkkfaaGreatDoor.tr
