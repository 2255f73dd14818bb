/- A part of the proof. -/
import Derived.Test.YtneammhkgmkkfaaGreatPTpF
namespace Go.Proofs.YtneammhkgmkkfaaGreat.tr
open Go.RowKit Go.Proofs.YtneammhkgmkkfaaGreat.er
set_option linter.unusedVariables false
set_option linter.unusedSimpArgs false
theorem rowK_strs (S : List UInt8) (e : Kid) : (⟨S.toArray⟩ : ByteArray) ++ strOfNums (bytesOf 3 e.key) ++ strOfNums (bytesOf 2 e.at_) = ⟨(S ++ kidRow e).toArray⟩ := by
  rw [str_nums,str_nums,str_app,str_app]
  congr 2
  simp [kidRow,rowB,kidNums,List.append_assoc]
theorem kidRow_len5 (e : Kid) : (kidRow e).length = 5 := by rw [kid_row]; rfl
set_option maxHeartbeats 16000000 in
set_option maxRecDepth 100000 in
theorem rinner_ok (l : List Kid) (v : Value) (w : World) (h : KidsAt w v l) (hl : KidsOk l) (h1 : 2 ≤ l.length) (h8 : l.length ≤ 8) :
    Calls Tryz.prog 82 #[v] w fun x w' => x = .returned (.tuple #[.string ⟨(innerL l).toArray⟩,.int .i64 0]) ∧ Below w.heap.size w w' := by
  have HLF := Lib.hid (rkids_ok l v w h hl h1 h8)
  have HP0 : Hid (∀ wq,Calls Tryz.prog 118 #[.int .i64 l.length,.int .i64 1] wq fun e w' => e = .returned (.string ⟨([UInt8.ofNat l.length] : List UInt8).toArray⟩) ∧ Below wq.heap.size wq w') := by
    intro wq
    have := rputn_any (l.length : Int) 1 wq (by omega) (by omega) (by omega) (by omega) (by omega)
    rw [str_nums] at this
    have e : ((bytesOf 1 (l.length : Int)).map fun x => UInt8.ofNat x.toNat) = [UInt8.ofNat l.length] := by
      have : (l.length : Int) / 256 ^ 0 % 256 = (l.length : Int) := by simp; omega
      show [UInt8.ofNat ((l.length : Int) / 256 ^ 0 % 256).toNat] = _
      rw [this]
      simp
    rw [e] at this
    exact this
  obtain ⟨A,c,rfl,_,hc⟩ := h
  have HC := Lib.hid hc
  have HLL : Hid (innerL l = [UInt8.ofNat l.length] ++ l.flatMap kidRow) := rfl
  obtain ⟨n,hn⟩ : ∃ n,l.length = n := ⟨_,rfl⟩
  rw [hn] at h1 h8 HLF HP0 HLL
  have HN := Lib.hid hn
  rw [hn]
  have HL := Lib.hid hl
  have hni : (n : Int) ≤ 8 := by omega
  clear hc hn hl
  go_enter Tryz.func82,Tryz.ntmps82
  go_wp2_with fail
  with_reducible refine HLF.out.mono ?_
  rintro e w1 ⟨rfl,hb1⟩
  have HB1 := Lib.hid hb1
  clear hb1
  go_wp2_with fail
  with_reducible refine (HP0.out _).mono ?_
  rintro e w2 ⟨rfl,hb2⟩
  have HB2 := Lib.hid (bel_tr HB1.out hb2)
  clear hb2
  go_wp2_with fail
  go_loopw [4,5] (fun s4 s5 wr => ∃ j : Nat,j ≤ n ∧ s5 = .int .i64 j ∧ s4 = .string ⟨([UInt8.ofNat n] ++ (l.take j).flatMap kidRow).toArray⟩ ∧ Hid (Below w.heap.size w wr)) (fun _ i _ => n - (intOf i).toNat)
  case atStart => exact ⟨0,Nat.zero_le _,rfl,by simp,HB2⟩
  case round =>
    obtain ⟨j,hj,rfl,rfl,HB⟩ := hrel
    by_cases hlt : j < n
    · have hji : (j : Int) < (n : Int) := by omega
      obtain ⟨g,o,rfl,hcc⟩ := HC.out (by have := HN.out; omega)
      obtain ⟨x,hx⟩ : ∃ x,l[j]? = some x := ⟨_,List.getElem?_eq_getElem (by rw [HN.out]; exact hlt)⟩
      obtain ⟨c0,c1⟩ := (hcc j x hx).below HB.out
      have ho := HL.out.each x (List.mem_of_getElem? hx)
      unfold kidB at ho
      simp at ho
      have HP3 : Hid (∀ wq,Calls Tryz.prog 118 #[.int .i64 x.key,.int .i64 3] wq fun e w' => e = .returned (.string (strOfNums (bytesOf 3 x.key))) ∧ Below wq.heap.size wq w') := fun wq => rputn_any x.key 3 wq (by omega) (by omega) (by omega) (by omega) (by omega)
      have HP2 : Hid (∀ wq,Calls Tryz.prog 118 #[.int .i64 x.at_,.int .i64 2] wq fun e w' => e = .returned (.string (strOfNums (bytesOf 2 x.at_))) ∧ Below wq.heap.size wq w') := fun wq => rputn_any x.at_ 2 wq (by omega) (by omega) (by omega) (by omega) (by omega)
      have HKA : Hid (∀ w',Below wr.heap.size wr w' → KidAt w' g (o + j * 2) x) := fun w' hb => ((hcc j x hx).below HB.out).below hb
      have HT : Hid (⟨([UInt8.ofNat n] ++ (l.take j).flatMap kidRow).toArray⟩ ++ strOfNums (bytesOf 3 x.key) ++ strOfNums (bytesOf 2 x.at_) = (⟨([UInt8.ofNat n] ++ (l.take (j + 1)).flatMap kidRow).toArray⟩ : ByteArray)) := by
        show _ = _
        rw [rowK_strs,list_take_flat _ _ _ _ hx,List.append_assoc]
      have z0 : (⟨([UInt8.ofNat n] ++ (l.take j).flatMap kidRow).toArray⟩ : ByteArray).size ≤ 1000 := by
        show ([UInt8.ofNat n] ++ (l.take j).flatMap kidRow).toArray.size ≤ 1000
        have : (l.take j).length ≤ j := by rw [List.length_take]; omega
        rw [List.size_toArray,List.length_append,size_flat _ kidRow_len5,List.length_singleton]; omega
      have z3 : (strOfNums (bytesOf 3 x.key)).size ≤ 1000 := by rw [strOfNums_size,bytesOf_length]; omega
      have z2 : (strOfNums (bytesOf 2 x.at_)).size ≤ 1000 := by rw [strOfNums_size,bytesOf_length]; omega
      obtain ⟨S,hS⟩ : ∃ S : ByteArray,⟨([UInt8.ofNat n] ++ (l.take j).flatMap kidRow).toArray⟩ = S := ⟨_,rfl⟩
      obtain ⟨S3,hS3⟩ : ∃ S : ByteArray,strOfNums (bytesOf 3 x.key) = S := ⟨_,rfl⟩
      obtain ⟨S2,hS2⟩ : ∃ S : ByteArray,strOfNums (bytesOf 2 x.at_) = S := ⟨_,rfl⟩
      rw [hS,hS3,hS2] at HT
      rw [hS] at z0 ⊢
      rw [hS3] at z3 HP3
      rw [hS2] at z2 HP2
      obtain ⟨f,t⟩ := x
      simp only at c0 c1 HP3 HP2
      have y1 : ¬ 9223372036854775807 < S.size + S3.size := by omega
      have y2 : ¬ 9223372036854775807 < (S ++ S3).size + S2.size := by (try simp only [ByteArray.size_append]); omega
      have x2 : ¬ 9223372036854775807 < S.size + S3.size + S2.size := by omega
      clear hcc hx ho hS hS3 hS2
      go_wp2_with fail
      go_region_held3 (fun w' => w'.cell? ⟨g,o + j * 2,none⟩ = some (.int .i64 f) ∧ w'.cell? ⟨g,o + j * 2 + 1,none⟩ = some (.int .i64 t)) (first | exact HKA.out _ (by repeat (first | with_reducible exact HB6.out | with_reducible exact Below.refl _ _ | refine Below.drew ?_))) ((first | (go_at_call 118; (with_reducible refine (HP3.out _).mono ?_); rintro e w6 ⟨rfl,hb6⟩; have HB6 : Hid (Below wr.heap.size wr w6) := bel_tr (by repeat (first | with_reducible exact HB6.out | with_reducible exact Below.refl _ _ | refine Below.drew ?_)) hb6; clear hb6) | (go_at_call 118; (with_reducible refine (HP2.out _).mono ?_); rintro e w6 ⟨rfl,hb6⟩; have HB6 : Hid (Below wr.heap.size wr w6) := bel_tr (by repeat (first | with_reducible exact HB6.out | with_reducible exact Below.refl _ _ | refine Below.drew ?_)) hb6; clear hb6)))
      go_wp2_with fail
      go_roundw
      case rel => exact ⟨j + 1,by omega,by go_num,by rw [HT.out],HB.out.trans (Below.mono (by first | with_reducible exact HB6.out | exact Below.drew HB6.out) HB.out.size)⟩
      case measure => simp [intOf]; omega
    · obtain rfl : j = n := by omega
      have hfull : l.take j = l := by rw [← HN.out]; exact List.take_length
      rw [hfull,← HLL.out]
      clear hfull
      go_wp2_with fail
      refine bodyPost_ret (v := .tuple #[.string ⟨(innerL l).toArray⟩,.int .i64 0]) (by simp [results,Tryz.results82,go_sem]) rfl ⟨rfl,HB.out⟩
theorem kidCells_next {l : List Kid} {j : Nat} {e : Kid} (h : l[j]? = some e) : kidCells (l.take (j + 1)) = kidCells (l.take j) ++ [.int .i64 e.key,.int .i64 e.at_] := by
  rw [List.take_add_one,h,← kidCells_snoc]
  rfl
theorem rKidInfo : (Tryz.prog.info? 111).map (fun i => (i.zero,i.size,i.bytes)) = some (some (.agg #[.int .i64 0,.int .i64 0]),2,16) := by kernel_rfl
theorem inner_gets {l : List Kid} (h1 : 1 ≤ l.length) (h8 : l.length ≤ 8) (ho : ∀ e ∈ l,kidB e = true) {j : Nat} {e : Kid} (hj : l[j]? = some e) :
    getZ ⟨(innerL l).toArray⟩ (1 + 5 * j) 3 = e.key ∧ getZ ⟨(innerL l).toArray⟩ (1 + 5 * j + 3) 2 = e.at_ := by
  obtain ⟨d1,d2,d3⟩ := inner_dec h1 h8 ho
  have hjl := (List.getElem?_eq_some_iff.1 hj).1
  have hsz : (⟨(innerL l).toArray⟩ : ByteArray).size = 1 + 5 * l.length := by show (innerL l).toArray.size = _; have := innerL_len l; simp; omega
  have hlen : (byteAt ⟨(innerL l).toArray⟩ 0).toNat = l.length := by rw [← kidsD_len,d2]
  have hat := kidsD_at ⟨(innerL l).toArray⟩ j (by rw [hlen]; exact hjl)
  rw [d2,hj] at hat
  injection hat with hat
  rw [hat]
  unfold getZ kidD
  refine ⟨?_,?_⟩
  all_goals (rw [if_pos (by rw [hsz]; omega)])
set_option maxHeartbeats 16000000 in
set_option maxRecDepth 100000 in
theorem rreadInner_ok (l : List Kid) (w : World) (hl : KidsOk l) (h1 : 2 ≤ l.length) (h8 : l.length ≤ 8) :
    Calls Tryz.prog 56 #[.string ⟨(innerL l).toArray⟩] w fun x w' => ∃ A c,x = .returned (.tuple #[.slice A l.length c,.int .i64 0]) ∧ w'.ownsRow w.heap.size 111 2 (.slice A l.length c) l.length (kidCells l) ∧ Below w.heap.size w w' := by
  have hsz : (⟨(innerL l).toArray⟩ : ByteArray).size = 1 + 5 * l.length := by show (innerL l).toArray.size = _; have := innerL_len l; simp; omega
  have HG := Lib.hid (fun (j : Nat) (e : Kid) (hj : l[j]? = some e) => inner_gets (by omega) h8 hl.each hj)
  have HLF : Hid (∀ wq A c,wq.ownsRow w.heap.size 111 2 (.slice A l.length c) l.length (kidCells l) → Calls Tryz.prog 82 #[.slice A l.length c] wq fun x w' => x = .returned (.tuple #[.string ⟨(innerL l).toArray⟩,.int .i64 0]) ∧ Below wq.heap.size wq w') := fun wq A c ho => rinner_ok l _ wq (KidsAt.ownT ho).1 hl h1 h8
  obtain ⟨S,hS⟩ : ∃ S : ByteArray,(⟨(innerL l).toArray⟩ : ByteArray) = S := ⟨_,rfl⟩
  obtain ⟨n,hn⟩ : ∃ n,l.length = n := ⟨_,rfl⟩
  rw [hS] at hsz HG HLF ⊢
  rw [hn] at hsz HLF h1 h8
  have HN := Lib.hid hn
  rw [hn]
  have hni : (n : Int) ≤ 8 := by omega
  have hss : (S.size : Int) = 1 + 5 * (n : Int) := by omega
  have HGZ : Hid (∀ wq (a k : Nat),1 ≤ k → k ≤ 4 → a ≤ 200 → Calls Tryz.prog 80 #[.string S,.int .i64 a,.int .i64 k] wq fun e w' => e = .returned (.int .i64 (getZ S a k)) ∧ wq = w') := fun wq a k hk hk4 ha => rgetz_any S a k wq hk hk4 (by omega) (by omega)
  have HSZ := Lib.hid hsz
  clear hS hn hl
  go_enter Tryz.func56,Tryz.ntmps56
  go_wp2_with fail
  go_loopw [4,5] (fun s4 s5 wr => ∃ (j : Nat) (A : Option Addr) (c : Nat) (a : Int),j ≤ n ∧ s5 = .int .i64 a ∧ a = 1 + 5 * (j : Int) ∧ s4 = .slice A j c ∧ Hid (wr.ownsRow w.heap.size 111 2 (.slice A j c) j (kidCells (l.take j))) ∧ Hid (Below w.heap.size w wr)) (fun _ s5 _ => (1 + 5 * (n : Int) - intOf s5).toNat)
  case atStart => exact ⟨0,none,0,1,Nat.zero_le _,rfl,rfl,rfl,⟨rfl,.inl ⟨rfl,rfl⟩⟩,Below.refl _ _⟩
  case round =>
    obtain ⟨j,A,c,a,hj,rfl,ha,rfl,HO,HB⟩ := hrel
    by_cases hlt : j < n
    · have hji : (j : Int) < (n : Int) := by omega
      have hj8 : (j : Int) < 8 := by omega
      have haS : a < (S.size : Int) := by omega
      have ha0 : 1 ≤ a := by omega
      have ha1 : a ≤ 100 := by omega
      obtain ⟨e,he⟩ : ∃ e,l[j]? = some e := ⟨_,List.getElem?_eq_getElem (by rw [HN.out]; exact hlt)⟩
      obtain ⟨g1,g4⟩ := HG.out j e he
      have hTK := kidCells_next he
      have HTK := Lib.hid hTK
      have HZ1 : Hid (∀ wq,Calls Tryz.prog 80 #[.string S,.int .i64 a,.int .i64 3] wq fun x w' => x = .returned (.int .i64 e.key) ∧ wq = w') := fun wq => by
        have := HGZ.out wq (1 + 5 * j) 3 (by omega) (by omega) (by omega)
        rw [g1,show (((1 + 5 * j : Nat)) : Int) = a by omega] at this
        exact this
      have HZ4 : Hid (∀ wq,Calls Tryz.prog 80 #[.string S,.int .i64 (a + 3),.int .i64 2] wq fun x w' => x = .returned (.int .i64 e.at_) ∧ wq = w') := fun wq => by
        have := HGZ.out wq (1 + 5 * j + 3) 2 (by omega) (by omega) (by omega)
        rw [g4,show (((1 + 5 * j + 3 : Nat)) : Int) = a + 3 by omega] at this
        exact this
      obtain ⟨f,t⟩ := e
      simp only at HZ1 HZ4 HTK
      have HOA := Lib.hid (HO.out.alloc (.cells #[.int .i64 f,.int .i64 t] 111))
      have HNW : Hid (∀ (j' : Nat) (u : Value),([.int .i64 f,.int .i64 t] : List Value)[j']? = some u → (wr.alloc (.cells #[.int .i64 f,.int .i64 t] 111)).cell? ((⟨wr.heap.size,0,none⟩ : Addr).add j') = some u) := World.news_of_block (by simpa using heap_alloc_new wr (.cells #[.int .i64 f,.int .i64 t] 111))
      have hone : ∀ u ∈ ([.int .i64 f,.int .i64 t] : List Value),u.oneCell' = true := by simp [Value.oneCell']
      have HONE := Lib.hid hone
      have HSZ2 : Hid (w.heap.size ≤ (wr.alloc (.cells #[.int .i64 f,.int .i64 t] 111)).heap.size) := by
        show _ ≤ _
        have := HB.out.size
        simp only [World.size_alloc]; omega
      have HSZ3 := Lib.hid HB.out.size
      obtain ⟨i0,hi0,hz0,hz1,hz2⟩ := info_parts rKidInfo
      have HI0 := Lib.hid hi0
      have HZZ0 := Lib.hid hz0
      have HZZ1 := Lib.hid hz1
      have HZZ2 := Lib.hid hz2
      have HAJ := Lib.hid ha
      clear hi0 hz0 hz1 hz2 hone he g1 g4 hTK ha
      go_wp2_with fail
      with_reducible refine (HZ1.out _).mono ?_
      rintro x w5 ⟨rfl,rfl⟩
      go_wp2_with fail
      with_reducible refine (HZ4.out _).mono ?_
      rintro x w5 ⟨rfl,rfl⟩
      go_wp2_with (at_builtin; go_must (refine wpList_append_own _ rfl (.tmp 19) (.tmp 28) 107 rfl w.heap.size 111 i0 _ 2 16 Tryz.underlying107 HI0.out HZZ0.out HZZ1.out HZZ2.out rfl (by omega) (.slice A j c) j (kidCells (l.take j)) rfl HOA.out ⟨wr.heap.size,0,none⟩ 1 1 [.int .i64 f,.int .i64 t] rfl rfl HNW.out HONE.out (by simp only [maxLen]; omega) (by omega) HSZ2.out ?_; intro v2 w6 hown6 hg6 _; have HO6 := Lib.hid hown6; have HB6 := Lib.hid (below_append HO.out hg6 HSZ3.out); obtain ⟨A2,c2',e2⟩ := own_slice hown6; subst e2; clear hown6 hg6))
      have hmeas : (1 + 5 * (n : Int) - intOf (.int .i64 (a + 5))).toNat < (1 + 5 * (n : Int) - intOf (.int .i64 a)).toNat := by have := HAJ.out; simp [intOf]; omega
      refine ⟨⟨j + 1,A2,c2',a + 5,?_,?_,?_,rfl,?_,?_⟩,hmeas⟩
      · omega
      · first | rfl | go_num
      · have := HAJ.out; omega
      · rw [HTK.out]; with_reducible exact HO6
      · exact HB.out.trans HB6.out
    · obtain rfl : j = n := by omega
      have haS : ¬ a < (S.size : Int) := by omega
      have haS2 : decide (a < (S.size : Int)) = false := by simp; omega
      have hfull : l.take j = l := by rw [← HN.out]; exact List.take_length
      rw [hfull] at HO
      have HL6 := Lib.hid (HLF.out _ _ _ HO.out)
      clear hfull
      go_wp2_with fail
      with_reducible refine HL6.out.mono ?_
      rintro x w5 ⟨rfl,hb5⟩
      have HE : Hid (w5.ownsRow w.heap.size 111 2 (.slice A j c) j (kidCells l) ∧ Below w.heap.size w w5) := ⟨own_below HO.out hb5,HB.out.trans (hb5.mono HB.out.size)⟩
      clear hb5
      go_wp2_with fail
      refine bodyPost_ret (v := .tuple #[.slice A j c,.int .i64 0]) (by simp [results,Tryz.results56,go_sem]) rfl ⟨A,c,rfl,HE.out.1,HE.out.2⟩
end Go.Proofs.YtneammhkgmkkfaaGreat.tr
