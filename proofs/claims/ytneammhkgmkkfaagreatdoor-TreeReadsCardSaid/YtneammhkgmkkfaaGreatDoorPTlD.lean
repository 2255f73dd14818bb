/- A part of the proof. -/
import Derived.Test.YtneammhkgmkkfaaGreatDoorPTlC
namespace Go.Proofs.YtneammhkgmkkfaaGreatDoor.tr
open Go.RowKit Go.Proofs.YtneammhkgmkkfaaGreatDoor.er
set_option linter.unusedVariables false
set_option linter.unusedSimpArgs false
def kdZ (s : ByteArray) (o : Nat) : Kid := ⟨getZ s o 3,getZ s (o + 3) 2⟩
def kds (s : ByteArray) (j : Nat) : List Kid := (List.range j).map fun i => kdZ s (1 + 5 * i)
theorem kds_len (s : ByteArray) (j : Nat) : (kds s j).length = j := by simp [kds]
theorem kds_next (s : ByteArray) (j : Nat) : kds s (j + 1) = kds s j ++ [kdZ s (1 + 5 * j)] := by simp [kds,List.range_succ]
theorem kdZ_in {s : ByteArray} {o : Nat} (h : o + 5 ≤ s.size) : kdZ s o = kidD s o := by
  unfold kdZ kidD
  rw [getZ_in (by omega),getZ_in (by omega)]
theorem innerL_back {s : ByteArray} (h : okK s = true) : (innerL (kidsD s)) = s.data.toList := by
  unfold okK at h
  simp only [Bool.and_eq_true,decide_eq_true_eq] at h
  obtain ⟨⟨h1,h2⟩,h3⟩ := h
  have hr := byteAt_rng s 0
  obtain ⟨n,hn⟩ : ∃ n,(byteAt s 0).toNat = n := ⟨_,rfl⟩
  rw [hn] at h3
  have e1 : innerL (kidsD s) = UInt8.ofNat n :: ((List.range n).map fun i => kidD s (1 + 5 * i)).flatMap kidRow := by
    unfold innerL kidsD
    rw [hn,List.length_map,List.length_range]
  rw [e1]
  refine enc_dec kidRow (fun i => kidD s (1 + 5 * i)) 5 n s (by omega) h3 (by rw [byte_list (by omega),hn]) (fun y => by rw [kid_row]; rfl) (fun i hi d hd => ?_)
  have hb : ∀ q,q < 5 → s.data.toList[1 + 5 * i + q]? = some (UInt8.ofNat (byteAt s (1 + 5 * i + q)).toNat) := fun q hq => byte_list (by
    have : 5 * i + 5 ≤ 5 * n := by rw [← Nat.mul_succ]; exact Nat.mul_le_mul_left _ hi
    omega)
  rw [hb d hd,kid_row]
  unfold kidD
  match d,hd with
  | 0,_ => show some (bq (leN s (1 + 5 * i) 3) 0) = _; rw [bq_dig _ _ _ _ (by omega)]
  | 1,_ => show some (bq (leN s (1 + 5 * i) 3) 1) = _; rw [bq_dig _ _ _ _ (by omega)]
  | 2,_ => show some (bq (leN s (1 + 5 * i) 3) 2) = _; rw [bq_dig _ _ _ _ (by omega)]
  | 3,_ => show some (bq (leN s (1 + 5 * i + 3) 2) 0) = _; rw [bq_dig _ _ _ _ (by omega),Nat.add_assoc (1 + 5 * i)]
  | 4,_ => show some (bq (leN s (1 + 5 * i + 3) 2) 1) = _; rw [bq_dig _ _ _ _ (by omega),Nat.add_assoc (1 + 5 * i)]
theorem kds_iff {s : ByteArray} {j : Nat} (hj : j ≤ 8) (h1 : j = 0 ∨ 1 + 5 * (j - 1) < s.size) (h2 : s.size ≤ 1 + 5 * j ∨ j = 8) :
    ((MayK (kds s j)) ∧ (⟨(innerL (kds s j)).toArray⟩ : ByteArray) = s ↔ okK s = true ∧ MayK (kidsD s)) ∧ (okK s = true ∧ MayK (kidsD s) → kidsD s = kds s j) := by
  have hb : okK s = true ∧ MayK (kidsD s) → kidsD s = kds s j := by
    rintro ⟨ho,hm⟩
    have hlen : 1 ≤ (kidsD s).length ∧ (kidsD s).length ≤ 8 := by have := hm.1; have := hm.2.1; omega
    unfold okK at ho
    simp only [Bool.and_eq_true,decide_eq_true_eq] at ho
    rw [kidsD_len] at hlen
    have hjn : j = (byteAt s 0).toNat := by omega
    unfold kidsD kds
    rw [hjn]
    refine List.map_congr_left (fun i hi => (kdZ_in ?_).symm)
    have : i < (byteAt s 0).toNat := List.mem_range.1 hi
    omega
  refine ⟨⟨fun ⟨g,e⟩ => ?_,fun h => ?_⟩,hb⟩
  · have hg : 1 ≤ (kds s j).length ∧ (kds s j).length ≤ 8 ∧ ∀ x ∈ kds s j,kidB x = true := by exact ⟨by have := g.1; omega,g.2.1,g.2.2.each⟩
    obtain ⟨d1,d2,_⟩ := inner_dec hg.1 hg.2.1 hg.2.2
    rw [e] at d1 d2
    exact ⟨d1,by rw [d2]; exact g⟩
  · have e := hb h
    refine ⟨by rw [← e]; exact h.2,?_⟩
    rw [← e,innerL_back h.1]
set_option maxHeartbeats 8000000 in
set_option maxRecDepth 100000 in
theorem rInner_no (l : List Kid) (v : Value) (w : World) (h : KidsAt w v l) (hlen : l.length ≤ 1000) (hn : ¬ MayK l) :
    Calls Tryz.prog 58 #[v] w fun x w' => x = .returned (.tuple #[.string ⟨#[]⟩,.int .i64 1]) ∧ Below w.heap.size w w' := by
  have HLF : Hid (Calls Tryz.prog 88 #[v] w fun x w' => x = .returned (.bool false) ∧ Below w.heap.size w w') := by
    refine (rkids_any l v w h (by omega)).mono ?_
    rintro x w' ⟨b,rfl,h1,h2⟩
    have e : b = false := by cases hb : b; rfl; exact (hn (h1.1 hb)).elim
    exact ⟨by rw [e],h2⟩
  clear h hn
  go_enter Tryz.func58,Tryz.ntmps58
  go_wp2_with fail
  with_reducible refine HLF.out.mono ?_
  rintro e w1 ⟨rfl,hb1⟩
  have HB1 := Lib.hid hb1
  clear hb1
  go_wp2_with fail
  refine bodyPost_ret (v := .tuple #[.string ⟨#[]⟩,.int .i64 1]) (by simp [results,Tryz.results58,go_sem]) rfl ⟨rfl,HB1.out⟩
def RdIn (s : ByteArray) (w : World) (x : Ending) (w' : World) : Prop :=
  (∃ A c,x = .returned (.tuple #[.slice A (kidsD s).length c,.int .i64 0]) ∧ (okK s = true ∧ MayK (kidsD s)) ∧ w'.ownsRow w.heap.size 85 2 (.slice A (kidsD s).length c) (kidsD s).length (kidCells (kidsD s)) ∧ Below w.heap.size w w') ∨
    (x = .returned (.tuple #[.slice none 0 0,.int .i64 3]) ∧ ¬ (okK s = true ∧ MayK (kidsD s)) ∧ Below w.heap.size w w')
set_option maxHeartbeats 8000000 in
set_option maxRecDepth 100000 in
theorem rReadInner_any (S : ByteArray) (w : World) (hs : S.size ≤ 1000000) : Calls Tryz.prog 30 #[.string S] w (RdIn S w) := by
  have HEND : Hid (∀ (j : Nat) (A : Option Addr) (c : Nat) (wq : World),j ≤ 8 → (j = 0 ∨ 1 + 5 * (j - 1) < S.size) → (S.size ≤ 1 + 5 * j ∨ j = 8) → wq.ownsRow w.heap.size 85 2 (.slice A j c) j (kidCells (kds S j)) → Below w.heap.size w wq →
      (∃ t e,Calls Tryz.prog 58 #[.slice A j c] wq (fun x w' => x = .returned (.tuple #[.string t,.int .i64 e]) ∧ Below wq.heap.size wq w') ∧ ((e = 0 ∧ ((t = S ∧ ∀ w',Below wq.heap.size wq w' → RdIn S w (.returned (.tuple #[.slice A j c,.int .i64 0])) w') ∨ (t ≠ S ∧ ∀ w',Below wq.heap.size wq w' → RdIn S w (.returned (.tuple #[.slice none 0 0,.int .i64 3])) w'))) ∨ (e = 1 ∧ ∀ w',Below wq.heap.size wq w' → RdIn S w (.returned (.tuple #[.slice none 0 0,.int .i64 3])) w')))) := by
    intro j A c wq hj h1 h2 ho hb
    obtain ⟨hi1,hi2⟩ := kds_iff hj h1 h2
    have hll := kds_len S j
    have hat : KidsAt wq (.slice A j c) (kds S j) := (KidsAt.ownT ho).1
    have hno : ¬ (okK S = true ∧ MayK (kidsD S)) → ∀ w',Below wq.heap.size wq w' → RdIn S w (.returned (.tuple #[.slice none 0 0,.int .i64 3])) w' := fun hn w' hq => .inr ⟨rfl,hn,hb.trans (hq.mono hb.size)⟩
    by_cases hg : MayK (kds S j)
    · refine ⟨⟨(innerL (kds S j)).toArray⟩,0,?_,.inl ⟨rfl,?_⟩⟩
      · have hg' := hg
        exact rinner_ok _ _ wq hat hg'.2.2 hg'.1 hg'.2.1
      · by_cases ht : (⟨(innerL (kds S j)).toArray⟩ : ByteArray) = S
        · refine .inl ⟨ht,fun w' hq => .inl ?_⟩
          have hk := hi1.1 ⟨hg,ht⟩
          have he := hi2 hk
          refine ⟨A,c,?_,hk,?_,hb.trans (hq.mono hb.size)⟩
          · rw [he,hll]
          · rw [he,hll]; exact own_below ho hq
        · exact .inr ⟨ht,hno (fun h => ht (hi1.2 h).2)⟩
    · exact ⟨⟨#[]⟩,1,rInner_no _ _ wq hat (by omega) hg,.inr ⟨rfl,hno (fun h => hg (hi1.2 h).1)⟩⟩
  have HGZ : Hid (∀ wq (a k : Nat),1 ≤ k → k ≤ 4 → a ≤ 200 → Calls Tryz.prog 56 #[.string S,.int .i64 a,.int .i64 k] wq fun e w' => e = .returned (.int .i64 (getZ S a k)) ∧ wq = w') := fun wq a k hk hk4 ha => rgetz_any S a k wq hk hk4 (by omega) (by omega)
  go_enter Tryz.func30,Tryz.ntmps30
  go_wp2_with fail
  go_loopw [4,5] (fun s4 s5 wr => ∃ (j : Nat) (A : Option Addr) (c : Nat) (a : Int),j ≤ 8 ∧ s5 = .int .i64 a ∧ a = 1 + 5 * (j : Int) ∧ s4 = .slice A j c ∧ Hid (j = 0 ∨ 1 + 5 * (j - 1) < S.size) ∧ Hid (wr.ownsRow w.heap.size 85 2 (.slice A j c) j (kidCells (kds S j))) ∧ Hid (Below w.heap.size w wr)) (fun _ s5 _ => (1 + 5 * (8 : Int) - intOf s5).toNat)
  case atStart => exact ⟨0,none,0,1,Nat.zero_le _,rfl,rfl,rfl,.inl rfl,⟨rfl,.inl ⟨rfl,rfl⟩⟩,Below.refl _ _⟩
  case round =>
    obtain ⟨j,A,c,a,hj,rfl,ha,rfl,HM,HO,HB⟩ := hrel
    have HAJ := Lib.hid ha
    have HFIN : Hid ((¬ a < (S.size : Int) ∨ j = 8) → (S.size ≤ 1 + 5 * j ∨ j = 8)) := by intro h; omega
    by_cases haS : a < (S.size : Int)
    · by_cases hj8 : (j : Int) < 8
      · have ha0 : 1 ≤ a := by omega
        have ha1 : a ≤ 100 := by omega
        have HM1 : Hid (j + 1 = 0 ∨ 1 + 5 * (j + 1 - 1) < S.size) := .inr (by omega)
        have HTK : Hid (kidCells (kds S (j + 1)) = kidCells (kds S j) ++ [.int .i64 (getZ S (1 + 5 * j) 3),.int .i64 (getZ S (1 + 5 * j + 3) 2)]) := by
          show _ = _
          rw [kds_next,kidCells_snoc]
          rfl
        have HZ0 : Hid (∀ wq,Calls Tryz.prog 56 #[.string S,.int .i64 a,.int .i64 3] wq fun x w' => x = .returned (.int .i64 (getZ S (1 + 5 * j) 3)) ∧ wq = w') := fun wq => by
          have := HGZ.out wq (1 + 5 * j) 3 (by omega) (by omega) (by omega)
          rw [show (((1 + 5 * j : Nat)) : Int) = a by omega] at this
          exact this
        have HZ1 : Hid (∀ wq,Calls Tryz.prog 56 #[.string S,.int .i64 (a + 3),.int .i64 2] wq fun x w' => x = .returned (.int .i64 (getZ S (1 + 5 * j + 3) 2)) ∧ wq = w') := fun wq => by
          have := HGZ.out wq (1 + 5 * j + 3) 2 (by omega) (by omega) (by omega)
          rw [show (((1 + 5 * j + 3 : Nat)) : Int) = a + 3 by omega] at this
          exact this
        obtain ⟨z0,hz0'⟩ : ∃ z,getZ S (1 + 5 * j) 3 = z := ⟨_,rfl⟩
        obtain ⟨z1,hz1'⟩ : ∃ z,getZ S (1 + 5 * j + 3) 2 = z := ⟨_,rfl⟩
        rw [hz0',hz1'] at HTK
        rw [hz0'] at HZ0
        rw [hz1'] at HZ1
        have HOA := Lib.hid (HO.out.alloc (.cells #[.int .i64 z0,.int .i64 z1] 85))
        have HNW : Hid (∀ (j' : Nat) (u : Value),([.int .i64 z0,.int .i64 z1] : List Value)[j']? = some u → (wr.alloc (.cells #[.int .i64 z0,.int .i64 z1] 85)).cell? ((⟨wr.heap.size,0,none⟩ : Addr).add j') = some u) := World.news_of_block (by simpa using heap_alloc_new wr (.cells #[.int .i64 z0,.int .i64 z1] 85))
        have hone : ∀ u ∈ ([.int .i64 z0,.int .i64 z1] : List Value),u.oneCell' = true := by simp [Value.oneCell']
        have HONE := Lib.hid hone
        have HSZ2 : Hid (w.heap.size ≤ (wr.alloc (.cells #[.int .i64 z0,.int .i64 z1] 85)).heap.size) := by
          show _ ≤ _
          have := HB.out.size
          simp only [World.size_alloc]; omega
        have HSZ3 := Lib.hid HB.out.size
        obtain ⟨i0,hi0,hz0,hz1,hz2⟩ := info_parts rKidInfo
        have HI0 := Lib.hid hi0
        have HZZ0 := Lib.hid hz0
        have HZZ1 := Lib.hid hz1
        have HZZ2 := Lib.hid hz2
        clear hi0 hz0 hz1 hz2 hone ha hz0' hz1'
        go_wp2_with fail
        with_reducible refine (HZ0.out _).mono ?_
        rintro x w5 ⟨rfl,rfl⟩
        go_wp2_with fail
        with_reducible refine (HZ1.out _).mono ?_
        rintro x w5 ⟨rfl,rfl⟩
        go_wp2_with (at_builtin; go_must (refine wpList_append_own _ rfl (.tmp 19) (.tmp 28) 81 rfl w.heap.size 85 i0 _ 2 16 Tryz.underlying81 HI0.out HZZ0.out HZZ1.out HZZ2.out rfl (by omega) (.slice A j c) j (kidCells (kds S j)) rfl HOA.out ⟨wr.heap.size,0,none⟩ 1 1 [.int .i64 z0,.int .i64 z1] rfl rfl HNW.out HONE.out (by simp only [maxLen]; omega) (by omega) HSZ2.out ?_; intro v2 w6 hown6 hg6 _; have HO6 := Lib.hid hown6; have HB6 := Lib.hid (below_append HO.out hg6 HSZ3.out); obtain ⟨A2,c2',e2⟩ := own_slice hown6; subst e2; clear hown6 hg6))
        have hmeas : (1 + 5 * (8 : Int) - intOf (.int .i64 (a + 5))).toNat < (1 + 5 * (8 : Int) - intOf (.int .i64 a)).toNat := by have := HAJ.out; simp [intOf]; omega
        refine ⟨⟨j + 1,A2,c2',a + 5,?_,?_,?_,rfl,HM1,?_,?_⟩,hmeas⟩
        · omega
        · first | rfl | go_num
        · have := HAJ.out; omega
        · rw [HTK.out]; with_reducible exact HO6
        · exact HB.out.trans HB6.out
      · have hf := HFIN.out (.inr (by omega))
        obtain ⟨t,e,hcall,hres⟩ := HEND.out j A c wr hj HM.out hf HO.out HB.out
        have HCALL := Lib.hid hcall
        clear hcall hf
        rcases hres with ⟨rfl,⟨rfl,hp⟩ | ⟨hne,hp⟩⟩ | ⟨rfl,hp⟩
        · have HP := Lib.hid hp
          clear hp
          go_wp2_with fail
          with_reducible refine HCALL.out.mono ?_
          rintro x w5 ⟨rfl,hb5⟩
          have HE := Lib.hid (HP.out w5 hb5)
          clear hb5
          go_wp2_with fail
          refine bodyPost_ret (v := .tuple #[.slice A j c,.int .i64 0]) (by simp [results,Tryz.results30,go_sem]) rfl HE.out
        · have HP := Lib.hid hp
          have hne2 : (t.toList == S.toList) = false := by
            rw [beq_eq_false_iff_ne,ByteArray.toList_eq,ByteArray.toList_eq]
            intro h
            exact hne (ByteArray.ext (Array.ext' h))
          clear hp
          go_wp2_with fail
          with_reducible refine HCALL.out.mono ?_
          rintro x w5 ⟨rfl,hb5⟩
          have HE := Lib.hid (HP.out w5 hb5)
          clear hb5
          go_wp2_with fail
          refine bodyPost_ret (v := .tuple #[.slice none 0 0,.int .i64 3]) (by simp [results,Tryz.results30,go_sem]) rfl HE.out
        · have HP := Lib.hid hp
          clear hp
          go_wp2_with fail
          with_reducible refine HCALL.out.mono ?_
          rintro x w5 ⟨rfl,hb5⟩
          have HE := Lib.hid (HP.out w5 hb5)
          clear hb5
          go_wp2_with fail
          refine bodyPost_ret (v := .tuple #[.slice none 0 0,.int .i64 3]) (by simp [results,Tryz.results30,go_sem]) rfl HE.out
    · have hf := HFIN.out (.inl haS)
      have haS2 : decide (a < (S.size : Int)) = false := by simp; omega
      obtain ⟨t,e,hcall,hres⟩ := HEND.out j A c wr hj HM.out hf HO.out HB.out
      have HCALL := Lib.hid hcall
      clear hcall hf
      rcases hres with ⟨rfl,⟨rfl,hp⟩ | ⟨hne,hp⟩⟩ | ⟨rfl,hp⟩
      · have HP := Lib.hid hp
        clear hp
        go_wp2_with fail
        with_reducible refine HCALL.out.mono ?_
        rintro x w5 ⟨rfl,hb5⟩
        have HE := Lib.hid (HP.out w5 hb5)
        clear hb5
        go_wp2_with fail
        refine bodyPost_ret (v := .tuple #[.slice A j c,.int .i64 0]) (by simp [results,Tryz.results30,go_sem]) rfl HE.out
      · have HP := Lib.hid hp
        have hne2 : (t.toList == S.toList) = false := by
          rw [beq_eq_false_iff_ne,ByteArray.toList_eq,ByteArray.toList_eq]
          intro h
          exact hne (ByteArray.ext (Array.ext' h))
        clear hp
        go_wp2_with fail
        with_reducible refine HCALL.out.mono ?_
        rintro x w5 ⟨rfl,hb5⟩
        have HE := Lib.hid (HP.out w5 hb5)
        clear hb5
        go_wp2_with fail
        refine bodyPost_ret (v := .tuple #[.slice none 0 0,.int .i64 3]) (by simp [results,Tryz.results30,go_sem]) rfl HE.out
      · have HP := Lib.hid hp
        clear hp
        go_wp2_with fail
        with_reducible refine HCALL.out.mono ?_
        rintro x w5 ⟨rfl,hb5⟩
        have HE := Lib.hid (HP.out w5 hb5)
        clear hb5
        go_wp2_with fail
        refine bodyPost_ret (v := .tuple #[.slice none 0 0,.int .i64 3]) (by simp [results,Tryz.results30,go_sem]) rfl HE.out
end Go.Proofs.YtneammhkgmkkfaaGreatDoor.tr
