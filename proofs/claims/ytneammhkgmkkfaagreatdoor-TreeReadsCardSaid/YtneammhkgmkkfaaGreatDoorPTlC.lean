/- A part of the proof. -/
import Derived.Test.YtneammhkgmkkfaaGreatDoorPTlB
namespace Go.Proofs.YtneammhkgmkkfaaGreatDoor.tr
open Go.RowKit Go.Proofs.YtneammhkgmkkfaaGreatDoor.er
set_option linter.unusedVariables false
set_option linter.unusedSimpArgs false
theorem getZ_in {s : ByteArray} {a k : Nat} (h : a + k ≤ s.size) : getZ s a k = leN s a k := if_pos h
theorem enc_dec {α : Type} (R : α → List UInt8) (D : Nat → α) (m n : Nat) (s : ByteArray) (hm : 0 < m) (hs : s.size = 1 + m * n) (h0 : s.data.toList[0]? = some (UInt8.ofNat n)) (hl : ∀ y,(R y).length = m)
    (hR : ∀ i,i < n → ∀ d,d < m → (R (D i))[d]? = s.data.toList[1 + m * i + d]?) : UInt8.ofNat n :: ((List.range n).map D).flatMap R = s.data.toList := by
  have hsz : s.data.toList.length = 1 + m * n := by rw [← hs,Array.length_toList]; rfl
  have hfl : (((List.range n).map D).flatMap R).length = m * n := by rw [size_flat _ hl]; simp
  apply List.ext_getElem?
  intro k
  cases k with
  | zero => rw [h0]; rfl
  | succ k =>
    rw [List.getElem?_cons_succ]
    by_cases hk : k < m * n
    · have hd : k % m < m := Nat.mod_lt _ hm
      have hi : k / m < n := by
        rw [Nat.div_lt_iff_lt_mul hm,Nat.mul_comm]; exact hk
      have he : m * (k / m) + k % m = k := Nat.div_add_mod k m
      have := flatR_at ((List.range n).map D) (k / m) (D (k / m)) (k % m) hl (by rw [List.getElem?_map,List.getElem?_range hi]; rfl) hd
      rw [he] at this
      rw [this,hR _ hi _ hd]
      congr 1
      omega
    · rw [List.getElem?_eq_none (by omega),List.getElem?_eq_none (by omega)]
theorem byte_list {s : ByteArray} {i : Nat} (h : i < s.size) : s.data.toList[i]? = some (UInt8.ofNat (byteAt s i).toNat) := by
  have hl : i < s.data.toList.length := by rw [Array.length_toList]; exact h
  unfold byteAt
  rw [dif_pos h,List.getElem?_eq_getElem hl]
  congr 1
  have : s[i] = s.data.toList[i] := by simp [ByteArray.getElem_eq_getElem_data]
  rw [this]
  simp
theorem bq_dig (s : ByteArray) (a k d : Nat) (hd : d < k) : bq (leN s a k) d = UInt8.ofNat (byteAt s (a + d)).toNat := by
  unfold bq
  rw [leN_digit s k a d hd]
def exZ (s : ByteArray) (o : Nat) : Ext := ⟨getZ s o 3,getZ s (o + 3) 4,getZ s (o + 7) 1,getZ s (o + 8) 2⟩
def exs (s : ByteArray) (j : Nat) : List Ext := (List.range j).map fun i => exZ s (1 + 10 * i)
theorem exs_len (s : ByteArray) (j : Nat) : (exs s j).length = j := by simp [exs]
theorem exs_next (s : ByteArray) (j : Nat) : exs s (j + 1) = exs s j ++ [exZ s (1 + 10 * j)] := by simp [exs,List.range_succ]
theorem exZ_in {s : ByteArray} {o : Nat} (h : o + 10 ≤ s.size) : exZ s o = extD s o := by
  unfold exZ extD
  rw [getZ_in (by omega),getZ_in (by omega),getZ_in (by omega),getZ_in (by omega)]
theorem leafL_back {s : ByteArray} (h : okE s = true) : (leafL (extsD s)) = s.data.toList := by
  unfold okE at h
  simp only [Bool.and_eq_true,decide_eq_true_eq] at h
  obtain ⟨⟨h1,h2⟩,h3⟩ := h
  have hr := byteAt_rng s 0
  obtain ⟨n,hn⟩ : ∃ n,(byteAt s 0).toNat = n := ⟨_,rfl⟩
  rw [hn] at h3
  have e1 : leafL (extsD s) = UInt8.ofNat n :: ((List.range n).map fun i => extD s (1 + 10 * i)).flatMap extRow := by
    unfold leafL extsD
    rw [hn,List.length_map,List.length_range]
  rw [e1]
  refine enc_dec extRow (fun i => extD s (1 + 10 * i)) 10 n s (by omega) h3 (by rw [byte_list (by omega),hn]) (fun y => by rw [ext_row]; rfl) (fun i hi d hd => ?_)
  have hb : ∀ q,q < 10 → s.data.toList[1 + 10 * i + q]? = some (UInt8.ofNat (byteAt s (1 + 10 * i + q)).toNat) := fun q hq => byte_list (by
    have : 10 * i + 10 ≤ 10 * n := by rw [← Nat.mul_succ]; exact Nat.mul_le_mul_left _ hi
    omega)
  rw [hb d hd,ext_row]
  unfold extD
  match d,hd with
  | 0,_ => show some (bq (leN s (1 + 10 * i) 3) 0) = _; rw [bq_dig _ _ _ _ (by omega)]
  | 1,_ => show some (bq (leN s (1 + 10 * i) 3) 1) = _; rw [bq_dig _ _ _ _ (by omega)]
  | 2,_ => show some (bq (leN s (1 + 10 * i) 3) 2) = _; rw [bq_dig _ _ _ _ (by omega)]
  | 3,_ => show some (bq (leN s (1 + 10 * i + 3) 4) 0) = _; rw [bq_dig _ _ _ _ (by omega),Nat.add_assoc (1 + 10 * i)]
  | 4,_ => show some (bq (leN s (1 + 10 * i + 3) 4) 1) = _; rw [bq_dig _ _ _ _ (by omega),Nat.add_assoc (1 + 10 * i)]
  | 5,_ => show some (bq (leN s (1 + 10 * i + 3) 4) 2) = _; rw [bq_dig _ _ _ _ (by omega),Nat.add_assoc (1 + 10 * i)]
  | 6,_ => show some (bq (leN s (1 + 10 * i + 3) 4) 3) = _; rw [bq_dig _ _ _ _ (by omega),Nat.add_assoc (1 + 10 * i)]
  | 7,_ => show some (bq (leN s (1 + 10 * i + 7) 1) 0) = _; rw [bq_dig _ _ _ _ (by omega),Nat.add_assoc (1 + 10 * i)]
  | 8,_ => show some (bq (leN s (1 + 10 * i + 8) 2) 0) = _; rw [bq_dig _ _ _ _ (by omega),Nat.add_assoc (1 + 10 * i)]
  | 9,_ => show some (bq (leN s (1 + 10 * i + 8) 2) 1) = _; rw [bq_dig _ _ _ _ (by omega),Nat.add_assoc (1 + 10 * i)]
theorem exs_iff {s : ByteArray} {j : Nat} (hj : j ≤ 8) (h1 : j = 0 ∨ 1 + 10 * (j - 1) < s.size) (h2 : s.size ≤ 1 + 10 * j ∨ j = 8) :
    ((MayE (exs s j)) ∧ (⟨(leafL (exs s j)).toArray⟩ : ByteArray) = s ↔ okE s = true ∧ MayE (extsD s)) ∧ (okE s = true ∧ MayE (extsD s) → extsD s = exs s j) := by
  have hb : okE s = true ∧ MayE (extsD s) → extsD s = exs s j := by
    rintro ⟨ho,hm⟩
    have hlen : 1 ≤ (extsD s).length ∧ (extsD s).length ≤ 8 := by unfold MayE extB at hm; simp only [Bool.and_eq_true,decide_eq_true_eq] at hm; omega
    unfold okE at ho
    simp only [Bool.and_eq_true,decide_eq_true_eq] at ho
    rw [extsD_len] at hlen
    have hjn : j = (byteAt s 0).toNat := by omega
    unfold extsD exs
    rw [hjn]
    refine List.map_congr_left (fun i hi => (exZ_in ?_).symm)
    have : i < (byteAt s 0).toNat := List.mem_range.1 hi
    omega
  refine ⟨⟨fun ⟨g,e⟩ => ?_,fun h => ?_⟩,hb⟩
  · have hg : 1 ≤ (exs s j).length ∧ (exs s j).length ≤ 8 ∧ ∀ x ∈ exs s j,oneB x = true := by unfold MayE extB at g; simp only [Bool.and_eq_true,decide_eq_true_eq] at g; exact ⟨g.1.1,g.1.2,(chkB_chk _ g.2).one⟩
    obtain ⟨d1,d2,_⟩ := leaf_dec hg.1 hg.2.1 hg.2.2
    rw [e] at d1 d2
    exact ⟨d1,by rw [d2]; exact g⟩
  · have e := hb h
    refine ⟨by rw [← e]; exact h.2,?_⟩
    rw [← e,leafL_back h.1]
set_option maxHeartbeats 8000000 in
set_option maxRecDepth 100000 in
theorem rLeaf_no (l : List Ext) (v : Value) (w : World) (h : ExtsAt w v l) (hlen : l.length ≤ 1000) (hn : ¬ MayE l) :
    Calls Tryz.prog 57 #[v] w fun x w' => x = .returned (.tuple #[.string ⟨#[]⟩,.int .i64 1]) ∧ Below w.heap.size w w' := by
  have HLF : Hid (Calls Tryz.prog 86 #[v] w fun x w' => x = .returned (.bool false) ∧ Below w.heap.size w w') := by
    have := leafy_any l v w h (by omega)
    have e : extB l = false := by cases hb : extB l; rfl; exact (hn hb).elim
    rw [e] at this
    exact this
  clear h hn
  go_enter Tryz.func57,Tryz.ntmps57
  go_wp2_with fail
  with_reducible refine HLF.out.mono ?_
  rintro e w1 ⟨rfl,hb1⟩
  have HB1 := Lib.hid hb1
  clear hb1
  go_wp2_with fail
  refine bodyPost_ret (v := .tuple #[.string ⟨#[]⟩,.int .i64 1]) (by simp [results,Tryz.results57,go_sem]) rfl ⟨rfl,HB1.out⟩
def RdLf (s : ByteArray) (w : World) (x : Ending) (w' : World) : Prop :=
  (∃ A c,x = .returned (.tuple #[.slice A (extsD s).length c,.int .i64 0]) ∧ (okE s = true ∧ MayE (extsD s)) ∧ w'.ownsRow w.heap.size 80 4 (.slice A (extsD s).length c) (extsD s).length (extCells (extsD s)) ∧ Below w.heap.size w w') ∨
    (x = .returned (.tuple #[.slice none 0 0,.int .i64 3]) ∧ ¬ (okE s = true ∧ MayE (extsD s)) ∧ Below w.heap.size w w')
set_option maxHeartbeats 8000000 in
set_option maxRecDepth 100000 in
theorem rReadLeaf_any (S : ByteArray) (w : World) (hs : S.size ≤ 1000000) : Calls Tryz.prog 28 #[.string S] w (RdLf S w) := by
  have HEND : Hid (∀ (j : Nat) (A : Option Addr) (c : Nat) (wq : World),j ≤ 8 → (j = 0 ∨ 1 + 10 * (j - 1) < S.size) → (S.size ≤ 1 + 10 * j ∨ j = 8) → wq.ownsRow w.heap.size 80 4 (.slice A j c) j (extCells (exs S j)) → Below w.heap.size w wq →
      (∃ t e,Calls Tryz.prog 57 #[.slice A j c] wq (fun x w' => x = .returned (.tuple #[.string t,.int .i64 e]) ∧ Below wq.heap.size wq w') ∧ ((e = 0 ∧ ((t = S ∧ ∀ w',Below wq.heap.size wq w' → RdLf S w (.returned (.tuple #[.slice A j c,.int .i64 0])) w') ∨ (t ≠ S ∧ ∀ w',Below wq.heap.size wq w' → RdLf S w (.returned (.tuple #[.slice none 0 0,.int .i64 3])) w'))) ∨ (e = 1 ∧ ∀ w',Below wq.heap.size wq w' → RdLf S w (.returned (.tuple #[.slice none 0 0,.int .i64 3])) w')))) := by
    intro j A c wq hj h1 h2 ho hb
    obtain ⟨hi1,hi2⟩ := exs_iff hj h1 h2
    have hll := exs_len S j
    have hat : ExtsAt wq (.slice A j c) (exs S j) := (ExtsAt.ownT ho).1
    have hno : ¬ (okE S = true ∧ MayE (extsD S)) → ∀ w',Below wq.heap.size wq w' → RdLf S w (.returned (.tuple #[.slice none 0 0,.int .i64 3])) w' := fun hn w' hq => .inr ⟨rfl,hn,hb.trans (hq.mono hb.size)⟩
    by_cases hg : MayE (exs S j)
    · refine ⟨⟨(leafL (exs S j)).toArray⟩,0,?_,.inl ⟨rfl,?_⟩⟩
      · have hg' := hg
        unfold MayE extB at hg'
        simp only [Bool.and_eq_true,decide_eq_true_eq] at hg'
        exact rleaf_ok _ _ wq hat (chkB_chk _ hg'.2) hg'.1.1 hg'.1.2
      · by_cases ht : (⟨(leafL (exs S j)).toArray⟩ : ByteArray) = S
        · refine .inl ⟨ht,fun w' hq => .inl ?_⟩
          have hk := hi1.1 ⟨hg,ht⟩
          have he := hi2 hk
          refine ⟨A,c,?_,hk,?_,hb.trans (hq.mono hb.size)⟩
          · rw [he,hll]
          · rw [he,hll]; exact own_below ho hq
        · exact .inr ⟨ht,hno (fun h => ht (hi1.2 h).2)⟩
    · exact ⟨⟨#[]⟩,1,rLeaf_no _ _ wq hat (by omega) hg,.inr ⟨rfl,hno (fun h => hg (hi1.2 h).1)⟩⟩
  have HGZ : Hid (∀ wq (a k : Nat),1 ≤ k → k ≤ 4 → a ≤ 200 → Calls Tryz.prog 56 #[.string S,.int .i64 a,.int .i64 k] wq fun e w' => e = .returned (.int .i64 (getZ S a k)) ∧ wq = w') := fun wq a k hk hk4 ha => rgetz_any S a k wq hk hk4 (by omega) (by omega)
  go_enter Tryz.func28,Tryz.ntmps28
  go_wp2_with fail
  go_loopw [4,5] (fun s4 s5 wr => ∃ (j : Nat) (A : Option Addr) (c : Nat) (a : Int),j ≤ 8 ∧ s5 = .int .i64 a ∧ a = 1 + 10 * (j : Int) ∧ s4 = .slice A j c ∧ Hid (j = 0 ∨ 1 + 10 * (j - 1) < S.size) ∧ Hid (wr.ownsRow w.heap.size 80 4 (.slice A j c) j (extCells (exs S j))) ∧ Hid (Below w.heap.size w wr)) (fun _ s5 _ => (1 + 10 * (8 : Int) - intOf s5).toNat)
  case atStart => exact ⟨0,none,0,1,Nat.zero_le _,rfl,rfl,rfl,.inl rfl,⟨rfl,.inl ⟨rfl,rfl⟩⟩,Below.refl _ _⟩
  case round =>
    obtain ⟨j,A,c,a,hj,rfl,ha,rfl,HM,HO,HB⟩ := hrel
    have HAJ := Lib.hid ha
    have HFIN : Hid ((¬ a < (S.size : Int) ∨ j = 8) → (S.size ≤ 1 + 10 * j ∨ j = 8)) := by intro h; omega
    by_cases haS : a < (S.size : Int)
    · by_cases hj8 : (j : Int) < 8
      · have ha0 : 1 ≤ a := by omega
        have ha1 : a ≤ 100 := by omega
        have HM1 : Hid (j + 1 = 0 ∨ 1 + 10 * (j + 1 - 1) < S.size) := .inr (by omega)
        have HTK : Hid (extCells (exs S (j + 1)) = extCells (exs S j) ++ [.int .i64 (getZ S (1 + 10 * j) 3),.int .i64 (getZ S (1 + 10 * j + 3) 4),.int .i64 (getZ S (1 + 10 * j + 7) 1),.int .i64 (getZ S (1 + 10 * j + 8) 2)]) := by
          show _ = _
          rw [exs_next,extCells_snoc]
          rfl
        have HZ0 : Hid (∀ wq,Calls Tryz.prog 56 #[.string S,.int .i64 a,.int .i64 3] wq fun x w' => x = .returned (.int .i64 (getZ S (1 + 10 * j) 3)) ∧ wq = w') := fun wq => by
          have := HGZ.out wq (1 + 10 * j) 3 (by omega) (by omega) (by omega)
          rw [show (((1 + 10 * j : Nat)) : Int) = a by omega] at this
          exact this
        have HZ1 : Hid (∀ wq,Calls Tryz.prog 56 #[.string S,.int .i64 (a + 3),.int .i64 4] wq fun x w' => x = .returned (.int .i64 (getZ S (1 + 10 * j + 3) 4)) ∧ wq = w') := fun wq => by
          have := HGZ.out wq (1 + 10 * j + 3) 4 (by omega) (by omega) (by omega)
          rw [show (((1 + 10 * j + 3 : Nat)) : Int) = a + 3 by omega] at this
          exact this
        have HZ2 : Hid (∀ wq,Calls Tryz.prog 56 #[.string S,.int .i64 (a + 7),.int .i64 1] wq fun x w' => x = .returned (.int .i64 (getZ S (1 + 10 * j + 7) 1)) ∧ wq = w') := fun wq => by
          have := HGZ.out wq (1 + 10 * j + 7) 1 (by omega) (by omega) (by omega)
          rw [show (((1 + 10 * j + 7 : Nat)) : Int) = a + 7 by omega] at this
          exact this
        have HZ3 : Hid (∀ wq,Calls Tryz.prog 56 #[.string S,.int .i64 (a + 8),.int .i64 2] wq fun x w' => x = .returned (.int .i64 (getZ S (1 + 10 * j + 8) 2)) ∧ wq = w') := fun wq => by
          have := HGZ.out wq (1 + 10 * j + 8) 2 (by omega) (by omega) (by omega)
          rw [show (((1 + 10 * j + 8 : Nat)) : Int) = a + 8 by omega] at this
          exact this
        obtain ⟨z0,hz0'⟩ : ∃ z,getZ S (1 + 10 * j) 3 = z := ⟨_,rfl⟩
        obtain ⟨z1,hz1'⟩ : ∃ z,getZ S (1 + 10 * j + 3) 4 = z := ⟨_,rfl⟩
        obtain ⟨z2,hz2'⟩ : ∃ z,getZ S (1 + 10 * j + 7) 1 = z := ⟨_,rfl⟩
        obtain ⟨z3,hz3'⟩ : ∃ z,getZ S (1 + 10 * j + 8) 2 = z := ⟨_,rfl⟩
        rw [hz0',hz1',hz2',hz3'] at HTK
        rw [hz0'] at HZ0
        rw [hz1'] at HZ1
        rw [hz2'] at HZ2
        rw [hz3'] at HZ3
        have HOA := Lib.hid (HO.out.alloc (.cells #[.int .i64 z0,.int .i64 z1,.int .i64 z2,.int .i64 z3] 80))
        have HNW : Hid (∀ (j' : Nat) (u : Value),([.int .i64 z0,.int .i64 z1,.int .i64 z2,.int .i64 z3] : List Value)[j']? = some u → (wr.alloc (.cells #[.int .i64 z0,.int .i64 z1,.int .i64 z2,.int .i64 z3] 80)).cell? ((⟨wr.heap.size,0,none⟩ : Addr).add j') = some u) := World.news_of_block (by simpa using heap_alloc_new wr (.cells #[.int .i64 z0,.int .i64 z1,.int .i64 z2,.int .i64 z3] 80))
        have hone : ∀ u ∈ ([.int .i64 z0,.int .i64 z1,.int .i64 z2,.int .i64 z3] : List Value),u.oneCell' = true := by simp [Value.oneCell']
        have HONE := Lib.hid hone
        have HSZ2 : Hid (w.heap.size ≤ (wr.alloc (.cells #[.int .i64 z0,.int .i64 z1,.int .i64 z2,.int .i64 z3] 80)).heap.size) := by
          show _ ≤ _
          have := HB.out.size
          simp only [World.size_alloc]; omega
        have HSZ3 := Lib.hid HB.out.size
        obtain ⟨i0,hi0,hz0,hz1,hz2⟩ := info_parts rExtInfo
        have HI0 := Lib.hid hi0
        have HZZ0 := Lib.hid hz0
        have HZZ1 := Lib.hid hz1
        have HZZ2 := Lib.hid hz2
        clear hi0 hz0 hz1 hz2 hone ha hz0' hz1' hz2' hz3'
        go_wp2_with fail
        with_reducible refine (HZ0.out _).mono ?_
        rintro x w5 ⟨rfl,rfl⟩
        go_wp2_with fail
        with_reducible refine (HZ1.out _).mono ?_
        rintro x w5 ⟨rfl,rfl⟩
        go_wp2_with fail
        with_reducible refine (HZ2.out _).mono ?_
        rintro x w5 ⟨rfl,rfl⟩
        go_wp2_with fail
        with_reducible refine (HZ3.out _).mono ?_
        rintro x w5 ⟨rfl,rfl⟩
        go_wp2_with (at_builtin; go_must (refine wpList_append_own _ rfl (.tmp 19) (.tmp 36) 38 rfl w.heap.size 80 i0 _ 4 32 Tryz.underlying38 HI0.out HZZ0.out HZZ1.out HZZ2.out rfl (by omega) (.slice A j c) j (extCells (exs S j)) rfl HOA.out ⟨wr.heap.size,0,none⟩ 1 1 [.int .i64 z0,.int .i64 z1,.int .i64 z2,.int .i64 z3] rfl rfl HNW.out HONE.out (by simp only [maxLen]; omega) (by omega) HSZ2.out ?_; intro v2 w6 hown6 hg6 _; have HO6 := Lib.hid hown6; have HB6 := Lib.hid (below_append HO.out hg6 HSZ3.out); obtain ⟨A2,c2',e2⟩ := own_slice hown6; subst e2; clear hown6 hg6))
        have hmeas : (1 + 10 * (8 : Int) - intOf (.int .i64 (a + 10))).toNat < (1 + 10 * (8 : Int) - intOf (.int .i64 a)).toNat := by have := HAJ.out; simp [intOf]; omega
        refine ⟨⟨j + 1,A2,c2',a + 10,?_,?_,?_,rfl,HM1,?_,?_⟩,hmeas⟩
        · omega
        · first | rfl | go_num
        · have := HAJ.out; omega
        · rw [HTK.out]; with_reducible exact HO6
        · exact HB.out.trans HB6.out
      · have hf := HFIN.out (.inr (by omega))
        obtain ⟨t,e,hcall,hres⟩ := HEND.out j A c wr hj HM.out hf HO.out HB.out
        have HCALL := Lib.hid hcall
        clear hcall hf
        rcases hres with ⟨rfl,⟨rfl,hp⟩ | ⟨hne,hp⟩⟩ | ⟨rfl,hp⟩
        · have HP := Lib.hid hp
          clear hp
          go_wp2_with fail
          with_reducible refine HCALL.out.mono ?_
          rintro x w5 ⟨rfl,hb5⟩
          have HE := Lib.hid (HP.out w5 hb5)
          clear hb5
          go_wp2_with fail
          refine bodyPost_ret (v := .tuple #[.slice A j c,.int .i64 0]) (by simp [results,Tryz.results28,go_sem]) rfl HE.out
        · have HP := Lib.hid hp
          have hne2 : (t.toList == S.toList) = false := by
            rw [beq_eq_false_iff_ne,ByteArray.toList_eq,ByteArray.toList_eq]
            intro h
            exact hne (ByteArray.ext (Array.ext' h))
          clear hp
          go_wp2_with fail
          with_reducible refine HCALL.out.mono ?_
          rintro x w5 ⟨rfl,hb5⟩
          have HE := Lib.hid (HP.out w5 hb5)
          clear hb5
          go_wp2_with fail
          refine bodyPost_ret (v := .tuple #[.slice none 0 0,.int .i64 3]) (by simp [results,Tryz.results28,go_sem]) rfl HE.out
        · have HP := Lib.hid hp
          clear hp
          go_wp2_with fail
          with_reducible refine HCALL.out.mono ?_
          rintro x w5 ⟨rfl,hb5⟩
          have HE := Lib.hid (HP.out w5 hb5)
          clear hb5
          go_wp2_with fail
          refine bodyPost_ret (v := .tuple #[.slice none 0 0,.int .i64 3]) (by simp [results,Tryz.results28,go_sem]) rfl HE.out
    · have hf := HFIN.out (.inl haS)
      have haS2 : decide (a < (S.size : Int)) = false := by simp; omega
      obtain ⟨t,e,hcall,hres⟩ := HEND.out j A c wr hj HM.out hf HO.out HB.out
      have HCALL := Lib.hid hcall
      clear hcall hf
      rcases hres with ⟨rfl,⟨rfl,hp⟩ | ⟨hne,hp⟩⟩ | ⟨rfl,hp⟩
      · have HP := Lib.hid hp
        clear hp
        go_wp2_with fail
        with_reducible refine HCALL.out.mono ?_
        rintro x w5 ⟨rfl,hb5⟩
        have HE := Lib.hid (HP.out w5 hb5)
        clear hb5
        go_wp2_with fail
        refine bodyPost_ret (v := .tuple #[.slice A j c,.int .i64 0]) (by simp [results,Tryz.results28,go_sem]) rfl HE.out
      · have HP := Lib.hid hp
        have hne2 : (t.toList == S.toList) = false := by
          rw [beq_eq_false_iff_ne,ByteArray.toList_eq,ByteArray.toList_eq]
          intro h
          exact hne (ByteArray.ext (Array.ext' h))
        clear hp
        go_wp2_with fail
        with_reducible refine HCALL.out.mono ?_
        rintro x w5 ⟨rfl,hb5⟩
        have HE := Lib.hid (HP.out w5 hb5)
        clear hb5
        go_wp2_with fail
        refine bodyPost_ret (v := .tuple #[.slice none 0 0,.int .i64 3]) (by simp [results,Tryz.results28,go_sem]) rfl HE.out
      · have HP := Lib.hid hp
        clear hp
        go_wp2_with fail
        with_reducible refine HCALL.out.mono ?_
        rintro x w5 ⟨rfl,hb5⟩
        have HE := Lib.hid (HP.out w5 hb5)
        clear hb5
        go_wp2_with fail
        refine bodyPost_ret (v := .tuple #[.slice none 0 0,.int .i64 3]) (by simp [results,Tryz.results28,go_sem]) rfl HE.out
end Go.Proofs.YtneammhkgmkkfaaGreatDoor.tr
