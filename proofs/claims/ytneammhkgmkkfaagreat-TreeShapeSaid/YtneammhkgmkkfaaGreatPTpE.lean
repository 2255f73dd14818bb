/- A part of the proof. -/
import Derived.Test.YtneammhkgmkkfaaGreatPTpD
namespace Go.Proofs.YtneammhkgmkkfaaGreat.tr
open Go.RowKit Go.Proofs.YtneammhkgmkkfaaGreat.er
set_option linter.unusedVariables false
set_option linter.unusedSimpArgs false
theorem rExtInfo : (Tryz.prog.info? 49).map (fun i => (i.zero,i.size,i.bytes)) = some (some (.agg #[.int .i64 0,.int .i64 0,.int .i64 0,.int .i64 0]),4,32) := by kernel_rfl
theorem extCells_next {l : List Ext} {j : Nat} {e : Ext} (h : l[j]? = some e) : extCells (l.take (j + 1)) = extCells (l.take j) ++ [.int .i64 e.fr,.int .i64 e.n,.int .i64 e.kind,.int .i64 e.at_] := by
  rw [List.take_add_one,h,← extCells_snoc]
  rfl
theorem leaf_gets {l : List Ext} (h1 : 1 ≤ l.length) (h8 : l.length ≤ 8) (ho : ∀ e ∈ l,oneB e = true) {j : Nat} {e : Ext} (hj : l[j]? = some e) :
    getZ ⟨(leafL l).toArray⟩ (1 + 10 * j) 3 = e.fr ∧ getZ ⟨(leafL l).toArray⟩ (1 + 10 * j + 3) 4 = e.n ∧ getZ ⟨(leafL l).toArray⟩ (1 + 10 * j + 7) 1 = e.kind ∧ getZ ⟨(leafL l).toArray⟩ (1 + 10 * j + 8) 2 = e.at_ := by
  obtain ⟨d1,d2,d3⟩ := leaf_dec h1 h8 ho
  have hjl := (List.getElem?_eq_some_iff.1 hj).1
  have hsz : (⟨(leafL l).toArray⟩ : ByteArray).size = 1 + 10 * l.length := by show (leafL l).toArray.size = _; have := leafL_len l; simp; omega
  have hlen : (byteAt ⟨(leafL l).toArray⟩ 0).toNat = l.length := by rw [← extsD_len,d2]
  have hat := extsD_at ⟨(leafL l).toArray⟩ j (by rw [hlen]; exact hjl)
  rw [d2,hj] at hat
  injection hat with hat
  rw [hat]
  unfold getZ extD
  refine ⟨?_,?_,?_,?_⟩
  all_goals (rw [if_pos (by rw [hsz]; omega)])
set_option maxHeartbeats 16000000 in
set_option maxRecDepth 100000 in
theorem rreadLeaf_ok (l : List Ext) (w : World) (hl : Chk l) (h1 : 1 ≤ l.length) (h8 : l.length ≤ 8) :
    Calls Tryz.prog 54 #[.string ⟨(leafL l).toArray⟩] w fun x w' => ∃ A c,x = .returned (.tuple #[.slice A l.length c,.int .i64 0]) ∧ w'.ownsRow w.heap.size 49 4 (.slice A l.length c) l.length (extCells l) ∧ Below w.heap.size w w' := by
  have hsz : (⟨(leafL l).toArray⟩ : ByteArray).size = 1 + 10 * l.length := by show (leafL l).toArray.size = _; have := leafL_len l; simp; omega
  have HG := Lib.hid (fun (j : Nat) (e : Ext) (hj : l[j]? = some e) => leaf_gets h1 h8 hl.one hj)
  have HLF : Hid (∀ wq A c,wq.ownsRow w.heap.size 49 4 (.slice A l.length c) l.length (extCells l) → Calls Tryz.prog 81 #[.slice A l.length c] wq fun x w' => x = .returned (.tuple #[.string ⟨(leafL l).toArray⟩,.int .i64 0]) ∧ Below wq.heap.size wq w') := fun wq A c ho => rleaf_ok l _ wq (ExtsAt.ownT ho).1 hl h1 h8
  obtain ⟨S,hS⟩ : ∃ S : ByteArray,(⟨(leafL l).toArray⟩ : ByteArray) = S := ⟨_,rfl⟩
  obtain ⟨n,hn⟩ : ∃ n,l.length = n := ⟨_,rfl⟩
  rw [hS] at hsz HG HLF ⊢
  rw [hn] at hsz HLF h1 h8
  have HN := Lib.hid hn
  rw [hn]
  have hni : (n : Int) ≤ 8 := by omega
  have hss : (S.size : Int) = 1 + 10 * (n : Int) := by omega
  have HGZ : Hid (∀ wq (a k : Nat),1 ≤ k → k ≤ 4 → a ≤ 200 → Calls Tryz.prog 80 #[.string S,.int .i64 a,.int .i64 k] wq fun e w' => e = .returned (.int .i64 (getZ S a k)) ∧ wq = w') := fun wq a k hk hk4 ha => rgetz_any S a k wq hk hk4 (by omega) (by omega)
  have HSZ := Lib.hid hsz
  clear hS hn hl
  go_enter Tryz.func54,Tryz.ntmps54
  go_wp2_with fail
  go_loopw [4,5] (fun s4 s5 wr => ∃ (j : Nat) (A : Option Addr) (c : Nat) (a : Int),j ≤ n ∧ s5 = .int .i64 a ∧ a = 1 + 10 * (j : Int) ∧ s4 = .slice A j c ∧ Hid (wr.ownsRow w.heap.size 49 4 (.slice A j c) j (extCells (l.take j))) ∧ Hid (Below w.heap.size w wr)) (fun _ s5 _ => (1 + 10 * (n : Int) - intOf s5).toNat)
  case atStart => exact ⟨0,none,0,1,Nat.zero_le _,rfl,rfl,rfl,⟨rfl,.inl ⟨rfl,rfl⟩⟩,Below.refl _ _⟩
  case round =>
    obtain ⟨j,A,c,a,hj,rfl,ha,rfl,HO,HB⟩ := hrel
    by_cases hlt : j < n
    · have hji : (j : Int) < (n : Int) := by omega
      have hj8 : (j : Int) < 8 := by omega
      have haS : a < (S.size : Int) := by omega
      have ha0 : 1 ≤ a := by omega
      have ha1 : a ≤ 100 := by omega
      obtain ⟨e,he⟩ : ∃ e,l[j]? = some e := ⟨_,List.getElem?_eq_getElem (by rw [HN.out]; exact hlt)⟩
      obtain ⟨g1,g2,g3,g4⟩ := HG.out j e he
      have hTK := extCells_next he
      have HTK := Lib.hid hTK
      have HZ1 : Hid (∀ wq,Calls Tryz.prog 80 #[.string S,.int .i64 a,.int .i64 3] wq fun x w' => x = .returned (.int .i64 e.fr) ∧ wq = w') := fun wq => by
        have := HGZ.out wq (1 + 10 * j) 3 (by omega) (by omega) (by omega)
        rw [g1,show (((1 + 10 * j : Nat)) : Int) = a by omega] at this
        exact this
      have HZ2 : Hid (∀ wq,Calls Tryz.prog 80 #[.string S,.int .i64 (a + 3),.int .i64 4] wq fun x w' => x = .returned (.int .i64 e.n) ∧ wq = w') := fun wq => by
        have := HGZ.out wq (1 + 10 * j + 3) 4 (by omega) (by omega) (by omega)
        rw [g2,show (((1 + 10 * j + 3 : Nat)) : Int) = a + 3 by omega] at this
        exact this
      have HZ3 : Hid (∀ wq,Calls Tryz.prog 80 #[.string S,.int .i64 (a + 7),.int .i64 1] wq fun x w' => x = .returned (.int .i64 e.kind) ∧ wq = w') := fun wq => by
        have := HGZ.out wq (1 + 10 * j + 7) 1 (by omega) (by omega) (by omega)
        rw [g3,show (((1 + 10 * j + 7 : Nat)) : Int) = a + 7 by omega] at this
        exact this
      have HZ4 : Hid (∀ wq,Calls Tryz.prog 80 #[.string S,.int .i64 (a + 8),.int .i64 2] wq fun x w' => x = .returned (.int .i64 e.at_) ∧ wq = w') := fun wq => by
        have := HGZ.out wq (1 + 10 * j + 8) 2 (by omega) (by omega) (by omega)
        rw [g4,show (((1 + 10 * j + 8 : Nat)) : Int) = a + 8 by omega] at this
        exact this
      obtain ⟨f,en,k,t⟩ := e
      simp only at HZ1 HZ2 HZ3 HZ4 HTK
      have HOA := Lib.hid (HO.out.alloc (.cells #[.int .i64 f,.int .i64 en,.int .i64 k,.int .i64 t] 49))
      have HNW : Hid (∀ (j' : Nat) (u : Value),([.int .i64 f,.int .i64 en,.int .i64 k,.int .i64 t] : List Value)[j']? = some u → (wr.alloc (.cells #[.int .i64 f,.int .i64 en,.int .i64 k,.int .i64 t] 49)).cell? ((⟨wr.heap.size,0,none⟩ : Addr).add j') = some u) := World.news_of_block (by simpa using heap_alloc_new wr (.cells #[.int .i64 f,.int .i64 en,.int .i64 k,.int .i64 t] 49))
      have hone : ∀ u ∈ ([.int .i64 f,.int .i64 en,.int .i64 k,.int .i64 t] : List Value),u.oneCell' = true := by simp [Value.oneCell']
      have HONE := Lib.hid hone
      have HSZ2 : Hid (w.heap.size ≤ (wr.alloc (.cells #[.int .i64 f,.int .i64 en,.int .i64 k,.int .i64 t] 49)).heap.size) := by
        show _ ≤ _
        have := HB.out.size
        simp only [World.size_alloc]; omega
      have HSZ3 := Lib.hid HB.out.size
      obtain ⟨i0,hi0,hz0,hz1,hz2⟩ := info_parts rExtInfo
      have HI0 := Lib.hid hi0
      have HZZ0 := Lib.hid hz0
      have HZZ1 := Lib.hid hz1
      have HZZ2 := Lib.hid hz2
      have HAJ := Lib.hid ha
      clear hi0 hz0 hz1 hz2 hone he g1 g2 g3 g4 hTK ha
      go_wp2_with fail
      with_reducible refine (HZ1.out _).mono ?_
      rintro x w5 ⟨rfl,rfl⟩
      go_wp2_with fail
      with_reducible refine (HZ2.out _).mono ?_
      rintro x w5 ⟨rfl,rfl⟩
      go_wp2_with fail
      with_reducible refine (HZ3.out _).mono ?_
      rintro x w5 ⟨rfl,rfl⟩
      go_wp2_with fail
      with_reducible refine (HZ4.out _).mono ?_
      rintro x w5 ⟨rfl,rfl⟩
      go_wp2_with (at_builtin; go_must (refine wpList_append_own _ rfl (.tmp 19) (.tmp 36) 24 rfl w.heap.size 49 i0 _ 4 32 Tryz.underlying24 HI0.out HZZ0.out HZZ1.out HZZ2.out rfl (by omega) (.slice A j c) j (extCells (l.take j)) rfl HOA.out ⟨wr.heap.size,0,none⟩ 1 1 [.int .i64 f,.int .i64 en,.int .i64 k,.int .i64 t] rfl rfl HNW.out HONE.out (by simp only [maxLen]; omega) (by omega) HSZ2.out ?_; intro v2 w6 hown6 hg6 _; have HO6 := Lib.hid hown6; have HB6 := Lib.hid (below_append HO.out hg6 HSZ3.out); obtain ⟨A2,c2',e2⟩ := own_slice hown6; subst e2; clear hown6 hg6))
      have hmeas : (1 + 10 * (n : Int) - intOf (.int .i64 (a + 10))).toNat < (1 + 10 * (n : Int) - intOf (.int .i64 a)).toNat := by have := HAJ.out; simp [intOf]; omega
      refine ⟨⟨j + 1,A2,c2',a + 10,?_,?_,?_,rfl,?_,?_⟩,hmeas⟩
      · omega
      · first | rfl | go_num
      · have := HAJ.out; omega
      · rw [HTK.out]; with_reducible exact HO6
      · exact HB.out.trans HB6.out
    · obtain rfl : j = n := by omega
      have haS : ¬ a < (S.size : Int) := by omega
      have haS2 : decide (a < (S.size : Int)) = false := by simp; omega
      have hfull : l.take j = l := by rw [← HN.out]; exact List.take_length
      rw [hfull] at HO
      have HL6 := Lib.hid (HLF.out _ _ _ HO.out)
      clear hfull
      go_wp2_with fail
      with_reducible refine HL6.out.mono ?_
      rintro x w5 ⟨rfl,hb5⟩
      have HE : Hid (w5.ownsRow w.heap.size 49 4 (.slice A j c) j (extCells l) ∧ Below w.heap.size w w5) := ⟨own_below HO.out hb5,HB.out.trans (hb5.mono HB.out.size)⟩
      clear hb5
      go_wp2_with fail
      refine bodyPost_ret (v := .tuple #[.slice A j c,.int .i64 0]) (by simp [results,Tryz.results54,go_sem]) rfl ⟨A,c,rfl,HE.out.1,HE.out.2⟩
end Go.Proofs.YtneammhkgmkkfaaGreat.tr
