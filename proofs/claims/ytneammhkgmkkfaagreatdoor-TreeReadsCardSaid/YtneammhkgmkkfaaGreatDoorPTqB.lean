/- A part of the proof. -/
import Derived.Test.YtneammhkgmkkfaaGreatDoorPTqA
namespace Go.Proofs.YtneammhkgmkkfaaGreatDoor.tr
open Go.RowKit Go.Proofs.YtneammhkgmkkfaaGreatDoor.er
set_option linter.unusedVariables false
set_option linter.unusedSimpArgs false
theorem extract_more (s : ByteArray) (a b : Nat) (h : a ≤ s.size) : (s.extract a s.size).extract b (s.extract a s.size).size = s.extract (a + b) s.size := by
  apply ByteArray.ext
  simp only [ByteArray.data_extract,Array.extract_extract,ByteArray.size_extract]
  congr 1
  simp only [ByteArray.size]
  omega
theorem extract_none (s : ByteArray) : s.extract s.size s.size = ⟨#[]⟩ := by
  apply ByteArray.ext
  simp [ByteArray.data_extract]
theorem empty_no {s : ByteArray} (h : s.size ≠ 0) : s.toList.isEmpty = false := by
  rw [ByteArray.toList_eq]
  cases hl : s.data.toList with
  | nil =>
    exfalso
    apply h
    have := congrArg List.length hl
    simpa using this
  | cons _ _ => rfl
theorem size_ne {s : ByteArray} (h : s.size ≠ 0) : s ≠ ⟨#[]⟩ := fun e => h (by rw [e]; rfl)
theorem byte0 {s : ByteArray} (h : s.size ≠ 0) : byteAt s 0 = (s[0]'(by omega)).toNat := by unfold byteAt; rw [dif_pos (by omega)]
def MayE (l : List Ext) : Prop := extB l = true
def MayK (l : List Kid) : Prop := 2 ≤ l.length ∧ l.length ≤ 8 ∧ KidsOk l
def extD (s : ByteArray) (o : Nat) : Ext := ⟨leN s o 3,leN s (o + 3) 4,leN s (o + 7) 1,leN s (o + 8) 2⟩
def extsD (s : ByteArray) : List Ext := (List.range (byteAt s 0).toNat).map fun i => extD s (1 + 10 * i)
theorem extsD_len (s : ByteArray) : (extsD s).length = (byteAt s 0).toNat := by simp [extsD]
theorem extsD_at (s : ByteArray) (j : Nat) (h : j < (byteAt s 0).toNat) : (extsD s)[j]? = some (extD s (1 + 10 * j)) := by
  unfold extsD
  rw [List.getElem?_map,List.getElem?_range h]
  rfl
set_option maxHeartbeats 4000000 in
set_option maxRecDepth 100000 in
theorem eThing (g c : Nat) (x0 x1 x2 x3 : Int) (w : World) (hg : g < w.heap.size) (hc : w.cell? ⟨g,0,none⟩ = some (.int .u64 x0) ∧ w.cell? ⟨g,1,none⟩ = some (.int .u64 x1) ∧ w.cell? ⟨g,2,none⟩ = some (.int .u64 x2) ∧ w.cell? ⟨g,3,none⟩ = some (.int .u64 x3)) (h0 : 0 ≤ x0 ∧ x0 < 4294967296) (h1 : 0 ≤ x1 ∧ x1 < 4294967296) (h2 : 0 ≤ x2 ∧ x2 < 4294967296) (h3 : 0 ≤ x3 ∧ x3 < 4294967296) :
    Calls Tryz.prog 76 #[.slice (some ⟨g,0,none⟩) 4 c] w fun x w' => x = .returned (.agg #[.int .i64 x0,.int .i64 x1,.int .i64 x2,.int .i64 x3]) ∧ Below w.heap.size w w' := by
  have HK : Hid (∀ w',Below w.heap.size w w' → w'.cell? ⟨g,0,none⟩ = some (.int .u64 x0) ∧ w'.cell? ⟨g,1,none⟩ = some (.int .u64 x1) ∧ w'.cell? ⟨g,2,none⟩ = some (.int .u64 x2) ∧ w'.cell? ⟨g,3,none⟩ = some (.int .u64 x3)) := by
    intro w' hb
    obtain ⟨c0,c1,c2,c3⟩ := hc
    exact ⟨below_c hb c0,below_c hb c1,below_c hb c2,below_c hb c3⟩
  have HW : Hid (Whole (w.alloc (.cells #[.int .i64 0,.int .i64 0,.int .i64 0,.int .i64 0] 59)) w.heap.size 59 #[.int .i64 0,.int .i64 0,.int .i64 0,.int .i64 0]) := Whole.new w _ _
  obtain ⟨w2,hw2⟩ : ∃ w2,w.alloc (.cells #[.int .i64 0,.int .i64 0,.int .i64 0,.int .i64 0] 59) = w2 := ⟨_,rfl⟩
  have HB2 : Hid (Below w.heap.size w w2) := by show Below _ _ _; rw [← hw2]; exact (Below.refl _ _).alloc (Nat.le_refl _) _
  have hsz : w2.heap.size = w.heap.size + 1 := by rw [← hw2]; simp
  rw [hw2] at HW
  obtain ⟨c0,c1,c2,c3⟩ := HK.out w2 HB2.out
  obtain ⟨l0,u0⟩ := h0
  obtain ⟨l1,u1⟩ := h1
  obtain ⟨l2,u2⟩ := h2
  obtain ⟨l3,u3⟩ := h3
  have hgn : g ≠ w.heap.size := by omega
  have z0 := HW.out.cell 0
  have y0 := HW.out.fz 0
  have z1 := HW.out.cell 1
  have y1 := HW.out.fz 1
  have z2 := HW.out.cell 2
  have y2 := HW.out.fz 2
  have z3 := HW.out.cell 3
  have y3 := HW.out.fz 3
  simp at z0 z1 z2 z3
  have v0 : IntKind.i64.wrap x0 = x0 := by rw [IntKind.wrap_i64]; omega
  have v1 : IntKind.i64.wrap x1 = x1 := by rw [IntKind.wrap_i64]; omega
  have v2 : IntKind.i64.wrap x2 = x2 := by rw [IntKind.wrap_i64]; omega
  have v3 : IntKind.i64.wrap x3 = x3 := by rw [IntKind.wrap_i64]; omega
  clear hc hg
  go_enter Tryz.func76,Tryz.ntmps76
  go_wp2_with fail
  go_region_held3 (fun w' => w'.cell? ⟨g,0,none⟩ = some (.int .u64 x0) ∧ w'.cell? ⟨g,1,none⟩ = some (.int .u64 x1) ∧ w'.cell? ⟨g,2,none⟩ = some (.int .u64 x2) ∧ w'.cell? ⟨g,3,none⟩ = some (.int .u64 x3)) (exact HK.out _ (by repeat (first | with_reducible exact HB2.out | with_reducible exact Below.refl _ _ | refine Below.drew ?_ | refine Below.setCell ?_ (by first | omega | (simp <;> omega)) _ | refine Below.alloc ?_ (by first | omega | (simp <;> omega)) _))) (fail)
  go_wp2_with fail
  have W5 : Whole ((((w2.setCell ⟨w.heap.size,0,none⟩ (.int .i64 x0)).setCell ⟨w.heap.size,1,none⟩ (.int .i64 x1)).setCell ⟨w.heap.size,2,none⟩ (.int .i64 x2)).setCell ⟨w.heap.size,3,none⟩ (.int .i64 x3)).drew w.heap.size 59 #[.int .i64 x0,.int .i64 x1,.int .i64 x2,.int .i64 x3] := by
    have : Whole ((((w2.setCell ⟨w.heap.size,0,none⟩ (.int .i64 x0)).setCell ⟨w.heap.size,1,none⟩ (.int .i64 x1)).setCell ⟨w.heap.size,2,none⟩ (.int .i64 x2)).setCell ⟨w.heap.size,3,none⟩ (.int .i64 x3)) w.heap.size 59 #[.int .i64 x0,.int .i64 x1,.int .i64 x2,.int .i64 x3] := by simpa using ((((HW.out.set 0 (.int .i64 x0)).set 1 (.int .i64 x1)).set 2 (.int .i64 x2)).set 3 (.int .i64 x3))
    exact this
  have r0 := W5.cell 0
  have r1 := W5.cell 1
  have r2 := W5.cell 2
  have r3 := W5.cell 3
  simp at r0 r1 r2 r3
  refine bodyPost_ret (v := .agg #[.int .i64 x0,.int .i64 x1,.int .i64 x2,.int .i64 x3]) (by simp [results,Tryz.results76,go_sem,r0,r1,r2,r3]) rfl ⟨rfl,?_⟩
  repeat (first | with_reducible exact HB2.out | refine Below.drew ?_ | refine Below.setCell ?_ (by first | omega | (simp <;> omega)) _)
def kidD (s : ByteArray) (o : Nat) : Kid := ⟨leN s o 3,leN s (o + 3) 2⟩
def kidsD (s : ByteArray) : List Kid := (List.range (byteAt s 0).toNat).map fun i => kidD s (1 + 5 * i)
theorem kidsD_len (s : ByteArray) : (kidsD s).length = (byteAt s 0).toNat := by simp [kidsD]
theorem kidsD_at (s : ByteArray) (j : Nat) (h : j < (byteAt s 0).toNat) : (kidsD s)[j]? = some (kidD s (1 + 5 * j)) := by
  unfold kidsD
  rw [List.getElem?_map,List.getElem?_range h]
  rfl
set_option maxHeartbeats 4000000 in
set_option maxRecDepth 100000 in
theorem kThing (g c : Nat) (x0 x1 : Int) (w : World) (hg : g < w.heap.size) (hc : w.cell? ⟨g,0,none⟩ = some (.int .u64 x0) ∧ w.cell? ⟨g,1,none⟩ = some (.int .u64 x1)) (h0 : 0 ≤ x0 ∧ x0 < 4294967296) (h1 : 0 ≤ x1 ∧ x1 < 4294967296) :
    Calls Tryz.prog 80 #[.slice (some ⟨g,0,none⟩) 2 c] w fun x w' => x = .returned (.agg #[.int .i64 x0,.int .i64 x1]) ∧ Below w.heap.size w w' := by
  have HK : Hid (∀ w',Below w.heap.size w w' → w'.cell? ⟨g,0,none⟩ = some (.int .u64 x0) ∧ w'.cell? ⟨g,1,none⟩ = some (.int .u64 x1)) := by
    intro w' hb
    obtain ⟨c0,c1⟩ := hc
    exact ⟨below_c hb c0,below_c hb c1⟩
  have HW : Hid (Whole (w.alloc (.cells #[.int .i64 0,.int .i64 0] 123)) w.heap.size 123 #[.int .i64 0,.int .i64 0]) := Whole.new w _ _
  obtain ⟨w2,hw2⟩ : ∃ w2,w.alloc (.cells #[.int .i64 0,.int .i64 0] 123) = w2 := ⟨_,rfl⟩
  have HB2 : Hid (Below w.heap.size w w2) := by show Below _ _ _; rw [← hw2]; exact (Below.refl _ _).alloc (Nat.le_refl _) _
  have hsz : w2.heap.size = w.heap.size + 1 := by rw [← hw2]; simp
  rw [hw2] at HW
  obtain ⟨c0,c1⟩ := HK.out w2 HB2.out
  obtain ⟨l0,u0⟩ := h0
  obtain ⟨l1,u1⟩ := h1
  have hgn : g ≠ w.heap.size := by omega
  have z0 := HW.out.cell 0
  have y0 := HW.out.fz 0
  have z1 := HW.out.cell 1
  have y1 := HW.out.fz 1
  simp at z0 z1
  have v0 : IntKind.i64.wrap x0 = x0 := by rw [IntKind.wrap_i64]; omega
  have v1 : IntKind.i64.wrap x1 = x1 := by rw [IntKind.wrap_i64]; omega
  clear hc hg
  go_enter Tryz.func80,Tryz.ntmps80
  go_wp2_with fail
  go_region_held3 (fun w' => w'.cell? ⟨g,0,none⟩ = some (.int .u64 x0) ∧ w'.cell? ⟨g,1,none⟩ = some (.int .u64 x1)) (exact HK.out _ (by repeat (first | with_reducible exact HB2.out | with_reducible exact Below.refl _ _ | refine Below.drew ?_ | refine Below.setCell ?_ (by first | omega | (simp <;> omega)) _ | refine Below.alloc ?_ (by first | omega | (simp <;> omega)) _))) (fail)
  go_wp2_with fail
  have W5 : Whole ((w2.setCell ⟨w.heap.size,0,none⟩ (.int .i64 x0)).setCell ⟨w.heap.size,1,none⟩ (.int .i64 x1)).drew w.heap.size 123 #[.int .i64 x0,.int .i64 x1] := by
    have : Whole ((w2.setCell ⟨w.heap.size,0,none⟩ (.int .i64 x0)).setCell ⟨w.heap.size,1,none⟩ (.int .i64 x1)) w.heap.size 123 #[.int .i64 x0,.int .i64 x1] := by simpa using ((HW.out.set 0 (.int .i64 x0)).set 1 (.int .i64 x1))
    exact this
  have r0 := W5.cell 0
  have r1 := W5.cell 1
  simp at r0 r1
  refine bodyPost_ret (v := .agg #[.int .i64 x0,.int .i64 x1]) (by simp [results,Tryz.results80,go_sem,r0,r1]) rfl ⟨rfl,?_⟩
  repeat (first | with_reducible exact HB2.out | refine Below.drew ?_ | refine Below.setCell ?_ (by first | omega | (simp <;> omega)) _)
def okE (s : ByteArray) : Bool := decide (s.size ≠ 0) && decide (byteAt s 0 ≤ 8) && decide (s.size = 1 + 10 * (byteAt s 0).toNat)
def RdE (s : ByteArray) (w : World) (x : Ending) (w' : World) : Prop :=
  (∃ A c,x = .returned (.tuple #[.slice A (extsD s).length c,.int .i64 0]) ∧ okE s = true ∧ MayE (extsD s) ∧ w'.ownsRow w.heap.size 59 4 (.slice A (extsD s).length c) (extsD s).length (extCells (extsD s)) ∧ Below w.heap.size w w') ∨
  (x = .returned (.tuple #[.slice none 0 0,.int .i64 3]) ∧ ¬ (okE s = true ∧ MayE (extsD s)) ∧ Below w.heap.size w w')
theorem eInfo : (Tryz.prog.info? 59).map (fun i => (i.zero,i.size,i.bytes)) = some (some (.agg #[.int .i64 0,.int .i64 0,.int .i64 0,.int .i64 0]),4,32) := by kernel_rfl
theorem eWs (w : World) (g : Nat) (e : Ext) (h : WidAt w g (extNums e)) : WidAt w g ([3,4,1,2].map fun k => (k,0)) := by
  intro j p hp
  match j,hp with
  | 0,hp => simp at hp; subst hp; exact h 0 (3,e.fr) rfl
  | 1,hp => simp at hp; subst hp; exact h 1 (4,e.n) rfl
  | 2,hp => simp at hp; subst hp; exact h 2 (1,e.kind) rfl
  | 3,hp => simp at hp; subst hp; exact h 3 (2,e.at_) rfl
  | j + 4,hp => simp at hp
set_option maxHeartbeats 8000000 in
set_option maxRecDepth 100000 in
theorem eRead (s : ByteArray) (gw : Nat) (w : World) (hw : WidAt w gw ([3,4,1,2].map fun k => (k,0))) (hs : s.size ≤ 1000000) :
    Calls Tryz.prog 73 #[.string s,.slice (some ⟨gw,0,none⟩) 4 4,.func (.func 75) #[] #[],.func (.func 76) #[] #[]] w (RdE s w) := by
  have HW := Lib.hid hw
  have hsi : (s.size : Int) ≤ 1000000 := by omega
  have HNO : Hid (∀ w',¬ (okE s = true ∧ MayE (extsD s)) → Below w.heap.size w w' → RdE s w (.returned (.tuple #[.slice none 0 0,.int .i64 3])) w') := fun w' h hb => .inr ⟨rfl,h,hb⟩
  clear hw
  go_enter Tryz.func73,Tryz.ntmps73
  by_cases h0 : s.size = 0
  · have hse : s = ⟨#[]⟩ := by
      apply ByteArray.ext
      exact Array.eq_empty_of_size_eq_zero h0
    have HBAD : Hid (¬ (okE s = true ∧ MayE (extsD s))) := fun h => by
      have := h.1
      unfold okE at this
      simp [h0] at this
    subst hse
    go_wp2_with fail
    refine bodyPost_ret (v := .tuple #[.slice none 0 0,.int .i64 3]) (by simp [results,Tryz.results73,go_sem]) rfl (HNO.out _ HBAD.out (Below.refl _ _))
  · have hne := size_ne h0
    have hem := empty_no h0
    have hb0 := byte0 h0
    have h0i : (0 : Int) < (s.size : Int) := by omega
    have h0n : 0 < s.size := by omega
    obtain ⟨b,hb⟩ : ∃ b : Nat,(s[0]'(by omega)).toNat = b := ⟨_,rfl⟩
    have hb256 : b < 256 := by rw [← hb]; exact UInt8.toNat_lt _
    rw [hb] at hb0
    have hcnt : (byteAt s 0).toNat = b := by rw [hb0]; omega
    have HB0 := Lib.hid hb0
    have HCN := Lib.hid hcnt
    have hbi : (b : Int) < 256 := by omega
    by_cases h8 : b ≤ 8
    · have h8d : ¬ (8 : Int) < (b : Int) := by omega
      have h8n : ¬ 8 < b := by omega
      have H8 := Lib.hid h8
      have HNE := Lib.hid h0
      have HOKI : Hid (okE s = true ↔ s.size = 1 + 10 * b) := by
        show _ ↔ _
        unfold okE
        rw [HCN.out,HB0.out]
        simp [HNE.out]
        omega
      obtain ⟨i0,hi0,hz0,hz1,hz2⟩ := info_parts eInfo
      have HI0 := Lib.hid hi0
      have HZ0 := Lib.hid hz0
      have HZ1 := Lib.hid hz1
      have HZ2 := Lib.hid hz2
      clear hi0 hz0 hz1 hz2 hb0 hcnt h0 h8
      go_wp2_with fail
      go_loopw [10,11,12,13,14,26] (fun s10 s11 s12 s13 s14 s26 wr => ∃ (j : Nat) (A : Option Addr) (c : Nat) (R : ByteArray),j ≤ b ∧ s10 = .slice A j c ∧ s11 = .string R ∧ s26 = .int .u8 j ∧ Hid (1 + 10 * j ≤ s.size ∧ R = s.extract (1 + 10 * j) s.size) ∧ Hid (wr.ownsRow w.heap.size 59 4 (.slice A j c) j (extCells ((extsD s).take j))) ∧ Hid (Below w.heap.size w wr)) (fun _ _ _ _ _ s26 _ => b - (intOf s26).toNat)
      case atStart => exact ⟨0,none,0,s.extract 1 s.size,Nat.zero_le _,rfl,by rfl,rfl,⟨by omega,rfl⟩,⟨rfl,.inl ⟨rfl,rfl⟩⟩,Below.refl _ _⟩
      case round =>
        obtain ⟨j,A,c,R,hj,rfl,rfl,rfl,HR,HO,HB⟩ := hrel
        by_cases hlt : j < b
        · have hji : (j : Int) < (b : Int) := by omega
          have hj8 : (j : Int) ≤ 8 := by have := H8.out; omega
          have HTK : Hid (Calls Tryz.prog 103 #[.string R,.slice (some ⟨gw,0,none⟩) 4 4] wr fun x w' => (∃ g5 c5,x = .returned (.tuple #[.slice (some ⟨g5,0,none⟩) 4 c5,.string (s.extract (1 + 10 * (j + 1)) s.size),.int .i64 0]) ∧ 1 + 10 * (j + 1) ≤ s.size ∧ g5 < w'.heap.size ∧ (w'.cell? ⟨g5,0,none⟩ = some (.int .u64 (leN s (1 + 10 * j) 3)) ∧ w'.cell? ⟨g5,1,none⟩ = some (.int .u64 (leN s (1 + 10 * j + 3) 4)) ∧ w'.cell? ⟨g5,2,none⟩ = some (.int .u64 (leN s (1 + 10 * j + 7) 1)) ∧ w'.cell? ⟨g5,3,none⟩ = some (.int .u64 (leN s (1 + 10 * j + 8) 2))) ∧ Below wr.heap.size wr w') ∨ (x = .returned (.tuple #[.slice none 0 0,.string ⟨#[]⟩,.int .i64 5]) ∧ s.size < 1 + 10 * (j + 1) ∧ Below wr.heap.size wr w')) := by
            obtain ⟨hR1,hR2⟩ := HR.out
            have hRsz : R.size = s.size - (1 + 10 * j) := by rw [hR2,ByteArray.size_extract]; omega
            refine (takeW_any R [3,4,1,2] gw 4 wr (HW.out.below HB.out) (by decide) (by decide) (by decide) (by omega)).mono ?_
            rintro x w' (⟨hge,A5,c5,rfl,ho5,hb5⟩ | ⟨hlt5,rfl,hb5⟩)
            · left
              have hge' : 10 ≤ R.size := hge
              obtain ⟨g5,rfl,_,hgl,_,hc5,_⟩ := own_cell ho5 (by decide)
              refine ⟨g5,c5,?_,by omega,hgl,?_,hb5⟩
              · have e1 : R.extract (List.sum [3,4,1,2]) R.size = s.extract (1 + 10 * (j + 1)) s.size := by
                  rw [hR2,extract_more s _ _ hR1]
                  show s.extract (1 + 10 * j + 10) s.size = _
                  rw [show 1 + 10 * j + 10 = 1 + 10 * (j + 1) by omega]
                rw [e1]; rfl
              · have hnum : ∀ i v,(numsW R [3,4,1,2] 4)[i]? = some v → w'.cell? ⟨g5,i,none⟩ = some v := hc5
                have q0 : leN R 0 3 = leN s (1 + 10 * j) 3 := by rw [hR2]; exact leN_extract s (1 + 10 * j) 3 0 (by omega)
                have q1 : leN R 3 4 = leN s (1 + 10 * j + 3) 4 := by rw [hR2]; exact leN_extract s (1 + 10 * j) 4 3 (by omega)
                have q2 : leN R 7 1 = leN s (1 + 10 * j + 7) 1 := by rw [hR2]; exact leN_extract s (1 + 10 * j) 1 7 (by omega)
                have q3 : leN R 8 2 = leN s (1 + 10 * j + 8) 2 := by rw [hR2]; exact leN_extract s (1 + 10 * j) 2 8 (by omega)
                exact ⟨by rw [← q0]; exact hnum 0 _ rfl,by rw [← q1]; exact hnum 1 _ rfl,by rw [← q2]; exact hnum 2 _ rfl,by rw [← q3]; exact hnum 3 _ rfl⟩
            · right
              have hlt' : R.size < 10 := hlt5
              exact ⟨rfl,by omega,hb5⟩
          have HAT : Hid ((extsD s)[j]? = some (extD s (1 + 10 * j))) := extsD_at s j (by rw [HCN.out]; exact hlt)
          have HSN : Hid (extCells ((extsD s).take (j + 1)) = extCells ((extsD s).take j) ++ [.int .i64 (leN s (1 + 10 * j) 3),.int .i64 (leN s (1 + 10 * j + 3) 4),.int .i64 (leN s (1 + 10 * j + 7) 1),.int .i64 (leN s (1 + 10 * j + 8) 2)]) := by
            show _ = _
            rw [take_cells HAT.out]
            rfl
          obtain ⟨x0,hx0⟩ : ∃ x,leN s (1 + 10 * j) 3 = x := ⟨_,rfl⟩
          have hr0 : 0 ≤ x0 ∧ x0 < 4294967296 := by have := leN_rng s 3 (1 + 10 * j); rw [hx0] at this; omega
          rw [hx0] at HTK HSN
          obtain ⟨x1,hx1⟩ : ∃ x,leN s (1 + 10 * j + 3) 4 = x := ⟨_,rfl⟩
          have hr1 : 0 ≤ x1 ∧ x1 < 4294967296 := by have := leN_rng s 4 (1 + 10 * j + 3); rw [hx1] at this; omega
          rw [hx1] at HTK HSN
          obtain ⟨x2,hx2⟩ : ∃ x,leN s (1 + 10 * j + 7) 1 = x := ⟨_,rfl⟩
          have hr2 : 0 ≤ x2 ∧ x2 < 4294967296 := by have := leN_rng s 1 (1 + 10 * j + 7); rw [hx2] at this; omega
          rw [hx2] at HTK HSN
          obtain ⟨x3,hx3⟩ : ∃ x,leN s (1 + 10 * j + 8) 2 = x := ⟨_,rfl⟩
          have hr3 : 0 ≤ x3 ∧ x3 < 4294967296 := by have := leN_rng s 2 (1 + 10 * j + 8); rw [hx3] at this; omega
          rw [hx3] at HTK HSN
          clear hx0 hx1 hx2 hx3
          go_wp2_with fail
          with_reducible refine HTK.out.mono ?_
          rintro e w5 (⟨g5,c5,rfl,hle5,hg5,hcells,hb5⟩ | ⟨rfl,hlt5,hb5⟩)
          · have HTH := Lib.hid (eThing g5 c5 x0 x1 x2 x3 w5 hg5 hcells hr0 hr1 hr2 hr3)
            have HB5 := Lib.hid (bel_tr HB.out hb5)
            have HO5 := Lib.hid (own_below HO.out hb5)
            clear hcells hb5 hg5
            go_wp2_with fail
            with_reducible refine HTH.out.mono ?_
            rintro e w6 ⟨rfl,hb6⟩
            have HB6 := Lib.hid (bel_tr HB5.out hb6)
            have HO6 := Lib.hid (own_below HO5.out hb6)
            have HOA := Lib.hid (HO6.out.alloc (.cells #[.int .i64 x0,.int .i64 x1,.int .i64 x2,.int .i64 x3] 59))
            have HNW : Hid (∀ (j' : Nat) (u : Value),([.int .i64 x0,.int .i64 x1,.int .i64 x2,.int .i64 x3] : List Value)[j']? = some u → (w6.alloc (.cells #[.int .i64 x0,.int .i64 x1,.int .i64 x2,.int .i64 x3] 59)).cell? ((⟨w6.heap.size,0,none⟩ : Addr).add j') = some u) := World.news_of_block (by simpa using heap_alloc_new w6 (.cells #[.int .i64 x0,.int .i64 x1,.int .i64 x2,.int .i64 x3] 59))
            have hone : ∀ u ∈ ([.int .i64 x0,.int .i64 x1,.int .i64 x2,.int .i64 x3] : List Value),u.oneCell' = true := by simp [Value.oneCell']
            have HONE := Lib.hid hone
            have hszr := HB6.out.size
            have HSZ2 : Hid (w.heap.size ≤ (w6.alloc (.cells #[.int .i64 x0,.int .i64 x1,.int .i64 x2,.int .i64 x3] 59)).heap.size) := by show _ ≤ _; simp only [World.size_alloc]; omega
            have HSZ3 := Lib.hid hszr
            have HLE := Lib.hid hle5
            clear hone hb6 hszr hle5
            go_wp2_with (at_builtin; go_must (refine wpList_append_own _ rfl (.tmp 37) (.tmp 41) 71 rfl w.heap.size 59 i0 _ 4 32 Tryz.underlying71 HI0.out HZ0.out HZ1.out HZ2.out rfl (by omega) (.slice A j c) j (extCells ((extsD s).take j)) rfl HOA.out ⟨w6.heap.size,0,none⟩ 1 1 [.int .i64 x0,.int .i64 x1,.int .i64 x2,.int .i64 x3] rfl rfl HNW.out HONE.out (by simp only [maxLen]; omega) (by omega) HSZ2.out ?_; intro v2 w7 hown7 hg7 _; have HO7 := Lib.hid hown7; have HB7 := Lib.hid (below_append HO6.out hg7 HSZ3.out); obtain ⟨A2,c2',e2⟩ := own_slice hown7; subst e2; clear hown7 hg7))
            go_roundw
            case rel => exact ⟨j + 1,A2,c2',_,by omega,rfl,rfl,by go_num,⟨HLE.out,rfl⟩,by rw [HSN.out]; with_reducible exact HO7,HB6.out.trans HB7.out⟩
            case measure => simp [intOf]; omega
          · have HBAD : Hid (¬ (okE s = true ∧ MayE (extsD s))) := fun h => by
              have := HOKI.out.1 h.1
              omega
            have HB5 := Lib.hid (bel_tr HB.out hb5)
            clear hb5
            go_wp2_with fail
            refine bodyPost_ret (v := .tuple #[.slice none 0 0,.int .i64 3]) (by simp [results,Tryz.results73,go_sem]) rfl (HNO.out _ HBAD.out HB5.out)
        · obtain rfl : j = b := by omega
          by_cases hend : s.size = 1 + 10 * j
          · have hRe : R = ⟨#[]⟩ := by
              rw [HR.out.2,← hend]; exact extract_none s
            have HOK : Hid (okE s = true) := HOKI.out.2 hend
            have hfull : (extsD s).take j = extsD s := by
              have : (extsD s).length = j := by rw [extsD_len,HCN.out]
              rw [← this]; exact List.take_length
            rw [hfull] at HO
            have HLN : Hid ((extsD s).length = j) := by show _ = _; rw [extsD_len,HCN.out]
            have HMAY : Hid (Calls Tryz.prog 75 #[.slice A j c] wr fun x w' => ∃ mb,x = .returned (.bool mb) ∧ (mb = true ↔ MayE (extsD s)) ∧ Below wr.heap.size wr w') := by
              have hx := ExtsAt.own HO.out
              refine (extents_any (extsD s) _ wr hx.1 (by have := HLN.out; have := H8.out; omega)).mono ?_
              rintro x w' ⟨rfl,hb⟩
              exact ⟨_,rfl,Iff.rfl,hb⟩
            subst hRe
            clear hfull hend
            go_wp2_with fail
            with_reducible refine HMAY.out.mono ?_
            rintro e w5 ⟨mb,rfl,hmb,hb5⟩
            have HMB := Lib.hid hmb
            have HB5 := Lib.hid (bel_tr HB.out hb5)
            have HO5 := Lib.hid (own_below HO.out hb5)
            clear hmb hb5
            cases mb with
            | false =>
              have HBAD : Hid (¬ (okE s = true ∧ MayE (extsD s))) := fun h => by
                have := HMB.out.2 h.2
                cases this
              go_wp2_with fail
              refine bodyPost_ret (v := .tuple #[.slice none 0 0,.int .i64 3]) (by simp [results,Tryz.results73,go_sem]) rfl (HNO.out _ HBAD.out HB5.out)
            | true =>
              have HEND : Hid (RdE s w (.returned (.tuple #[.slice A j c,.int .i64 0])) w5) := by
                refine .inl ⟨A,c,by rw [HLN.out],HOK.out,HMB.out.1 rfl,by rw [HLN.out]; exact HO5.out,HB5.out⟩
              go_wp2_with fail
              refine bodyPost_ret (v := .tuple #[.slice A j c,.int .i64 0]) (by simp [results,Tryz.results73,go_sem]) rfl HEND.out
          · have hRz : R.size ≠ 0 := by
              obtain ⟨hR1,hR2⟩ := HR.out
              rw [hR2,ByteArray.size_extract]; omega
            have hRne := size_ne hRz
            have hRem := empty_no hRz
            have HBAD : Hid (¬ (okE s = true ∧ MayE (extsD s))) := fun h => hend (HOKI.out.1 h.1)
            go_wp2_with fail
            refine bodyPost_ret (v := .tuple #[.slice none 0 0,.int .i64 3]) (by simp [results,Tryz.results73,go_sem]) rfl (HNO.out _ HBAD.out HB.out)
    · have h8d : (8 : Int) < (b : Int) := by omega
      have HBAD : Hid (¬ (okE s = true ∧ MayE (extsD s))) := fun h => by
        have := h.1
        unfold okE at this
        rw [HB0.out] at this
        simp at this
        omega
      go_wp2_with fail
      refine bodyPost_ret (v := .tuple #[.slice none 0 0,.int .i64 3]) (by simp [results,Tryz.results73,go_sem]) rfl (HNO.out _ HBAD.out (Below.refl _ _))
def okK (s : ByteArray) : Bool := decide (s.size ≠ 0) && decide (byteAt s 0 ≤ 8) && decide (s.size = 1 + 5 * (byteAt s 0).toNat)
def RdK (s : ByteArray) (w : World) (x : Ending) (w' : World) : Prop :=
  (∃ A c,x = .returned (.tuple #[.slice A (kidsD s).length c,.int .i64 0]) ∧ okK s = true ∧ MayK (kidsD s) ∧ w'.ownsRow w.heap.size 123 2 (.slice A (kidsD s).length c) (kidsD s).length (kidCells (kidsD s)) ∧ Below w.heap.size w w') ∨
  (x = .returned (.tuple #[.slice none 0 0,.int .i64 3]) ∧ ¬ (okK s = true ∧ MayK (kidsD s)) ∧ Below w.heap.size w w')
theorem kInfo : (Tryz.prog.info? 123).map (fun i => (i.zero,i.size,i.bytes)) = some (some (.agg #[.int .i64 0,.int .i64 0]),2,16) := by kernel_rfl
theorem kWs (w : World) (g : Nat) (e : Kid) (h : WidAt w g (kidNums e)) : WidAt w g ([3,2].map fun k => (k,0)) := by
  intro j p hp
  match j,hp with
  | 0,hp => simp at hp; subst hp; exact h 0 (3,e.key) rfl
  | 1,hp => simp at hp; subst hp; exact h 1 (2,e.at_) rfl
  | j + 2,hp => simp at hp
set_option maxHeartbeats 8000000 in
set_option maxRecDepth 100000 in
theorem kRead (s : ByteArray) (gw : Nat) (w : World) (hw : WidAt w gw ([3,2].map fun k => (k,0))) (hs : s.size ≤ 1000000) :
    Calls Tryz.prog 77 #[.string s,.slice (some ⟨gw,0,none⟩) 2 2,.func (.func 79) #[] #[],.func (.func 80) #[] #[]] w (RdK s w) := by
  have HW := Lib.hid hw
  have hsi : (s.size : Int) ≤ 1000000 := by omega
  have HNO : Hid (∀ w',¬ (okK s = true ∧ MayK (kidsD s)) → Below w.heap.size w w' → RdK s w (.returned (.tuple #[.slice none 0 0,.int .i64 3])) w') := fun w' h hb => .inr ⟨rfl,h,hb⟩
  clear hw
  go_enter Tryz.func77,Tryz.ntmps77
  by_cases h0 : s.size = 0
  · have hse : s = ⟨#[]⟩ := by
      apply ByteArray.ext
      exact Array.eq_empty_of_size_eq_zero h0
    have HBAD : Hid (¬ (okK s = true ∧ MayK (kidsD s))) := fun h => by
      have := h.1
      unfold okK at this
      simp [h0] at this
    subst hse
    go_wp2_with fail
    refine bodyPost_ret (v := .tuple #[.slice none 0 0,.int .i64 3]) (by simp [results,Tryz.results77,go_sem]) rfl (HNO.out _ HBAD.out (Below.refl _ _))
  · have hne := size_ne h0
    have hem := empty_no h0
    have hb0 := byte0 h0
    have h0i : (0 : Int) < (s.size : Int) := by omega
    have h0n : 0 < s.size := by omega
    obtain ⟨b,hb⟩ : ∃ b : Nat,(s[0]'(by omega)).toNat = b := ⟨_,rfl⟩
    have hb256 : b < 256 := by rw [← hb]; exact UInt8.toNat_lt _
    rw [hb] at hb0
    have hcnt : (byteAt s 0).toNat = b := by rw [hb0]; omega
    have HB0 := Lib.hid hb0
    have HCN := Lib.hid hcnt
    have hbi : (b : Int) < 256 := by omega
    by_cases h8 : b ≤ 8
    · have h8d : ¬ (8 : Int) < (b : Int) := by omega
      have h8n : ¬ 8 < b := by omega
      have H8 := Lib.hid h8
      have HNE := Lib.hid h0
      have HOKI : Hid (okK s = true ↔ s.size = 1 + 5 * b) := by
        show _ ↔ _
        unfold okK
        rw [HCN.out,HB0.out]
        simp [HNE.out]
        omega
      obtain ⟨i0,hi0,hz0,hz1,hz2⟩ := info_parts kInfo
      have HI0 := Lib.hid hi0
      have HZ0 := Lib.hid hz0
      have HZ1 := Lib.hid hz1
      have HZ2 := Lib.hid hz2
      clear hi0 hz0 hz1 hz2 hb0 hcnt h0 h8
      go_wp2_with fail
      go_loopw [10,11,12,13,14,26] (fun s10 s11 s12 s13 s14 s26 wr => ∃ (j : Nat) (A : Option Addr) (c : Nat) (R : ByteArray),j ≤ b ∧ s10 = .slice A j c ∧ s11 = .string R ∧ s26 = .int .u8 j ∧ Hid (1 + 5 * j ≤ s.size ∧ R = s.extract (1 + 5 * j) s.size) ∧ Hid (wr.ownsRow w.heap.size 123 2 (.slice A j c) j (kidCells ((kidsD s).take j))) ∧ Hid (Below w.heap.size w wr)) (fun _ _ _ _ _ s26 _ => b - (intOf s26).toNat)
      case atStart => exact ⟨0,none,0,s.extract 1 s.size,Nat.zero_le _,rfl,by rfl,rfl,⟨by omega,rfl⟩,⟨rfl,.inl ⟨rfl,rfl⟩⟩,Below.refl _ _⟩
      case round =>
        obtain ⟨j,A,c,R,hj,rfl,rfl,rfl,HR,HO,HB⟩ := hrel
        by_cases hlt : j < b
        · have hji : (j : Int) < (b : Int) := by omega
          have hj8 : (j : Int) ≤ 8 := by have := H8.out; omega
          have HTK : Hid (Calls Tryz.prog 103 #[.string R,.slice (some ⟨gw,0,none⟩) 2 2] wr fun x w' => (∃ g5 c5,x = .returned (.tuple #[.slice (some ⟨g5,0,none⟩) 2 c5,.string (s.extract (1 + 5 * (j + 1)) s.size),.int .i64 0]) ∧ 1 + 5 * (j + 1) ≤ s.size ∧ g5 < w'.heap.size ∧ (w'.cell? ⟨g5,0,none⟩ = some (.int .u64 (leN s (1 + 5 * j) 3)) ∧ w'.cell? ⟨g5,1,none⟩ = some (.int .u64 (leN s (1 + 5 * j + 3) 2))) ∧ Below wr.heap.size wr w') ∨ (x = .returned (.tuple #[.slice none 0 0,.string ⟨#[]⟩,.int .i64 5]) ∧ s.size < 1 + 5 * (j + 1) ∧ Below wr.heap.size wr w')) := by
            obtain ⟨hR1,hR2⟩ := HR.out
            have hRsz : R.size = s.size - (1 + 5 * j) := by rw [hR2,ByteArray.size_extract]; omega
            refine (takeW_any R [3,2] gw 2 wr (HW.out.below HB.out) (by decide) (by decide) (by decide) (by omega)).mono ?_
            rintro x w' (⟨hge,A5,c5,rfl,ho5,hb5⟩ | ⟨hlt5,rfl,hb5⟩)
            · left
              have hge' : 5 ≤ R.size := hge
              obtain ⟨g5,rfl,_,hgl,_,hc5,_⟩ := own_cell ho5 (by decide)
              refine ⟨g5,c5,?_,by omega,hgl,?_,hb5⟩
              · have e1 : R.extract (List.sum [3,2]) R.size = s.extract (1 + 5 * (j + 1)) s.size := by
                  rw [hR2,extract_more s _ _ hR1]
                  show s.extract (1 + 5 * j + 5) s.size = _
                  rw [show 1 + 5 * j + 5 = 1 + 5 * (j + 1) by omega]
                rw [e1]; rfl
              · have hnum : ∀ i v,(numsW R [3,2] 2)[i]? = some v → w'.cell? ⟨g5,i,none⟩ = some v := hc5
                have q0 : leN R 0 3 = leN s (1 + 5 * j) 3 := by rw [hR2]; exact leN_extract s (1 + 5 * j) 3 0 (by omega)
                have q1 : leN R 3 2 = leN s (1 + 5 * j + 3) 2 := by rw [hR2]; exact leN_extract s (1 + 5 * j) 2 3 (by omega)
                exact ⟨by rw [← q0]; exact hnum 0 _ rfl,by rw [← q1]; exact hnum 1 _ rfl⟩
            · right
              have hlt' : R.size < 5 := hlt5
              exact ⟨rfl,by omega,hb5⟩
          have HAT : Hid ((kidsD s)[j]? = some (kidD s (1 + 5 * j))) := kidsD_at s j (by rw [HCN.out]; exact hlt)
          have HSN : Hid (kidCells ((kidsD s).take (j + 1)) = kidCells ((kidsD s).take j) ++ [.int .i64 (leN s (1 + 5 * j) 3),.int .i64 (leN s (1 + 5 * j + 3) 2)]) := by
            show _ = _
            rw [kid_snoc HAT.out,kidCells_snoc]
            rfl
          obtain ⟨x0,hx0⟩ : ∃ x,leN s (1 + 5 * j) 3 = x := ⟨_,rfl⟩
          have hr0 : 0 ≤ x0 ∧ x0 < 4294967296 := by have := leN_rng s 3 (1 + 5 * j); rw [hx0] at this; omega
          rw [hx0] at HTK HSN
          obtain ⟨x1,hx1⟩ : ∃ x,leN s (1 + 5 * j + 3) 2 = x := ⟨_,rfl⟩
          have hr1 : 0 ≤ x1 ∧ x1 < 4294967296 := by have := leN_rng s 2 (1 + 5 * j + 3); rw [hx1] at this; omega
          rw [hx1] at HTK HSN
          clear hx0 hx1
          go_wp2_with fail
          with_reducible refine HTK.out.mono ?_
          rintro e w5 (⟨g5,c5,rfl,hle5,hg5,hcells,hb5⟩ | ⟨rfl,hlt5,hb5⟩)
          · have HTH := Lib.hid (kThing g5 c5 x0 x1 w5 hg5 hcells hr0 hr1)
            have HB5 := Lib.hid (bel_tr HB.out hb5)
            have HO5 := Lib.hid (own_below HO.out hb5)
            clear hcells hb5 hg5
            go_wp2_with fail
            with_reducible refine HTH.out.mono ?_
            rintro e w6 ⟨rfl,hb6⟩
            have HB6 := Lib.hid (bel_tr HB5.out hb6)
            have HO6 := Lib.hid (own_below HO5.out hb6)
            have HOA := Lib.hid (HO6.out.alloc (.cells #[.int .i64 x0,.int .i64 x1] 123))
            have HNW : Hid (∀ (j' : Nat) (u : Value),([.int .i64 x0,.int .i64 x1] : List Value)[j']? = some u → (w6.alloc (.cells #[.int .i64 x0,.int .i64 x1] 123)).cell? ((⟨w6.heap.size,0,none⟩ : Addr).add j') = some u) := World.news_of_block (by simpa using heap_alloc_new w6 (.cells #[.int .i64 x0,.int .i64 x1] 123))
            have hone : ∀ u ∈ ([.int .i64 x0,.int .i64 x1] : List Value),u.oneCell' = true := by simp [Value.oneCell']
            have HONE := Lib.hid hone
            have hszr := HB6.out.size
            have HSZ2 : Hid (w.heap.size ≤ (w6.alloc (.cells #[.int .i64 x0,.int .i64 x1] 123)).heap.size) := by show _ ≤ _; simp only [World.size_alloc]; omega
            have HSZ3 := Lib.hid hszr
            have HLE := Lib.hid hle5
            clear hone hb6 hszr hle5
            go_wp2_with (at_builtin; go_must (refine wpList_append_own _ rfl (.tmp 37) (.tmp 41) 120 rfl w.heap.size 123 i0 _ 2 16 Tryz.underlying120 HI0.out HZ0.out HZ1.out HZ2.out rfl (by omega) (.slice A j c) j (kidCells ((kidsD s).take j)) rfl HOA.out ⟨w6.heap.size,0,none⟩ 1 1 [.int .i64 x0,.int .i64 x1] rfl rfl HNW.out HONE.out (by simp only [maxLen]; omega) (by omega) HSZ2.out ?_; intro v2 w7 hown7 hg7 _; have HO7 := Lib.hid hown7; have HB7 := Lib.hid (below_append HO6.out hg7 HSZ3.out); obtain ⟨A2,c2',e2⟩ := own_slice hown7; subst e2; clear hown7 hg7))
            go_roundw
            case rel => exact ⟨j + 1,A2,c2',_,by omega,rfl,rfl,by go_num,⟨HLE.out,rfl⟩,by rw [HSN.out]; with_reducible exact HO7,HB6.out.trans HB7.out⟩
            case measure => simp [intOf]; omega
          · have HBAD : Hid (¬ (okK s = true ∧ MayK (kidsD s))) := fun h => by
              have := HOKI.out.1 h.1
              omega
            have HB5 := Lib.hid (bel_tr HB.out hb5)
            clear hb5
            go_wp2_with fail
            refine bodyPost_ret (v := .tuple #[.slice none 0 0,.int .i64 3]) (by simp [results,Tryz.results77,go_sem]) rfl (HNO.out _ HBAD.out HB5.out)
        · obtain rfl : j = b := by omega
          by_cases hend : s.size = 1 + 5 * j
          · have hRe : R = ⟨#[]⟩ := by
              rw [HR.out.2,← hend]; exact extract_none s
            have HOK : Hid (okK s = true) := HOKI.out.2 hend
            have hfull : (kidsD s).take j = kidsD s := by
              have : (kidsD s).length = j := by rw [kidsD_len,HCN.out]
              rw [← this]; exact List.take_length
            rw [hfull] at HO
            have HLN : Hid ((kidsD s).length = j) := by show _ = _; rw [kidsD_len,HCN.out]
            have HMAY : Hid (Calls Tryz.prog 79 #[.slice A j c] wr fun x w' => ∃ mb,x = .returned (.bool mb) ∧ (mb = true ↔ MayK (kidsD s)) ∧ Below wr.heap.size wr w') := by
              have hx := KidsAt.own HO.out
              refine (kids_any (kidsD s) _ wr hx.1 (by have := HLN.out; have := H8.out; omega)).mono ?_
              rintro x w' ⟨mb,rfl,hb1,hb2⟩
              exact ⟨mb,rfl,hb1,hb2⟩
            subst hRe
            clear hfull hend
            go_wp2_with fail
            with_reducible refine HMAY.out.mono ?_
            rintro e w5 ⟨mb,rfl,hmb,hb5⟩
            have HMB := Lib.hid hmb
            have HB5 := Lib.hid (bel_tr HB.out hb5)
            have HO5 := Lib.hid (own_below HO.out hb5)
            clear hmb hb5
            cases mb with
            | false =>
              have HBAD : Hid (¬ (okK s = true ∧ MayK (kidsD s))) := fun h => by
                have := HMB.out.2 h.2
                cases this
              go_wp2_with fail
              refine bodyPost_ret (v := .tuple #[.slice none 0 0,.int .i64 3]) (by simp [results,Tryz.results77,go_sem]) rfl (HNO.out _ HBAD.out HB5.out)
            | true =>
              have HEND : Hid (RdK s w (.returned (.tuple #[.slice A j c,.int .i64 0])) w5) := by
                refine .inl ⟨A,c,by rw [HLN.out],HOK.out,HMB.out.1 rfl,by rw [HLN.out]; exact HO5.out,HB5.out⟩
              go_wp2_with fail
              refine bodyPost_ret (v := .tuple #[.slice A j c,.int .i64 0]) (by simp [results,Tryz.results77,go_sem]) rfl HEND.out
          · have hRz : R.size ≠ 0 := by
              obtain ⟨hR1,hR2⟩ := HR.out
              rw [hR2,ByteArray.size_extract]; omega
            have hRne := size_ne hRz
            have hRem := empty_no hRz
            have HBAD : Hid (¬ (okK s = true ∧ MayK (kidsD s))) := fun h => hend (HOKI.out.1 h.1)
            go_wp2_with fail
            refine bodyPost_ret (v := .tuple #[.slice none 0 0,.int .i64 3]) (by simp [results,Tryz.results77,go_sem]) rfl (HNO.out _ HBAD.out HB.out)
    · have h8d : (8 : Int) < (b : Int) := by omega
      have HBAD : Hid (¬ (okK s = true ∧ MayK (kidsD s))) := fun h => by
        have := h.1
        unfold okK at this
        rw [HB0.out] at this
        simp at this
        omega
      go_wp2_with fail
      refine bodyPost_ret (v := .tuple #[.slice none 0 0,.int .i64 3]) (by simp [results,Tryz.results77,go_sem]) rfl (HNO.out _ HBAD.out (Below.refl _ _))
end Go.Proofs.YtneammhkgmkkfaaGreatDoor.tr
