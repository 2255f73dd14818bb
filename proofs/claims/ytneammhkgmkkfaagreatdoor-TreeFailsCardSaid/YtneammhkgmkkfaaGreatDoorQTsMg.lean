/- A part of the proof. -/
import Derived.Test.YtneammhkgmkkfaaGreatDoorQTsH
import Derived.Test.YtneammhkgmkkfaaGreatDoorQTvMg
import Derived.Laws.BytesArg
import Derived.Laws.Closers25b
namespace Go.Proofs.YtneammhkgmkkfaaGreatDoor.tr
open Go.RowKit Go.Proofs.YtneammhkgmkkfaaGreatDoor.er
set_option linter.unusedVariables false
set_option linter.unusedSimpArgs false
theorem width_any (n : Int) (w : World) :
    Calls Tryz.prog 158 #[.int .i64 n] w fun e w' => e = .returned (.bool (decide (1 ≤ n) && decide (n ≤ 8))) ∧ w = w' := by
  go_enter Tryz.func158,Tryz.ntmps158
  by_cases h1 : 1 ≤ n
  · by_cases h8 : n ≤ 8
    · go_wp2_with fail
      go_ret
      exact ⟨by simp [h1,h8],rfl⟩
    · go_wp2_with fail
      go_ret
      exact ⟨by simp [h1,h8],rfl⟩
  · have h1' : n < 1 := by omega
    go_wp2_with fail
    go_ret
    exact ⟨by simp; omega,rfl⟩
theorem wrong_any (n : Int) (w : World) :
    Calls Tryz.prog 133 #[.int .i64 n] w fun e w' => e = .returned (.bool (!(decide (1 ≤ n) && decide (n ≤ 8)))) ∧ w = w' := by
  go_enter Tryz.func133,Tryz.ntmps133
  go_wp2_with fail
  refine (width_any n _).mono ?_
  rintro e w' ⟨rfl,rfl⟩
  go_wp2_with fail
  go_ret
  exact ⟨by simp,rfl⟩
def bytesOf (k : Nat) (n : Int) : List Int := (List.range k).map fun (j : Nat) => n / (256 ^ j : Int) % 256
theorem bytesOf_length (k : Nat) (n : Int) : (bytesOf k n).length = k := by simp [bytesOf]
set_option maxHeartbeats 4000000 in
set_option maxRecDepth 100000 in
theorem laid1 (n : Int) (w : World) (h0 : 0 ≤ n) (h1 : n < 18446744073709551616) :
    Calls Tryz.prog 141 #[.int .u64 n,.int .i64 1] w fun e w' => e = .returned (.string (strOfNums (bytesOf 1 n))) ∧ Below w.heap.size w w' := by
  have hcv := run_convert_bytes_arg (P := Tryz.prog) (w.alloc (.cells #[.int .u8 (n % 256),.int .u8 0,.int .u8 0,.int .u8 0,.int .u8 0,.int .u8 0,.int .u8 0,.int .u8 0] 259)) 208 5 Tryz.underlying208 Tryz.underlying5 w.heap.size 0 1 8 (bytesOf 1 n) (by simp [bytesOf]) (fun i hi => by
    have hw := Whole.new w 259 #[.int .u8 (n % 256),.int .u8 0,.int .u8 0,.int .u8 0,.int .u8 0,.int .u8 0,.int .u8 0,.int .u8 0]
    rw [Nat.zero_add,hw.cell i]
    match i,hi with
    | 0,_ => simp [bytesOf]) 9 Tryz.underlying9
  go_enter Tryz.func141,Tryz.ntmps141
  go_wp2_with fail
  go_ret
  exact ⟨rfl,(Below.refl _ _).alloc (Nat.le_refl _) _⟩
theorem fits1 (n : Int) (w : World) (h0 : 0 ≤ n) (h1 : n < 18446744073709551616) :
    Calls Tryz.prog 139 #[.int .u64 n,.int .i64 1] w fun e w' => e = .returned (.bool (n / 256 == 0)) ∧ w = w' := by
  go_enter Tryz.func139,Tryz.ntmps139
  go_wp2_with fail
  go_ret
  exact ⟨by simp,rfl⟩
set_option maxHeartbeats 4000000 in
set_option maxRecDepth 100000 in
theorem laid2 (n : Int) (w : World) (h0 : 0 ≤ n) (h1 : n < 18446744073709551616) :
    Calls Tryz.prog 141 #[.int .u64 n,.int .i64 2] w fun e w' => e = .returned (.string (strOfNums (bytesOf 2 n))) ∧ Below w.heap.size w w' := by
  have hcv := run_convert_bytes_arg (P := Tryz.prog) (w.alloc (.cells #[.int .u8 (n % 256),.int .u8 (n / 256 % 256),.int .u8 0,.int .u8 0,.int .u8 0,.int .u8 0,.int .u8 0,.int .u8 0] 259)) 208 5 Tryz.underlying208 Tryz.underlying5 w.heap.size 0 2 8 (bytesOf 2 n) (by simp [bytesOf]) (fun i hi => by
    have hw := Whole.new w 259 #[.int .u8 (n % 256),.int .u8 (n / 256 % 256),.int .u8 0,.int .u8 0,.int .u8 0,.int .u8 0,.int .u8 0,.int .u8 0]
    rw [Nat.zero_add,hw.cell i]
    match i,hi with
    | 0,_ => simp [bytesOf]
    | 1,_ => simp [bytesOf]) 9 Tryz.underlying9
  go_enter Tryz.func141,Tryz.ntmps141
  go_wp2_with fail
  go_ret
  exact ⟨rfl,(Below.refl _ _).alloc (Nat.le_refl _) _⟩
theorem fits2 (n : Int) (w : World) (h0 : 0 ≤ n) (h1 : n < 18446744073709551616) :
    Calls Tryz.prog 139 #[.int .u64 n,.int .i64 2] w fun e w' => e = .returned (.bool (n / 65536 == 0)) ∧ w = w' := by
  go_enter Tryz.func139,Tryz.ntmps139
  go_wp2_with fail
  go_ret
  exact ⟨by simp,rfl⟩
set_option maxHeartbeats 4000000 in
set_option maxRecDepth 100000 in
theorem laid3 (n : Int) (w : World) (h0 : 0 ≤ n) (h1 : n < 18446744073709551616) :
    Calls Tryz.prog 141 #[.int .u64 n,.int .i64 3] w fun e w' => e = .returned (.string (strOfNums (bytesOf 3 n))) ∧ Below w.heap.size w w' := by
  have hcv := run_convert_bytes_arg (P := Tryz.prog) (w.alloc (.cells #[.int .u8 (n % 256),.int .u8 (n / 256 % 256),.int .u8 (n / 65536 % 256),.int .u8 0,.int .u8 0,.int .u8 0,.int .u8 0,.int .u8 0] 259)) 208 5 Tryz.underlying208 Tryz.underlying5 w.heap.size 0 3 8 (bytesOf 3 n) (by simp [bytesOf]) (fun i hi => by
    have hw := Whole.new w 259 #[.int .u8 (n % 256),.int .u8 (n / 256 % 256),.int .u8 (n / 65536 % 256),.int .u8 0,.int .u8 0,.int .u8 0,.int .u8 0,.int .u8 0]
    rw [Nat.zero_add,hw.cell i]
    match i,hi with
    | 0,_ => simp [bytesOf]
    | 1,_ => simp [bytesOf]
    | 2,_ => simp [bytesOf]) 9 Tryz.underlying9
  go_enter Tryz.func141,Tryz.ntmps141
  go_wp2_with fail
  go_ret
  exact ⟨rfl,(Below.refl _ _).alloc (Nat.le_refl _) _⟩
theorem fits3 (n : Int) (w : World) (h0 : 0 ≤ n) (h1 : n < 18446744073709551616) :
    Calls Tryz.prog 139 #[.int .u64 n,.int .i64 3] w fun e w' => e = .returned (.bool (n / 16777216 == 0)) ∧ w = w' := by
  go_enter Tryz.func139,Tryz.ntmps139
  go_wp2_with fail
  go_ret
  exact ⟨by simp,rfl⟩
set_option maxHeartbeats 4000000 in
set_option maxRecDepth 100000 in
theorem laid4 (n : Int) (w : World) (h0 : 0 ≤ n) (h1 : n < 18446744073709551616) :
    Calls Tryz.prog 141 #[.int .u64 n,.int .i64 4] w fun e w' => e = .returned (.string (strOfNums (bytesOf 4 n))) ∧ Below w.heap.size w w' := by
  have hcv := run_convert_bytes_arg (P := Tryz.prog) (w.alloc (.cells #[.int .u8 (n % 256),.int .u8 (n / 256 % 256),.int .u8 (n / 65536 % 256),.int .u8 (n / 16777216 % 256),.int .u8 0,.int .u8 0,.int .u8 0,.int .u8 0] 259)) 208 5 Tryz.underlying208 Tryz.underlying5 w.heap.size 0 4 8 (bytesOf 4 n) (by simp [bytesOf]) (fun i hi => by
    have hw := Whole.new w 259 #[.int .u8 (n % 256),.int .u8 (n / 256 % 256),.int .u8 (n / 65536 % 256),.int .u8 (n / 16777216 % 256),.int .u8 0,.int .u8 0,.int .u8 0,.int .u8 0]
    rw [Nat.zero_add,hw.cell i]
    match i,hi with
    | 0,_ => simp [bytesOf]
    | 1,_ => simp [bytesOf]
    | 2,_ => simp [bytesOf]
    | 3,_ => simp [bytesOf]) 9 Tryz.underlying9
  go_enter Tryz.func141,Tryz.ntmps141
  go_wp2_with fail
  go_ret
  exact ⟨rfl,(Below.refl _ _).alloc (Nat.le_refl _) _⟩
theorem fits4 (n : Int) (w : World) (h0 : 0 ≤ n) (h1 : n < 18446744073709551616) :
    Calls Tryz.prog 139 #[.int .u64 n,.int .i64 4] w fun e w' => e = .returned (.bool (n / 4294967296 == 0)) ∧ w = w' := by
  go_enter Tryz.func139,Tryz.ntmps139
  go_wp2_with fail
  go_ret
  exact ⟨by simp,rfl⟩
theorem laidK (k : Nat) (n : Int) (w : World) (hk : 1 ≤ k) (hk4 : k ≤ 4) (h0 : 0 ≤ n) (h1 : n < 256 ^ k) :
    Calls Tryz.prog 141 #[.int .u64 n,.int .i64 k] w fun e w' => e = .returned (.string (strOfNums (bytesOf k n))) ∧ Below w.heap.size w w' := by
  obtain rfl | rfl | rfl | rfl : k = 1 ∨ k = 2 ∨ k = 3 ∨ k = 4 := by omega
  · exact laid1 n w h0 (by omega)
  · exact laid2 n w h0 (by omega)
  · exact laid3 n w h0 (by omega)
  · exact laid4 n w h0 (by omega)
theorem fitsK (k : Nat) (n : Int) (w : World) (hk : 1 ≤ k) (hk4 : k ≤ 4) (h0 : 0 ≤ n) (h1 : n < 256 ^ k) :
    Calls Tryz.prog 139 #[.int .u64 n,.int .i64 k] w fun e w' => e = .returned (.bool true) ∧ w = w' := by
  obtain rfl | rfl | rfl | rfl : k = 1 ∨ k = 2 ∨ k = 3 ∨ k = 4 := by omega
  · refine (fits1 n w h0 (by omega)).mono ?_
    rintro e w' ⟨rfl,rfl⟩
    exact ⟨by rw [show n / 256 = 0 by omega]; rfl,rfl⟩
  · refine (fits2 n w h0 (by omega)).mono ?_
    rintro e w' ⟨rfl,rfl⟩
    exact ⟨by rw [show n / 65536 = 0 by omega]; rfl,rfl⟩
  · refine (fits3 n w h0 (by omega)).mono ?_
    rintro e w' ⟨rfl,rfl⟩
    exact ⟨by rw [show n / 16777216 = 0 by omega]; rfl,rfl⟩
  · refine (fits4 n w h0 (by omega)).mono ?_
    rintro e w' ⟨rfl,rfl⟩
    exact ⟨by rw [show n / 4294967296 = 0 by omega]; rfl,rfl⟩
def rowB (l : List (Nat × Int)) : List UInt8 := l.flatMap fun p => (bytesOf p.1 p.2).map fun x => UInt8.ofNat x.toNat
theorem rowB_le : ∀ (l : List (Nat × Int)),(∀ p ∈ l,p.1 ≤ 4) → (rowB l).length ≤ 4 * l.length
  | [],_ => by simp [rowB]
  | p :: l,h => by
    have := rowB_le l (fun q hq => h q (by simp [hq]))
    have hp := h p (by simp)
    have e : (rowB (p :: l)).length = p.1 + (rowB l).length := by simp [rowB,bytesOf_length]
    rw [e,List.length_cons]; omega
theorem rowB_take {l : List (Nat × Int)} {j : Nat} {p : Nat × Int} (h : l[j]? = some p) : rowB (l.take (j + 1)) = rowB (l.take j) ++ (bytesOf p.1 p.2).map fun x => UInt8.ofNat x.toNat := by
  unfold rowB
  rw [List.take_add_one,h]
  simp
theorem rowB_cells {l : List (Nat × Int)} {j : Nat} {p : Nat × Int} (h : l[j]? = some p) : Lib.byteCells (rowB (l.take (j + 1))) = Lib.byteCells (rowB (l.take j)) ++ Lib.strCells (strOfNums (bytesOf p.1 p.2)) := by
  rw [rowB_take h]
  simp [Lib.byteCells,Lib.strCells,strOfNums_data]
theorem builder_below {T e : TypeId} {B b : Nat} {bs : List Value} {w w' : World} (h : Lib.IsBuilder T e B b bs w) (hb : Below w.heap.size w w') : Lib.IsBuilder T e B b bs w' := by
  have h1 : ∀ p,Lib.BuilderAt T e B b p bs w → Lib.BuilderAt T e B b p bs w' := by
    rintro p ⟨hB,v,hbk,hown,hne⟩
    exact ⟨hB,v,(hb.block b (Array.getElem?_eq_some_iff.1 hbk).1).trans hbk,own_below hown hb,hne⟩
  exact h.imp (h1 _) (h1 _)
def WidAt (w : World) (g : Nat) (l : List (Nat × Int)) : Prop := ∀ (j : Nat) (p : Nat × Int),l[j]? = some p → w.cell? ⟨g,j,none⟩ = some (.int .i64 p.1)
def NumAt (w : World) (g : Nat) (l : List (Nat × Int)) : Prop := ∀ (j : Nat) (p : Nat × Int),l[j]? = some p → w.cell? ⟨g,j,none⟩ = some (.int .u64 p.2)
theorem WidAt.below {w w' : World} {g : Nat} {l : List (Nat × Int)} (h : WidAt w g l) (hb : Below w.heap.size w w') : WidAt w' g l := fun j p hp => below_c hb (h j p hp)
structure FitL (l : List (Nat × Int)) : Prop where
  lo : ∀ p ∈ l,1 ≤ p.1
  hi : ∀ p ∈ l,p.1 ≤ 4
  ps : ∀ p ∈ l,0 ≤ p.2
  up : ∀ p ∈ l,p.2 < 256 ^ p.1
  len : l.length ≤ 8
set_option maxHeartbeats 1000000 in
theorem indexW (g c : Nat) (l : List (Nat × Int)) (w : World) (hw : WidAt w g l) (hf : FitL l) (n : Nat) (hn : l.length = n) :
    Calls Tryz.prog 157 #[.slice (some ⟨g,0,none⟩) n c,.func (.func 133) #[] #[]] w fun e w' => e = .returned (.int .i64 (-1)) ∧ w = w' := by
  have HW := Lib.hid hw
  have HF := Lib.hid hf
  have HN := Lib.hid hn
  have hn8 : (n : Int) ≤ 8 := by have := hf.len; omega
  clear hw hf hn
  go_enter Tryz.func157,Tryz.ntmps157
  go_wp2_with fail
  go_loopw [8] (fun i wr => ∃ j : Nat,j ≤ n ∧ i = .int .i64 j ∧ w = wr) (fun i _ => n - (intOf i).toNat)
  case atStart => exact ⟨0,Nat.zero_le _,rfl,rfl⟩
  case round =>
    obtain ⟨j,hj,rfl,rfl⟩ := hrel
    by_cases hlt : j < n
    · have hji : (j : Int) < (n : Int) := by omega
      obtain ⟨p,hp⟩ : ∃ p,l[j]? = some p := ⟨_,List.getElem?_eq_getElem (by rw [HN.out]; exact hlt)⟩
      have c0 := HW.out j p hp
      have h1 : (1 : Int) ≤ (p.1 : Int) := by have := HF.out.lo p (List.mem_of_getElem? hp); omega
      have h2 : (p.1 : Int) ≤ 8 := by have := HF.out.hi p (List.mem_of_getElem? hp); omega
      have HWR : Hid (∀ wq,Calls Tryz.prog 133 #[.int .i64 p.1] wq fun e w' => e = .returned (.bool false) ∧ wq = w') := by
        intro wq
        have := wrong_any p.1 wq
        simpa [h1,h2] using this
      clear hp h1 h2
      obtain ⟨pw,hpw⟩ : ∃ pw : Nat,p.1 = pw := ⟨_,rfl⟩
      rw [hpw] at c0 HWR
      clear hpw
      go_wp2_with fail
      with_reducible refine (HWR.out _).mono ?_
      rintro e w2 ⟨rfl,rfl⟩
      go_wp2_with fail
      go_roundw
      case rel => exact ⟨j + 1,by omega,by go_num,trivial⟩
      case measure => simp [intOf]; omega
    · obtain rfl : j = n := by omega
      go_wp2_with fail
      go_ret
      exact ⟨rfl,rfl⟩
theorem containsW (g c : Nat) (l : List (Nat × Int)) (w : World) (hw : WidAt w g l) (hf : FitL l) (n : Nat) (hn : l.length = n) :
    Calls Tryz.prog 132 #[.slice (some ⟨g,0,none⟩) n c,.func (.func 133) #[] #[]] w fun e w' => e = .returned (.bool false) ∧ w = w' := by
  have H := Lib.hid (indexW g c l w hw hf n hn)
  clear hw hf hn
  go_enter Tryz.func132,Tryz.ntmps132
  go_wp2_with fail
  with_reducible refine H.out.mono ?_
  rintro e w2 ⟨rfl,rfl⟩
  go_wp2_with fail
  go_ret
  exact ⟨rfl,rfl⟩
set_option maxHeartbeats 4000000 in
set_option maxRecDepth 100000 in
theorem rowW (l : List (Nat × Int)) (gn cn gw cw : Nat) (w : World) (hw : WidAt w gw l) (hn : NumAt w gn l) (hf : FitL l) (n : Nat) (hl : l.length = n) :
    Calls Tryz.prog 111 #[.slice (some ⟨gn,0,none⟩) n cn,.slice (some ⟨gw,0,none⟩) n cw] w fun e w' => e = .returned (.tuple #[.string ⟨(rowB l).toArray⟩,.int .i64 0]) ∧ Below w.heap.size w w' := by
  have HCO := Lib.hid (containsW gw cw l w hw hf n hl)
  have HW := Lib.hid hw
  have HN := Lib.hid hn
  have HF := Lib.hid hf
  have HL := Lib.hid hl
  have hn8 : (n : Int) ≤ 8 := by have := hf.len; omega
  clear hw hn hf hl
  go_enter Tryz.func111,Tryz.ntmps111
  go_wp2_with fail
  with_reducible refine HCO.out.mono ?_
  rintro e w2 ⟨rfl,rfl⟩
  go_wp2_with fail
  go_loopw [20] (fun i wr => ∃ j : Nat,j ≤ n ∧ i = .int .i64 j ∧ Hid (Lib.IsBuilder 242 5 w.heap.size w.heap.size (Lib.byteCells (rowB (l.take j))) wr) ∧ Hid (Below w.heap.size w wr)) (fun i _ => n - (intOf i).toNat)
  case atStart => exact ⟨0,Nat.zero_le _,rfl,by exact Lib.fresh_isBuilder _ _ w,(Below.refl _ _).alloc (Nat.le_refl _) _⟩
  case round =>
    obtain ⟨j,hj,rfl,HB,HBEL⟩ := hrel
    by_cases hlt : j < n
    · have hji : (j : Int) < (n : Int) := by omega
      obtain ⟨p,hp⟩ : ∃ p,l[j]? = some p := ⟨_,List.getElem?_eq_getElem (by rw [HL.out]; exact hlt)⟩
      have c0 := below_c HBEL.out (HW.out j p hp)
      have c1 := below_c HBEL.out (HN.out j p hp)
      have hpm := List.mem_of_getElem? hp
      have p1 := HF.out.lo p hpm
      have p2 := HF.out.hi p hpm
      have p3 := HF.out.ps p hpm
      have p4 := HF.out.up p hpm
      have HFI := Lib.hid (fun wq => fitsK p.1 p.2 wq p1 p2 p3 p4)
      have HLA := Lib.hid (fun wq => laidK p.1 p.2 wq p1 p2 p3 p4)
      have HSZ : Hid ((Lib.byteCells (rowB (l.take j))).length + (strOfNums (bytesOf p.1 p.2)).size ≤ 140737488355328) := by
        show _ ≤ _
        have := rowB_le (l.take j) (fun q hq => HF.out.hi q (List.mem_of_mem_take hq))
        have h2 : (l.take j).length ≤ 8 := by rw [List.length_take]; have := HF.out.len; omega
        rw [strOfNums_size,bytesOf_length,Lib.byteCells_length]
        omega
      have HCE := Lib.hid (rowB_cells hp)
      have hk5 : (p.1 : Int) ≤ 4 := by omega
      have hk1 : (1 : Int) ≤ (p.1 : Int) := by omega
      have h64 : p.2 < 4294967296 := by
        obtain h | h | h | h : p.1 = 1 ∨ p.1 = 2 ∨ p.1 = 3 ∨ p.1 = 4 := by omega
        all_goals (rw [h] at p4; omega)
      obtain ⟨pk,pn⟩ := p
      simp only at c0 c1 HFI HLA HSZ HCE hk5 hk1 h64 p3
      clear hp hpm p1 p2 p4
      go_wp2_with fail
      with_reducible refine (HFI.out _).mono ?_
      rintro e w2 ⟨rfl,rfl⟩
      go_wp2_with fail
      with_reducible refine (HLA.out _).mono ?_
      rintro e w2 ⟨rfl,hb2⟩
      have HB2 := Lib.hid (builder_below HB.out hb2)
      have HBEL2 := Lib.hid (HBEL.out.trans (hb2.mono HBEL.out.size))
      clear hb2
      go_wp2_with fail
      refine (Tryz.Builder_WriteString _ _ _ _ _ HB2.out HSZ.out (by have := HBEL2.out.size; omega)).mono ?_
      rintro e w3 ⟨rfl,hb3,hbel3⟩
      have HB3 : Hid (Lib.IsBuilder 242 5 w.heap.size w.heap.size (Lib.byteCells (rowB (l.take (j + 1)))) w3) := by
        show Lib.IsBuilder _ _ _ _ _ _
        rw [HCE.out]
        exact .inr hb3
      have HBEL3 := Lib.hid (HBEL2.out.trans hbel3)
      clear hb3 hbel3
      go_wp2_with fail
      go_roundw
      case rel => exact ⟨j + 1,by omega,by go_num,HB3,HBEL3⟩
      case measure => simp [intOf]; omega
    · obtain rfl : j = n := by omega
      have hfull : l.take j = l := by rw [← HL.out]; exact List.take_length
      rw [hfull] at HB
      clear hfull
      go_wp2_with fail
      refine (Tryz.Builder_String_any _ _ _ _ HB.out HBEL.out.size).mono ?_
      rintro e w2 ⟨rfl,hb2⟩
      have HBF := Lib.hid (HBEL.out.trans hb2)
      clear hb2
      go_wp2_with fail
      refine bodyPost_ret (v := .tuple #[.string ⟨(rowB l).toArray⟩,.int .i64 0]) (by simp [results,Tryz.results111,go_sem]) rfl ⟨rfl,HBF.out⟩
end Go.Proofs.YtneammhkgmkkfaaGreatDoor.tr
namespace Go.Proofs.YtneammhkgmkkfaaGreatDoor.tr
open Go.RowKit Go.Proofs.YtneammhkgmkkfaaGreatDoor.er
set_option linter.unusedVariables false
set_option linter.unusedSimpArgs false
def extB (l : List Ext) : Bool := decide (1 ≤ l.length) && decide (l.length ≤ 8) && chkB l
theorem one_low {e : Ext} (h : oneB e = true) : decide (2048 ≤ e.at_) = false := by
  obtain ⟨h1,h2,h3,h4⟩ := one_spec h
  simp; omega
theorem any_low {l : List Ext} (h : ∀ e ∈ l,oneB e = true) : l.any (fun e => decide (2048 ≤ e.at_)) = false := by
  rw [List.any_eq_false]
  intro e he
  rw [one_low (h e he)]; simp
set_option maxHeartbeats 4000000 in
set_option maxRecDepth 100000 in
theorem extents_any (l : List Ext) (v : Value) (w : World) (h : ExtsAt w v l) (hl : l.length ≤ 100000000) :
    Calls Tryz.prog 75 #[v] w fun x w' => x = .returned (.bool (extB l)) ∧ Below w.heap.size w w' := by
  have HCK := Lib.hid (check_any l v w h hl)
  have HCF : Hid (chkB l = true → ∀ wq,Below w.heap.size w wq → Calls Tryz.prog 104 #[v,.func (.func 105) #[] #[]] wq fun x w' => x = .returned (.bool false) ∧ Below wq.heap.size wq w') := by
    intro hc wq hb
    have := conF_any (fun e => decide (2048 ≤ e.at_)) 105 #[] l v wq (fun _ _ => by kernel_rfl) (h.below hb) hl (fun e wq _ _ => by
      have := lxt_any e wq
      simpa using this)
    rw [any_low (chkB_chk _ hc).one] at this
    exact this
  obtain ⟨A,c,rfl,hcc⟩ := h
  obtain ⟨n,hn⟩ : ∃ n,l.length = n := ⟨_,rfl⟩
  have HE : Hid (extB l = (decide (1 ≤ n) && decide (n ≤ 8) && chkB l)) := by show _ = _; unfold extB; rw [hn]
  rw [HE.out]
  rw [hn] at HCK HCF hl ⊢
  have hni : (n : Int) ≤ 100000000 := by omega
  obtain ⟨b,hb⟩ : ∃ b,chkB l = b := ⟨_,rfl⟩
  rw [hb] at HCK HCF ⊢
  clear hcc hn HE hb
  go_enter Tryz.func75,Tryz.ntmps75
  by_cases h1 : 1 ≤ n
  · have h1i : (1 : Int) ≤ (n : Int) := by omega
    by_cases h8 : n ≤ 8
    · have h8i : (n : Int) ≤ 8 := by omega
      cases b with
      | false =>
        go_wp2_with fail
        with_reducible refine HCK.out.mono ?_
        rintro e w5 ⟨rfl,hb5⟩
        have HB5 := Lib.hid hb5
        clear hb5
        go_wp2_with fail
        go_ret
        exact ⟨by simp [h1,h8],HB5.out⟩
      | true =>
        go_wp2_with fail
        with_reducible refine HCK.out.mono ?_
        rintro e w5 ⟨rfl,hb5⟩
        have HB5 := Lib.hid hb5
        have HC2 := Lib.hid (HCF.out (by first | rfl | trivial) _ hb5)
        clear hb5
        go_wp2_with fail
        with_reducible refine HC2.out.mono ?_
        rintro e w6 ⟨rfl,hb6⟩
        have HB6 := Lib.hid (bel_tr HB5.out hb6)
        clear hb6
        go_wp2_with fail
        go_ret
        exact ⟨by simp [h1,h8],HB6.out⟩
    · have h8i : ¬ (n : Int) ≤ 8 := by omega
      go_wp2_with fail
      go_ret
      exact ⟨by simp [h8],Below.refl _ _⟩
  · have h1i : ¬ (1 : Int) ≤ (n : Int) := by omega
    go_wp2_with fail
    go_ret
    exact ⟨by simp [h1],Below.refl _ _⟩
def extNums (e : Ext) : List (Nat × Int) := [(3,e.fr),(4,e.n),(1,e.kind),(2,e.at_)]
def extRow (e : Ext) : List UInt8 := rowB (extNums e)
def leafL (l : List Ext) : List UInt8 := UInt8.ofNat l.length :: l.flatMap extRow
theorem ext_fit {e : Ext} (h : oneB e = true) : FitL (extNums e) := by
  obtain ⟨h1,h2,h3,h4⟩ := one_spec h
  refine ⟨?_,?_,?_,?_,by simp [extNums]⟩
  all_goals (intro p hp; simp only [extNums,List.mem_cons,List.not_mem_nil,or_false] at hp; rcases hp with rfl | rfl | rfl | rfl <;> simp <;> omega)
theorem extW_any (w : World) : Calls Tryz.prog 74 #[] w fun x w' => x = .returned (.slice (some ⟨w.heap.size,0,none⟩) 4 4) ∧ (∀ e : Ext,WidAt w' w.heap.size (extNums e)) ∧ Below w.heap.size w w' := by
  have HW : Hid (∀ e : Ext,WidAt (w.alloc (.cells #[.int .i64 3,.int .i64 4,.int .i64 1,.int .i64 2] 3)) w.heap.size (extNums e)) := by
    intro e j p hp
    have hw := Whole.new w 3 #[.int .i64 3,.int .i64 4,.int .i64 1,.int .i64 2]
    rw [hw.cell j]
    match j,hp with
    | 0,hp => simp [extNums] at hp; subst hp; rfl
    | 1,hp => simp [extNums] at hp; subst hp; rfl
    | 2,hp => simp [extNums] at hp; subst hp; rfl
    | 3,hp => simp [extNums] at hp; subst hp; rfl
    | j + 4,hp => simp [extNums] at hp
  go_enter Tryz.func74,Tryz.ntmps74
  go_wp2_with fail
  go_ret
  exact ⟨rfl,HW.out,(Below.refl _ _).alloc (Nat.le_refl _) _⟩
set_option maxHeartbeats 4000000 in
set_option maxRecDepth 100000 in
theorem extN_any (e : Ext) (w : World) (h : oneB e = true) : Calls Tryz.prog 93 #[e.val] w fun x w' => ∃ g,x = .returned (.slice (some ⟨g,0,none⟩) 4 4) ∧ NumAt w' g (extNums e) ∧ Below w.heap.size w w' := by
  obtain ⟨h1,h2,h3,h4⟩ := one_spec h
  have h5 : 0 ≤ e.kind ∧ e.kind ≤ 2 := by omega
  have h6 : 0 ≤ e.at_ ∧ e.at_ ≤ 2048 := by omega
  obtain ⟨f,n,k,t⟩ := e
  simp only at h1 h2 h3 h5 h6
  have HN : Hid (NumAt ((w.alloc (.cells #[.int .i64 f,.int .i64 n,.int .i64 k,.int .i64 t] 59)).alloc (.cells #[.int .u64 f,.int .u64 n,.int .u64 k,.int .u64 t] 160)) (w.heap.size + 1) (extNums ⟨f,n,k,t⟩)) := by
    intro j p hp
    have hw := Whole.new' (w.alloc (.cells #[.int .i64 f,.int .i64 n,.int .i64 k,.int .i64 t] 59)) 160 #[.int .u64 f,.int .u64 n,.int .u64 k,.int .u64 t] (w.heap.size + 1) (by simp)
    rw [hw.cell j]
    match j,hp with
    | 0,hp => simp [extNums] at hp; subst hp; rfl
    | 1,hp => simp [extNums] at hp; subst hp; rfl
    | 2,hp => simp [extNums] at hp; subst hp; rfl
    | 3,hp => simp [extNums] at hp; subst hp; rfl
    | j + 4,hp => simp [extNums] at hp
  have hf : f ≤ 16777216 := by omega
  have hn : n ≤ 16777216 := by omega
  obtain ⟨k1,k2⟩ := h5
  obtain ⟨t1,t2⟩ := h6
  clear h h3 h4
  show Calls Tryz.prog 93 #[.agg #[.int .i64 f,.int .i64 n,.int .i64 k,.int .i64 t]] w _
  go_enter Tryz.func93,Tryz.ntmps93
  go_wp2_with fail
  go_ret
  exact ⟨_,rfl,HN.out,((Below.refl _ _).alloc (Nat.le_refl _) _).alloc (by simp) _⟩
theorem str_app (a b : List UInt8) : (⟨a.toArray⟩ : ByteArray) ++ ⟨b.toArray⟩ = ⟨(a ++ b).toArray⟩ := by
  apply ByteArray.ext
  simp [ByteArray.data_append]
theorem extRow_len (e : Ext) : (extRow e).length = 10 := by simp [extRow,extNums,rowB,bytesOf_length]
theorem rows_len (l : List Ext) : (l.flatMap extRow).length = l.length * 10 := by
  induction l with
  | nil => rfl
  | cons e l ih => rw [List.flatMap_cons,List.length_append,ih,extRow_len,List.length_cons]; omega
set_option maxHeartbeats 4000000 in
set_option maxRecDepth 100000 in
theorem writeE_any (l : List Ext) (v : Value) (gw : Nat) (w : World) (h : ExtsAt w v l) (h1 : ∀ e ∈ l,oneB e = true) (h8 : l.length ≤ 8) (hw : ∀ e : Ext,WidAt w gw (extNums e)) :
    Calls Tryz.prog 92 #[v,.slice (some ⟨gw,0,none⟩) 4 4,.func (.func 93) #[] #[]] w fun x w' => x = .returned (.tuple #[.string ⟨(leafL l).toArray⟩,.int .i64 0]) ∧ Below w.heap.size w w' := by
  obtain ⟨A,c,rfl,hcc⟩ := h
  have HC := Lib.hid hcc
  have HW := Lib.hid hw
  have H1 := Lib.hid h1
  obtain ⟨n,hn⟩ : ∃ n,l.length = n := ⟨_,rfl⟩
  have HN := Lib.hid hn
  rw [hn] at h8 HC ⊢
  have h8i : (n : Int) ≤ 8 := by omega
  have hcv := run_convert_bytes_arg (P := Tryz.prog) (w.alloc (.cells #[.int .u8 n] 5)) 208 5 Tryz.underlying208 Tryz.underlying5 w.heap.size 0 1 1 [(n : Int)] rfl (fun i hi => by
    have hw := Whole.new w 5 #[.int .u8 n]
    rw [Nat.zero_add,hw.cell i]
    match i,hi with
    | 0,_ => rfl) 9 Tryz.underlying9
  have HS0 : Hid (strOfNums [(n : Int)] = ⟨([UInt8.ofNat n] : List UInt8).toArray⟩) := by show _ = _; unfold strOfNums; simp
  have HLL : Hid (leafL l = [UInt8.ofNat n] ++ l.flatMap extRow) := by show _ = _; unfold leafL; rw [HN.out]; rfl
  clear hcc hw h1 hn
  go_enter Tryz.func92,Tryz.ntmps92
  go_wp2_with fail
  rw [HS0.out]
  go_loopw [8,20] (fun s8 i wr => ∃ j : Nat,j ≤ n ∧ i = .int .i64 j ∧ s8 = .string ⟨([UInt8.ofNat n] ++ (l.take j).flatMap extRow).toArray⟩ ∧ Hid (Below w.heap.size w wr)) (fun _ i _ => n - (intOf i).toNat)
  case atStart => exact ⟨0,Nat.zero_le _,rfl,by simp,(Below.refl _ _).alloc (Nat.le_refl _) _⟩
  case round =>
    obtain ⟨j,hj,rfl,rfl,HB⟩ := hrel
    by_cases hlt : j < n
    · have hji : (j : Int) < (n : Int) := by omega
      obtain ⟨g,o,rfl,hc⟩ := HC.out (by omega)
      obtain ⟨x,hx⟩ : ∃ x,l[j]? = some x := ⟨_,List.getElem?_eq_getElem (by rw [HN.out]; exact hlt)⟩
      obtain ⟨c0,c1,c2,c3⟩ := (hc j x hx).below HB.out
      have hone := H1.out x (List.mem_of_getElem? hx)
      have HEN := Lib.hid (fun wq => extN_any x wq hone)
      have HROW : Hid (∀ wq g,Below w.heap.size w wq → NumAt wq g (extNums x) → Calls Tryz.prog 111 #[.slice (some ⟨g,0,none⟩) 4 4,.slice (some ⟨gw,0,none⟩) 4 4] wq fun e w' => e = .returned (.tuple #[.string ⟨(extRow x).toArray⟩,.int .i64 0]) ∧ Below wq.heap.size wq w') := fun wq g hb hn => rowW (extNums x) g 4 gw 4 wq ((HW.out x).below hb) hn (ext_fit hone) 4 rfl
      have HT : Hid (⟨([UInt8.ofNat n] ++ (l.take j).flatMap extRow).toArray⟩ ++ ⟨(extRow x).toArray⟩ = (⟨([UInt8.ofNat n] ++ (l.take (j + 1)).flatMap extRow).toArray⟩ : ByteArray)) := by
        show _ = _
        rw [str_app,list_take_flat _ _ _ _ hx,List.append_assoc]
      have z1 : (⟨([UInt8.ofNat n] ++ (l.take j).flatMap extRow).toArray⟩ : ByteArray).size ≤ 1000 := by
        show ([UInt8.ofNat n] ++ (l.take j).flatMap extRow).toArray.size ≤ 1000
        have : (l.take j).length ≤ j := by rw [List.length_take]; omega
        rw [List.size_toArray,List.length_append,rows_len,List.length_singleton]; omega
      have z2 : (⟨(extRow x).toArray⟩ : ByteArray).size ≤ 1000 := by
        show (extRow x).toArray.size ≤ 1000
        rw [List.size_toArray,extRow_len]; omega
      obtain ⟨S,hS⟩ : ∃ S : ByteArray,⟨([UInt8.ofNat n] ++ (l.take j).flatMap extRow).toArray⟩ = S := ⟨_,rfl⟩
      obtain ⟨R,hR⟩ : ∃ R : ByteArray,⟨(extRow x).toArray⟩ = R := ⟨_,rfl⟩
      rw [hS] at HT z1
      rw [hR] at HT z2 HROW
      rw [hS]
      obtain ⟨f,en,k,t⟩ := x
      simp only at c0 c1 c2 c3
      have d0 : (wr.alloc (.cells #[.int .i64 f,.int .i64 en,.int .i64 k,.int .i64 t] 59)).heap.size = wr.heap.size + 1 := by simp
      have HBA : Hid (Below w.heap.size w (wr.alloc (.cells #[.int .i64 f,.int .i64 en,.int .i64 k,.int .i64 t] 59))) := HB.out.alloc (by have := HB.out.size; omega) _
      have HEN2 : Hid (∀ wq,Calls Tryz.prog 93 #[.agg #[.int .i64 f,.int .i64 en,.int .i64 k,.int .i64 t]] wq fun x w' => ∃ g,x = .returned (.slice (some ⟨g,0,none⟩) 4 4) ∧ NumAt w' g (extNums ⟨f,en,k,t⟩) ∧ Below wq.heap.size wq w') := HEN.out
      clear hc hx hone d0 HEN hS hR
      go_wp2_with fail
      with_reducible refine (HEN2.out _).mono ?_
      rintro e w5 ⟨g5,rfl,hn5,hb5⟩
      have HB5 := Lib.hid (bel_tr HBA.out hb5)
      have HR := Lib.hid (HROW.out _ _ HB5.out hn5)
      clear hn5 hb5
      go_wp2_with fail
      with_reducible refine HR.out.mono ?_
      rintro e w6 ⟨rfl,hb6⟩
      have HB6 := Lib.hid (bel_tr HB5.out hb6)
      clear hb6
      go_wp2_with fail
      go_roundw
      case rel => exact ⟨j + 1,by omega,by go_num,by rw [HT.out],HB6.out⟩
      case measure => simp [intOf]; omega
    · obtain rfl : j = n := by omega
      have hfull : l.take j = l := by rw [← HN.out]; exact List.take_length
      rw [hfull,← HLL.out]
      clear hfull
      go_wp2_with fail
      refine bodyPost_ret (v := .tuple #[.string ⟨(leafL l).toArray⟩,.int .i64 0]) (by simp [results,Tryz.results92,go_sem]) rfl ⟨rfl,HB.out⟩
theorem leaf_any (l : List Ext) (v : Value) (w : World) (h : ExtsAt w v l) (hc : Chk l) (h1 : 1 ≤ l.length) (h8 : l.length ≤ 8) :
    Calls Tryz.prog 62 #[v] w fun x w' => x = .returned (.tuple #[.string ⟨(leafL l).toArray⟩,.int .i64 0]) ∧ Below w.heap.size w w' := by
  have HX : Hid (Calls Tryz.prog 75 #[v] w fun x w' => x = .returned (.bool true) ∧ Below w.heap.size w w') := by
    have := extents_any l v w h (by omega)
    have e : extB l = true := by unfold extB; simp [h1,h8,chk_chkB _ hc]
    rw [e] at this
    exact this
  have HEW := Lib.hid (fun wq => extW_any wq)
  have HWR : Hid (∀ wq gw,Below w.heap.size w wq → (∀ e : Ext,WidAt wq gw (extNums e)) → Calls Tryz.prog 92 #[v,.slice (some ⟨gw,0,none⟩) 4 4,.func (.func 93) #[] #[]] wq fun x w' => x = .returned (.tuple #[.string ⟨(leafL l).toArray⟩,.int .i64 0]) ∧ Below wq.heap.size wq w') := fun wq gw hb hw => writeE_any l v gw wq (h.below hb) hc.one h8 hw
  obtain ⟨A,c,rfl,hcc⟩ := h
  clear hcc hc h1 h8
  go_enter Tryz.func62,Tryz.ntmps62
  go_wp2_with fail
  with_reducible refine HX.out.mono ?_
  rintro e w5 ⟨rfl,hb5⟩
  have HB5 := Lib.hid hb5
  clear hb5
  go_wp2_with fail
  with_reducible refine (HEW.out _).mono ?_
  rintro e w6 ⟨rfl,hw6,hb6⟩
  have HB6 := Lib.hid (bel_tr HB5.out hb6)
  have HWW := Lib.hid (HWR.out _ _ HB6.out hw6)
  clear hb6 hw6
  go_wp2_with fail
  with_reducible refine HWW.out.mono ?_
  rintro e w7 ⟨rfl,hb7⟩
  have HB7 := Lib.hid (bel_tr HB6.out hb7)
  clear hb7
  go_wp2_with fail
  refine bodyPost_ret (v := .tuple #[.string ⟨(leafL l).toArray⟩,.int .i64 0]) (by simp [results,Tryz.results62,go_sem]) rfl ⟨rfl,HB7.out⟩
end Go.Proofs.YtneammhkgmkkfaaGreatDoor.tr
namespace Go.Proofs.YtneammhkgmkkfaaGreatDoor.tr
open Go.RowKit Go.Proofs.YtneammhkgmkkfaaGreatDoor.er
set_option linter.unusedVariables false
set_option linter.unusedSimpArgs false
def Kid.val (k : Kid) : Value := .agg #[.int .i64 k.key,.int .i64 k.at_]
def Kid.cells (k : Kid) : List Value := [.int .i64 k.key,.int .i64 k.at_]
def kidCells (l : List Kid) : List Value := l.flatMap Kid.cells
theorem kidCells_len (l : List Kid) : (kidCells l).length = l.length * 2 := by
  induction l with
  | nil => rfl
  | cons k l ih =>
    have e : kidCells (k :: l) = .int .i64 k.key :: .int .i64 k.at_ :: kidCells l := by simp [kidCells,Kid.cells]
    rw [e,List.length_cons,List.length_cons,ih,List.length_cons]; omega
theorem kidCells_snoc (l : List Kid) (k : Kid) : kidCells (l ++ [k]) = kidCells l ++ [.int .i64 k.key,.int .i64 k.at_] := by simp [kidCells,Kid.cells]
theorem kidCells_at : ∀ (l : List Kid) (j : Nat) (k : Kid),l[j]? = some k → (kidCells l)[j * 2]? = some (.int .i64 k.key) ∧ (kidCells l)[j * 2 + 1]? = some (.int .i64 k.at_)
  | [],j,k,h => by simp at h
  | x :: l,0,k,h => by
    simp at h; subst h
    simp [kidCells,Kid.cells]
  | x :: l,j + 1,k,h => by
    have := kidCells_at l j k (by simpa using h)
    have e : kidCells (x :: l) = .int .i64 x.key :: .int .i64 x.at_ :: kidCells l := by simp [kidCells,Kid.cells]
    rw [e,show (j + 1) * 2 = j * 2 + 1 + 1 by omega]
    simpa using this
def KidAt (w : World) (g o : Nat) (k : Kid) : Prop := w.cell? ⟨g,o,none⟩ = some (.int .i64 k.key) ∧ w.cell? ⟨g,o + 1,none⟩ = some (.int .i64 k.at_)
def KidsAt (w : World) (v : Value) (l : List Kid) : Prop := ∃ A c,v = .slice A l.length c ∧ (l.length ≤ c ∧ c ≤ maxLen) ∧ (0 < l.length → ∃ g o,A = some ⟨g,o,none⟩ ∧ ∀ (j : Nat) (k : Kid),l[j]? = some k → KidAt w g (o + j * 2) k)
theorem KidAt.below {w w' : World} {g o : Nat} {k : Kid} (h : KidAt w g o k) (hb : Below w.heap.size w w') : KidAt w' g o k := ⟨below_c hb h.1,below_c hb h.2⟩
theorem KidsAt.below {w w' : World} {v : Value} {l : List Kid} (h : KidsAt w v l) (hb : Below w.heap.size w w') : KidsAt w' v l := by
  obtain ⟨A,c,rfl,h1,h2⟩ := h
  refine ⟨A,c,rfl,h1,fun h0 => ?_⟩
  obtain ⟨g,o,rfl,hc⟩ := h2 h0
  exact ⟨g,o,rfl,fun j e he => (hc j e he).below hb⟩
theorem KidsAt.own {w : World} {B n : Nat} {v : Value} {l : List Kid} (h : w.ownsRow B 123 2 v n (kidCells l)) : KidsAt w v l ∧ l.length = n := by
  obtain ⟨A,c,rfl⟩ := own_slice h
  have hl : (kidCells l).length = n * 2 := own_lenE h
  have hn : l.length = n := by rw [kidCells_len] at hl; omega
  refine ⟨⟨A,c,by rw [hn],by rw [hn]; exact own_cap h,fun h0 => ?_⟩,hn⟩
  obtain ⟨g,rfl,_,_,_,hc,_⟩ := own_cell h (by omega)
  refine ⟨g,0,rfl,fun j k hk => ?_⟩
  obtain ⟨q1,q2⟩ := kidCells_at l j k hk
  rw [Nat.zero_add]
  exact ⟨hc _ _ q1,hc _ _ q2⟩
theorem KidsAt.take {w : World} {l : List Kid} {A : Option Addr} {n c : Nat} (h : KidsAt w (.slice A n c) l) (j : Nat) (hj : j ≤ n) : KidsAt w (.slice A j c) (l.take j) := by
  obtain ⟨A',c',e,h1,h2⟩ := h
  injection e with e1 e2 e3
  subst e1 e3
  have hl : (l.take j).length = j := by rw [List.length_take]; omega
  refine ⟨A,c,by rw [hl],by rw [hl]; omega,fun h0 => ?_⟩
  obtain ⟨g,o,rfl,hc⟩ := h2 (by omega)
  refine ⟨g,o,rfl,fun i k hk => hc i k ?_⟩
  rw [List.getElem?_take] at hk
  split at hk
  · exact hk
  · simp at hk
def idxK (p : Kid → Bool) (l : List Kid) : Int := match l.findIdx? p with | some i => i | none => -1
theorem idxK_hit {p : Kid → Bool} {l : List Kid} {j : Nat} {e : Kid} (h : l[j]? = some e) (hp : p e = true) (hn : ∀ i x,i < j → l[i]? = some x → p x = false) : idxK p l = j := by
  have hj := (List.getElem?_eq_some_iff.1 h).1
  have : l.findIdx? p = some j := by
    rw [List.findIdx?_eq_some_iff_getElem]
    refine ⟨hj,?_,fun i hi => ?_⟩
    · rw [List.getElem?_eq_getElem hj] at h; injection h with h; rw [h]; exact hp
    · have := hn i _ hi (List.getElem?_eq_getElem (by omega))
      simpa using this
  unfold idxK
  rw [this]
theorem idxK_miss {p : Kid → Bool} {l : List Kid} (hn : ∀ i x,i < l.length → l[i]? = some x → p x = false) : idxK p l = -1 := by
  have : l.findIdx? p = none := by
    rw [List.findIdx?_eq_none_iff]
    intro x hx
    obtain ⟨i,hi,rfl⟩ := List.mem_iff_getElem.1 hx
    exact hn i _ hi (List.getElem?_eq_getElem hi)
  unfold idxK
  rw [this]
theorem idxK_anyB (p : Kid → Bool) (l : List Kid) : decide (0 ≤ idxK p l) = l.any p := by
  unfold idxK
  cases h : l.findIdx? p with
  | none =>
    rw [List.findIdx?_eq_none_iff] at h
    have : l.any p = false := by rw [List.any_eq_false]; intro x hx; rw [h x hx]; simp
    rw [this]; rfl
  | some i =>
    obtain ⟨hi,h1,h2⟩ := List.findIdx?_eq_some_iff_getElem.1 h
    have : l.any p = true := List.any_eq_true.2 ⟨_,List.getElem_mem hi,h1⟩
    rw [this]
    simp
set_option maxHeartbeats 4000000 in
set_option maxRecDepth 100000 in
theorem idxKF_any (p : Kid → Bool) (g : Nat) (lb : Array Value) (l : List Kid) (v : Value) (w : World) (eg : ∀ args w,(callFunc g args).run Tryz.prog w = .ok (.enter g args) w) (h : KidsAt w v l) (hl : l.length ≤ 100000000)
    (hp : ∀ e wq,e ∈ l → Below w.heap.size w wq → Calls Tryz.prog g (#[e.val] ++ lb) wq fun x w' => x = .returned (.bool (p e)) ∧ Below wq.heap.size wq w') :
    Calls Tryz.prog 136 #[v,.func (.func g) #[] lb] w fun x w' => x = .returned (.int .i64 (idxK p l)) ∧ Below w.heap.size w w' := by
  obtain ⟨A,c,rfl,hcap,hc⟩ := h
  have HC := Lib.hid hc
  have HP := Lib.hid hp
  obtain ⟨n,hn⟩ : ∃ n,l.length = n := ⟨_,rfl⟩
  rw [hn] at hl
  have HN := Lib.hid hn
  rw [hn]
  clear hc hn hp hcap
  go_enter Tryz.func136,Tryz.ntmps136
  go_wp2_with fail
  go_loopw [5,8] (fun s5 i wr => ∃ (j : Nat),j ≤ n ∧ i = .int .i64 j ∧ Hid (∀ i x,i < j → l[i]? = some x → p x = false) ∧ Hid (Below w.heap.size w wr)) (fun _ i _ => n - (intOf i).toNat)
  case atStart => exact ⟨0,Nat.zero_le _,rfl,fun i x hi => by omega,Below.refl _ _⟩
  case round =>
    obtain ⟨j,hj,rfl,HM,HB⟩ := hrel
    by_cases hlt : j < n
    · have hji : (j : Int) < (n : Int) := by omega
      have hln := HN.out
      obtain ⟨g2,o,rfl,hcc⟩ := HC.out (by omega)
      obtain ⟨e,hx⟩ : ∃ e,l[j]? = some e := ⟨l[j]'(by omega),List.getElem?_eq_getElem (by omega)⟩
      obtain ⟨c0,c1⟩ := (hcc j e hx).below HB.out
      have HX := Lib.hid hx
      have HCL := Lib.hid (HP.out e wr (List.mem_of_getElem? hx) HB.out)
      cases hpe : p e
      · have HM2 : Hid (∀ i x,i < j + 1 → l[i]? = some x → p x = false) := by
          show ∀ i x,i < j + 1 → l[i]? = some x → p x = false
          intro i x hi hxi
          by_cases h2 : i < j
          · exact HM.out i x h2 hxi
          · obtain rfl : i = j := by omega
            rw [HX.out] at hxi; injection hxi with hxi; rw [← hxi]; exact hpe
        rw [hpe] at HCL
        obtain ⟨f,t⟩ := e
        simp only at c0 c1
        simp only [Kid.val] at HCL
        clear hcc hx hln hpe
        go_wp2_with fail
        refine (HCL.out).mono ?_
        rintro e w5 ⟨rfl,hb5⟩
        have HB5 := Lib.hid hb5
        clear hb5
        go_wp2_with fail
        go_roundw
        case rel => exact ⟨j + 1,by omega,by go_num,HM2,HB.out.trans (HB5.out.mono HB.out.size)⟩
        case measure => simp [intOf]; omega
      · have HI : Hid (idxK p l = j) := idxK_hit HX.out hpe HM.out
        rw [hpe] at HCL
        obtain ⟨f,t⟩ := e
        simp only at c0 c1
        simp only [Kid.val] at HCL
        clear hcc hx hln hpe
        go_wp2_with fail
        refine (HCL.out).mono ?_
        rintro e w5 ⟨rfl,hb5⟩
        have HB5 := Lib.hid hb5
        clear hb5
        go_wp2_with fail
        go_ret
        exact ⟨by rw [HI.out]; rfl,HB.out.trans (HB5.out.mono HB.out.size)⟩
    · obtain rfl : j = n := by omega
      have HI : Hid (idxK p l = -1) := idxK_miss (fun i x hi => HM.out i x (by have := HN.out; omega))
      go_wp2_with fail
      go_ret
      exact ⟨by rw [HI.out]; rfl,HB.out⟩
theorem conKF_any (p : Kid → Bool) (g : Nat) (lb : Array Value) (l : List Kid) (v : Value) (w : World) (eg : ∀ args w,(callFunc g args).run Tryz.prog w = .ok (.enter g args) w) (h : KidsAt w v l) (hl : l.length ≤ 100000000)
    (hp : ∀ e wq,e ∈ l → Below w.heap.size w wq → Calls Tryz.prog g (#[e.val] ++ lb) wq fun x w' => x = .returned (.bool (p e)) ∧ Below wq.heap.size wq w') :
    Calls Tryz.prog 106 #[v,.func (.func g) #[] lb] w fun x w' => x = .returned (.bool (l.any p)) ∧ Below w.heap.size w w' := by
  have HI := Lib.hid (idxKF_any p g lb l v w eg h hl hp)
  have HA := Lib.hid (idxK_anyB p l)
  obtain ⟨z,hz⟩ : ∃ z,idxK p l = z := ⟨_,rfl⟩
  rw [hz] at HI HA
  clear h hp eg hz
  go_enter Tryz.func106,Tryz.ntmps106
  go_wp2_with fail
  refine (HI.out).mono ?_
  rintro e w5 ⟨rfl,hb5⟩
  have HB5 := Lib.hid hb5
  clear hb5
  go_wp2_with fail
  go_ret
  exact ⟨by rw [← HA.out]; rfl,HB5.out⟩
theorem kdt_any (k : Kid) (p : Nat) (s : Int) (w : World) (hp : w.cell? ⟨p,1,none⟩ = some (.int .i64 s)) : Calls Tryz.prog 107 #[k.val,.pointer (some ⟨p,0,none⟩)] w fun x w' => x = .returned (.bool (decide (k.at_ = s))) ∧ Below w.heap.size w w' := by
  obtain ⟨f,t⟩ := k
  show Calls Tryz.prog 107 #[.agg #[.int .i64 f,.int .i64 t],.pointer (some ⟨p,0,none⟩)] w _
  have hb := (Below.refl w.heap.size w).alloc (Nat.le_refl _) (.cells #[.int .i64 f,.int .i64 t] 123)
  have c1 := below_c hb hp
  have HB := Lib.hid hb
  clear hp hb
  go_enter Tryz.func107,Tryz.ntmps107
  go_wp2_with fail
  go_ret
  exact ⟨by first | rfl | (rw [beq_dec]; rfl),HB.out⟩
def kidB (k : Kid) : Bool := decide (0 ≤ k.key) && decide (k.key < 16777216) && decide (0 ≤ k.at_) && decide (k.at_ < 2048)
structure KidsOk (l : List Kid) : Prop where
  each : ∀ k ∈ l,kidB k = true
  inc : l.Pairwise fun a b => a.key < b.key
  ne : l.Pairwise fun a b => a.at_ ≠ b.at_
theorem KidsOk.nil : KidsOk [] := ⟨by simp,.nil,.nil⟩
theorem KidsOk.take {l : List Kid} (h : KidsOk l) (j : Nat) : KidsOk (l.take j) := ⟨fun k hk => h.each k (List.mem_of_mem_take hk),h.inc.sublist (List.take_sublist _ _),h.ne.sublist (List.take_sublist _ _)⟩
theorem kid_snoc {l : List Kid} {j : Nat} {k : Kid} (h : l[j]? = some k) : l.take (j + 1) = l.take j ++ [k] := by rw [List.take_add_one,h]; rfl
theorem KidsOk.next {l : List Kid} {j : Nat} {k : Kid} (h : KidsOk (l.take j)) (hk : l[j]? = some k) (h1 : kidB k = true) (h2 : ∀ p i,j = i + 1 → l[i]? = some p → p.key < k.key) (h3 : (l.take j).any (fun o => decide (o.at_ = k.at_)) = false) : KidsOk (l.take (j + 1)) := by
  rw [kid_snoc hk]
  refine ⟨fun x hx => ?_,?_,?_⟩
  · rcases List.mem_append.1 hx with hx | hx
    · exact h.each x hx
    · rw [List.mem_singleton.1 hx]; exact h1
  · refine List.pairwise_append.2 ⟨h.inc,by simp,fun x hx y hy => ?_⟩
    rw [List.mem_singleton.1 hy]
    have hj : 0 < j := by
      cases j with
      | zero => simp at hx
      | succ j => omega
    obtain ⟨i,rfl⟩ : ∃ i,j = i + 1 := ⟨j - 1,by omega⟩
    have hjl := (List.getElem?_eq_some_iff.1 hk).1
    have hp : l[i]? = some (l[i]'(by omega)) := List.getElem?_eq_getElem (by omega)
    have h4 := h2 _ i rfl hp
    rw [kid_snoc hp] at hx
    rcases List.mem_append.1 hx with hx | hx
    · have h5 := h.inc
      rw [kid_snoc hp] at h5
      have := (List.pairwise_append.1 h5).2.2 x hx _ (List.mem_singleton.2 rfl)
      omega
    · rw [List.mem_singleton.1 hx]; exact h4
  · refine List.pairwise_append.2 ⟨h.ne,by simp,fun x hx y hy => ?_⟩
    rw [List.mem_singleton.1 hy]
    rw [List.any_eq_false] at h3
    have := h3 x hx
    simpa using this
theorem KidsOk.bad {l : List Kid} {j : Nat} {k : Kid} (hk : l[j]? = some k) (h : kidB k = false ∨ (∃ p i,j = i + 1 ∧ l[i]? = some p ∧ k.key ≤ p.key) ∨ (l.take j).any (fun o => decide (o.at_ = k.at_)) = true) : ¬ KidsOk l := by
  intro hl
  rcases h with h | ⟨p,i,rfl,hp,h⟩ | h
  · rw [hl.each k (List.mem_of_getElem? hk)] at h; cases h
  · obtain ⟨i1,e1⟩ := List.getElem?_eq_some_iff.1 hp
    obtain ⟨i2,e2⟩ := List.getElem?_eq_some_iff.1 hk
    have := List.pairwise_iff_getElem.1 hl.inc i (i + 1) i1 i2 (by omega)
    rw [e1,e2] at this
    omega
  · obtain ⟨o,ho,he⟩ := List.any_eq_true.1 h
    have h2 := (hl.take (j + 1)).ne
    rw [kid_snoc hk] at h2
    have := (List.pairwise_append.1 h2).2.2 o ho k (List.mem_singleton.2 rfl)
    simp at he
    exact this he
def KidsRet (l : List Kid) (w : World) (x : Ending) (w' : World) : Prop := ∃ b,x = .returned (.bool b) ∧ (b = true ↔ 2 ≤ l.length ∧ l.length ≤ 8 ∧ KidsOk l) ∧ Below w.heap.size w w'
set_option maxHeartbeats 8000000 in
set_option maxRecDepth 100000 in
theorem kids_any (l : List Kid) (v : Value) (w : World) (h : KidsAt w v l) (hl : l.length ≤ 100000000) : Calls Tryz.prog 79 #[v] w (KidsRet l w) := by
  have HKA := Lib.hid h
  obtain ⟨A,c,rfl,⟨hcap1,hcap2⟩,hcc⟩ := h
  have HC := Lib.hid hcc
  obtain ⟨n,hn⟩ : ∃ n,l.length = n := ⟨_,rfl⟩
  have HN := Lib.hid hn
  rw [hn] at hl hcap1 HC HKA ⊢
  have hni : (n : Int) ≤ 100000000 := by omega
  have hci : (n : Int) ≤ (c : Int) := by omega
  have hcm : (c : Int) ≤ 9223372036854775807 := by simp only [maxLen] at hcap2; omega
  have HYES : Hid (∀ w',2 ≤ n → n ≤ 8 → KidsOk l → Below w.heap.size w w' → KidsRet l w (.returned (.bool true)) w') := fun w' h1 h2 h3 hb => ⟨true,rfl,by rw [HN.out]; exact ⟨fun _ => ⟨h1,h2,h3⟩,fun _ => rfl⟩,hb⟩
  have HNO : Hid (∀ w',¬ (2 ≤ n ∧ n ≤ 8 ∧ KidsOk l) → Below w.heap.size w w' → KidsRet l w (.returned (.bool false)) w') := fun w' h1 hb => ⟨false,rfl,by rw [HN.out]; exact ⟨fun h => (by cases h),fun h => absurd h h1⟩,hb⟩
  clear hcc hn hcap2
  go_enter Tryz.func79,Tryz.ntmps79
  by_cases h2 : 2 ≤ n
  · have h2i : ¬ (n : Int) < 2 := by omega
    by_cases h8 : n ≤ 8
    · have h8i : ¬ (8 : Int) < (n : Int) := by omega
      have H2 := Lib.hid h2
      have H8 := Lib.hid h8
      clear h2 h8
      go_wp2_with fail
      go_loopw [3,15] (fun s3 i wr => ∃ j : Nat,j ≤ n ∧ i = .int .i64 j ∧ Hid (KidsOk (l.take j)) ∧ Hid (Below w.heap.size w wr)) (fun _ i _ => n - (intOf i).toNat)
      case atStart => exact ⟨0,Nat.zero_le _,rfl,by show KidsOk _; rw [List.take_zero]; exact KidsOk.nil,Below.refl _ _⟩
      case round =>
        obtain ⟨j,hj,rfl,HKO,HB⟩ := hrel
        by_cases hlt : j < n
        · have hji : (j : Int) < (n : Int) := by omega
          obtain ⟨g,o,rfl,hc⟩ := HC.out (by omega)
          obtain ⟨k,hk⟩ : ∃ k,l[j]? = some k := ⟨_,List.getElem?_eq_getElem (by rw [HN.out]; exact hlt)⟩
          obtain ⟨c0,c1⟩ := (hc j k hk).below HB.out
          have HK := Lib.hid hk
          have HHC := Lib.hid hc
          have hszr := HB.out.size
          obtain ⟨ky,ka⟩ := k
          simp only at c0 c1
          have HWK := Lib.hid (Whole.new wr 123 #[.int .i64 ky,.int .i64 ka])
          have HBA : Hid (Below w.heap.size w (wr.alloc (.cells #[.int .i64 ky,.int .i64 ka] 123))) := HB.out.alloc hszr _
          have e0 : (wr.alloc (.cells #[.int .i64 ky,.int .i64 ka] 123)).cell? ⟨wr.heap.size,0,none⟩ = some (.int .i64 ky) := HWK.out.cell 0
          have e1 : (wr.alloc (.cells #[.int .i64 ky,.int .i64 ka] 123)).cell? ⟨wr.heap.size,1,none⟩ = some (.int .i64 ka) := HWK.out.cell 1
          have HNOQ : Hid (∀ m,¬ KidsOk l → KidsRet l w (.returned (.bool false)) ((wr.alloc (.cells #[.int .i64 ky,.int .i64 ka] 123)).drewN m)) := fun m hbad => HNO.out _ (fun h => hbad h.2.2) (below_drewN HBA.out _)
          clear hc hk hszr
          by_cases k1 : ky < 0
          · have k1d : decide (ky < 0) = true := by simpa using k1
            have HBAD : Hid (¬ KidsOk l) := KidsOk.bad HK.out (.inl (by unfold kidB; simp; omega))
            clear k1
            go_wp2_with fail
            go_quiet (fail)
            go_wp2_with fail
            go_ret
            exact HNOQ.out _ HBAD.out
          · have k1d : decide (ky < 0) = false := by simpa using k1
            by_cases k2 : 16777216 ≤ ky
            · have k2d : decide ((16777216 : Int) ≤ ky) = true := by simpa using k2
              have HBAD : Hid (¬ KidsOk l) := KidsOk.bad HK.out (.inl (by unfold kidB; simp; omega))
              clear k2
              go_wp2_with fail
              go_quiet (fail)
              go_wp2_with fail
              go_ret
              exact HNOQ.out _ HBAD.out
            · have k2d : decide ((16777216 : Int) ≤ ky) = false := by simpa using k2
              by_cases k3 : ka < 0
              · have k3d : decide (ka < 0) = true := by simpa using k3
                have HBAD : Hid (¬ KidsOk l) := KidsOk.bad HK.out (.inl (by unfold kidB; simp; omega))
                clear k3
                go_wp2_with fail
                go_quiet (fail)
                go_wp2_with fail
                go_ret
                exact HNOQ.out _ HBAD.out
              · have k3d : decide (ka < 0) = false := by simpa using k3
                by_cases k4 : 2048 ≤ ka
                · have k4d : decide ((2048 : Int) ≤ ka) = true := by simpa using k4
                  have HBAD : Hid (¬ KidsOk l) := KidsOk.bad HK.out (.inl (by unfold kidB; simp; omega))
                  clear k4
                  go_wp2_with fail
                  go_quiet (fail)
                  go_wp2_with fail
                  go_ret
                  exact HNOQ.out _ HBAD.out
                · have k4d : decide ((2048 : Int) ≤ ka) = false := by simpa using k4
                  have HKB : Hid (kidB ⟨ky,ka⟩ = true) := by show _ = _; unfold kidB; simp; omega
                  have HKD : Hid ((l.take j).any (fun o => decide (o.at_ = ka)) = true → ¬ KidsOk l) := fun h => KidsOk.bad HK.out (.inr (.inr h))
                  have HCON : Hid (∀ wq,Below (wr.alloc (.cells #[.int .i64 ky,.int .i64 ka] 123)).heap.size (wr.alloc (.cells #[.int .i64 ky,.int .i64 ka] 123)) wq → Calls Tryz.prog 106 #[.slice (some ⟨g,o,none⟩) j c,.func (.func 107) #[] #[.pointer (some ⟨wr.heap.size,0,none⟩)]] wq fun x w' => x = .returned (.bool ((l.take j).any fun o => decide (o.at_ = ka))) ∧ Below wq.heap.size wq w') := by
                    intro wq hb
                    have hkw := (HKA.out.below (HBA.out.trans (hb.mono HBA.out.size))).take j (by omega)
                    refine conKF_any (fun o => decide (o.at_ = ka)) 107 #[.pointer (some ⟨wr.heap.size,0,none⟩)] (l.take j) _ wq (fun _ _ => by kernel_rfl) hkw (by rw [List.length_take,HN.out]; omega) (fun e w9 _ hb9 => ?_)
                    have h9 := (HWK.out.below hb (by simp)).below hb9 (by have := hb.size; simp at this; omega)
                    have := kdt_any e wr.heap.size ka w9 (h9.cell 1)
                    simpa using this
                  have HNXT : Hid ((∀ p i,j = i + 1 → l[i]? = some p → p.key < ky) → (l.take j).any (fun o => decide (o.at_ = ka)) = false → KidsOk (l.take (j + 1))) := fun h1 h2 => KidsOk.next HKO.out HK.out HKB.out h1 h2
                  have HBB : Hid (∀ wq,Below (wr.alloc (.cells #[.int .i64 ky,.int .i64 ka] 123)).heap.size (wr.alloc (.cells #[.int .i64 ky,.int .i64 ka] 123)) wq → Below w.heap.size w wq) := fun wq hb => HBA.out.trans (hb.mono HBA.out.size)
                  clear k1 k2 k3 k4
                  obtain ⟨any,hany⟩ : ∃ any,(l.take j).any (fun o => decide (o.at_ = ka)) = any := ⟨_,rfl⟩
                  rw [hany] at HKD HCON HNXT
                  clear hany
                  have hjc : (j : Int) ≤ (c : Int) := by omega
                  by_cases hj0 : j = 0
                  · have hj0d : decide (0 < j) = false := by simp [hj0]
                    have HPRE : Hid (∀ p i,j = i + 1 → l[i]? = some p → p.key < ky) := fun p i h => by omega
                    clear hj0
                    go_wp2_with fail
                    go_quiet (fail)
                    generalize hwq : World.drewN _ _ = wq
                    have HBQ : Hid (Below (wr.alloc (.cells #[.int .i64 ky,.int .i64 ka] 123)).heap.size (wr.alloc (.cells #[.int .i64 ky,.int .i64 ka] 123)) wq) := by show Below _ _ _; rw [← hwq]; exact below_drewN (Below.refl _ _) _
                    clear hwq c0 c1 e0 e1
                    have HCQ := Lib.hid (HCON.out wq HBQ.out)
                    cases any with
                    | true =>
                      go_wp2_with fail
                      with_reducible refine HCQ.out.mono ?_
                      rintro e w5 ⟨rfl,hb5⟩
                      have HB5 := Lib.hid (HBB.out _ (HBQ.out.trans (hb5.mono HBQ.out.size)))
                      clear hb5
                      go_wp2_with fail
                      go_ret
                      exact HNO.out _ (fun h => HKD.out (by first | rfl | trivial) h.2.2) HB5.out
                    | false =>
                      go_wp2_with fail
                      with_reducible refine HCQ.out.mono ?_
                      rintro e w5 ⟨rfl,hb5⟩
                      have HB5 := Lib.hid (HBB.out _ (HBQ.out.trans (hb5.mono HBQ.out.size)))
                      clear hb5
                      go_wp2_with fail
                      go_roundw
                      case rel => exact ⟨j + 1,by omega,by go_num,HNXT.out HPRE.out (by first | rfl | trivial),HB5.out⟩
                      case measure => simp [intOf]; omega
                  · have hj0d : decide (0 < j) = true := by simp; omega
                    obtain ⟨i,hi⟩ : ∃ i,j = i + 1 := ⟨j - 1,by omega⟩
                    obtain ⟨p,hp⟩ : ∃ p,l[i]? = some p := ⟨_,List.getElem?_eq_getElem (by rw [HN.out]; omega)⟩
                    obtain ⟨d0,d1⟩ := ((HHC.out i p hp).below HB.out).below ((Below.refl _ wr).alloc (Nat.le_refl _) (.cells #[.int .i64 ky,.int .i64 ka] 123))
                    have hwi : IntKind.i64.wrap ((j : Int) - 1) = (i : Int) := by rw [hi,show ((i + 1 : Nat) : Int) - 1 = (i : Int) by omega]; simp [IntKind.wrap,IntKind.bits,IntKind.signed]; omega
                    have hii : (i : Int) < (n : Int) := by omega
                    have HP := Lib.hid hp
                    have HI := Lib.hid hi
                    obtain ⟨py,pa⟩ := p
                    simp only at d0 d1
                    clear hj0 hp hi
                    by_cases k5 : ky ≤ py
                    · have k5d : decide (ky ≤ py) = true := by simpa using k5
                      have HBAD : Hid (¬ KidsOk l) := KidsOk.bad HK.out (.inr (.inl ⟨_,i,HI.out,HP.out,k5⟩))
                      clear k5
                      go_wp2_with fail
                      go_quiet (fail)
                      go_wp2_with fail
                      go_ret
                      exact HNOQ.out _ HBAD.out
                    · have k5d : decide (ky ≤ py) = false := by simpa using k5
                      have HPRE : Hid (∀ p i,j = i + 1 → l[i]? = some p → p.key < ky) := by
                        intro p i2 h h2
                        have := HI.out
                        obtain rfl : i2 = i := by omega
                        rw [HP.out] at h2
                        injection h2 with h2
                        rw [← h2]
                        simp only
                        omega
                      clear k5
                      go_wp2_with fail
                      go_quiet (fail)
                      generalize hwq : World.drewN _ _ = wq
                      have HBQ : Hid (Below (wr.alloc (.cells #[.int .i64 ky,.int .i64 ka] 123)).heap.size (wr.alloc (.cells #[.int .i64 ky,.int .i64 ka] 123)) wq) := by show Below _ _ _; rw [← hwq]; exact below_drewN (Below.refl _ _) _
                      clear hwq c0 c1 e0 e1 d0 d1
                      have HCQ := Lib.hid (HCON.out wq HBQ.out)
                      cases any with
                      | true =>
                        go_wp2_with fail
                        with_reducible refine HCQ.out.mono ?_
                        rintro e w5 ⟨rfl,hb5⟩
                        have HB5 := Lib.hid (HBB.out _ (HBQ.out.trans (hb5.mono HBQ.out.size)))
                        clear hb5
                        go_wp2_with fail
                        go_ret
                        exact HNO.out _ (fun h => HKD.out (by first | rfl | trivial) h.2.2) HB5.out
                      | false =>
                        go_wp2_with fail
                        with_reducible refine HCQ.out.mono ?_
                        rintro e w5 ⟨rfl,hb5⟩
                        have HB5 := Lib.hid (HBB.out _ (HBQ.out.trans (hb5.mono HBQ.out.size)))
                        clear hb5
                        go_wp2_with fail
                        go_roundw
                        case rel => exact ⟨j + 1,by omega,by go_num,HNXT.out HPRE.out (by first | rfl | trivial),HB5.out⟩
                        case measure => simp [intOf]; omega
        · obtain rfl : j = n := by omega
          have hfull : l.take j = l := by rw [← HN.out]; exact List.take_length
          rw [hfull] at HKO
          clear hfull
          go_wp2_with fail
          go_ret
          exact HYES.out _ H2.out H8.out HKO.out HB.out
    · have h8i : (8 : Int) < (n : Int) := by omega
      go_wp2_with fail
      go_ret
      exact HNO.out _ (fun h => h8 h.2.1) (Below.refl _ _)
  · have h2i : (n : Int) < 2 := by omega
    go_wp2_with fail
    go_ret
    exact HNO.out _ (fun h => h2 h.1) (Below.refl _ _)
end Go.Proofs.YtneammhkgmkkfaaGreatDoor.tr
namespace Go.Proofs.YtneammhkgmkkfaaGreatDoor.tr
open Go.RowKit Go.Proofs.YtneammhkgmkkfaaGreatDoor.er
set_option linter.unusedVariables false
set_option linter.unusedSimpArgs false
def kidNums (k : Kid) : List (Nat × Int) := [(3,k.key),(2,k.at_)]
def kidRow (k : Kid) : List UInt8 := rowB (kidNums k)
def innerL (l : List Kid) : List UInt8 := UInt8.ofNat l.length :: l.flatMap kidRow
theorem kid_fit {k : Kid} (h : kidB k = true) : FitL (kidNums k) := by
  unfold kidB at h
  simp at h
  refine ⟨?_,?_,?_,?_,by simp [kidNums]⟩
  all_goals (intro p hp; simp only [kidNums,List.mem_cons,List.not_mem_nil,or_false] at hp; rcases hp with rfl | rfl <;> simp <;> omega)
theorem kidW_any (w : World) : Calls Tryz.prog 78 #[] w fun x w' => x = .returned (.slice (some ⟨w.heap.size,0,none⟩) 2 2) ∧ (∀ e : Kid,WidAt w' w.heap.size (kidNums e)) ∧ Below w.heap.size w w' := by
  have HW : Hid (∀ e : Kid,WidAt (w.alloc (.cells #[.int .i64 3,.int .i64 2] 3)) w.heap.size (kidNums e)) := by
    intro e j p hp
    have hw := Whole.new w 3 #[.int .i64 3,.int .i64 2]
    rw [hw.cell j]
    match j,hp with
    | 0,hp => simp [kidNums] at hp; subst hp; rfl
    | 1,hp => simp [kidNums] at hp; subst hp; rfl
    | j + 2,hp => simp [kidNums] at hp
  go_enter Tryz.func78,Tryz.ntmps78
  go_wp2_with fail
  go_ret
  exact ⟨rfl,HW.out,(Below.refl _ _).alloc (Nat.le_refl _) _⟩
set_option maxHeartbeats 4000000 in
set_option maxRecDepth 100000 in
theorem kidN_any (k : Kid) (w : World) (h : kidB k = true) : Calls Tryz.prog 95 #[k.val] w fun x w' => ∃ g,x = .returned (.slice (some ⟨g,0,none⟩) 2 2) ∧ NumAt w' g (kidNums k) ∧ Below w.heap.size w w' := by
  unfold kidB at h
  simp at h
  obtain ⟨⟨⟨h1,h2⟩,h3⟩,h4⟩ := h
  obtain ⟨f,t⟩ := k
  simp only at h1 h2 h3 h4
  have HN : Hid (NumAt ((w.alloc (.cells #[.int .i64 f,.int .i64 t] 123)).alloc (.cells #[.int .u64 f,.int .u64 t] 160)) (w.heap.size + 1) (kidNums ⟨f,t⟩)) := by
    intro j p hp
    have hw := Whole.new' (w.alloc (.cells #[.int .i64 f,.int .i64 t] 123)) 160 #[.int .u64 f,.int .u64 t] (w.heap.size + 1) (by simp)
    rw [hw.cell j]
    match j,hp with
    | 0,hp => simp [kidNums] at hp; subst hp; rfl
    | 1,hp => simp [kidNums] at hp; subst hp; rfl
    | j + 2,hp => simp [kidNums] at hp
  show Calls Tryz.prog 95 #[.agg #[.int .i64 f,.int .i64 t]] w _
  go_enter Tryz.func95,Tryz.ntmps95
  go_wp2_with fail
  go_ret
  exact ⟨_,rfl,HN.out,((Below.refl _ _).alloc (Nat.le_refl _) _).alloc (by simp) _⟩
theorem kidRow_len (e : Kid) : (kidRow e).length = 5 := by simp [kidRow,kidNums,rowB,bytesOf_length]
theorem rowsK_len (l : List Kid) : (l.flatMap kidRow).length = l.length * 5 := by
  induction l with
  | nil => rfl
  | cons e l ih => rw [List.flatMap_cons,List.length_append,ih,kidRow_len,List.length_cons]; omega
set_option maxHeartbeats 4000000 in
set_option maxRecDepth 100000 in
theorem writeK_any (l : List Kid) (v : Value) (gw : Nat) (w : World) (h : KidsAt w v l) (h1 : ∀ e ∈ l,kidB e = true) (h8 : l.length ≤ 8) (hw : ∀ e : Kid,WidAt w gw (kidNums e)) :
    Calls Tryz.prog 94 #[v,.slice (some ⟨gw,0,none⟩) 2 2,.func (.func 95) #[] #[]] w fun x w' => x = .returned (.tuple #[.string ⟨(innerL l).toArray⟩,.int .i64 0]) ∧ Below w.heap.size w w' := by
  obtain ⟨A,c,rfl,hcap,hcc⟩ := h
  have HC := Lib.hid hcc
  have HW := Lib.hid hw
  have H1 := Lib.hid h1
  obtain ⟨n,hn⟩ : ∃ n,l.length = n := ⟨_,rfl⟩
  have HN := Lib.hid hn
  rw [hn] at h8 HC ⊢
  have h8i : (n : Int) ≤ 8 := by omega
  have hcv := run_convert_bytes_arg (P := Tryz.prog) (w.alloc (.cells #[.int .u8 n] 5)) 208 5 Tryz.underlying208 Tryz.underlying5 w.heap.size 0 1 1 [(n : Int)] rfl (fun i hi => by
    have hw := Whole.new w 5 #[.int .u8 n]
    rw [Nat.zero_add,hw.cell i]
    match i,hi with
    | 0,_ => rfl) 9 Tryz.underlying9
  have HS0 : Hid (strOfNums [(n : Int)] = ⟨([UInt8.ofNat n] : List UInt8).toArray⟩) := by show _ = _; unfold strOfNums; simp
  have HLL : Hid (innerL l = [UInt8.ofNat n] ++ l.flatMap kidRow) := by show _ = _; unfold innerL; rw [HN.out]; rfl
  clear hcc hw h1 hn hcap
  go_enter Tryz.func94,Tryz.ntmps94
  go_wp2_with fail
  rw [HS0.out]
  go_loopw [8,20] (fun s8 i wr => ∃ j : Nat,j ≤ n ∧ i = .int .i64 j ∧ s8 = .string ⟨([UInt8.ofNat n] ++ (l.take j).flatMap kidRow).toArray⟩ ∧ Hid (Below w.heap.size w wr)) (fun _ i _ => n - (intOf i).toNat)
  case atStart => exact ⟨0,Nat.zero_le _,rfl,by simp,(Below.refl _ _).alloc (Nat.le_refl _) _⟩
  case round =>
    obtain ⟨j,hj,rfl,rfl,HB⟩ := hrel
    by_cases hlt : j < n
    · have hji : (j : Int) < (n : Int) := by omega
      obtain ⟨g,o,rfl,hc⟩ := HC.out (by omega)
      obtain ⟨x,hx⟩ : ∃ x,l[j]? = some x := ⟨_,List.getElem?_eq_getElem (by rw [HN.out]; exact hlt)⟩
      obtain ⟨c0,c1⟩ := (hc j x hx).below HB.out
      have hone := H1.out x (List.mem_of_getElem? hx)
      have HEN := Lib.hid (fun wq => kidN_any x wq hone)
      have HROW : Hid (∀ wq g,Below w.heap.size w wq → NumAt wq g (kidNums x) → Calls Tryz.prog 111 #[.slice (some ⟨g,0,none⟩) 2 2,.slice (some ⟨gw,0,none⟩) 2 2] wq fun e w' => e = .returned (.tuple #[.string ⟨(kidRow x).toArray⟩,.int .i64 0]) ∧ Below wq.heap.size wq w') := fun wq g hb hn => rowW (kidNums x) g 2 gw 2 wq ((HW.out x).below hb) hn (kid_fit hone) 2 rfl
      have HT : Hid (⟨([UInt8.ofNat n] ++ (l.take j).flatMap kidRow).toArray⟩ ++ ⟨(kidRow x).toArray⟩ = (⟨([UInt8.ofNat n] ++ (l.take (j + 1)).flatMap kidRow).toArray⟩ : ByteArray)) := by
        show _ = _
        rw [str_app,list_take_flat _ _ _ _ hx,List.append_assoc]
      have z1 : (⟨([UInt8.ofNat n] ++ (l.take j).flatMap kidRow).toArray⟩ : ByteArray).size ≤ 1000 := by
        show ([UInt8.ofNat n] ++ (l.take j).flatMap kidRow).toArray.size ≤ 1000
        have : (l.take j).length ≤ j := by rw [List.length_take]; omega
        rw [List.size_toArray,List.length_append,rowsK_len,List.length_singleton]; omega
      have z2 : (⟨(kidRow x).toArray⟩ : ByteArray).size ≤ 1000 := by
        show (kidRow x).toArray.size ≤ 1000
        rw [List.size_toArray,kidRow_len]; omega
      obtain ⟨S,hS⟩ : ∃ S : ByteArray,⟨([UInt8.ofNat n] ++ (l.take j).flatMap kidRow).toArray⟩ = S := ⟨_,rfl⟩
      obtain ⟨R,hR⟩ : ∃ R : ByteArray,⟨(kidRow x).toArray⟩ = R := ⟨_,rfl⟩
      rw [hS] at HT z1
      rw [hR] at HT z2 HROW
      rw [hS]
      obtain ⟨f,t⟩ := x
      simp only at c0 c1
      have d0 : (wr.alloc (.cells #[.int .i64 f,.int .i64 t] 123)).heap.size = wr.heap.size + 1 := by simp
      have HBA : Hid (Below w.heap.size w (wr.alloc (.cells #[.int .i64 f,.int .i64 t] 123))) := HB.out.alloc (by have := HB.out.size; omega) _
      have HEN2 : Hid (∀ wq,Calls Tryz.prog 95 #[.agg #[.int .i64 f,.int .i64 t]] wq fun x w' => ∃ g,x = .returned (.slice (some ⟨g,0,none⟩) 2 2) ∧ NumAt w' g (kidNums ⟨f,t⟩) ∧ Below wq.heap.size wq w') := HEN.out
      clear hc hx hone d0 HEN hS hR
      go_wp2_with fail
      with_reducible refine (HEN2.out _).mono ?_
      rintro e w5 ⟨g5,rfl,hn5,hb5⟩
      have HB5 := Lib.hid (bel_tr HBA.out hb5)
      have HR := Lib.hid (HROW.out _ _ HB5.out hn5)
      clear hn5 hb5
      go_wp2_with fail
      with_reducible refine HR.out.mono ?_
      rintro e w6 ⟨rfl,hb6⟩
      have HB6 := Lib.hid (bel_tr HB5.out hb6)
      clear hb6
      go_wp2_with fail
      go_roundw
      case rel => exact ⟨j + 1,by omega,by go_num,by rw [HT.out],HB6.out⟩
      case measure => simp [intOf]; omega
    · obtain rfl : j = n := by omega
      have hfull : l.take j = l := by rw [← HN.out]; exact List.take_length
      rw [hfull,← HLL.out]
      clear hfull
      go_wp2_with fail
      refine bodyPost_ret (v := .tuple #[.string ⟨(innerL l).toArray⟩,.int .i64 0]) (by simp [results,Tryz.results94,go_sem]) rfl ⟨rfl,HB.out⟩
theorem inner_any (l : List Kid) (v : Value) (w : World) (h : KidsAt w v l) (h2 : 2 ≤ l.length) (h8 : l.length ≤ 8) (hk : KidsOk l) :
    Calls Tryz.prog 63 #[v] w fun x w' => x = .returned (.tuple #[.string ⟨(innerL l).toArray⟩,.int .i64 0]) ∧ Below w.heap.size w w' := by
  have HX : Hid (Calls Tryz.prog 79 #[v] w fun x w' => x = .returned (.bool true) ∧ Below w.heap.size w w') := by
    refine (kids_any l v w h (by omega)).mono ?_
    rintro x w' ⟨b,rfl,hb,q⟩
    rw [hb.2 ⟨h2,h8,hk⟩]
    exact ⟨rfl,q⟩
  have HEW := Lib.hid (fun wq => kidW_any wq)
  have HWR : Hid (∀ wq gw,Below w.heap.size w wq → (∀ e : Kid,WidAt wq gw (kidNums e)) → Calls Tryz.prog 94 #[v,.slice (some ⟨gw,0,none⟩) 2 2,.func (.func 95) #[] #[]] wq fun x w' => x = .returned (.tuple #[.string ⟨(innerL l).toArray⟩,.int .i64 0]) ∧ Below wq.heap.size wq w') := fun wq gw hb hw => writeK_any l v gw wq (h.below hb) hk.each h8 hw
  obtain ⟨A,c,rfl,hcap,hcc⟩ := h
  clear hcc hk h2 h8 hcap
  go_enter Tryz.func63,Tryz.ntmps63
  go_wp2_with fail
  with_reducible refine HX.out.mono ?_
  rintro e w5 ⟨rfl,hb5⟩
  have HB5 := Lib.hid hb5
  clear hb5
  go_wp2_with fail
  with_reducible refine (HEW.out _).mono ?_
  rintro e w6 ⟨rfl,hw6,hb6⟩
  have HB6 := Lib.hid (bel_tr HB5.out hb6)
  have HWW := Lib.hid (HWR.out _ _ HB6.out hw6)
  clear hb6 hw6
  go_wp2_with fail
  with_reducible refine HWW.out.mono ?_
  rintro e w7 ⟨rfl,hb7⟩
  have HB7 := Lib.hid (bel_tr HB6.out hb7)
  clear hb7
  go_wp2_with fail
  refine bodyPost_ret (v := .tuple #[.string ⟨(innerL l).toArray⟩,.int .i64 0]) (by simp [results,Tryz.results63,go_sem]) rfl ⟨rfl,HB7.out⟩
end Go.Proofs.YtneammhkgmkkfaaGreatDoor.tr
namespace Go.Proofs.YtneammhkgmkkfaaGreatDoor.tr
open Go.RowKit Go.Proofs.YtneammhkgmkkfaaGreatDoor.er
set_option linter.unusedVariables false
set_option linter.unusedSimpArgs false
theorem infoK : (Tryz.prog.info? 123).map (fun i => (i.zero,i.size,i.bytes)) = some (some (.agg #[.int .i64 0,.int .i64 0]),2,16) := by kernel_rfl
def pgKind : Pg → Int
  | .leaf _ => 2
  | .inner _ => 3
def pgStr : Pg → ByteArray
  | .leaf l => ⟨(leafL l).toArray⟩
  | .inner ks => ⟨(innerL ks).toArray⟩
def BodyRet (p : Pg) (w : World) (x : Ending) (w' : World) : Prop := x = .returned (.tuple #[.int .i64 (pgKind p),.string (pgStr p)]) ∧ Below w.heap.size w w'
set_option maxHeartbeats 4000000 in
set_option maxRecDepth 100000 in
theorem body_leaf (w : World) (b : Nat) (F : List Nat) (n : Nd 0) (hn : NdAt w F (ptrV 0 b) n) (hc : Chk n.l) (h1 : 1 ≤ n.l.length) (h8 : n.l.length ≤ 8) :
    Calls Tryz.prog 36 #[ptrV 0 b] w (BodyRet (pgN n) w) := by
  obtain ⟨b',g,c,rfl,e,hl⟩ := leaf_open hn
  obtain rfl := ptr_inj e
  have HRET : Hid (BodyRet (pgN n) w = fun x w' => x = .returned (.tuple #[.int .i64 2,.string ⟨(leafL n.l).toArray⟩]) ∧ Below w.heap.size w w') := rfl
  rw [HRET.out]
  have HLE := Lib.hid (leaf_any n.l _ w hl.2.exts hc h1 h8)
  have c1 := hl.1.cell 1
  simp at c1
  have hta := ta_ll
  obtain ⟨m,hm⟩ : ∃ m,n.l.length = m := ⟨_,rfl⟩
  rw [hm] at c1 HLE
  obtain ⟨S,hS⟩ : ∃ S : ByteArray,⟨(leafL n.l).toArray⟩ = S := ⟨_,rfl⟩
  rw [hS] at HLE ⊢
  clear hl hn e hc h1 h8 hm HRET hS
  show Calls Tryz.prog 36 #[.iface 117 (.pointer (some ⟨b,0,none⟩))] w _
  go_enter Tryz.func36,Tryz.ntmps36
  go_wp2_with fail
  with_reducible refine HLE.out.mono ?_
  rintro e w5 ⟨rfl,hb5⟩
  have HB5 := Lib.hid hb5
  clear hb5
  go_wp2_with fail
  refine bodyPost_ret (v := .tuple #[.int .i64 2,.string S]) (by simp [results,Tryz.results36,go_sem]) rfl ⟨rfl,HB5.out⟩
set_option maxHeartbeats 8000000 in
set_option maxRecDepth 100000 in
theorem body_inner (w : World) (h b : Nat) (F : List Nat) (n : Nd (h + 1)) (hn : NdAt w F (ptrV (h + 1) b) n) (hk : Kw n) (h2 : 2 ≤ n.ks.length) (h8 : n.ks.length ≤ 8) (hko : KidsOk (kidsN n)) :
    Calls Tryz.prog 36 #[ptrV (h + 1) b] w (BodyRet (pgN n) w) := by
  obtain ⟨b',q,c,ds,rfl,e,hin,ek⟩ := inner_open hn
  obtain rfl := ptr_inj e
  have HRET : Hid (BodyRet (pgN n) w = fun x w' => x = .returned (.tuple #[.int .i64 3,.string ⟨(innerL (kidsN n)).toArray⟩]) ∧ Below w.heap.size w w') := rfl
  rw [HRET.out]
  have hlen : n.ks.length = ds.length := by rw [ek,List.length_map]
  obtain ⟨ks,hks⟩ : ∃ ks,kidsN n = ks := ⟨_,rfl⟩
  obtain ⟨m,hm⟩ : ∃ m,ds.length = m := ⟨_,rfl⟩
  have hkl : ks.length = m := by rw [← hks]; unfold kidsN; rw [List.length_map,hlen,hm]
  have HKD : Hid (∀ j,j < m → ∃ (kb : Nat) (k : Kid),ks[j]? = some k ∧ w.cell? ⟨q,j,none⟩ = some (.iface (ndT h) (.pointer (some ⟨kb,0,none⟩))) ∧ w.cell? ⟨kb,0,none⟩ = some (.int .i64 k.at_) ∧ ∀ wq,Below w.heap.size w wq → Calls Tryz.prog (fiF h) #[.pointer (some ⟨kb,0,none⟩)] wq fun e w' => e = .returned (.int .i64 k.key) ∧ wq = w') := by
    intro j hj
    have hjl : j < ds.length := by omega
    have hd := List.getElem?_eq_getElem hjl
    have hmem := List.getElem_mem hjl
    obtain ⟨kb,kF,f1,f2⟩ := (hin.2.2 _ hmem).form
    have hkw : Wf (ds[j]'hjl).2.2 := hk.mem (by rw [ek]; exact List.mem_map.2 ⟨_,hmem,rfl⟩)
    have hnd := hin.2.2 _ hmem
    rw [f2] at hnd
    refine ⟨kb,⟨firstN (ds[j]'hjl).2.2,(ds[j]'hjl).2.2.at_⟩,?_,?_,?_,fun wq hb => ?_⟩
    · rw [← hks]
      unfold kidsN
      rw [ek,List.map_map,List.getElem?_map,hd]
      rfl
    · rw [← f2]
      exact hin.2.1.cell (by rw [List.getElem?_map,hd]; rfl)
    · obtain ⟨L,hL⟩ : ∃ L,(ds[j]'hjl).2.2 = L := ⟨_,rfl⟩
      rw [hL] at hnd ⊢
      clear hL
      cases h with
      | zero =>
        obtain ⟨b2,g2,c2,_,e2,hl2⟩ := leaf_open hnd
        obtain rfl := ptr_inj e2
        exact hl2.1.cell 0
      | succ h =>
        obtain ⟨b2,q2,c2,ds2,_,e2,hl2,_⟩ := inner_open hnd
        obtain rfl := ptr_inj e2
        exact hl2.1.cell 0
    · exact first_any wq h kb _ _ (hnd.keep (Keep.below (F := fun _ => False) hb) (fun _ _ h => h)) hkw.2 (by have := hkw.1; omega)
  have HIN : Hid (∀ wq A c,wq.ownsRow w.heap.size 123 2 (.slice A m c) m (kidCells ks) → Calls Tryz.prog 63 #[.slice A m c] wq fun x w' => x = .returned (.tuple #[.string ⟨(innerL ks).toArray⟩,.int .i64 0]) ∧ Below wq.heap.size wq w') := by
    intro wq A c ho
    rw [hks] at hko
    exact inner_any ks _ wq (KidsAt.own ho).1 (by omega) (by omega) hko
  have c1 : w.cell? ⟨b,1,none⟩ = some (.slice (some ⟨q,0,none⟩) m c) := by have := hin.1.cell 1; rw [hm] at this; exact this
  rw [hks]
  obtain ⟨S,hS⟩ : ∃ S : ByteArray,⟨(innerL ks).toArray⟩ = S := ⟨_,rfl⟩
  rw [hS] at HIN ⊢
  have HSN : Hid (∀ j k,ks[j]? = some k → kidCells (ks.take (j + 1)) = kidCells (ks.take j) ++ [.int .i64 k.key,.int .i64 k.at_]) := fun j k hk => by rw [kid_snoc hk,kidCells_snoc]
  have HKL := Lib.hid hkl
  have hmi : (m : Int) ≤ 8 := by omega
  have hta := ta_ii
  have htb := ta_il
  have hmf := fun b w => meFi (.pointer (some ⟨b,0,none⟩)) w h
  have hef := fun b w => enFi #[.pointer (some ⟨b,0,none⟩)] w h
  have hmw := fun b w => meWh (.pointer (some ⟨b,0,none⟩)) w h
  have hew := fun b w => enWh #[.pointer (some ⟨b,0,none⟩)] w h
  have HWH := Lib.hid (fun wq b => where_any wq b h)
  obtain ⟨i0,hi0,hz0,hz1,hz2⟩ := info_parts infoK
  have HI0 := Lib.hid hi0
  have HZ0 := Lib.hid hz0
  have HZ1 := Lib.hid hz1
  have HZ2 := Lib.hid hz2
  clear hi0 hz0 hz1 hz2 hkl hS hks hlen ek hin hn hk h2 h8 hko e HRET hm
  show Calls Tryz.prog 36 #[.iface 94 (.pointer (some ⟨b,0,none⟩))] w _
  go_enter Tryz.func36,Tryz.ntmps36
  go_wp2_with fail
  go_loopw [8,10,34] (fun s8 s10 i wr => ∃ (j : Nat) (B : Option Addr) (d : Nat),j ≤ m ∧ i = .int .i64 j ∧ s8 = .slice B j d ∧ Hid (wr.ownsRow w.heap.size 123 2 (.slice B j d) j (kidCells (ks.take j))) ∧ Hid (Below w.heap.size w wr)) (fun _ _ i _ => m - (intOf i).toNat)
  case atStart => exact ⟨0,none,0,Nat.zero_le _,rfl,rfl,⟨rfl,.inl ⟨rfl,rfl⟩⟩,Below.refl _ _⟩
  case round =>
    obtain ⟨j,B,d,hj,rfl,rfl,HO,HB⟩ := hrel
    by_cases hlt : j < m
    · have hji : (j : Int) < (m : Int) := by omega
      have hj0 : (0 : Int) ≤ (j : Int) := by omega
      obtain ⟨kb,k,k1,k2,k3,k4⟩ := HKD.out j hlt
      have d1 := below_c HB.out k2
      have d2 := below_c HB.out k3
      have HFI := Lib.hid (k4 wr HB.out)
      have HTC := Lib.hid (HSN.out j k k1)
      obtain ⟨ky,ka⟩ := k
      simp only at d2 HFI HTC
      have HOA := Lib.hid (HO.out.alloc (.cells #[.int .i64 ky,.int .i64 ka] 123))
      have HNW : Hid (∀ (j' : Nat) (u : Value),([.int .i64 ky,.int .i64 ka] : List Value)[j']? = some u → (wr.alloc (.cells #[.int .i64 ky,.int .i64 ka] 123)).cell? ((⟨wr.heap.size,0,none⟩ : Addr).add j') = some u) := World.news_of_block (by simpa using heap_alloc_new wr (.cells #[.int .i64 ky,.int .i64 ka] 123))
      have hone : ∀ u ∈ ([.int .i64 ky,.int .i64 ka] : List Value),u.oneCell' = true := by simp [Value.oneCell']
      have HONE := Lib.hid hone
      have hszr := HB.out.size
      have HSZ2 : Hid (w.heap.size ≤ (wr.alloc (.cells #[.int .i64 ky,.int .i64 ka] 123)).heap.size) := by show _ ≤ _; simp only [World.size_alloc]; omega
      have HSZ3 := Lib.hid hszr
      clear hone hszr k1 k2 k3 k4
      go_wp2_with fail
      refine HFI.out.mono ?_
      rintro e w5 ⟨rfl,rfl⟩
      go_wp2_with fail
      refine (HWH.out _ kb).mono ?_
      rintro e w5 ⟨rfl,rfl⟩
      go_wp2_with (at_builtin; go_must (refine wpList_append_own _ rfl (.tmp 38) (.tmp 46) 120 rfl w.heap.size 123 i0 _ 2 16 Tryz.underlying120 HI0.out HZ0.out HZ1.out HZ2.out rfl (by omega) (.slice B j d) j (kidCells (ks.take j)) rfl HOA.out ⟨wr.heap.size,0,none⟩ 1 1 [.int .i64 ky,.int .i64 ka] rfl rfl HNW.out HONE.out (by simp only [maxLen]; omega) (by omega) HSZ2.out ?_; intro v2 w6 hown6 hg6 _; have HO6 := Lib.hid hown6; have HB6 := Lib.hid (below_append HO.out hg6 HSZ3.out); obtain ⟨A2,c2',e2⟩ := own_slice hown6; subst e2; clear hown6 hg6))
      have hmeas : m - (intOf (.int .i64 ((j : Int) + 1))).toNat < m - (intOf (.int .i64 (j : Int))).toNat := by simp [intOf]; omega
      refine ⟨⟨j + 1,A2,c2',?_,?_,rfl,?_,?_⟩,hmeas⟩
      · omega
      · go_num
      · rw [HTC.out]; with_reducible exact HO6
      · exact HB.out.trans HB6.out
    · obtain rfl : j = m := by omega
      have hfull : ks.take j = ks := by rw [← HKL.out]; exact List.take_length
      rw [hfull] at HO
      clear hfull
      have HII := Lib.hid (HIN.out _ _ _ HO.out)
      go_wp2_with fail
      with_reducible refine HII.out.mono ?_
      rintro e w5 ⟨rfl,hb5⟩
      have HB5 := Lib.hid (bel_tr HB.out hb5)
      clear hb5
      go_wp2_with fail
      refine bodyPost_ret (v := .tuple #[.int .i64 3,.string S]) (by simp [results,Tryz.results36,go_sem]) rfl ⟨rfl,HB5.out⟩
def PgOk : {h : Nat} → Nd h → Prop
  | 0,n => Chk n.l ∧ 1 ≤ n.l.length ∧ n.l.length ≤ 8
  | _ + 1,n => Kw n ∧ 2 ≤ n.ks.length ∧ n.ks.length ≤ 8 ∧ KidsOk (kidsN n)
theorem body_any (w : World) (b : Nat) (F : List Nat) : ∀ {h : Nat} (n : Nd h),NdAt w F (ptrV h b) n → PgOk n → Calls Tryz.prog 36 #[ptrV h b] w (BodyRet (pgN n) w)
  | 0,n,hn,ho => body_leaf w b F n hn ho.1 ho.2.1 ho.2.2
  | h + 1,n,hn,ho => body_inner w h b F n hn ho.1 ho.2.1 ho.2.2.1 ho.2.2.2
end Go.Proofs.YtneammhkgmkkfaaGreatDoor.tr
namespace Go.Proofs.YtneammhkgmkkfaaGreatDoor.tr
open Go.RowKit Go.Proofs.YtneammhkgmkkfaaGreatDoor.er
set_option linter.unusedVariables false
set_option linter.unusedSimpArgs false
theorem infoP : (Tryz.prog.info? 25).map (fun i => (i.zero,i.size,i.bytes)) = some (some (.agg #[.int .i64 0,.string ⟨#[]⟩]),2,24) := by kernel_rfl
abbrev Bk := List (Int × ByteArray)
def bkCells (L : Bk) : List Value := L.flatMap fun p => [.int .i64 p.1,.string p.2]
theorem bkCells_snoc (L : Bk) (k : Int) (s : ByteArray) : bkCells (L ++ [(k,s)]) = bkCells L ++ [.int .i64 k,.string s] := by simp [bkCells]
def BkAt (w : World) (G : Nat → Prop) (bb : Nat) (L : Bk) : Prop := ∃ v,Whole w bb 28 #[v] ∧ w.ownsRow 0 25 2 v L.length (bkCells L) ∧ ∀ k,G k ↔ k = bb ∨ v.ownBlock = some k
theorem BkAt.keep {X G : Nat → Prop} {w w' : World} {bb : Nat} {L : Bk} (h : BkAt w G bb L) (hk : Keep X w w') (hX : ∀ k,G k → ¬ X k) : BkAt w' G bb L := by
  obtain ⟨v,h1,h2,h3⟩ := h
  exact ⟨v,h1.keep hk (hX _ ((h3 _).2 (.inl rfl))),own_keep h2 hk (fun g hg => hX g ((h3 g).2 (.inr hg))),h3⟩
theorem BkAt.lt {G : Nat → Prop} {w : World} {bb : Nat} {L : Bk} (h : BkAt w G bb L) : ∀ k,G k → k < w.heap.size := by
  obtain ⟨v,h1,h2,h3⟩ := h
  intro k hk
  rcases (h3 k).1 hk with rfl | e
  · exact h1.lt
  · exact (h2.lt k e).2
theorem BkAt.cell {G : Nat → Prop} {w : World} {bb : Nat} {L : Bk} (h : BkAt w G bb L) : ∃ A c,w.cell? ⟨bb,0,none⟩ = some (.slice A L.length c) := by
  obtain ⟨v,h1,h2,_⟩ := h
  obtain ⟨A,c,rfl⟩ := own_slice h2
  exact ⟨A,c,h1.cell 0⟩
theorem BkAt.below {G : Nat → Prop} {w w' : World} {bb : Nat} {L : Bk} (h : BkAt w G bb L) (hb : Below w.heap.size w w') : BkAt w' G bb L := h.keep (Keep.below (F := fun _ => False) hb) (fun _ _ h => h)
def PutOk (w : World) (G : Nat → Prop) (bb : Nat) (L L' : Bk) (w' : World) : Prop := ∃ G',BkAt w' G' bb L' ∧ Mv G w G' w'
set_option maxHeartbeats 4000000 in
set_option maxRecDepth 100000 in
theorem bput_any (w : World) (G : Nat → Prop) (bb : Nat) (L : Bk) (kind key : Int) (s : ByteArray) (h : BkAt w G bb L) (hl : L.length < 2000) :
    Calls Tryz.prog 17 #[.pointer (some ⟨bb,0,none⟩),.int .i64 kind,.int .i64 key,.string s] w fun x w' => x = .returned (.tuple #[.int .i64 L.length,.nilIface]) ∧ PutOk w G bb L (L ++ [(kind,s)]) w' := by
  obtain ⟨v,a1,a2,a5⟩ := h
  have a3 := (a5 bb).2 (.inl rfl)
  have a4 : ∀ g,v.ownBlock = some g → G g := fun g hg => (a5 g).2 (.inr hg)
  obtain ⟨A,c,rfl⟩ := own_slice a2
  have co := a1.cell 0
  simp at co
  obtain ⟨i0,hi0,hz0,hz1,hz2⟩ := info_parts infoP
  have HI0 := Lib.hid hi0
  have HZ0 := Lib.hid hz0
  have HZ1 := Lib.hid hz1
  have HZ2 := Lib.hid hz2
  obtain ⟨n,hn⟩ : ∃ n,L.length = n := ⟨_,rfl⟩
  rw [hn] at a1 a2 a4 a5 hl co ⊢
  obtain ⟨V,hV⟩ : ∃ V : List Value,bkCells L = V := ⟨_,rfl⟩
  rw [hV] at a2
  have HOA := Lib.hid (a2.alloc (.cells #[.int .i64 kind,.string s] 25))
  have HNW : Hid (∀ (j' : Nat) (u : Value),([.int .i64 kind,.string s] : List Value)[j']? = some u → (w.alloc (.cells #[.int .i64 kind,.string s] 25)).cell? ((⟨w.heap.size,0,none⟩ : Addr).add j') = some u) := World.news_of_block (by simpa using heap_alloc_new w (.cells #[.int .i64 kind,.string s] 25))
  have hone : ∀ u ∈ ([.int .i64 kind,.string s] : List Value),u.oneCell' = true := by simp [Value.oneCell']
  have HONE := Lib.hid hone
  have HSZ2 : Hid (0 ≤ (w.alloc (.cells #[.int .i64 kind,.string s] 25)).heap.size) := Nat.zero_le _
  have HEND : Hid (∀ g2 c2 w6,w6.ownsRow 0 25 2 (.slice (some ⟨g2,0,none⟩) (n + 1) c2) (n + 1) (V ++ [.int .i64 kind,.string s]) → (w.alloc (.cells #[.int .i64 kind,.string s] 25)).grownBy w6 (Value.slice A n c).ownBlock → ((Value.slice A n c).ownBlock = some g2 ∨ g2 = (w.alloc (.cells #[.int .i64 kind,.string s] 25)).heap.size) → (w6.cell? ⟨bb,0,none⟩ = some (.slice A n c) ∧ w6.frozen? ⟨bb,0,none⟩ = false ∧ (w6.setCell ⟨bb,0,none⟩ (.slice (some ⟨g2,0,none⟩) (n + 1) c2)).cell? ⟨bb,0,none⟩ = some (.slice (some ⟨g2,0,none⟩) (n + 1) c2)) ∧ PutOk w G bb L (L ++ [(kind,s)]) (w6.setCell ⟨bb,0,none⟩ (.slice (some ⟨g2,0,none⟩) (n + 1) c2))) := by
    intro g2 c2 w6 q1 q2 q3
    have b6 := (a1.alloc (.cells #[.int .i64 kind,.string s] 25)).grown q2 (own_ne a2 a1 (by decide))
    have hK6 : Keep G w w6 := by
      have h0 : Keep G w (w.alloc (.cells #[.int .i64 kind,.string s] 25)) := (Keep.refl _ _).alloc _
      exact h0.grown q2 (fun j hj => .inl (a4 j hj))
    have b7 : Whole (w6.setCell ⟨bb,0,none⟩ (.slice (some ⟨g2,0,none⟩) (n + 1) c2)) bb 28 #[.slice (some ⟨g2,0,none⟩) (n + 1) c2] := by simpa using b6.set 0 (.slice (some ⟨g2,0,none⟩) (n + 1) c2)
    refine ⟨⟨b6.cell 0,b6.fz 0,b7.cell 0⟩,fun k => k = bb ∨ k = g2,⟨_,b7,?_,fun k => ?_⟩,hK6.setCell (p := ⟨bb,0,none⟩) (.inl a3) _,fun k hk => ?_⟩
    · have hkS : Keep (fun j => j = bb) w6 (w6.setCell ⟨bb,0,none⟩ (.slice (some ⟨g2,0,none⟩) (n + 1) c2)) := Keep.set1 w6 bb 0 _
      rw [List.length_append,hn,bkCells_snoc,hV]
      exact own_keep q1 hkS (fun j hj e => own_ne q1 b6 (by decide) (by rw [hj,e]))
    · constructor
      · rintro (h | h)
        · exact .inl h
        · right; show some g2 = some k; rw [h]
      · rintro (h | h)
        · exact .inl h
        · have : some g2 = some k := h
          injection this with this
          exact .inr this.symm
    · rcases hk with hk | hk
      · exact .inl (by rw [hk]; exact a3)
      · rcases q3 with h | h
        · exact .inl (a4 k (by rw [h,hk]))
        · right; rw [hk,h]; simp
  clear hone hi0 hz0 hz1 hz2 a1 a2 a3 a4 a5 hV hn
  go_enter Tryz.func17,Tryz.ntmps17
  have hlt : ¬ (2000 : Int) ≤ (n : Int) := by omega
  go_wp2_with (at_builtin; go_must (refine wpList_append_lies _ rfl (.tmp 21) (.tmp 25) 22 rfl 0 25 i0 _ 2 24 Tryz.underlying22 HI0.out HZ0.out HZ1.out HZ2.out rfl (by omega) (.slice A n c) n V rfl HOA.out ⟨w.heap.size,0,none⟩ 1 1 [.int .i64 kind,.string s] rfl rfl HNW.out HONE.out (by omega) (by simp only [maxLen]; omega) (by omega) HSZ2.out _ rfl ?_; intro g2 c2 w6 hown6 hg6 hat6 _; obtain ⟨⟨z0,z1,z2⟩,hfin⟩ := HEND.out g2 c2 w6 hown6 hg6 hat6; have HFIN := Lib.hid hfin; clear hown6 hg6 hat6 hfin))
  refine bodyPost_ret (v := .tuple #[.int .i64 n,.nilIface]) (by simp [results,Tryz.results17,go_sem]) rfl ⟨rfl,HFIN.out⟩
end Go.Proofs.YtneammhkgmkkfaaGreatDoor.tr
namespace Go.Proofs.YtneammhkgmkkfaaGreatDoor.tr
open Go.RowKit Go.Proofs.YtneammhkgmkkfaaGreatDoor.er
set_option linter.unusedVariables false
set_option linter.unusedSimpArgs false
theorem first_key {h : Nat} {k : Nd h} (hk : Kw k) (h1 : 1 ≤ k.size) (hc : Chk (flat k)) : 0 ≤ firstN k ∧ firstN k < 16777216 := by
  obtain ⟨e,r,hf,he⟩ := flat_ne k hk h1
  have := one_spec (hc.one e (by rw [hf]; simp))
  rw [he]; omega
theorem firsts_inc {h : Nat} : ∀ (ks : List (Nd h)),(∀ k ∈ ks,Wf k) → Inc (flats ks) → ks.Pairwise fun a b => firstN a < firstN b
  | [],_,_ => .nil
  | k :: r,hw,hi => by
    rw [flats_cons] at hi
    obtain ⟨i1,i2,i3⟩ := List.pairwise_append.1 hi
    refine List.pairwise_cons.2 ⟨fun b hb => ?_,firsts_inc r (fun x hx => hw x (by simp [hx])) i2⟩
    have hwk := hw k (by simp)
    have hwb := hw b (by simp [hb])
    obtain ⟨e,t,e1,e2⟩ := flat_ne k hwk.2 (by have := hwk.1; omega)
    obtain ⟨e',t',f1,f2⟩ := flat_ne b hwb.2 (by have := hwb.1; omega)
    rw [e2,f2]
    exact i3 e (by rw [e1]; simp) e' (List.mem_flatMap.2 ⟨b,hb,by rw [f1]; simp⟩)
theorem kids_ok {h : Nat} {m : Nd (h + 1)} (hk : Kw m) (hc : Chk (flat m)) (hr : ∀ a ∈ m.ks.map Nd.at_,0 ≤ a ∧ a < 2048) (hn : (m.ks.map Nd.at_).Nodup) : KidsOk (kidsN m) := by
  have hks : ∀ k ∈ m.ks,Wf k := fun k hm => hk.mem hm
  refine ⟨fun x hx => ?_,?_,?_⟩
  · obtain ⟨k,hm,rfl⟩ := List.mem_map.1 hx
    have hw := hks k hm
    have hck : Chk (flat k) := by
      obtain ⟨P,Q,e⟩ := List.append_of_mem hm
      have : Chk (flats m.ks) := hc
      rw [e,flats_append,flats_cons] at this
      exact this.right.left
    have h1 := first_key hw.2 (by have := hw.1; omega) hck
    have h2 := hr _ (List.mem_map.2 ⟨k,hm,rfl⟩)
    unfold kidB
    simp; omega
  · exact List.pairwise_map.2 (firsts_inc m.ks hks (chk_fr hc))
  · have := List.pairwise_map.1 hn
    exact List.pairwise_map.2 this
theorem at_last : ∀ {h : Nat} (n : Nd h),∃ A,ats n = A ++ [n.at_]
  | 0,n => ⟨[],rfl⟩
  | h + 1,n => ⟨_,rfl⟩
theorem kids_sub {h : Nat} : ∀ (ks : List (Nd h)),(ks.map Nd.at_).Sublist (ks.flatMap ats)
  | [] => List.Sublist.refl _
  | k :: r => by
    obtain ⟨A,e⟩ := at_last k
    rw [List.map_cons,List.flatMap_cons,e,List.append_assoc]
    exact ((kids_sub r).cons_cons k.at_).trans (List.sublist_append_right A _)
theorem cnt_take {n : List Int} {j : Nat} {a : Int} (h : n[j]? = some a) : ((n.take (j + 1)).filter fun a => decide (a = -1)).length = ((n.take j).filter fun a => decide (a = -1)).length + if a = -1 then 1 else 0 := by
  rw [List.take_add_one,h,List.filter_append,List.length_append]
  by_cases e : a = -1 <;> simp [e]
theorem set_fresh {l : List Int} {j : Nat} {a : Int} (hj : l[j]? = some (-1)) (ha : a ≠ -1) : ∃ P Q,l = P ++ (-1) :: Q ∧ P.length = j ∧ l.set j a = P ++ a :: Q := by
  obtain ⟨hl,he⟩ := List.getElem?_eq_some_iff.1 hj
  refine ⟨l.take j,l.drop (j + 1),?_,by rw [List.length_take]; omega,?_⟩
  · rw [← he,← List.drop_eq_getElem_cons hl,List.take_append_drop]
  · rw [List.set_eq_take_append_cons_drop,if_pos hl]
end Go.Proofs.YtneammhkgmkkfaaGreatDoor.tr
namespace Go.Proofs.YtneammhkgmkkfaaGreatDoor.tr
open Go.RowKit Go.Proofs.YtneammhkgmkkfaaGreatDoor.er
set_option linter.unusedVariables false
set_option linter.unusedSimpArgs false
theorem at_cell {w : World} {F : List Nat} {h b : Nat} {n : Nd h} (hn : NdAt w F (ptrV h b) n) : w.cell? ⟨b,0,none⟩ = some (.int .i64 n.at_) ∧ w.frozen? ⟨b,0,none⟩ = false := by
  cases h with
  | zero =>
    obtain ⟨b2,g2,c2,_,e2,hl2⟩ := leaf_open hn
    obtain rfl := ptr_inj e2
    exact ⟨hl2.1.cell 0,hl2.1.fz 0⟩
  | succ h =>
    obtain ⟨b2,q2,c2,ds2,_,e2,hl2,_⟩ := inner_open hn
    obtain rfl := ptr_inj e2
    exact ⟨hl2.1.cell 0,hl2.1.fz 0⟩
theorem fr_count (l : List Int) (j : Nat) (h : l[j]? = some (-1)) : ((l.take j).filter fun a => decide (a = -1)).length + 1 ≤ (l.filter fun a => decide (a = -1)).length := by
  have h1 := cnt_take h
  rw [if_pos rfl] at h1
  rw [← h1]
  exact ((List.take_sublist _ _).filter _).length_le
end Go.Proofs.YtneammhkgmkkfaaGreatDoor.tr
