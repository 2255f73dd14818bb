/- A part of the proof. -/
import Derived.Test.YtneammhkgmkkfaaGreatDoorPTzMg
import Derived.Laws.BytesArg
import Derived.Laws.Closers25b
import Derived.Shelf.Small.Wraps
import Derived.Shelf.Strings.Builder1
import Derived.Test.YtneammhkgmkkfaaGreatDoorProg
namespace Go.Proofs.YtneammhkgmkkfaaGreatDoor.tr
open Go.RowKit Go.Proofs.YtneammhkgmkkfaaGreatDoor.er
set_option linter.unusedVariables false
set_option linter.unusedSimpArgs false
theorem width_any (n : Int) (w : World) :
    Calls Tryz.prog 158 #[.int .i64 n] w fun e w' => e = .returned (.bool (decide (1 ≤ n) && decide (n ≤ 8))) ∧ w = w' := by
  go_enter Tryz.func158,Tryz.ntmps158
  by_cases h1 : 1 ≤ n
  · by_cases h8 : n ≤ 8
    · go_wp2_with fail
      go_ret
      exact ⟨by simp [h1,h8],rfl⟩
    · go_wp2_with fail
      go_ret
      exact ⟨by simp [h1,h8],rfl⟩
  · have h1' : n < 1 := by omega
    go_wp2_with fail
    go_ret
    exact ⟨by simp; omega,rfl⟩
theorem wrong_any (n : Int) (w : World) :
    Calls Tryz.prog 133 #[.int .i64 n] w fun e w' => e = .returned (.bool (!(decide (1 ≤ n) && decide (n ≤ 8)))) ∧ w = w' := by
  go_enter Tryz.func133,Tryz.ntmps133
  go_wp2_with fail
  refine (width_any n _).mono ?_
  rintro e w' ⟨rfl,rfl⟩
  go_wp2_with fail
  go_ret
  exact ⟨by simp,rfl⟩
def bytesOf (k : Nat) (n : Int) : List Int := (List.range k).map fun (j : Nat) => n / (256 ^ j : Int) % 256
theorem bytesOf_length (k : Nat) (n : Int) : (bytesOf k n).length = k := by simp [bytesOf]
def rowB (l : List (Nat × Int)) : List UInt8 := l.flatMap fun p => (bytesOf p.1 p.2).map fun x => UInt8.ofNat x.toNat
def WidAt (w : World) (g : Nat) (l : List (Nat × Int)) : Prop := ∀ (j : Nat) (p : Nat × Int),l[j]? = some p → w.cell? ⟨g,j,none⟩ = some (.int .i64 p.1)
theorem WidAt.below {w w' : World} {g : Nat} {l : List (Nat × Int)} (h : WidAt w g l) (hb : Below w.heap.size w w') : WidAt w' g l := fun j p hp => below_c hb (h j p hp)
structure FitL (l : List (Nat × Int)) : Prop where
  lo : ∀ p ∈ l,1 ≤ p.1
  hi : ∀ p ∈ l,p.1 ≤ 4
  ps : ∀ p ∈ l,0 ≤ p.2
  up : ∀ p ∈ l,p.2 < 256 ^ p.1
  len : l.length ≤ 8
set_option maxHeartbeats 1000000 in
theorem indexW (g c : Nat) (l : List (Nat × Int)) (w : World) (hw : WidAt w g l) (hf : FitL l) (n : Nat) (hn : l.length = n) :
    Calls Tryz.prog 157 #[.slice (some ⟨g,0,none⟩) n c,.func (.func 133) #[] #[]] w fun e w' => e = .returned (.int .i64 (-1)) ∧ w = w' := by
  have HW := Lib.hid hw
  have HF := Lib.hid hf
  have HN := Lib.hid hn
  have hn8 : (n : Int) ≤ 8 := by have := hf.len; omega
  clear hw hf hn
  go_enter Tryz.func157,Tryz.ntmps157
  go_wp2_with fail
  go_loopw [8] (fun i wr => ∃ j : Nat,j ≤ n ∧ i = .int .i64 j ∧ w = wr) (fun i _ => n - (intOf i).toNat)
  case atStart => exact ⟨0,Nat.zero_le _,rfl,rfl⟩
  case round =>
    obtain ⟨j,hj,rfl,rfl⟩ := hrel
    by_cases hlt : j < n
    · have hji : (j : Int) < (n : Int) := by omega
      obtain ⟨p,hp⟩ : ∃ p,l[j]? = some p := ⟨_,List.getElem?_eq_getElem (by rw [HN.out]; exact hlt)⟩
      have c0 := HW.out j p hp
      have h1 : (1 : Int) ≤ (p.1 : Int) := by have := HF.out.lo p (List.mem_of_getElem? hp); omega
      have h2 : (p.1 : Int) ≤ 8 := by have := HF.out.hi p (List.mem_of_getElem? hp); omega
      have HWR : Hid (∀ wq,Calls Tryz.prog 133 #[.int .i64 p.1] wq fun e w' => e = .returned (.bool false) ∧ wq = w') := by
        intro wq
        have := wrong_any p.1 wq
        simpa [h1,h2] using this
      clear hp h1 h2
      obtain ⟨pw,hpw⟩ : ∃ pw : Nat,p.1 = pw := ⟨_,rfl⟩
      rw [hpw] at c0 HWR
      clear hpw
      go_wp2_with fail
      with_reducible refine (HWR.out _).mono ?_
      rintro e w2 ⟨rfl,rfl⟩
      go_wp2_with fail
      go_roundw
      case rel => exact ⟨j + 1,by omega,by go_num,trivial⟩
      case measure => simp [intOf]; omega
    · obtain rfl : j = n := by omega
      go_wp2_with fail
      go_ret
      exact ⟨rfl,rfl⟩
theorem containsW (g c : Nat) (l : List (Nat × Int)) (w : World) (hw : WidAt w g l) (hf : FitL l) (n : Nat) (hn : l.length = n) :
    Calls Tryz.prog 132 #[.slice (some ⟨g,0,none⟩) n c,.func (.func 133) #[] #[]] w fun e w' => e = .returned (.bool false) ∧ w = w' := by
  have H := Lib.hid (indexW g c l w hw hf n hn)
  clear hw hf hn
  go_enter Tryz.func132,Tryz.ntmps132
  go_wp2_with fail
  with_reducible refine H.out.mono ?_
  rintro e w2 ⟨rfl,rfl⟩
  go_wp2_with fail
  go_ret
  exact ⟨rfl,rfl⟩
end Go.Proofs.YtneammhkgmkkfaaGreatDoor.tr
namespace Go.Proofs.YtneammhkgmkkfaaGreatDoor.tr
open Go.RowKit Go.Proofs.YtneammhkgmkkfaaGreatDoor.er
set_option linter.unusedVariables false
set_option linter.unusedSimpArgs false
def extB (l : List Ext) : Bool := decide (1 ≤ l.length) && decide (l.length ≤ 8) && chkB l
theorem one_low {e : Ext} (h : oneB e = true) : decide (2048 ≤ e.at_) = false := by
  obtain ⟨h1,h2,h3,h4⟩ := one_spec h
  simp; omega
theorem any_low {l : List Ext} (h : ∀ e ∈ l,oneB e = true) : l.any (fun e => decide (2048 ≤ e.at_)) = false := by
  rw [List.any_eq_false]
  intro e he
  rw [one_low (h e he)]; simp
set_option maxHeartbeats 4000000 in
set_option maxRecDepth 100000 in
theorem extents_any (l : List Ext) (v : Value) (w : World) (h : ExtsAt w v l) (hl : l.length ≤ 100000000) :
    Calls Tryz.prog 75 #[v] w fun x w' => x = .returned (.bool (extB l)) ∧ Below w.heap.size w w' := by
  have HCK := Lib.hid (check_any l v w h hl)
  have HCF : Hid (chkB l = true → ∀ wq,Below w.heap.size w wq → Calls Tryz.prog 104 #[v,.func (.func 105) #[] #[]] wq fun x w' => x = .returned (.bool false) ∧ Below wq.heap.size wq w') := by
    intro hc wq hb
    have := conF_any (fun e => decide (2048 ≤ e.at_)) 105 #[] l v wq (fun _ _ => by kernel_rfl) (h.below hb) hl (fun e wq _ _ => by
      have := lxt_any e wq
      simpa using this)
    rw [any_low (chkB_chk _ hc).one] at this
    exact this
  obtain ⟨A,c,rfl,hcc⟩ := h
  obtain ⟨n,hn⟩ : ∃ n,l.length = n := ⟨_,rfl⟩
  have HE : Hid (extB l = (decide (1 ≤ n) && decide (n ≤ 8) && chkB l)) := by show _ = _; unfold extB; rw [hn]
  rw [HE.out]
  rw [hn] at HCK HCF hl ⊢
  have hni : (n : Int) ≤ 100000000 := by omega
  obtain ⟨b,hb⟩ : ∃ b,chkB l = b := ⟨_,rfl⟩
  rw [hb] at HCK HCF ⊢
  clear hcc hn HE hb
  go_enter Tryz.func75,Tryz.ntmps75
  by_cases h1 : 1 ≤ n
  · have h1i : (1 : Int) ≤ (n : Int) := by omega
    by_cases h8 : n ≤ 8
    · have h8i : (n : Int) ≤ 8 := by omega
      cases b with
      | false =>
        go_wp2_with fail
        with_reducible refine HCK.out.mono ?_
        rintro e w5 ⟨rfl,hb5⟩
        have HB5 := Lib.hid hb5
        clear hb5
        go_wp2_with fail
        go_ret
        exact ⟨by simp [h1,h8],HB5.out⟩
      | true =>
        go_wp2_with fail
        with_reducible refine HCK.out.mono ?_
        rintro e w5 ⟨rfl,hb5⟩
        have HB5 := Lib.hid hb5
        have HC2 := Lib.hid (HCF.out (by first | rfl | trivial) _ hb5)
        clear hb5
        go_wp2_with fail
        with_reducible refine HC2.out.mono ?_
        rintro e w6 ⟨rfl,hb6⟩
        have HB6 := Lib.hid (bel_tr HB5.out hb6)
        clear hb6
        go_wp2_with fail
        go_ret
        exact ⟨by simp [h1,h8],HB6.out⟩
    · have h8i : ¬ (n : Int) ≤ 8 := by omega
      go_wp2_with fail
      go_ret
      exact ⟨by simp [h8],Below.refl _ _⟩
  · have h1i : ¬ (1 : Int) ≤ (n : Int) := by omega
    go_wp2_with fail
    go_ret
    exact ⟨by simp [h1],Below.refl _ _⟩
def extNums (e : Ext) : List (Nat × Int) := [(3,e.fr),(4,e.n),(1,e.kind),(2,e.at_)]
def extRow (e : Ext) : List UInt8 := rowB (extNums e)
def leafL (l : List Ext) : List UInt8 := UInt8.ofNat l.length :: l.flatMap extRow
theorem ext_fit {e : Ext} (h : oneB e = true) : FitL (extNums e) := by
  obtain ⟨h1,h2,h3,h4⟩ := one_spec h
  refine ⟨?_,?_,?_,?_,by simp [extNums]⟩
  all_goals (intro p hp; simp only [extNums,List.mem_cons,List.not_mem_nil,or_false] at hp; rcases hp with rfl | rfl | rfl | rfl <;> simp <;> omega)
theorem extW_any (w : World) : Calls Tryz.prog 74 #[] w fun x w' => x = .returned (.slice (some ⟨w.heap.size,0,none⟩) 4 4) ∧ (∀ e : Ext,WidAt w' w.heap.size (extNums e)) ∧ Below w.heap.size w w' := by
  have HW : Hid (∀ e : Ext,WidAt (w.alloc (.cells #[.int .i64 3,.int .i64 4,.int .i64 1,.int .i64 2] 3)) w.heap.size (extNums e)) := by
    intro e j p hp
    have hw := Whole.new w 3 #[.int .i64 3,.int .i64 4,.int .i64 1,.int .i64 2]
    rw [hw.cell j]
    match j,hp with
    | 0,hp => simp [extNums] at hp; subst hp; rfl
    | 1,hp => simp [extNums] at hp; subst hp; rfl
    | 2,hp => simp [extNums] at hp; subst hp; rfl
    | 3,hp => simp [extNums] at hp; subst hp; rfl
    | j + 4,hp => simp [extNums] at hp
  go_enter Tryz.func74,Tryz.ntmps74
  go_wp2_with fail
  go_ret
  exact ⟨rfl,HW.out,(Below.refl _ _).alloc (Nat.le_refl _) _⟩
theorem str_app (a b : List UInt8) : (⟨a.toArray⟩ : ByteArray) ++ ⟨b.toArray⟩ = ⟨(a ++ b).toArray⟩ := by
  apply ByteArray.ext
  simp [ByteArray.data_append]
theorem extRow_len (e : Ext) : (extRow e).length = 10 := by simp [extRow,extNums,rowB,bytesOf_length]
theorem rows_len (l : List Ext) : (l.flatMap extRow).length = l.length * 10 := by
  induction l with
  | nil => rfl
  | cons e l ih => rw [List.flatMap_cons,List.length_append,ih,extRow_len,List.length_cons]; omega
end Go.Proofs.YtneammhkgmkkfaaGreatDoor.tr
namespace Go.Proofs.YtneammhkgmkkfaaGreatDoor.tr
open Go.RowKit Go.Proofs.YtneammhkgmkkfaaGreatDoor.er
set_option linter.unusedVariables false
set_option linter.unusedSimpArgs false
def Kid.val (k : Kid) : Value := .agg #[.int .i64 k.key,.int .i64 k.at_]
def Kid.cells (k : Kid) : List Value := [.int .i64 k.key,.int .i64 k.at_]
def kidCells (l : List Kid) : List Value := l.flatMap Kid.cells
theorem kidCells_len (l : List Kid) : (kidCells l).length = l.length * 2 := by
  induction l with
  | nil => rfl
  | cons k l ih =>
    have e : kidCells (k :: l) = .int .i64 k.key :: .int .i64 k.at_ :: kidCells l := by simp [kidCells,Kid.cells]
    rw [e,List.length_cons,List.length_cons,ih,List.length_cons]; omega
theorem kidCells_snoc (l : List Kid) (k : Kid) : kidCells (l ++ [k]) = kidCells l ++ [.int .i64 k.key,.int .i64 k.at_] := by simp [kidCells,Kid.cells]
theorem kidCells_at : ∀ (l : List Kid) (j : Nat) (k : Kid),l[j]? = some k → (kidCells l)[j * 2]? = some (.int .i64 k.key) ∧ (kidCells l)[j * 2 + 1]? = some (.int .i64 k.at_)
  | [],j,k,h => by simp at h
  | x :: l,0,k,h => by
    simp at h; subst h
    simp [kidCells,Kid.cells]
  | x :: l,j + 1,k,h => by
    have := kidCells_at l j k (by simpa using h)
    have e : kidCells (x :: l) = .int .i64 x.key :: .int .i64 x.at_ :: kidCells l := by simp [kidCells,Kid.cells]
    rw [e,show (j + 1) * 2 = j * 2 + 1 + 1 by omega]
    simpa using this
def KidAt (w : World) (g o : Nat) (k : Kid) : Prop := w.cell? ⟨g,o,none⟩ = some (.int .i64 k.key) ∧ w.cell? ⟨g,o + 1,none⟩ = some (.int .i64 k.at_)
def KidsAt (w : World) (v : Value) (l : List Kid) : Prop := ∃ A c,v = .slice A l.length c ∧ (l.length ≤ c ∧ c ≤ maxLen) ∧ (0 < l.length → ∃ g o,A = some ⟨g,o,none⟩ ∧ ∀ (j : Nat) (k : Kid),l[j]? = some k → KidAt w g (o + j * 2) k)
theorem KidAt.below {w w' : World} {g o : Nat} {k : Kid} (h : KidAt w g o k) (hb : Below w.heap.size w w') : KidAt w' g o k := ⟨below_c hb h.1,below_c hb h.2⟩
theorem KidsAt.below {w w' : World} {v : Value} {l : List Kid} (h : KidsAt w v l) (hb : Below w.heap.size w w') : KidsAt w' v l := by
  obtain ⟨A,c,rfl,h1,h2⟩ := h
  refine ⟨A,c,rfl,h1,fun h0 => ?_⟩
  obtain ⟨g,o,rfl,hc⟩ := h2 h0
  exact ⟨g,o,rfl,fun j e he => (hc j e he).below hb⟩
theorem KidsAt.own {w : World} {B n : Nat} {v : Value} {l : List Kid} (h : w.ownsRow B 123 2 v n (kidCells l)) : KidsAt w v l ∧ l.length = n := by
  obtain ⟨A,c,rfl⟩ := own_slice h
  have hl : (kidCells l).length = n * 2 := own_lenE h
  have hn : l.length = n := by rw [kidCells_len] at hl; omega
  refine ⟨⟨A,c,by rw [hn],by rw [hn]; exact own_cap h,fun h0 => ?_⟩,hn⟩
  obtain ⟨g,rfl,_,_,_,hc,_⟩ := own_cell h (by omega)
  refine ⟨g,0,rfl,fun j k hk => ?_⟩
  obtain ⟨q1,q2⟩ := kidCells_at l j k hk
  rw [Nat.zero_add]
  exact ⟨hc _ _ q1,hc _ _ q2⟩
theorem KidsAt.take {w : World} {l : List Kid} {A : Option Addr} {n c : Nat} (h : KidsAt w (.slice A n c) l) (j : Nat) (hj : j ≤ n) : KidsAt w (.slice A j c) (l.take j) := by
  obtain ⟨A',c',e,h1,h2⟩ := h
  injection e with e1 e2 e3
  subst e1 e3
  have hl : (l.take j).length = j := by rw [List.length_take]; omega
  refine ⟨A,c,by rw [hl],by rw [hl]; omega,fun h0 => ?_⟩
  obtain ⟨g,o,rfl,hc⟩ := h2 (by omega)
  refine ⟨g,o,rfl,fun i k hk => hc i k ?_⟩
  rw [List.getElem?_take] at hk
  split at hk
  · exact hk
  · simp at hk
def idxK (p : Kid → Bool) (l : List Kid) : Int := match l.findIdx? p with | some i => i | none => -1
theorem idxK_hit {p : Kid → Bool} {l : List Kid} {j : Nat} {e : Kid} (h : l[j]? = some e) (hp : p e = true) (hn : ∀ i x,i < j → l[i]? = some x → p x = false) : idxK p l = j := by
  have hj := (List.getElem?_eq_some_iff.1 h).1
  have : l.findIdx? p = some j := by
    rw [List.findIdx?_eq_some_iff_getElem]
    refine ⟨hj,?_,fun i hi => ?_⟩
    · rw [List.getElem?_eq_getElem hj] at h; injection h with h; rw [h]; exact hp
    · have := hn i _ hi (List.getElem?_eq_getElem (by omega))
      simpa using this
  unfold idxK
  rw [this]
theorem idxK_miss {p : Kid → Bool} {l : List Kid} (hn : ∀ i x,i < l.length → l[i]? = some x → p x = false) : idxK p l = -1 := by
  have : l.findIdx? p = none := by
    rw [List.findIdx?_eq_none_iff]
    intro x hx
    obtain ⟨i,hi,rfl⟩ := List.mem_iff_getElem.1 hx
    exact hn i _ hi (List.getElem?_eq_getElem hi)
  unfold idxK
  rw [this]
theorem idxK_anyB (p : Kid → Bool) (l : List Kid) : decide (0 ≤ idxK p l) = l.any p := by
  unfold idxK
  cases h : l.findIdx? p with
  | none =>
    rw [List.findIdx?_eq_none_iff] at h
    have : l.any p = false := by rw [List.any_eq_false]; intro x hx; rw [h x hx]; simp
    rw [this]; rfl
  | some i =>
    obtain ⟨hi,h1,h2⟩ := List.findIdx?_eq_some_iff_getElem.1 h
    have : l.any p = true := List.any_eq_true.2 ⟨_,List.getElem_mem hi,h1⟩
    rw [this]
    simp
set_option maxHeartbeats 4000000 in
set_option maxRecDepth 100000 in
theorem idxKF_any (p : Kid → Bool) (g : Nat) (lb : Array Value) (l : List Kid) (v : Value) (w : World) (eg : ∀ args w,(callFunc g args).run Tryz.prog w = .ok (.enter g args) w) (h : KidsAt w v l) (hl : l.length ≤ 100000000)
    (hp : ∀ e wq,e ∈ l → Below w.heap.size w wq → Calls Tryz.prog g (#[e.val] ++ lb) wq fun x w' => x = .returned (.bool (p e)) ∧ Below wq.heap.size wq w') :
    Calls Tryz.prog 136 #[v,.func (.func g) #[] lb] w fun x w' => x = .returned (.int .i64 (idxK p l)) ∧ Below w.heap.size w w' := by
  obtain ⟨A,c,rfl,hcap,hc⟩ := h
  have HC := Lib.hid hc
  have HP := Lib.hid hp
  obtain ⟨n,hn⟩ : ∃ n,l.length = n := ⟨_,rfl⟩
  rw [hn] at hl
  have HN := Lib.hid hn
  rw [hn]
  clear hc hn hp hcap
  go_enter Tryz.func136,Tryz.ntmps136
  go_wp2_with fail
  go_loopw [5,8] (fun s5 i wr => ∃ (j : Nat),j ≤ n ∧ i = .int .i64 j ∧ Hid (∀ i x,i < j → l[i]? = some x → p x = false) ∧ Hid (Below w.heap.size w wr)) (fun _ i _ => n - (intOf i).toNat)
  case atStart => exact ⟨0,Nat.zero_le _,rfl,fun i x hi => by omega,Below.refl _ _⟩
  case round =>
    obtain ⟨j,hj,rfl,HM,HB⟩ := hrel
    by_cases hlt : j < n
    · have hji : (j : Int) < (n : Int) := by omega
      have hln := HN.out
      obtain ⟨g2,o,rfl,hcc⟩ := HC.out (by omega)
      obtain ⟨e,hx⟩ : ∃ e,l[j]? = some e := ⟨l[j]'(by omega),List.getElem?_eq_getElem (by omega)⟩
      obtain ⟨c0,c1⟩ := (hcc j e hx).below HB.out
      have HX := Lib.hid hx
      have HCL := Lib.hid (HP.out e wr (List.mem_of_getElem? hx) HB.out)
      cases hpe : p e
      · have HM2 : Hid (∀ i x,i < j + 1 → l[i]? = some x → p x = false) := by
          show ∀ i x,i < j + 1 → l[i]? = some x → p x = false
          intro i x hi hxi
          by_cases h2 : i < j
          · exact HM.out i x h2 hxi
          · obtain rfl : i = j := by omega
            rw [HX.out] at hxi; injection hxi with hxi; rw [← hxi]; exact hpe
        rw [hpe] at HCL
        obtain ⟨f,t⟩ := e
        simp only at c0 c1
        simp only [Kid.val] at HCL
        clear hcc hx hln hpe
        go_wp2_with fail
        refine (HCL.out).mono ?_
        rintro e w5 ⟨rfl,hb5⟩
        have HB5 := Lib.hid hb5
        clear hb5
        go_wp2_with fail
        go_roundw
        case rel => exact ⟨j + 1,by omega,by go_num,HM2,HB.out.trans (HB5.out.mono HB.out.size)⟩
        case measure => simp [intOf]; omega
      · have HI : Hid (idxK p l = j) := idxK_hit HX.out hpe HM.out
        rw [hpe] at HCL
        obtain ⟨f,t⟩ := e
        simp only at c0 c1
        simp only [Kid.val] at HCL
        clear hcc hx hln hpe
        go_wp2_with fail
        refine (HCL.out).mono ?_
        rintro e w5 ⟨rfl,hb5⟩
        have HB5 := Lib.hid hb5
        clear hb5
        go_wp2_with fail
        go_ret
        exact ⟨by rw [HI.out]; rfl,HB.out.trans (HB5.out.mono HB.out.size)⟩
    · obtain rfl : j = n := by omega
      have HI : Hid (idxK p l = -1) := idxK_miss (fun i x hi => HM.out i x (by have := HN.out; omega))
      go_wp2_with fail
      go_ret
      exact ⟨by rw [HI.out]; rfl,HB.out⟩
theorem conKF_any (p : Kid → Bool) (g : Nat) (lb : Array Value) (l : List Kid) (v : Value) (w : World) (eg : ∀ args w,(callFunc g args).run Tryz.prog w = .ok (.enter g args) w) (h : KidsAt w v l) (hl : l.length ≤ 100000000)
    (hp : ∀ e wq,e ∈ l → Below w.heap.size w wq → Calls Tryz.prog g (#[e.val] ++ lb) wq fun x w' => x = .returned (.bool (p e)) ∧ Below wq.heap.size wq w') :
    Calls Tryz.prog 106 #[v,.func (.func g) #[] lb] w fun x w' => x = .returned (.bool (l.any p)) ∧ Below w.heap.size w w' := by
  have HI := Lib.hid (idxKF_any p g lb l v w eg h hl hp)
  have HA := Lib.hid (idxK_anyB p l)
  obtain ⟨z,hz⟩ : ∃ z,idxK p l = z := ⟨_,rfl⟩
  rw [hz] at HI HA
  clear h hp eg hz
  go_enter Tryz.func106,Tryz.ntmps106
  go_wp2_with fail
  refine (HI.out).mono ?_
  rintro e w5 ⟨rfl,hb5⟩
  have HB5 := Lib.hid hb5
  clear hb5
  go_wp2_with fail
  go_ret
  exact ⟨by rw [← HA.out]; rfl,HB5.out⟩
theorem kdt_any (k : Kid) (p : Nat) (s : Int) (w : World) (hp : w.cell? ⟨p,1,none⟩ = some (.int .i64 s)) : Calls Tryz.prog 107 #[k.val,.pointer (some ⟨p,0,none⟩)] w fun x w' => x = .returned (.bool (decide (k.at_ = s))) ∧ Below w.heap.size w w' := by
  obtain ⟨f,t⟩ := k
  show Calls Tryz.prog 107 #[.agg #[.int .i64 f,.int .i64 t],.pointer (some ⟨p,0,none⟩)] w _
  have hb := (Below.refl w.heap.size w).alloc (Nat.le_refl _) (.cells #[.int .i64 f,.int .i64 t] 123)
  have c1 := below_c hb hp
  have HB := Lib.hid hb
  clear hp hb
  go_enter Tryz.func107,Tryz.ntmps107
  go_wp2_with fail
  go_ret
  exact ⟨by first | rfl | (rw [beq_dec]; rfl),HB.out⟩
def kidB (k : Kid) : Bool := decide (0 ≤ k.key) && decide (k.key < 16777216) && decide (0 ≤ k.at_) && decide (k.at_ < 2048)
structure KidsOk (l : List Kid) : Prop where
  each : ∀ k ∈ l,kidB k = true
  inc : l.Pairwise fun a b => a.key < b.key
  ne : l.Pairwise fun a b => a.at_ ≠ b.at_
theorem KidsOk.nil : KidsOk [] := ⟨by simp,.nil,.nil⟩
theorem KidsOk.take {l : List Kid} (h : KidsOk l) (j : Nat) : KidsOk (l.take j) := ⟨fun k hk => h.each k (List.mem_of_mem_take hk),h.inc.sublist (List.take_sublist _ _),h.ne.sublist (List.take_sublist _ _)⟩
theorem kid_snoc {l : List Kid} {j : Nat} {k : Kid} (h : l[j]? = some k) : l.take (j + 1) = l.take j ++ [k] := by rw [List.take_add_one,h]; rfl
theorem KidsOk.next {l : List Kid} {j : Nat} {k : Kid} (h : KidsOk (l.take j)) (hk : l[j]? = some k) (h1 : kidB k = true) (h2 : ∀ p i,j = i + 1 → l[i]? = some p → p.key < k.key) (h3 : (l.take j).any (fun o => decide (o.at_ = k.at_)) = false) : KidsOk (l.take (j + 1)) := by
  rw [kid_snoc hk]
  refine ⟨fun x hx => ?_,?_,?_⟩
  · rcases List.mem_append.1 hx with hx | hx
    · exact h.each x hx
    · rw [List.mem_singleton.1 hx]; exact h1
  · refine List.pairwise_append.2 ⟨h.inc,by simp,fun x hx y hy => ?_⟩
    rw [List.mem_singleton.1 hy]
    have hj : 0 < j := by
      cases j with
      | zero => simp at hx
      | succ j => omega
    obtain ⟨i,rfl⟩ : ∃ i,j = i + 1 := ⟨j - 1,by omega⟩
    have hjl := (List.getElem?_eq_some_iff.1 hk).1
    have hp : l[i]? = some (l[i]'(by omega)) := List.getElem?_eq_getElem (by omega)
    have h4 := h2 _ i rfl hp
    rw [kid_snoc hp] at hx
    rcases List.mem_append.1 hx with hx | hx
    · have h5 := h.inc
      rw [kid_snoc hp] at h5
      have := (List.pairwise_append.1 h5).2.2 x hx _ (List.mem_singleton.2 rfl)
      omega
    · rw [List.mem_singleton.1 hx]; exact h4
  · refine List.pairwise_append.2 ⟨h.ne,by simp,fun x hx y hy => ?_⟩
    rw [List.mem_singleton.1 hy]
    rw [List.any_eq_false] at h3
    have := h3 x hx
    simpa using this
theorem KidsOk.bad {l : List Kid} {j : Nat} {k : Kid} (hk : l[j]? = some k) (h : kidB k = false ∨ (∃ p i,j = i + 1 ∧ l[i]? = some p ∧ k.key ≤ p.key) ∨ (l.take j).any (fun o => decide (o.at_ = k.at_)) = true) : ¬ KidsOk l := by
  intro hl
  rcases h with h | ⟨p,i,rfl,hp,h⟩ | h
  · rw [hl.each k (List.mem_of_getElem? hk)] at h; cases h
  · obtain ⟨i1,e1⟩ := List.getElem?_eq_some_iff.1 hp
    obtain ⟨i2,e2⟩ := List.getElem?_eq_some_iff.1 hk
    have := List.pairwise_iff_getElem.1 hl.inc i (i + 1) i1 i2 (by omega)
    rw [e1,e2] at this
    omega
  · obtain ⟨o,ho,he⟩ := List.any_eq_true.1 h
    have h2 := (hl.take (j + 1)).ne
    rw [kid_snoc hk] at h2
    have := (List.pairwise_append.1 h2).2.2 o ho k (List.mem_singleton.2 rfl)
    simp at he
    exact this he
def KidsRet (l : List Kid) (w : World) (x : Ending) (w' : World) : Prop := ∃ b,x = .returned (.bool b) ∧ (b = true ↔ 2 ≤ l.length ∧ l.length ≤ 8 ∧ KidsOk l) ∧ Below w.heap.size w w'
set_option maxHeartbeats 8000000 in
set_option maxRecDepth 100000 in
theorem kids_any (l : List Kid) (v : Value) (w : World) (h : KidsAt w v l) (hl : l.length ≤ 100000000) : Calls Tryz.prog 79 #[v] w (KidsRet l w) := by
  have HKA := Lib.hid h
  obtain ⟨A,c,rfl,⟨hcap1,hcap2⟩,hcc⟩ := h
  have HC := Lib.hid hcc
  obtain ⟨n,hn⟩ : ∃ n,l.length = n := ⟨_,rfl⟩
  have HN := Lib.hid hn
  rw [hn] at hl hcap1 HC HKA ⊢
  have hni : (n : Int) ≤ 100000000 := by omega
  have hci : (n : Int) ≤ (c : Int) := by omega
  have hcm : (c : Int) ≤ 9223372036854775807 := by simp only [maxLen] at hcap2; omega
  have HYES : Hid (∀ w',2 ≤ n → n ≤ 8 → KidsOk l → Below w.heap.size w w' → KidsRet l w (.returned (.bool true)) w') := fun w' h1 h2 h3 hb => ⟨true,rfl,by rw [HN.out]; exact ⟨fun _ => ⟨h1,h2,h3⟩,fun _ => rfl⟩,hb⟩
  have HNO : Hid (∀ w',¬ (2 ≤ n ∧ n ≤ 8 ∧ KidsOk l) → Below w.heap.size w w' → KidsRet l w (.returned (.bool false)) w') := fun w' h1 hb => ⟨false,rfl,by rw [HN.out]; exact ⟨fun h => (by cases h),fun h => absurd h h1⟩,hb⟩
  clear hcc hn hcap2
  go_enter Tryz.func79,Tryz.ntmps79
  by_cases h2 : 2 ≤ n
  · have h2i : ¬ (n : Int) < 2 := by omega
    by_cases h8 : n ≤ 8
    · have h8i : ¬ (8 : Int) < (n : Int) := by omega
      have H2 := Lib.hid h2
      have H8 := Lib.hid h8
      clear h2 h8
      go_wp2_with fail
      go_loopw [3,15] (fun s3 i wr => ∃ j : Nat,j ≤ n ∧ i = .int .i64 j ∧ Hid (KidsOk (l.take j)) ∧ Hid (Below w.heap.size w wr)) (fun _ i _ => n - (intOf i).toNat)
      case atStart => exact ⟨0,Nat.zero_le _,rfl,by show KidsOk _; rw [List.take_zero]; exact KidsOk.nil,Below.refl _ _⟩
      case round =>
        obtain ⟨j,hj,rfl,HKO,HB⟩ := hrel
        by_cases hlt : j < n
        · have hji : (j : Int) < (n : Int) := by omega
          obtain ⟨g,o,rfl,hc⟩ := HC.out (by omega)
          obtain ⟨k,hk⟩ : ∃ k,l[j]? = some k := ⟨_,List.getElem?_eq_getElem (by rw [HN.out]; exact hlt)⟩
          obtain ⟨c0,c1⟩ := (hc j k hk).below HB.out
          have HK := Lib.hid hk
          have HHC := Lib.hid hc
          have hszr := HB.out.size
          obtain ⟨ky,ka⟩ := k
          simp only at c0 c1
          have HWK := Lib.hid (Whole.new wr 123 #[.int .i64 ky,.int .i64 ka])
          have HBA : Hid (Below w.heap.size w (wr.alloc (.cells #[.int .i64 ky,.int .i64 ka] 123))) := HB.out.alloc hszr _
          have e0 : (wr.alloc (.cells #[.int .i64 ky,.int .i64 ka] 123)).cell? ⟨wr.heap.size,0,none⟩ = some (.int .i64 ky) := HWK.out.cell 0
          have e1 : (wr.alloc (.cells #[.int .i64 ky,.int .i64 ka] 123)).cell? ⟨wr.heap.size,1,none⟩ = some (.int .i64 ka) := HWK.out.cell 1
          have HNOQ : Hid (∀ m,¬ KidsOk l → KidsRet l w (.returned (.bool false)) ((wr.alloc (.cells #[.int .i64 ky,.int .i64 ka] 123)).drewN m)) := fun m hbad => HNO.out _ (fun h => hbad h.2.2) (below_drewN HBA.out _)
          clear hc hk hszr
          by_cases k1 : ky < 0
          · have k1d : decide (ky < 0) = true := by simpa using k1
            have HBAD : Hid (¬ KidsOk l) := KidsOk.bad HK.out (.inl (by unfold kidB; simp; omega))
            clear k1
            go_wp2_with fail
            go_quiet (fail)
            go_wp2_with fail
            go_ret
            exact HNOQ.out _ HBAD.out
          · have k1d : decide (ky < 0) = false := by simpa using k1
            by_cases k2 : 16777216 ≤ ky
            · have k2d : decide ((16777216 : Int) ≤ ky) = true := by simpa using k2
              have HBAD : Hid (¬ KidsOk l) := KidsOk.bad HK.out (.inl (by unfold kidB; simp; omega))
              clear k2
              go_wp2_with fail
              go_quiet (fail)
              go_wp2_with fail
              go_ret
              exact HNOQ.out _ HBAD.out
            · have k2d : decide ((16777216 : Int) ≤ ky) = false := by simpa using k2
              by_cases k3 : ka < 0
              · have k3d : decide (ka < 0) = true := by simpa using k3
                have HBAD : Hid (¬ KidsOk l) := KidsOk.bad HK.out (.inl (by unfold kidB; simp; omega))
                clear k3
                go_wp2_with fail
                go_quiet (fail)
                go_wp2_with fail
                go_ret
                exact HNOQ.out _ HBAD.out
              · have k3d : decide (ka < 0) = false := by simpa using k3
                by_cases k4 : 2048 ≤ ka
                · have k4d : decide ((2048 : Int) ≤ ka) = true := by simpa using k4
                  have HBAD : Hid (¬ KidsOk l) := KidsOk.bad HK.out (.inl (by unfold kidB; simp; omega))
                  clear k4
                  go_wp2_with fail
                  go_quiet (fail)
                  go_wp2_with fail
                  go_ret
                  exact HNOQ.out _ HBAD.out
                · have k4d : decide ((2048 : Int) ≤ ka) = false := by simpa using k4
                  have HKB : Hid (kidB ⟨ky,ka⟩ = true) := by show _ = _; unfold kidB; simp; omega
                  have HKD : Hid ((l.take j).any (fun o => decide (o.at_ = ka)) = true → ¬ KidsOk l) := fun h => KidsOk.bad HK.out (.inr (.inr h))
                  have HCON : Hid (∀ wq,Below (wr.alloc (.cells #[.int .i64 ky,.int .i64 ka] 123)).heap.size (wr.alloc (.cells #[.int .i64 ky,.int .i64 ka] 123)) wq → Calls Tryz.prog 106 #[.slice (some ⟨g,o,none⟩) j c,.func (.func 107) #[] #[.pointer (some ⟨wr.heap.size,0,none⟩)]] wq fun x w' => x = .returned (.bool ((l.take j).any fun o => decide (o.at_ = ka))) ∧ Below wq.heap.size wq w') := by
                    intro wq hb
                    have hkw := (HKA.out.below (HBA.out.trans (hb.mono HBA.out.size))).take j (by omega)
                    refine conKF_any (fun o => decide (o.at_ = ka)) 107 #[.pointer (some ⟨wr.heap.size,0,none⟩)] (l.take j) _ wq (fun _ _ => by kernel_rfl) hkw (by rw [List.length_take,HN.out]; omega) (fun e w9 _ hb9 => ?_)
                    have h9 := (HWK.out.below hb (by simp)).below hb9 (by have := hb.size; simp at this; omega)
                    have := kdt_any e wr.heap.size ka w9 (h9.cell 1)
                    simpa using this
                  have HNXT : Hid ((∀ p i,j = i + 1 → l[i]? = some p → p.key < ky) → (l.take j).any (fun o => decide (o.at_ = ka)) = false → KidsOk (l.take (j + 1))) := fun h1 h2 => KidsOk.next HKO.out HK.out HKB.out h1 h2
                  have HBB : Hid (∀ wq,Below (wr.alloc (.cells #[.int .i64 ky,.int .i64 ka] 123)).heap.size (wr.alloc (.cells #[.int .i64 ky,.int .i64 ka] 123)) wq → Below w.heap.size w wq) := fun wq hb => HBA.out.trans (hb.mono HBA.out.size)
                  clear k1 k2 k3 k4
                  obtain ⟨any,hany⟩ : ∃ any,(l.take j).any (fun o => decide (o.at_ = ka)) = any := ⟨_,rfl⟩
                  rw [hany] at HKD HCON HNXT
                  clear hany
                  have hjc : (j : Int) ≤ (c : Int) := by omega
                  by_cases hj0 : j = 0
                  · have hj0d : decide (0 < j) = false := by simp [hj0]
                    have HPRE : Hid (∀ p i,j = i + 1 → l[i]? = some p → p.key < ky) := fun p i h => by omega
                    clear hj0
                    go_wp2_with fail
                    go_quiet (fail)
                    generalize hwq : World.drewN _ _ = wq
                    have HBQ : Hid (Below (wr.alloc (.cells #[.int .i64 ky,.int .i64 ka] 123)).heap.size (wr.alloc (.cells #[.int .i64 ky,.int .i64 ka] 123)) wq) := by show Below _ _ _; rw [← hwq]; exact below_drewN (Below.refl _ _) _
                    clear hwq c0 c1 e0 e1
                    have HCQ := Lib.hid (HCON.out wq HBQ.out)
                    cases any with
                    | true =>
                      go_wp2_with fail
                      with_reducible refine HCQ.out.mono ?_
                      rintro e w5 ⟨rfl,hb5⟩
                      have HB5 := Lib.hid (HBB.out _ (HBQ.out.trans (hb5.mono HBQ.out.size)))
                      clear hb5
                      go_wp2_with fail
                      go_ret
                      exact HNO.out _ (fun h => HKD.out (by first | rfl | trivial) h.2.2) HB5.out
                    | false =>
                      go_wp2_with fail
                      with_reducible refine HCQ.out.mono ?_
                      rintro e w5 ⟨rfl,hb5⟩
                      have HB5 := Lib.hid (HBB.out _ (HBQ.out.trans (hb5.mono HBQ.out.size)))
                      clear hb5
                      go_wp2_with fail
                      go_roundw
                      case rel => exact ⟨j + 1,by omega,by go_num,HNXT.out HPRE.out (by first | rfl | trivial),HB5.out⟩
                      case measure => simp [intOf]; omega
                  · have hj0d : decide (0 < j) = true := by simp; omega
                    obtain ⟨i,hi⟩ : ∃ i,j = i + 1 := ⟨j - 1,by omega⟩
                    obtain ⟨p,hp⟩ : ∃ p,l[i]? = some p := ⟨_,List.getElem?_eq_getElem (by rw [HN.out]; omega)⟩
                    obtain ⟨d0,d1⟩ := ((HHC.out i p hp).below HB.out).below ((Below.refl _ wr).alloc (Nat.le_refl _) (.cells #[.int .i64 ky,.int .i64 ka] 123))
                    have hwi : IntKind.i64.wrap ((j : Int) - 1) = (i : Int) := by rw [hi,show ((i + 1 : Nat) : Int) - 1 = (i : Int) by omega]; simp [IntKind.wrap,IntKind.bits,IntKind.signed]; omega
                    have hii : (i : Int) < (n : Int) := by omega
                    have HP := Lib.hid hp
                    have HI := Lib.hid hi
                    obtain ⟨py,pa⟩ := p
                    simp only at d0 d1
                    clear hj0 hp hi
                    by_cases k5 : ky ≤ py
                    · have k5d : decide (ky ≤ py) = true := by simpa using k5
                      have HBAD : Hid (¬ KidsOk l) := KidsOk.bad HK.out (.inr (.inl ⟨_,i,HI.out,HP.out,k5⟩))
                      clear k5
                      go_wp2_with fail
                      go_quiet (fail)
                      go_wp2_with fail
                      go_ret
                      exact HNOQ.out _ HBAD.out
                    · have k5d : decide (ky ≤ py) = false := by simpa using k5
                      have HPRE : Hid (∀ p i,j = i + 1 → l[i]? = some p → p.key < ky) := by
                        intro p i2 h h2
                        have := HI.out
                        obtain rfl : i2 = i := by omega
                        rw [HP.out] at h2
                        injection h2 with h2
                        rw [← h2]
                        simp only
                        omega
                      clear k5
                      go_wp2_with fail
                      go_quiet (fail)
                      generalize hwq : World.drewN _ _ = wq
                      have HBQ : Hid (Below (wr.alloc (.cells #[.int .i64 ky,.int .i64 ka] 123)).heap.size (wr.alloc (.cells #[.int .i64 ky,.int .i64 ka] 123)) wq) := by show Below _ _ _; rw [← hwq]; exact below_drewN (Below.refl _ _) _
                      clear hwq c0 c1 e0 e1 d0 d1
                      have HCQ := Lib.hid (HCON.out wq HBQ.out)
                      cases any with
                      | true =>
                        go_wp2_with fail
                        with_reducible refine HCQ.out.mono ?_
                        rintro e w5 ⟨rfl,hb5⟩
                        have HB5 := Lib.hid (HBB.out _ (HBQ.out.trans (hb5.mono HBQ.out.size)))
                        clear hb5
                        go_wp2_with fail
                        go_ret
                        exact HNO.out _ (fun h => HKD.out (by first | rfl | trivial) h.2.2) HB5.out
                      | false =>
                        go_wp2_with fail
                        with_reducible refine HCQ.out.mono ?_
                        rintro e w5 ⟨rfl,hb5⟩
                        have HB5 := Lib.hid (HBB.out _ (HBQ.out.trans (hb5.mono HBQ.out.size)))
                        clear hb5
                        go_wp2_with fail
                        go_roundw
                        case rel => exact ⟨j + 1,by omega,by go_num,HNXT.out HPRE.out (by first | rfl | trivial),HB5.out⟩
                        case measure => simp [intOf]; omega
        · obtain rfl : j = n := by omega
          have hfull : l.take j = l := by rw [← HN.out]; exact List.take_length
          rw [hfull] at HKO
          clear hfull
          go_wp2_with fail
          go_ret
          exact HYES.out _ H2.out H8.out HKO.out HB.out
    · have h8i : (8 : Int) < (n : Int) := by omega
      go_wp2_with fail
      go_ret
      exact HNO.out _ (fun h => h8 h.2.1) (Below.refl _ _)
  · have h2i : (n : Int) < 2 := by omega
    go_wp2_with fail
    go_ret
    exact HNO.out _ (fun h => h2 h.1) (Below.refl _ _)
end Go.Proofs.YtneammhkgmkkfaaGreatDoor.tr
namespace Go.Proofs.YtneammhkgmkkfaaGreatDoor.tr
open Go.RowKit Go.Proofs.YtneammhkgmkkfaaGreatDoor.er
set_option linter.unusedVariables false
set_option linter.unusedSimpArgs false
def kidNums (k : Kid) : List (Nat × Int) := [(3,k.key),(2,k.at_)]
def kidRow (k : Kid) : List UInt8 := rowB (kidNums k)
def innerL (l : List Kid) : List UInt8 := UInt8.ofNat l.length :: l.flatMap kidRow
theorem kidW_any (w : World) : Calls Tryz.prog 78 #[] w fun x w' => x = .returned (.slice (some ⟨w.heap.size,0,none⟩) 2 2) ∧ (∀ e : Kid,WidAt w' w.heap.size (kidNums e)) ∧ Below w.heap.size w w' := by
  have HW : Hid (∀ e : Kid,WidAt (w.alloc (.cells #[.int .i64 3,.int .i64 2] 3)) w.heap.size (kidNums e)) := by
    intro e j p hp
    have hw := Whole.new w 3 #[.int .i64 3,.int .i64 2]
    rw [hw.cell j]
    match j,hp with
    | 0,hp => simp [kidNums] at hp; subst hp; rfl
    | 1,hp => simp [kidNums] at hp; subst hp; rfl
    | j + 2,hp => simp [kidNums] at hp
  go_enter Tryz.func78,Tryz.ntmps78
  go_wp2_with fail
  go_ret
  exact ⟨rfl,HW.out,(Below.refl _ _).alloc (Nat.le_refl _) _⟩
end Go.Proofs.YtneammhkgmkkfaaGreatDoor.tr
namespace Go.Proofs.YtneammhkgmkkfaaGreatDoor.tr
open Go.RowKit Go.Proofs.YtneammhkgmkkfaaGreatDoor.er
set_option linter.unusedVariables false
set_option linter.unusedSimpArgs false
end Go.Proofs.YtneammhkgmkkfaaGreatDoor.tr
namespace Go.Proofs.YtneammhkgmkkfaaGreatDoor.tr
open Go.RowKit Go.Proofs.YtneammhkgmkkfaaGreatDoor.er
set_option linter.unusedVariables false
set_option linter.unusedSimpArgs false
abbrev Bk := List (Int × ByteArray)
end Go.Proofs.YtneammhkgmkkfaaGreatDoor.tr
namespace Go.Proofs.YtneammhkgmkkfaaGreatDoor.tr
open Go.RowKit Go.Proofs.YtneammhkgmkkfaaGreatDoor.er
set_option linter.unusedVariables false
set_option linter.unusedSimpArgs false
end Go.Proofs.YtneammhkgmkkfaaGreatDoor.tr
namespace Go.Proofs.YtneammhkgmkkfaaGreatDoor.tr
open Go.RowKit Go.Proofs.YtneammhkgmkkfaaGreatDoor.er
set_option linter.unusedVariables false
set_option linter.unusedSimpArgs false
end Go.Proofs.YtneammhkgmkkfaaGreatDoor.tr
