/- The document's Over (scoriaref10). -/
import Derived.Test.YtneammhkgmkkfaaGreatTzJ
import Derived.Test.YtneammhkgmkkfaaGreatTxG
import Derived.Test.YtneammhkgmkkfaaGreatTrMg
namespace Go.Proofs.YtneammhkgmkkfaaGreat.tr
open Go.RowKit Go.Proofs.YtneammhkgmkkfaaGreat.er
set_option linter.unusedVariables false
set_option linter.unusedSimpArgs false

def pp (o : List Ext) (p : Option Ext) : List Ext := match p with | none => o | some y => push o y
theorem parts_len2 (l : List Ext) (a b : Int) : (parts l a b).length ≤ l.length := List.length_filterMap_le _ _
theorem rPart_some {x y : Ext} {a b : Int} (h : partOf x a b = some y) : rPart x a b = y := by
  unfold partOf at h
  split at h
  · cases h
  · injection h
theorem rPart_no {x : Ext} {a b : Int} (h : partOf x a b = none) : (rPart x a b).n < 1 := by
  unfold partOf at h
  split at h
  · rename_i hh
    show min x.end_ b - max x.fr a < 1
    omega
  · cases h
theorem parts_snoc {l : List Ext} {a b : Int} {j : Nat} {x : Ext} (h : l[j]? = some x) (o : List Ext) : (parts (l.take (j + 1)) a b).foldl push o = pp ((parts (l.take j) a b).foldl push o) (partOf x a b) := by
  obtain ⟨hj, rfl⟩ := List.getElem?_eq_some_iff.1 h
  rw [List.take_succ_eq_append_getElem hj, parts_append, List.foldl_append]
  unfold parts pp
  cases hp : partOf l[j] a b <;> simp [hp]
theorem fold_len : ∀ (l o : List Ext), (l.foldl push o).length ≤ o.length + l.length
  | [], o => by simp
  | e :: l, o => by
    have h1 := fold_len l (push o e)
    have h2 := len_push o e
    simp only [List.foldl_cons, List.length_cons]
    omega
/-- A list of the document's that is the call's own: a row from a block on. -/
structure RL (w : World) (B : Nat) (v : Value) (l : List Ext) : Prop where
  own : w.ownsRow B 49 4 v l.length (extCells l)
  one : ∀ x ∈ l, oneB x = true
theorem RL.below {w w' : World} {B : Nat} {v : Value} {l : List Ext} (h : RL w B v l) (hb : Below w.heap.size w w') : RL w' B v l := ⟨own_below h.own hb, h.one⟩
theorem RL.nil (w : World) (B : Nat) : RL w B (.slice none 0 0) [] := ⟨⟨rfl, .inl ⟨rfl, rfl⟩⟩, by simp⟩
theorem rput_step (w : World) (B : Nat) (v : Value) (o : List Ext) (x : Ext) (a b : Int) (h : RL w B v o) (hB : B ≤ w.heap.size) (hl : o.length ≤ 50000000) (hx : oneB x = true) (ha : 0 ≤ a) (hb : b ≤ 16777216) :
    Calls Tryz.prog 50 #[v, (rPart x a b).val] w fun e w' => ∃ A m c, e = .returned (.slice A m c) ∧ RL w' B (.slice A m c) (pp o (partOf x a b)) ∧ Below w.heap.size w w' := by
  cases hp : partOf x a b with
  | none =>
    obtain ⟨A, c, rfl⟩ := own_slice h.own
    refine (rput_none o _ _ w (rPart_no hp)).mono ?_
    rintro e w' ⟨rfl, hbe⟩
    exact ⟨_, _, _, rfl, h.below hbe, hbe⟩
  | some y =>
    rw [rPart_some hp]
    have hy := (part_spec hp hx ha hb).1
    refine (rput_any o v y w (ExtsAt.ownT h.own).1 hl h.one hy).mono ?_
    rintro e w' ⟨v', rfl, h1, h2⟩
    obtain ⟨A, c, rfl⟩ := own_slice h1
    exact ⟨_, _, _, rfl, ⟨own_base h1 hB, push_one h.one hy⟩, h2⟩
theorem rput_own (w : World) (B : Nat) (v : Value) (o : List Ext) (y : Ext) (h : RL w B v o) (hB : B ≤ w.heap.size) (hl : o.length ≤ 50000000) (hy : oneB y = true) :
    Calls Tryz.prog 50 #[v, y.val] w fun e w' => ∃ A m c, e = .returned (.slice A m c) ∧ RL w' B (.slice A m c) (push o y) ∧ Below w.heap.size w w' := by
  refine (rput_any o v y w (ExtsAt.ownT h.own).1 hl h.one hy).mono ?_
  rintro e w' ⟨v', rfl, h1, h2⟩
  obtain ⟨A, c, rfl⟩ := own_slice h1
  exact ⟨_, _, _, rfl, ⟨own_base h1 hB, push_one h.one hy⟩, h2⟩
set_option maxHeartbeats 8000000 in
set_option maxRecDepth 100000 in
theorem rover_cut (l : List Ext) (v : Value) (e : Ext) (w : World) (h : ExtsAt w v l) (hl : l.length ≤ 16777216) (h1 : ∀ x ∈ l, oneB x = true) (e1 : 0 ≤ e.fr) (e2 : 0 ≤ e.n) (e3 : e.fr + e.n ≤ 16777216) :
    Calls Tryz.prog 26 #[v, e.val, .bool true] w fun x w' => ∃ A m c, x = .returned (.slice A m c) ∧ RL w' w.heap.size (.slice A m c) ((parts l e.end_ 16777216).foldl push ((parts l 0 e.fr).foldl push [])) ∧ Below w.heap.size w w' := by
  obtain ⟨A, c, rfl, hc⟩ := h
  have HC := Lib.hid hc
  obtain ⟨n, hn⟩ : ∃ n, l.length = n := ⟨_, rfl⟩
  have HN := Lib.hid hn
  rw [hn] at hl
  rw [hn]
  have HO1 := Lib.hid h1
  obtain ⟨f, en, k, t⟩ := e
  simp only at e1 e2 e3
  have hend : (⟨f, en, k, t⟩ : Ext).end_ = f + en := rfl
  rw [hend]
  obtain ⟨w1, hw1⟩ : ∃ w1, w.alloc (.cells #[.int .i64 f, .int .i64 en, .int .i64 k, .int .i64 t] 49) = w1 := ⟨_, rfl⟩
  have HB1 : Hid (Below w.heap.size w w1) := by show Below _ _ _; rw [← hw1]; exact (Below.refl _ _).alloc (Nat.le_refl _) _
  have hx : Whole w1 w.heap.size 49 #[.int .i64 f, .int .i64 en, .int .i64 k, .int .i64 t] := by rw [← hw1]; exact Whole.new _ _ _
  have hs1 : w1.heap.size = w.heap.size + 1 := by rw [← hw1]; simp
  have HXX : Hid (∀ wq, Below (w.heap.size + 1) w1 wq → (wq.cell? ⟨w.heap.size, 0, none⟩ = some (.int .i64 f) ∧ wq.cell? ⟨w.heap.size, 1, none⟩ = some (.int .i64 en) ∧ wq.cell? ⟨w.heap.size, 2, none⟩ = some (.int .i64 k) ∧ wq.cell? ⟨w.heap.size, 3, none⟩ = some (.int .i64 t)) ∧ Below w.heap.size w wq ∧ w.heap.size + 1 ≤ wq.heap.size) := fun wq hbq => ⟨(tmp4 (hx.below hbq (by omega))).1, HB1.out.trans (hbq.mono (by omega)), by have := hbq.size; omega⟩
  have hwz : wrap64 (f + en) = f + en := by unfold wrap64; omega
  have hwk : IntKind.i64.wrap (f + en) = f + en := by rw [IntKind.wrap_i64]; omega
  clear hend hs1 hx h1 hc hn
  show Calls Tryz.prog 26 #[.slice A n c, .agg #[.int .i64 f, .int .i64 en, .int .i64 k, .int .i64 t], .bool true] w _
  go_enter Tryz.func26, Tryz.ntmps26
  go_wp2_with fail
  go_loopw [7, 8] (fun nv i wr => ∃ (j : Nat) (A7 : Option Addr) (m7 c7 : Nat), j ≤ n ∧ i = .int .i64 j ∧ nv = .slice A7 m7 c7 ∧ Hid (RL wr w.heap.size (.slice A7 m7 c7) ((parts (l.take j) 0 f).foldl push [])) ∧ Hid (Below (w.heap.size + 1) w1 wr)) (fun _ i _ => n - (intOf i).toNat)
  case atStart => exact ⟨0, none, 0, 0, Nat.zero_le _, rfl, rfl, RL.nil _ _, Below.refl _ _⟩
  case round =>
    obtain ⟨j, A7, m7, c7, hj, rfl, rfl, HO, HB⟩ := hrel
    obtain ⟨⟨y0, y1, y2, y3⟩, hbw, hszr⟩ := HXX.out wr HB.out
    have HBW := Lib.hid hbw
    have HSZ := Lib.hid hszr
    clear hbw hszr
    by_cases hlt : j < n
    · have hji : (j : Int) < (n : Int) := by omega
      have hj0 : (0 : Int) ≤ (j : Int) := by omega
      have hln := HN.out
      obtain ⟨g, o, rfl, hcc⟩ := HC.out (by omega)
      obtain ⟨x, hx'⟩ : ∃ x, l[j]? = some x := ⟨l[j]'(by omega), List.getElem?_eq_getElem (by omega)⟩
      obtain ⟨c0, c1, c2, c3⟩ := (hcc j x hx').below HBW.out
      have hx1 : oneB x = true := HO1.out x (List.mem_of_getElem? hx')
      have HTK := Lib.hid (parts_snoc (a := 0) (b := f) hx' [])
      have HLE : Hid (((parts (l.take j) 0 f).foldl push []).length ≤ 50000000) := by show _ ≤ _; have h1 := fold_len (parts (l.take j) 0 f) []; have h2 := parts_len2 (l.take j) 0 f; have h3 : (l.take j).length ≤ j := by { rw [List.length_take]; omega }; simp only [List.length_nil] at h1; omega
      have HPT : Hid (∀ wq, Calls Tryz.prog 51 #[x.val, .int .i64 0, .int .i64 f] wq fun q w' => q = .returned (rPart x 0 f).val ∧ Below wq.heap.size wq w') := fun wq => rpart_any x 0 f wq hx1 (by omega) (by omega) (by omega) (by omega)
      have HPU : Hid (∀ wq, Below wr.heap.size wr wq → Calls Tryz.prog 50 #[.slice A7 m7 c7, (rPart x 0 f).val] wq fun q w' => ∃ A m c, q = .returned (.slice A m c) ∧ RL w' w.heap.size (.slice A m c) ((parts (l.take (j + 1)) 0 f).foldl push []) ∧ Below wq.heap.size wq w') := fun wq hb => by rw [HTK.out]; exact rput_step wq w.heap.size _ _ x 0 f (HO.out.below hb) (by have := hb.size; have := HSZ.out; omega) HLE.out hx1 (by omega) (by omega)
      obtain ⟨f', n', k', t'⟩ := x
      simp only at c0 c1 c2 c3
      have SA : Hid ((wr.cell? ⟨g, o + j * 4, none⟩ = some (.int .i64 f') ∧ wr.cell? ⟨g, o + j * 4 + 1, none⟩ = some (.int .i64 n') ∧ wr.cell? ⟨g, o + j * 4 + 2, none⟩ = some (.int .i64 k') ∧ wr.cell? ⟨g, o + j * 4 + 3, none⟩ = some (.int .i64 t')) ∧ (wr.cell? ⟨w.heap.size, 0, none⟩ = some (.int .i64 f) ∧ wr.cell? ⟨w.heap.size, 1, none⟩ = some (.int .i64 en) ∧ wr.cell? ⟨w.heap.size, 2, none⟩ = some (.int .i64 k) ∧ wr.cell? ⟨w.heap.size, 3, none⟩ = some (.int .i64 t))) := ⟨⟨c0, c1, c2, c3⟩, y0, y1, y2, y3⟩
      have HKA : Hid (∀ w', Below wr.heap.size wr w' → (w'.cell? ⟨g, o + j * 4, none⟩ = some (.int .i64 f') ∧ w'.cell? ⟨g, o + j * 4 + 1, none⟩ = some (.int .i64 n') ∧ w'.cell? ⟨g, o + j * 4 + 2, none⟩ = some (.int .i64 k') ∧ w'.cell? ⟨g, o + j * 4 + 3, none⟩ = some (.int .i64 t')) ∧ (w'.cell? ⟨w.heap.size, 0, none⟩ = some (.int .i64 f) ∧ w'.cell? ⟨w.heap.size, 1, none⟩ = some (.int .i64 en) ∧ w'.cell? ⟨w.heap.size, 2, none⟩ = some (.int .i64 k) ∧ w'.cell? ⟨w.heap.size, 3, none⟩ = some (.int .i64 t))) := fun w' hb => ⟨⟨below_c hb SA.out.1.1, below_c hb SA.out.1.2.1, below_c hb SA.out.1.2.2.1, below_c hb SA.out.1.2.2.2⟩, below_c hb SA.out.2.1, below_c hb SA.out.2.2.1, below_c hb SA.out.2.2.2.1, below_c hb SA.out.2.2.2.2⟩
      simp only [Ext.val] at HPT HPU
      clear hcc hx' hln hx1
      go_wp2_with fail
      go_region_held3 (fun w' => (w'.cell? ⟨g, o + j * 4, none⟩ = some (.int .i64 f') ∧ w'.cell? ⟨g, o + j * 4 + 1, none⟩ = some (.int .i64 n') ∧ w'.cell? ⟨g, o + j * 4 + 2, none⟩ = some (.int .i64 k') ∧ w'.cell? ⟨g, o + j * 4 + 3, none⟩ = some (.int .i64 t')) ∧ (w'.cell? ⟨w.heap.size, 0, none⟩ = some (.int .i64 f) ∧ w'.cell? ⟨w.heap.size, 1, none⟩ = some (.int .i64 en) ∧ w'.cell? ⟨w.heap.size, 2, none⟩ = some (.int .i64 k) ∧ w'.cell? ⟨w.heap.size, 3, none⟩ = some (.int .i64 t))) (first | with_reducible exact SA.out | with_reducible exact HKA.out _ HB6.out | with_reducible exact HKA.out _ HB5.out | exact HKA.out _ (Below.drew (Below.refl _ _))) ((first | (go_at_call 51; (with_reducible refine (HPT.out _).mono ?_); rintro q w5 ⟨rfl, hb5⟩; have HB5 : Hid (Below wr.heap.size wr w5) := Below.trans (Below.drew (Below.refl _ _)) hb5; clear hb5) | (go_at_call 50; (with_reducible refine (HPU.out _ HB5.out).mono ?_); rintro q w6 ⟨A6, m6, c6, rfl, hr6, hb6⟩; have HR6 := Lib.hid hr6; have HB6 : Hid (Below wr.heap.size wr w6) := bel_tr HB5.out hb6; clear hr6 hb6)))
      have HBN : Hid (Below (w.heap.size + 1) w1 w6) := HB.out.trans (HB6.out.mono HSZ.out)
      clear y0 y1 y2 y3 c0 c1 c2 c3
      go_wp2_with fail
      have hmeas : n - (intOf (.int .i64 ((j : Int) + 1))).toNat < n - (intOf (.int .i64 (j : Int))).toNat := by simp [intOf]; omega
      refine ⟨⟨j + 1, A6, m6, c6, ?_, ?_, rfl, ?_, ?_⟩, hmeas⟩
      · omega
      · go_num
      · with_reducible exact HR6
      · with_reducible exact HBN
    · obtain rfl : n = j := by omega
      have hfull : l.take n = l := by rw [← HN.out]; exact List.take_length
      rw [hfull] at HO
      obtain ⟨wo, hwo⟩ : ∃ wo, wo = wr := ⟨_, rfl⟩
      subst hwo
      go_wp2_with fail
      have HO2 := HO
      have HB2 := HB
      obtain ⟨MID, hMID⟩ : ∃ MID, (parts l 0 f).foldl push [] = MID := ⟨_, rfl⟩
      have HML : Hid (MID.length ≤ 20000000) := by show _ ≤ _; rw [← hMID]; have h1 := fold_len (parts l 0 f) []; have h2 := parts_len2 l 0 f; have h4 := HN.out; simp only [List.length_nil] at h1; omega
      rw [hMID] at HO2
      clear hfull
      go_loopw [7, 9] (fun nv i wr => ∃ (j : Nat) (A7 : Option Addr) (m7 c7 : Nat), j ≤ n ∧ i = .int .i64 j ∧ nv = .slice A7 m7 c7 ∧ Hid (RL wr w.heap.size (.slice A7 m7 c7) ((parts (l.take j) (f + en) 16777216).foldl push MID)) ∧ Hid (Below (w.heap.size + 1) w1 wr)) (fun _ i _ => n - (intOf i).toNat)
      case atStart => exact ⟨0, _, _, _, Nat.zero_le _, rfl, rfl, by show RL _ _ _ _; simpa [parts] using HO2.out, HB2.out⟩
      case round =>
        obtain ⟨j, A7, m7, c7, hj, rfl, rfl, HO, HB⟩ := hrel
        obtain ⟨⟨y0, y1, y2, y3⟩, hbw, hszr⟩ := HXX.out wr HB.out
        have HBW := Lib.hid hbw
        have HSZ := Lib.hid hszr
        clear hbw hszr
        by_cases hlt : j < n
        · have hji : (j : Int) < (n : Int) := by omega
          have hj0 : (0 : Int) ≤ (j : Int) := by omega
          have hln := HN.out
          obtain ⟨g, o, rfl, hcc⟩ := HC.out (by omega)
          obtain ⟨x, hx'⟩ : ∃ x, l[j]? = some x := ⟨l[j]'(by omega), List.getElem?_eq_getElem (by omega)⟩
          obtain ⟨c0, c1, c2, c3⟩ := (hcc j x hx').below HBW.out
          have hx1 : oneB x = true := HO1.out x (List.mem_of_getElem? hx')
          have HTK := Lib.hid (parts_snoc (a := f + en) (b := 16777216) hx' MID)
          have HLE : Hid (((parts (l.take j) (f + en) 16777216).foldl push MID).length ≤ 50000000) := by show _ ≤ _; have h1 := fold_len (parts (l.take j) (f + en) 16777216) MID; have h2 := parts_len2 (l.take j) (f + en) 16777216; have h3 : (l.take j).length ≤ j := by { rw [List.length_take]; omega }; have h5 := HML.out; omega
          have HPT : Hid (∀ wq, Calls Tryz.prog 51 #[x.val, .int .i64 (f + en), .int .i64 16777216] wq fun q w' => q = .returned (rPart x (f + en) 16777216).val ∧ Below wq.heap.size wq w') := fun wq => rpart_any x (f + en) 16777216 wq hx1 (by omega) (by omega) (by omega) (by omega)
          have HPU : Hid (∀ wq, Below wr.heap.size wr wq → Calls Tryz.prog 50 #[.slice A7 m7 c7, (rPart x (f + en) 16777216).val] wq fun q w' => ∃ A m c, q = .returned (.slice A m c) ∧ RL w' w.heap.size (.slice A m c) ((parts (l.take (j + 1)) (f + en) 16777216).foldl push MID) ∧ Below wq.heap.size wq w') := fun wq hb => by rw [HTK.out]; exact rput_step wq w.heap.size _ _ x (f + en) 16777216 (HO.out.below hb) (by have := hb.size; have := HSZ.out; omega) HLE.out hx1 (by omega) (by omega)
          obtain ⟨f', n', k', t'⟩ := x
          simp only at c0 c1 c2 c3
          have SA : Hid ((wr.cell? ⟨g, o + j * 4, none⟩ = some (.int .i64 f') ∧ wr.cell? ⟨g, o + j * 4 + 1, none⟩ = some (.int .i64 n') ∧ wr.cell? ⟨g, o + j * 4 + 2, none⟩ = some (.int .i64 k') ∧ wr.cell? ⟨g, o + j * 4 + 3, none⟩ = some (.int .i64 t')) ∧ (wr.cell? ⟨w.heap.size, 0, none⟩ = some (.int .i64 f) ∧ wr.cell? ⟨w.heap.size, 1, none⟩ = some (.int .i64 en) ∧ wr.cell? ⟨w.heap.size, 2, none⟩ = some (.int .i64 k) ∧ wr.cell? ⟨w.heap.size, 3, none⟩ = some (.int .i64 t))) := ⟨⟨c0, c1, c2, c3⟩, y0, y1, y2, y3⟩
          have HKA : Hid (∀ w', Below wr.heap.size wr w' → (w'.cell? ⟨g, o + j * 4, none⟩ = some (.int .i64 f') ∧ w'.cell? ⟨g, o + j * 4 + 1, none⟩ = some (.int .i64 n') ∧ w'.cell? ⟨g, o + j * 4 + 2, none⟩ = some (.int .i64 k') ∧ w'.cell? ⟨g, o + j * 4 + 3, none⟩ = some (.int .i64 t')) ∧ (w'.cell? ⟨w.heap.size, 0, none⟩ = some (.int .i64 f) ∧ w'.cell? ⟨w.heap.size, 1, none⟩ = some (.int .i64 en) ∧ w'.cell? ⟨w.heap.size, 2, none⟩ = some (.int .i64 k) ∧ w'.cell? ⟨w.heap.size, 3, none⟩ = some (.int .i64 t))) := fun w' hb => ⟨⟨below_c hb SA.out.1.1, below_c hb SA.out.1.2.1, below_c hb SA.out.1.2.2.1, below_c hb SA.out.1.2.2.2⟩, below_c hb SA.out.2.1, below_c hb SA.out.2.2.1, below_c hb SA.out.2.2.2.1, below_c hb SA.out.2.2.2.2⟩
          simp only [Ext.val] at HPT HPU
          clear hcc hx' hln hx1
          go_wp2_with fail
          go_region_held3 (fun w' => (w'.cell? ⟨g, o + j * 4, none⟩ = some (.int .i64 f') ∧ w'.cell? ⟨g, o + j * 4 + 1, none⟩ = some (.int .i64 n') ∧ w'.cell? ⟨g, o + j * 4 + 2, none⟩ = some (.int .i64 k') ∧ w'.cell? ⟨g, o + j * 4 + 3, none⟩ = some (.int .i64 t')) ∧ (w'.cell? ⟨w.heap.size, 0, none⟩ = some (.int .i64 f) ∧ w'.cell? ⟨w.heap.size, 1, none⟩ = some (.int .i64 en) ∧ w'.cell? ⟨w.heap.size, 2, none⟩ = some (.int .i64 k) ∧ w'.cell? ⟨w.heap.size, 3, none⟩ = some (.int .i64 t))) (first | with_reducible exact SA.out | with_reducible exact HKA.out _ HB6.out | with_reducible exact HKA.out _ HB5.out | exact HKA.out _ (Below.drew (Below.refl _ _))) ((first | (go_at_call 51; (with_reducible refine (HPT.out _).mono ?_); rintro q w5 ⟨rfl, hb5⟩; have HB5 : Hid (Below wr.heap.size wr w5) := Below.trans (Below.drew (Below.refl _ _)) hb5; clear hb5) | (go_at_call 50; (with_reducible refine (HPU.out _ HB5.out).mono ?_); rintro q w6 ⟨A6, m6, c6, rfl, hr6, hb6⟩; have HR6 := Lib.hid hr6; have HB6 : Hid (Below wr.heap.size wr w6) := bel_tr HB5.out hb6; clear hr6 hb6)))
          have HBN : Hid (Below (w.heap.size + 1) w1 w6) := HB.out.trans (HB6.out.mono HSZ.out)
          clear y0 y1 y2 y3 c0 c1 c2 c3
          go_wp2_with fail
          have hmeas : n - (intOf (.int .i64 ((j : Int) + 1))).toNat < n - (intOf (.int .i64 (j : Int))).toNat := by simp [intOf]; omega
          refine ⟨⟨j + 1, A6, m6, c6, ?_, ?_, rfl, ?_, ?_⟩, hmeas⟩
          · omega
          · go_num
          · with_reducible exact HR6
          · with_reducible exact HBN
        · obtain rfl : n = j := by omega
          have hfull : l.take n = l := by rw [← HN.out]; exact List.take_length
          rw [hfull] at HO
          go_wp2_with fail
          go_ret
          exact ⟨_, _, _, rfl, by show RL _ _ _ _; rw [hMID]; exact HO.out, HBW.out⟩
set_option maxHeartbeats 8000000 in
set_option maxRecDepth 100000 in
theorem rover_ext (l : List Ext) (v : Value) (e : Ext) (w : World) (h : ExtsAt w v l) (hl : l.length ≤ 16777216) (h1 : ∀ x ∈ l, oneB x = true) (e1 : 0 ≤ e.fr) (e2 : 0 ≤ e.n) (e3 : e.fr + e.n ≤ 16777216) (he : oneB e = true) :
    Calls Tryz.prog 26 #[v, e.val, .bool false] w fun x w' => ∃ A m c, x = .returned (.slice A m c) ∧ RL w' w.heap.size (.slice A m c) ((parts l e.end_ 16777216).foldl push (push ((parts l 0 e.fr).foldl push []) e)) ∧ Below w.heap.size w w' := by
  obtain ⟨A, c, rfl, hc⟩ := h
  have HC := Lib.hid hc
  obtain ⟨n, hn⟩ : ∃ n, l.length = n := ⟨_, rfl⟩
  have HN := Lib.hid hn
  rw [hn] at hl
  rw [hn]
  have HO1 := Lib.hid h1
  have HPE : Hid (∀ (wq : World) (v : Value) (o : List Ext), RL wq w.heap.size v o → w.heap.size ≤ wq.heap.size → o.length ≤ 50000000 → Calls Tryz.prog 50 #[v, e.val] wq fun q w' => ∃ A m c, q = .returned (.slice A m c) ∧ RL w' w.heap.size (.slice A m c) (push o e) ∧ Below wq.heap.size wq w') := fun wq v o hr hs hl => rput_own wq w.heap.size v o e hr hs hl he
  obtain ⟨f, en, k, t⟩ := e
  simp only at e1 e2 e3
  have hend : (⟨f, en, k, t⟩ : Ext).end_ = f + en := rfl
  rw [hend]
  obtain ⟨w1, hw1⟩ : ∃ w1, w.alloc (.cells #[.int .i64 f, .int .i64 en, .int .i64 k, .int .i64 t] 49) = w1 := ⟨_, rfl⟩
  have HB1 : Hid (Below w.heap.size w w1) := by show Below _ _ _; rw [← hw1]; exact (Below.refl _ _).alloc (Nat.le_refl _) _
  have hx : Whole w1 w.heap.size 49 #[.int .i64 f, .int .i64 en, .int .i64 k, .int .i64 t] := by rw [← hw1]; exact Whole.new _ _ _
  have hs1 : w1.heap.size = w.heap.size + 1 := by rw [← hw1]; simp
  have HXX : Hid (∀ wq, Below (w.heap.size + 1) w1 wq → (wq.cell? ⟨w.heap.size, 0, none⟩ = some (.int .i64 f) ∧ wq.cell? ⟨w.heap.size, 1, none⟩ = some (.int .i64 en) ∧ wq.cell? ⟨w.heap.size, 2, none⟩ = some (.int .i64 k) ∧ wq.cell? ⟨w.heap.size, 3, none⟩ = some (.int .i64 t)) ∧ Below w.heap.size w wq ∧ w.heap.size + 1 ≤ wq.heap.size) := fun wq hbq => ⟨(tmp4 (hx.below hbq (by omega))).1, HB1.out.trans (hbq.mono (by omega)), by have := hbq.size; omega⟩
  have hwz : wrap64 (f + en) = f + en := by unfold wrap64; omega
  have hwk : IntKind.i64.wrap (f + en) = f + en := by rw [IntKind.wrap_i64]; omega
  simp only [Ext.val] at HPE
  clear hend hs1 hx h1 hc hn
  show Calls Tryz.prog 26 #[.slice A n c, .agg #[.int .i64 f, .int .i64 en, .int .i64 k, .int .i64 t], .bool false] w _
  go_enter Tryz.func26, Tryz.ntmps26
  go_wp2_with fail
  go_loopw [7, 8] (fun nv i wr => ∃ (j : Nat) (A7 : Option Addr) (m7 c7 : Nat), j ≤ n ∧ i = .int .i64 j ∧ nv = .slice A7 m7 c7 ∧ Hid (RL wr w.heap.size (.slice A7 m7 c7) ((parts (l.take j) 0 f).foldl push [])) ∧ Hid (Below (w.heap.size + 1) w1 wr)) (fun _ i _ => n - (intOf i).toNat)
  case atStart => exact ⟨0, none, 0, 0, Nat.zero_le _, rfl, rfl, RL.nil _ _, Below.refl _ _⟩
  case round =>
    obtain ⟨j, A7, m7, c7, hj, rfl, rfl, HO, HB⟩ := hrel
    obtain ⟨⟨y0, y1, y2, y3⟩, hbw, hszr⟩ := HXX.out wr HB.out
    have HBW := Lib.hid hbw
    have HSZ := Lib.hid hszr
    clear hbw hszr
    by_cases hlt : j < n
    · have hji : (j : Int) < (n : Int) := by omega
      have hj0 : (0 : Int) ≤ (j : Int) := by omega
      have hln := HN.out
      obtain ⟨g, o, rfl, hcc⟩ := HC.out (by omega)
      obtain ⟨x, hx'⟩ : ∃ x, l[j]? = some x := ⟨l[j]'(by omega), List.getElem?_eq_getElem (by omega)⟩
      obtain ⟨c0, c1, c2, c3⟩ := (hcc j x hx').below HBW.out
      have hx1 : oneB x = true := HO1.out x (List.mem_of_getElem? hx')
      have HTK := Lib.hid (parts_snoc (a := 0) (b := f) hx' [])
      have HLE : Hid (((parts (l.take j) 0 f).foldl push []).length ≤ 50000000) := by show _ ≤ _; have h1 := fold_len (parts (l.take j) 0 f) []; have h2 := parts_len2 (l.take j) 0 f; have h3 : (l.take j).length ≤ j := by { rw [List.length_take]; omega }; simp only [List.length_nil] at h1; omega
      have HPT : Hid (∀ wq, Calls Tryz.prog 51 #[x.val, .int .i64 0, .int .i64 f] wq fun q w' => q = .returned (rPart x 0 f).val ∧ Below wq.heap.size wq w') := fun wq => rpart_any x 0 f wq hx1 (by omega) (by omega) (by omega) (by omega)
      have HPU : Hid (∀ wq, Below wr.heap.size wr wq → Calls Tryz.prog 50 #[.slice A7 m7 c7, (rPart x 0 f).val] wq fun q w' => ∃ A m c, q = .returned (.slice A m c) ∧ RL w' w.heap.size (.slice A m c) ((parts (l.take (j + 1)) 0 f).foldl push []) ∧ Below wq.heap.size wq w') := fun wq hb => by rw [HTK.out]; exact rput_step wq w.heap.size _ _ x 0 f (HO.out.below hb) (by have := hb.size; have := HSZ.out; omega) HLE.out hx1 (by omega) (by omega)
      obtain ⟨f', n', k', t'⟩ := x
      simp only at c0 c1 c2 c3
      have SA : Hid ((wr.cell? ⟨g, o + j * 4, none⟩ = some (.int .i64 f') ∧ wr.cell? ⟨g, o + j * 4 + 1, none⟩ = some (.int .i64 n') ∧ wr.cell? ⟨g, o + j * 4 + 2, none⟩ = some (.int .i64 k') ∧ wr.cell? ⟨g, o + j * 4 + 3, none⟩ = some (.int .i64 t')) ∧ (wr.cell? ⟨w.heap.size, 0, none⟩ = some (.int .i64 f) ∧ wr.cell? ⟨w.heap.size, 1, none⟩ = some (.int .i64 en) ∧ wr.cell? ⟨w.heap.size, 2, none⟩ = some (.int .i64 k) ∧ wr.cell? ⟨w.heap.size, 3, none⟩ = some (.int .i64 t))) := ⟨⟨c0, c1, c2, c3⟩, y0, y1, y2, y3⟩
      have HKA : Hid (∀ w', Below wr.heap.size wr w' → (w'.cell? ⟨g, o + j * 4, none⟩ = some (.int .i64 f') ∧ w'.cell? ⟨g, o + j * 4 + 1, none⟩ = some (.int .i64 n') ∧ w'.cell? ⟨g, o + j * 4 + 2, none⟩ = some (.int .i64 k') ∧ w'.cell? ⟨g, o + j * 4 + 3, none⟩ = some (.int .i64 t')) ∧ (w'.cell? ⟨w.heap.size, 0, none⟩ = some (.int .i64 f) ∧ w'.cell? ⟨w.heap.size, 1, none⟩ = some (.int .i64 en) ∧ w'.cell? ⟨w.heap.size, 2, none⟩ = some (.int .i64 k) ∧ w'.cell? ⟨w.heap.size, 3, none⟩ = some (.int .i64 t))) := fun w' hb => ⟨⟨below_c hb SA.out.1.1, below_c hb SA.out.1.2.1, below_c hb SA.out.1.2.2.1, below_c hb SA.out.1.2.2.2⟩, below_c hb SA.out.2.1, below_c hb SA.out.2.2.1, below_c hb SA.out.2.2.2.1, below_c hb SA.out.2.2.2.2⟩
      simp only [Ext.val] at HPT HPU
      clear hcc hx' hln hx1
      go_wp2_with fail
      go_region_held3 (fun w' => (w'.cell? ⟨g, o + j * 4, none⟩ = some (.int .i64 f') ∧ w'.cell? ⟨g, o + j * 4 + 1, none⟩ = some (.int .i64 n') ∧ w'.cell? ⟨g, o + j * 4 + 2, none⟩ = some (.int .i64 k') ∧ w'.cell? ⟨g, o + j * 4 + 3, none⟩ = some (.int .i64 t')) ∧ (w'.cell? ⟨w.heap.size, 0, none⟩ = some (.int .i64 f) ∧ w'.cell? ⟨w.heap.size, 1, none⟩ = some (.int .i64 en) ∧ w'.cell? ⟨w.heap.size, 2, none⟩ = some (.int .i64 k) ∧ w'.cell? ⟨w.heap.size, 3, none⟩ = some (.int .i64 t))) (first | with_reducible exact SA.out | with_reducible exact HKA.out _ HB6.out | with_reducible exact HKA.out _ HB5.out | exact HKA.out _ (Below.drew (Below.refl _ _))) ((first | (go_at_call 51; (with_reducible refine (HPT.out _).mono ?_); rintro q w5 ⟨rfl, hb5⟩; have HB5 : Hid (Below wr.heap.size wr w5) := Below.trans (Below.drew (Below.refl _ _)) hb5; clear hb5) | (go_at_call 50; (with_reducible refine (HPU.out _ HB5.out).mono ?_); rintro q w6 ⟨A6, m6, c6, rfl, hr6, hb6⟩; have HR6 := Lib.hid hr6; have HB6 : Hid (Below wr.heap.size wr w6) := bel_tr HB5.out hb6; clear hr6 hb6)))
      have HBN : Hid (Below (w.heap.size + 1) w1 w6) := HB.out.trans (HB6.out.mono HSZ.out)
      clear y0 y1 y2 y3 c0 c1 c2 c3
      go_wp2_with fail
      have hmeas : n - (intOf (.int .i64 ((j : Int) + 1))).toNat < n - (intOf (.int .i64 (j : Int))).toNat := by simp [intOf]; omega
      refine ⟨⟨j + 1, A6, m6, c6, ?_, ?_, rfl, ?_, ?_⟩, hmeas⟩
      · omega
      · go_num
      · with_reducible exact HR6
      · with_reducible exact HBN
    · obtain rfl : n = j := by omega
      have hfull : l.take n = l := by rw [← HN.out]; exact List.take_length
      rw [hfull] at HO
      obtain ⟨wo, hwo⟩ : ∃ wo, wo = wr := ⟨_, rfl⟩
      subst hwo
      have HLL : Hid (((parts l 0 f).foldl push []).length ≤ 50000000) := by show _ ≤ _; have h1 := fold_len (parts l 0 f) []; have h2 := parts_len2 l 0 f; have h4 := HN.out; simp only [List.length_nil] at h1; omega
      go_wp2_with fail
      with_reducible refine (HPE.out _ _ _ HO.out (by have := HSZ.out; omega) HLL.out).mono ?_
      rintro q w5 ⟨A5, m5, c5, rfl, hr5, hb5⟩
      have HO2 := Lib.hid hr5
      have HB2 : Hid (Below (w.heap.size + 1) w1 w5) := HB.out.trans (hb5.mono HSZ.out)
      clear hr5 hb5 y0 y1 y2 y3
      go_wp2_with fail
      obtain ⟨MID, hMID⟩ : ∃ MID, push ((parts l 0 f).foldl push []) ⟨f, en, k, t⟩ = MID := ⟨_, rfl⟩
      have HML : Hid (MID.length ≤ 20000000) := by show _ ≤ _; rw [← hMID]; have h1 := fold_len (parts l 0 f) []; have h2 := parts_len2 l 0 f; have h4 := HN.out; have h3 := len_push ((parts l 0 f).foldl push []) ⟨f, en, k, t⟩; simp only [List.length_nil] at h1; omega
      rw [hMID] at HO2
      clear hfull
      go_loopw [7, 9] (fun nv i wr => ∃ (j : Nat) (A7 : Option Addr) (m7 c7 : Nat), j ≤ n ∧ i = .int .i64 j ∧ nv = .slice A7 m7 c7 ∧ Hid (RL wr w.heap.size (.slice A7 m7 c7) ((parts (l.take j) (f + en) 16777216).foldl push MID)) ∧ Hid (Below (w.heap.size + 1) w1 wr)) (fun _ i _ => n - (intOf i).toNat)
      case atStart => exact ⟨0, _, _, _, Nat.zero_le _, rfl, rfl, by show RL _ _ _ _; simpa [parts] using HO2.out, HB2.out⟩
      case round =>
        obtain ⟨j, A7, m7, c7, hj, rfl, rfl, HO, HB⟩ := hrel
        obtain ⟨⟨y0, y1, y2, y3⟩, hbw, hszr⟩ := HXX.out wr HB.out
        have HBW := Lib.hid hbw
        have HSZ := Lib.hid hszr
        clear hbw hszr
        by_cases hlt : j < n
        · have hji : (j : Int) < (n : Int) := by omega
          have hj0 : (0 : Int) ≤ (j : Int) := by omega
          have hln := HN.out
          obtain ⟨g, o, rfl, hcc⟩ := HC.out (by omega)
          obtain ⟨x, hx'⟩ : ∃ x, l[j]? = some x := ⟨l[j]'(by omega), List.getElem?_eq_getElem (by omega)⟩
          obtain ⟨c0, c1, c2, c3⟩ := (hcc j x hx').below HBW.out
          have hx1 : oneB x = true := HO1.out x (List.mem_of_getElem? hx')
          have HTK := Lib.hid (parts_snoc (a := f + en) (b := 16777216) hx' MID)
          have HLE : Hid (((parts (l.take j) (f + en) 16777216).foldl push MID).length ≤ 50000000) := by show _ ≤ _; have h1 := fold_len (parts (l.take j) (f + en) 16777216) MID; have h2 := parts_len2 (l.take j) (f + en) 16777216; have h3 : (l.take j).length ≤ j := by { rw [List.length_take]; omega }; have h5 := HML.out; omega
          have HPT : Hid (∀ wq, Calls Tryz.prog 51 #[x.val, .int .i64 (f + en), .int .i64 16777216] wq fun q w' => q = .returned (rPart x (f + en) 16777216).val ∧ Below wq.heap.size wq w') := fun wq => rpart_any x (f + en) 16777216 wq hx1 (by omega) (by omega) (by omega) (by omega)
          have HPU : Hid (∀ wq, Below wr.heap.size wr wq → Calls Tryz.prog 50 #[.slice A7 m7 c7, (rPart x (f + en) 16777216).val] wq fun q w' => ∃ A m c, q = .returned (.slice A m c) ∧ RL w' w.heap.size (.slice A m c) ((parts (l.take (j + 1)) (f + en) 16777216).foldl push MID) ∧ Below wq.heap.size wq w') := fun wq hb => by rw [HTK.out]; exact rput_step wq w.heap.size _ _ x (f + en) 16777216 (HO.out.below hb) (by have := hb.size; have := HSZ.out; omega) HLE.out hx1 (by omega) (by omega)
          obtain ⟨f', n', k', t'⟩ := x
          simp only at c0 c1 c2 c3
          have SA : Hid ((wr.cell? ⟨g, o + j * 4, none⟩ = some (.int .i64 f') ∧ wr.cell? ⟨g, o + j * 4 + 1, none⟩ = some (.int .i64 n') ∧ wr.cell? ⟨g, o + j * 4 + 2, none⟩ = some (.int .i64 k') ∧ wr.cell? ⟨g, o + j * 4 + 3, none⟩ = some (.int .i64 t')) ∧ (wr.cell? ⟨w.heap.size, 0, none⟩ = some (.int .i64 f) ∧ wr.cell? ⟨w.heap.size, 1, none⟩ = some (.int .i64 en) ∧ wr.cell? ⟨w.heap.size, 2, none⟩ = some (.int .i64 k) ∧ wr.cell? ⟨w.heap.size, 3, none⟩ = some (.int .i64 t))) := ⟨⟨c0, c1, c2, c3⟩, y0, y1, y2, y3⟩
          have HKA : Hid (∀ w', Below wr.heap.size wr w' → (w'.cell? ⟨g, o + j * 4, none⟩ = some (.int .i64 f') ∧ w'.cell? ⟨g, o + j * 4 + 1, none⟩ = some (.int .i64 n') ∧ w'.cell? ⟨g, o + j * 4 + 2, none⟩ = some (.int .i64 k') ∧ w'.cell? ⟨g, o + j * 4 + 3, none⟩ = some (.int .i64 t')) ∧ (w'.cell? ⟨w.heap.size, 0, none⟩ = some (.int .i64 f) ∧ w'.cell? ⟨w.heap.size, 1, none⟩ = some (.int .i64 en) ∧ w'.cell? ⟨w.heap.size, 2, none⟩ = some (.int .i64 k) ∧ w'.cell? ⟨w.heap.size, 3, none⟩ = some (.int .i64 t))) := fun w' hb => ⟨⟨below_c hb SA.out.1.1, below_c hb SA.out.1.2.1, below_c hb SA.out.1.2.2.1, below_c hb SA.out.1.2.2.2⟩, below_c hb SA.out.2.1, below_c hb SA.out.2.2.1, below_c hb SA.out.2.2.2.1, below_c hb SA.out.2.2.2.2⟩
          simp only [Ext.val] at HPT HPU
          clear hcc hx' hln hx1
          go_wp2_with fail
          go_region_held3 (fun w' => (w'.cell? ⟨g, o + j * 4, none⟩ = some (.int .i64 f') ∧ w'.cell? ⟨g, o + j * 4 + 1, none⟩ = some (.int .i64 n') ∧ w'.cell? ⟨g, o + j * 4 + 2, none⟩ = some (.int .i64 k') ∧ w'.cell? ⟨g, o + j * 4 + 3, none⟩ = some (.int .i64 t')) ∧ (w'.cell? ⟨w.heap.size, 0, none⟩ = some (.int .i64 f) ∧ w'.cell? ⟨w.heap.size, 1, none⟩ = some (.int .i64 en) ∧ w'.cell? ⟨w.heap.size, 2, none⟩ = some (.int .i64 k) ∧ w'.cell? ⟨w.heap.size, 3, none⟩ = some (.int .i64 t))) (first | with_reducible exact SA.out | with_reducible exact HKA.out _ HB6.out | with_reducible exact HKA.out _ HB5.out | exact HKA.out _ (Below.drew (Below.refl _ _))) ((first | (go_at_call 51; (with_reducible refine (HPT.out _).mono ?_); rintro q w5 ⟨rfl, hb5⟩; have HB5 : Hid (Below wr.heap.size wr w5) := Below.trans (Below.drew (Below.refl _ _)) hb5; clear hb5) | (go_at_call 50; (with_reducible refine (HPU.out _ HB5.out).mono ?_); rintro q w6 ⟨A6, m6, c6, rfl, hr6, hb6⟩; have HR6 := Lib.hid hr6; have HB6 : Hid (Below wr.heap.size wr w6) := bel_tr HB5.out hb6; clear hr6 hb6)))
          have HBN : Hid (Below (w.heap.size + 1) w1 w6) := HB.out.trans (HB6.out.mono HSZ.out)
          clear y0 y1 y2 y3 c0 c1 c2 c3
          go_wp2_with fail
          have hmeas : n - (intOf (.int .i64 ((j : Int) + 1))).toNat < n - (intOf (.int .i64 (j : Int))).toNat := by simp [intOf]; omega
          refine ⟨⟨j + 1, A6, m6, c6, ?_, ?_, rfl, ?_, ?_⟩, hmeas⟩
          · omega
          · go_num
          · with_reducible exact HR6
          · with_reducible exact HBN
        · obtain rfl : n = j := by omega
          have hfull : l.take n = l := by rw [← HN.out]; exact List.take_length
          rw [hfull] at HO
          go_wp2_with fail
          go_ret
          exact ⟨_, _, _, rfl, by show RL _ _ _ _; rw [hMID]; exact HO.out, HBW.out⟩
end Go.Proofs.YtneammhkgmkkfaaGreat.tr
