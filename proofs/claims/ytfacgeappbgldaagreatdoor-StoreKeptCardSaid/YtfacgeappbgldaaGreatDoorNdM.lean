/- The contract of nand's Plan. -/
import Derived.Test.YtfacgeappbgldaaGreatDoorNdL
import Derived.Deep.RegionLaw
import Derived.Deep.DeepCutAuto
namespace Go.Proofs.YtfacgeappbgldaaGreatDoor.nd
open Go.RowKit Go.Proofs.YtfacgeappbgldaaGreatDoor.er
attribute [local go_sem ↓] Go.wp_at_zero Go.wp_at_succ
set_option linter.unusedVariables false

theorem mishapInfo : (Tryz.prog.info? 32).map (fun i => (i.zero, i.size, i.bytes)) = some (some (.agg #[.int .i64 0, .int .i64 0, .int .i64 0, .string ⟨#[]⟩]), 4, 40) := by kernel_rfl
/-- A list of mishaps that came in. -/
def MisArg (w : World) (b off : Nat) (l : List Mis) : Prop := ∀ (j : Nat) (m : Mis), l[j]? = some m →
  w.cell? ⟨b, off + j * 4, none⟩ = some (.int .i64 m.at_) ∧ w.cell? ⟨b, off + j * 4 + 1, none⟩ = some (.int .i64 m.kind) ∧ w.cell? ⟨b, off + j * 4 + 2, none⟩ = some (.int .i64 m.keep) ∧ w.cell? ⟨b, off + j * 4 + 3, none⟩ = some (.string m.junk)
def misKeep (m : Mis) : Bool := decide (1 ≤ m.at_) && decide (m.at_ ≤ 1099511627776)
theorem planned_snoc_no (s : Nand) (l : List Mis) (m : Mis) (h : misKeep m = false) : s.planned (l ++ [m]) = s.planned l := by
  unfold Nand.planned
  unfold misKeep at h
  simp [List.filter_append, List.filter_cons, h]
theorem planned_snoc_yes (s : Nand) (l : List Mis) (m : Mis) (h : misKeep m = true) : s.planned (l ++ [m]) = { s with plan := (s.planned l).plan ++ [{ m with at_ := m.at_ + s.ops }] } := by
  unfold Nand.planned
  unfold misKeep at h
  simp only [List.filter_append, List.filter_cons, h, if_true, List.filter_nil, List.map_append, List.map_cons, List.map_nil]
theorem planned_len (s : Nand) (l : List Mis) : (s.planned l).plan.length ≤ l.length := by
  unfold Nand.planned
  simp only [List.length_map]
  exact List.length_filter_le _ _
theorem planned_ok {s : Nand} (h : s.Ok) (l : List Mis) (hj : ∀ m ∈ l, m.junk.size ≤ 140737488351232) : (s.planned l).Ok :=
  ⟨h.b0, h.b1, h.p0, h.p1, h.bl, h.pl, h.o0, fun m hm => by
    simp only [Nand.planned, List.mem_map, List.mem_filter] at hm
    obtain ⟨x, ⟨hx, _⟩, rfl⟩ := hm
    exact hj x hx⟩

theorem NandIn.newPlan {w w2 : World} {F : Nat → Prop} {p : Nat} {s s' : Nand} {pb : Nat} {pv pv' : Value} {vs : List Value} (h : NandIn w F p s pb pv vs)
    (he : (#[.int .i64 s.blocks, .int .i64 s.per, .slice (some ⟨pb, 0, none⟩) s.blocks s.blocks, .int .i64 s.ops, pv, .bool s.down] : Array Value).setIfInBounds 4 pv' =
      #[.int .i64 s'.blocks, .int .i64 s'.per, .slice (some ⟨pb, 0, none⟩) s'.blocks s'.blocks, .int .i64 s'.ops, pv', .bool s'.down]) (hb : s'.b = s.b)
    (hk : Keep (fun k => pv.ownBlock = some k) w w2) (hrow : w2.ownsRow 0 32 4 pv' s'.plan.length (misCells s'.plan))
    (hnew : pv'.ownBlock = pv.ownBlock ∨ ∀ g, pv'.ownBlock = some g → w.heap.size ≤ g) (hok : s'.Ok) :
    NandIn (w2.setCell ⟨p, 4, none⟩ pv') (fun k => F k ∨ pv'.ownBlock = some k) p s' pb pv' vs ∧ Mv F w (fun k => F k ∨ pv'.ownBlock = some k) (w2.setCell ⟨p, 4, none⟩ pv') := by
  have hpb : pb ≠ p := whole_apart h.blk h.obj (by decide)
  have hFv : ∀ g, pv.ownBlock = some g → F g := fun g hg => h.fl g hg
  have tst : ∀ {g : Nat} {cs : Array Value} {t : TypeId}, Whole w g t cs → t ≠ 32 → ¬ (pv.ownBlock = some g) := by
    intro g cs t hg ht hvg
    obtain ⟨cs', h1⟩ := own_type h.plan hvg
    unfold Whole at hg
    rw [h1] at hg
    injection hg with h2
    injection h2 with _ h2
    exact ht h2.symm
  have obj2 := h.obj.keep hk (tst h.obj (by decide))
  have blk2 := h.blk.keep hk (tst h.blk (by decide))
  have hs : Keep (fun k => k = p) w2 (w2.setCell ⟨p, 4, none⟩ pv') := Keep.set1 _ _ _ _
  have tyne : ∀ {g : Nat} {cs : Array Value} {t : TypeId}, w2.heap[g]? = some (.cells cs t (0, 0)) → t ≠ 73 → ¬ (g = p) := by
    rintro g cs t h1 ht rfl
    have h2 := obj2
    unfold Whole at h2
    rw [h1] at h2
    injection h2 with h2
    injection h2 with _ h2
    exact ht h2
  have hMv : Mv F w (fun k => F k ∨ pv'.ownBlock = some k) (w2.setCell ⟨p, 4, none⟩ pv') := by
    refine ⟨(hk.mono (fun g _ hg => hFv g hg)).trans hs (fun x hx => .inl (hx ▸ h.fp)), fun g hg => ?_⟩
    rcases hg with hg | hg
    · exact .inl hg
    · rcases hnew with hn | hn
      · rw [hn] at hg
        exact .inl (hFv g hg)
      · exact .inr (hn g hg)
  refine ⟨⟨hok, ?_, ?_, ?_, ?_, h.sep, ?_, .inl h.fp, .inl h.fb, fun i v g hv hg => .inl (h.fr i v g hv hg), fun g hg => .inr hg, ?_⟩, hMv⟩
  · have := obj2.set 4 pv'
    rw [he] at this
    exact this
  · rw [hb]
    exact blk2.keep hs hpb
  · rw [hb]
    exact h.len
  · intro j b v hj hv
    rw [hb] at hj
    have h1 := own_keep (h.row j b v hj hv) hk (fun g hg hvg => own_apart (h.row j b v hj hv) h.plan (by decide) hg hvg)
    exact own_keep h1 hs (fun g hg => by obtain ⟨cs, h2⟩ := own_type h1 hg; exact tyne h2 (by decide))
  · exact own_keep hrow hs (fun g hg => by obtain ⟨cs, h2⟩ := own_type hrow hg; exact tyne h2 (by decide))
  · intro g hg
    rw [size_set]
    rcases hg with hg | hg
    · exact Nat.lt_of_lt_of_le (h.lt g hg) hk.size
    · exact (hrow.lt g hg).2
set_option maxHeartbeats 4000000 in
set_option maxRecDepth 100000 in
theorem Plan_some (w : World) (F : Nat → Prop) (p : Nat) (s : Nand) (h : NandAt w F p s) (ho : s.ops ≤ 1000000000000000000) (b off cap n : Nat) (l : List Mis) (hl : l.length = n) (hn : n ≤ 1000000) (ha : MisArg w b off l) (hF : ¬ F b) (hj : ∀ m ∈ l, m.junk.size ≤ 140737488351232) :
    Calls Tryz.prog 11 #[.pointer (some ⟨p, 0, none⟩), .slice (some ⟨b, off, none⟩) n cap] w fun e w' => e = .returned (.tuple #[]) ∧ MvAt w F p (s.planned l) w' := by
  have HA := Lib.hid ha
  have HJ := Lib.hid hj
  have HL := Lib.hid hl
  have HNF := Lib.hid hF
  have o0 := h.ok.o0
  have hok := h.ok
  have HOK := Lib.hid hok
  have HST : Hid (NandAt (w.setCell ⟨p, 4, none⟩ (.slice none 0 0)) F p (s.planned []) ∧ Mv F w F (w.setCell ⟨p, 4, none⟩ (.slice none 0 0))) := by
    obtain ⟨pb, pv, vs, hi⟩ := h
    exact ⟨⟨pb, _, vs, hi.setPlan (s' := s.planned []) (pv' := .slice none 0 0) (.slice none 0 0) rfl rfl (World.ownsRow_nil _ _ _ _) (fun g hg => by simp [Value.ownBlock] at hg) (planned_ok hi.ok [] (by simp))⟩, MvSet hi.fp _ _⟩
  have hcell : w.cell? ⟨p, 4, none⟩ = some (.slice none 0 0) ∨ ∃ A n c, w.cell? ⟨p, 4, none⟩ = some (.slice A n c) := by
    obtain ⟨pb, pv, vs, hi⟩ := h
    obtain ⟨A, c, e⟩ := own_slice hi.plan
    exact .inr ⟨A, _, c, by rw [hi.obj.cell, e]; rfl⟩
  obtain ⟨A0, n0, c0, c4⟩ : ∃ A n c, w.cell? ⟨p, 4, none⟩ = some (.slice A n c) := by
    rcases hcell with h | h
    · exact ⟨_, _, _, h⟩
    · exact h
  have f4 : w.frozen? ⟨p, 4, none⟩ = false := by obtain ⟨_, _, _, hi⟩ := h; exact hi.obj.fz 4
  have hq := heql p
  clear h ha hj hl hF hcell hok
  go_enter Tryz.func11, Tryz.ntmps11
  go_wp2_with fail
  clear c4
  go_loopw [13] (fun i wr => ∃ k : Nat, k ≤ n ∧ i = .int .i64 k ∧ ∃ F', Hid (NandAt wr F' p (s.planned (l.take k))) ∧ Hid (Mv F w F' wr)) (fun i _ => n - (intOf i).toNat)
  case atStart => exact ⟨0, Nat.zero_le _, rfl, F, HST.out.1, HST.out.2⟩
  case round =>
    obtain ⟨k, hk, rfl, F', HN, HM⟩ := hrel
    by_cases hlt : k < n
    · have hlk : k < l.length := by rw [HL.out]; exact hlt
      obtain ⟨m, hm⟩ : ∃ m, l[k]? = some m := ⟨l[k], List.getElem?_eq_getElem hlk⟩
      have htk : l.take (k + 1) = l.take k ++ [m] := by
        rw [List.take_succ_eq_append_getElem hlk]
        rw [List.getElem?_eq_getElem hlk] at hm
        injection hm with hm
        rw [hm]
      obtain ⟨q0, q1, q2, q3⟩ := HA.out k m hm
      have c0 := HM.out.keep.cell q0 HNF.out
      have c1 := HM.out.keep.cell q1 HNF.out
      have c2 := HM.out.keep.cell q2 HNF.out
      have c3 := HM.out.keep.cell q3 HNF.out
      have HTK := Lib.hid htk
      have hk0 : (0 : Int) ≤ (k : Int) := by omega
      have hkn : (k : Int) < (n : Int) := by omega
      have hmj := HJ.out m (List.mem_of_getElem? hm)
      clear q0 q1 q2 q3 htk hm
      by_cases h1 : 1 ≤ m.at_
      · by_cases h2 : m.at_ ≤ 1099511627776
        · have HKP : Hid (misKeep m = true) := by show misKeep m = true; simp [misKeep, h1, h2]
          obtain ⟨pb, pv, vs, hin⟩ := HN.out
          have IN := Lib.hid hin
          obtain ⟨A1, cp1, hpv⟩ := own_slice hin.plan
          subst hpv
          have d3 : wr.cell? ⟨p, 3, none⟩ = some (.int .i64 s.ops) := hin.obj.cell 3
          have d4 : wr.cell? ⟨p, 4, none⟩ = some (.slice A1 (s.planned (l.take k)).plan.length cp1) := hin.obj.cell 4
          have dpl := hin.obj.lt
          have z4 := hin.obj.fz 4
          have hwr : IntKind.i64.wrap (m.at_ + s.ops) = m.at_ + s.ops := by rw [IntKind.wrap_i64]; omega
          have hpln : (s.planned (l.take k)).plan.length ≤ 1000000 := by have := planned_len s (l.take k); rw [List.length_take] at this; omega
          have ROW := Lib.hid hin.plan
          clear hin
          go_wp2_with fail
          go_region
          go_wp2_with fail
          have WM : Whole (wr.alloc (.cells #[.int .i64 (m.at_ + s.ops), .int .i64 m.kind, .int .i64 m.keep, .string m.junk] 32)).drew wr.heap.size 32 #[.int .i64 (m.at_ + s.ops), .int .i64 m.kind, .int .i64 m.keep, .string m.junk] := Whole.new wr _ _
          have BW : Hid (Below wr.heap.size wr (wr.alloc (.cells #[.int .i64 (m.at_ + s.ops), .int .i64 m.kind, .int .i64 m.keep, .string m.junk] 32)).drew) := ((Below.refl _ _).alloc (Nat.le_refl _) _).drew
          have hsW : wr.heap.size < (wr.alloc (.cells #[.int .i64 (m.at_ + s.ops), .int .i64 m.kind, .int .i64 m.keep, .string m.junk] 32)).drew.heap.size := by simp
          generalize (wr.alloc (.cells #[.int .i64 (m.at_ + s.ops), .int .i64 m.kind, .int .i64 m.keep, .string m.junk] 32)).drew = W2 at *
          have IN2 := Lib.hid (IN.out.below BW.out)
          have e4 := below_c BW.out d4
          have z4' := IN2.out.obj.fz 4
          have dpl2 : p < W2.heap.size := by omega
          have m0 := WM.cell 0
          have m1 := WM.cell 1
          have m2 := WM.cell 2
          have m3 := WM.cell 3
          simp only [List.getElem?_toArray, List.getElem?_cons_zero, List.getElem?_cons_succ] at m0 m1 m2 m3
          have ROW2 := Lib.hid (own_below ROW.out BW.out)
          obtain ⟨i0, hi0, hz0, hz1, hz2⟩ := info_parts mishapInfo
          have HSNOC := Lib.hid (planned_snoc_yes s (l.take k) m HKP.out)
          have HCELLS := Lib.hid (misCells_snoc (s.planned (l.take k)).plan { m with at_ := m.at_ + s.ops })
          have hpa := fun o => (World.cell?_alloc_lt W2 o ⟨p, 4, none⟩ dpl2).trans e4
          have hma0 := fun o => (World.cell?_alloc_lt W2 o ⟨wr.heap.size, 0, none⟩ hsW).trans m0
          have hma1 := fun o => (World.cell?_alloc_lt W2 o ⟨wr.heap.size, 1, none⟩ hsW).trans m1
          have hma2 := fun o => (World.cell?_alloc_lt W2 o ⟨wr.heap.size, 2, none⟩ hsW).trans m2
          have hma3 := fun o => (World.cell?_alloc_lt W2 o ⟨wr.heap.size, 3, none⟩ hsW).trans m3
          have HNEW : Hid (∀ W : World, ∀ (j : Nat) (u : Value), ([.int .i64 (m.at_ + s.ops), .int .i64 m.kind, .int .i64 m.keep, .string m.junk] : List Value)[j]? = some u → (W.alloc (.cells #[.int .i64 (m.at_ + s.ops), .int .i64 m.kind, .int .i64 m.keep, .string m.junk] 32)).cell? ((⟨W.heap.size, 0, none⟩ : Addr).add j) = some u) := fun W j u hj => by
            have hw := Whole.new W 32 #[.int .i64 (m.at_ + s.ops), .int .i64 m.kind, .int .i64 m.keep, .string m.junk]
            rw [show (⟨W.heap.size, 0, none⟩ : Addr).add j = ⟨W.heap.size, j, none⟩ from by unfold Addr.add; split <;> simp_all, hw.cell j]
            simpa using hj
          have HPK : Hid (∀ (w5 : World) (o : Obj), (W2.alloc o).drew.grownBy w5 (Value.slice A1 (s.planned (l.take k)).plan.length cp1).ownBlock → w5.cell? ⟨p, 4, none⟩ = some (.slice A1 (s.planned (l.take k)).plan.length cp1) ∧ w5.frozen? ⟨p, 4, none⟩ = false) := fun w5 o hg => by
            have hw := Whole.grown (w := (W2.alloc o).drew) (IN2.out.obj.alloc o) hg (own_ne (ROW2.out.alloc o) (IN2.out.obj.alloc o) (by decide))
            exact ⟨hw.cell 4, hw.fz 4⟩
          clear WM d3 d4
          go_region_law ((refine step_append_lies _ (by rfl) (.tmp 37) (.tmp 39) 33 (by rfl) 0 32 i0 (.agg #[.int .i64 0, .int .i64 0, .int .i64 0, .string ⟨#[]⟩]) 4 40 Tryz.underlying33 hi0 hz0 hz1 hz2 (by rfl) (by omega) (.slice A1 (s.planned (l.take k)).plan.length cp1) (s.planned (l.take k)).plan.length (misCells (s.planned (l.take k)).plan) (by rfl) (ROW2.out.alloc _) ⟨W2.heap.size, 0, none⟩ 1 1 [.int .i64 (m.at_ + s.ops), .int .i64 m.kind, .int .i64 m.keep, .string m.junk] (by rfl) (by rfl) (HNEW.out _) (by simp [Value.oneCell']) (by omega) (by unfold maxLen; omega) (by omega) (Nat.zero_le _) (W2.heap.size + 1) (by simp) ?_); (intro g cap' w5 hown5 hg5 hat5 hlt5; obtain ⟨q5, z5⟩ := HPK.out w5 _ hg5; have HO5 := Lib.hid hown5; have HG5 := Lib.hid hg5; have HAT5 := Lib.hid hat5; clear hown5 hg5 hat5))
          all_goals
            have hk5 : Keep (fun x => (Value.slice A1 (s.planned (l.take k)).plan.length cp1).ownBlock = some x) W2 w5 := ((Keep.refl _ _).alloc _).drew.grown HG5.out (fun g hg => .inl hg)
            have hfin := IN2.out.newPlan (s' := s.planned (l.take (k + 1))) (pv' := .slice (some ⟨g, 0, none⟩) ((s.planned (l.take k)).plan.length + 1) cap') rfl rfl hk5 (by
              rw [HTK.out, HSNOC.out]
              show w5.ownsRow 0 _ 4 _ ((s.planned (l.take k)).plan ++ [_]).length (misCells ((s.planned (l.take k)).plan ++ [_]))
              rw [HCELLS.out, List.length_append]
              exact HO5.out) (by
              rcases HAT5.out with h | h
              · exact .inl h.symm
              · refine .inr (fun g' hg' => ?_)
                have : g = g' := by simpa [Value.ownBlock] using hg'
                subst this
                omega) (planned_ok HOK.out _ (fun x hx => HJ.out x (List.mem_of_mem_take hx)))
            have HFIN := Lib.hid hfin
            clear hfin hk5
            go_wp2_with fail
            go_roundw
            case rel => exact ⟨k + 1, by omega, by go_num, _, ⟨_, _, _, HFIN.out.1⟩, (HM.out.trans (Mv.below BW.out)).trans HFIN.out.2⟩
            case measure => simp [intOf]; omega
        · have HKP : Hid (misKeep m = false) := by show misKeep m = false; simp [misKeep]; omega
          go_wp2_with fail
          go_roundw
          case rel => exact ⟨k + 1, by omega, by go_num, F', by rw [HTK.out, planned_snoc_no _ _ _ HKP.out]; exact HN.out.below ((Below.refl _ _).alloc (Nat.le_refl _) _), HM.out.trans (Mv.below ((Below.refl _ _).alloc (Nat.le_refl _) _))⟩
          case measure => simp [intOf]; omega
      · have HKP : Hid (misKeep m = false) := by show misKeep m = false; simp [misKeep]; omega
        go_wp2_with fail
        go_roundw
        case rel => exact ⟨k + 1, by omega, by go_num, F', by rw [HTK.out, planned_snoc_no _ _ _ HKP.out]; exact HN.out.below ((Below.refl _ _).alloc (Nat.le_refl _) _), HM.out.trans (Mv.below ((Below.refl _ _).alloc (Nat.le_refl _) _))⟩
        case measure => simp [intOf]; omega
    · obtain rfl : k = n := by omega
      go_wp2_with fail
      go_end0
      have : l.take k = l := List.take_of_length_le (by rw [HL.out]; exact Nat.le_refl _)
      rw [this] at HN
      exact ⟨rfl, F', HN.out, HM.out⟩
end Go.Proofs.YtfacgeappbgldaaGreatDoor.nd
