/- A part of the proof. -/
import Derived.Test.YtneammhkgmkkfaaGreatDoorQTxC
import Derived.Test.YtneammhkgmkkfaaGreatDoorQTyH
import Derived.Test.YtneammhkgmkkfaaGreatDoorQTyMb
namespace Go.Proofs.YtneammhkgmkkfaaGreatDoor.tr
open Go.RowKit Go.Proofs.YtneammhkgmkkfaaGreatDoor.er
set_option linter.unusedVariables false
set_option linter.unusedSimpArgs false
theorem run_clearK {P : Program} (w : World) (t e ty : TypeId) (z : Value) (k : Nat) (ht : P.underlying t = some (.slice e)) (hv : ∀ w,(zeroValue e).run P w = .ok z w) (hz : z.cells.size = k) (hk : 0 < k) (h1 : ∀ u ∈ z.cells.toList,u.oneCell' = true) (b o n c : Nat) (hn : 0 < n)
    (hc : ∀ j,j < n * k → (w.cell? ⟨b,o + j,none⟩).isSome = true) (hf : ∀ j,j < n * k → w.frozen? ⟨b,o + j,none⟩ = false) :
    (Builtin.clear_ #[t] ty #[.slice (some ⟨b,o,none⟩) n c]).run P w = .ok (.tuple #[]) (w.setCells b o (Builtin.zeroCells z.cells n).toList) := by
  have hl : (Builtin.zeroCells z.cells n).toList.length = n * k := by rw [Array.length_toList,size_zeroCells,hz]
  have h1' : ∀ u ∈ (Builtin.zeroCells z.cells n).toList,u.oneCell' = true := by
    intro u hu
    simp only [Builtin.zeroCells] at hu
    simp at hu
    obtain ⟨i,hi,rfl⟩ := hu
    have hm : i % z.cells.size < z.cells.size := Nat.mod_lt _ (by omega)
    refine h1 _ ?_
    simp [hm]
  have hst := run_storeCells_cells (P := P) b o (Builtin.zeroCells z.cells n).toList 0 w (by rw [hl]; simpa using hc) (by rw [hl]; simpa using hf) h1'
  simp only [Nat.add_zero] at hst
  obtain ⟨m,rfl⟩ : ∃ m,n = m + 1 := ⟨n - 1,by omega⟩
  simp [Builtin.clear_,run_underlying ht,hv,hst]
theorem del_take (l : List Ext) (s : Int) (j : Nat) (e : Ext) (h : l[j]? = some e) : del (l.take (j + 1)) s = del (l.take j) s ++ (if e.fr = s then [] else [e]) := by
  have hj : j < l.length := (List.getElem?_eq_some_iff.1 h).1
  have he : l[j] = e := by rw [List.getElem?_eq_getElem hj] at h; injection h
  rw [List.take_succ_eq_append_getElem hj,he]
  unfold del
  rw [List.filter_append]
  congr 1
  by_cases hs : e.fr = s <;> simp [hs]
def DelSt (T : TypeId) (g c : Nat) (l : List Ext) (s : Int) (w : World) (j : Nat) (wr : World) : Prop :=
  ∃ cs : Array Value,Whole wr g T cs ∧ c * 4 ≤ cs.size ∧ (∀ (q : Nat) (x : Value),(extCells (del (l.take j) s))[q]? = some x → cs[q]? = some x) ∧ (∀ (q : Nat) (x : Value),j * 4 ≤ q → (extCells l)[q]? = some x → cs[q]? = some x) ∧ Keep (fun b => b = g) w wr
theorem DelSt.cell {T : TypeId} {g c : Nat} {l : List Ext} {s : Int} {w : World} {j : Nat} {wr : World} (h : DelSt T g c l s w j wr) {e : Ext} (he : l[j]? = some e) : ExtAt wr g (j * 4) e := by
  obtain ⟨cs,h1,h2,h3,h4,h5⟩ := h
  obtain ⟨k0,k1,k2,k3⟩ := extCells_at l j e he
  exact ⟨by rw [h1.cell]; exact h4 _ _ (by omega) k0,by rw [h1.cell]; exact h4 _ _ (by omega) k1,by rw [h1.cell]; exact h4 _ _ (by omega) k2,by rw [h1.cell]; exact h4 _ _ (by omega) k3⟩
theorem DelSt.below {T : TypeId} {g c : Nat} {l : List Ext} {s : Int} {w : World} {j : Nat} {wr w5 : World} (h : DelSt T g c l s w j wr) (hb : Below wr.heap.size wr w5) : DelSt T g c l s w j w5 := by
  obtain ⟨cs,h1,h2,h3,h4,h5⟩ := h
  exact ⟨cs,h1.below hb h1.lt,h2,h3,h4,h5.transBelow hb⟩
theorem DelSt.skip {T : TypeId} {g c : Nat} {l : List Ext} {s : Int} {w : World} {j : Nat} {wr : World} (h : DelSt T g c l s w j wr) {e : Ext} (he : l[j]? = some e) (hs : e.fr = s) : DelSt T g c l s w (j + 1) wr := by
  obtain ⟨cs,h1,h2,h3,h4,h5⟩ := h
  refine ⟨cs,h1,h2,fun q x hq => ?_,fun q x hq => h4 q x (by omega),h5⟩
  rw [del_take l s j e he,if_pos hs,List.append_nil] at hq
  exact h3 q x hq
theorem DelSt.room {T : TypeId} {g c : Nat} {l : List Ext} {s : Int} {w : World} {j : Nat} {wr : World} (h : DelSt T g c l s w j wr) (q : Nat) (hq : q < c * 4) : (∃ v,wr.cell? ⟨g,q,none⟩ = some v) ∧ wr.frozen? ⟨g,q,none⟩ = false := by
  obtain ⟨cs,h1,h2,h3,h4,h5⟩ := h
  refine ⟨⟨cs[q]'(by omega),?_⟩,h1.fz _⟩
  rw [h1.cell,Array.getElem?_eq_getElem (by omega)]
theorem setCells4 (w : World) (g o : Nat) (a b c d : Value) : w.setCells g o [a,b,c,d] = (((w.setCell ⟨g,o,none⟩ a).setCell ⟨g,o + 1,none⟩ b).setCell ⟨g,o + 2,none⟩ c).setCell ⟨g,o + 3,none⟩ d := rfl
theorem DelSt.put {T : TypeId} {g c : Nat} {l : List Ext} {s : Int} {w : World} {i j : Nat} {wr : World} (h : DelSt T g c l s w j wr) {e : Ext} (he : l[j]? = some e) (hs : e.fr ≠ s) (hi : (del (l.take j) s).length = i) (hij : i ≤ j) (hjc : j < c) :
    DelSt T g c l s w (j + 1) (wr.setCells g (i * 4) [.int .i64 e.fr,.int .i64 e.n,.int .i64 e.kind,.int .i64 e.at_]) := by
  obtain ⟨cs,h1,h2,h3,h4,h5⟩ := h
  obtain ⟨cs',k1,k2⟩ := whole_setCells [.int .i64 e.fr,.int .i64 e.n,.int .i64 e.kind,.int .i64 e.at_] (i * 4) wr cs h1
  have hlen := extCells_len (del (l.take j) s)
  rw [hi] at hlen
  refine ⟨cs',k1,by rw [k2.size]; exact h2,fun q x hq => ?_,fun q x hq hx => ?_,keep_setCells _ _ _ _ h5 (.inl rfl)⟩
  · rw [del_take l s j e he,if_neg hs,extCells_append] at hq
    by_cases hq2 : q < i * 4
    · rw [k2.front q hq2]
      rw [List.getElem?_append_left (by omega)] at hq
      exact h3 q x hq
    · rw [List.getElem?_append_right (by omega)] at hq
      have hq3 := (List.getElem?_eq_some_iff.1 hq).1
      have : (extCells [e]).length = 4 := by rw [extCells_len]; rfl
      have e1 : q = i * 4 + (q - i * 4) := by omega
      rw [e1,k2.mid (q - i * 4) (by simp; omega) (by omega)]
      rw [hlen] at hq
      simpa [extCells,Ext.cells] using hq
  · rw [k2.back q (by simp; omega)]
    exact h4 q x (by omega) hx
theorem DelSt.fin {T : TypeId} {g c : Nat} {l : List Ext} {s : Int} {w : World} {wr : World} (h : DelSt T g c l s w l.length wr) (hc : c ≤ maxLen) (hl : l.length ≤ c) (zs : List Value) (o : Nat) (ho : (del l s).length * 4 ≤ o) :
    Row (wr.setCells g o zs) g c 4 T (extCells (del l s)) ∧ Keep (fun b => b = g) w (wr.setCells g o zs) := by
  obtain ⟨cs,h1,h2,h3,h4,h5⟩ := h
  obtain ⟨cs',k1,k2⟩ := whole_setCells zs o wr cs h1
  rw [List.take_length] at h3
  have hd : (del l s).length ≤ l.length := List.length_filter_le _ _
  have hlen := extCells_len (del l s)
  refine ⟨Row.of k1 (by rw [k2.size]; exact h2) hc (by omega) (fun j hj => ?_),keep_setCells _ _ _ _ h5 (.inl rfl)⟩
  rw [k2.front j (by omega)]
  rw [List.getElem?_eq_getElem hj]
  exact h3 j _ (List.getElem?_eq_getElem hj)
def DelRet (T : TypeId) (g c : Nat) (l : List Ext) (s : Int) (w : World) (e : Ending) (w' : World) : Prop := e = .returned (.slice (some ⟨g,0,none⟩) (del l s).length c) ∧ Row w' g c 4 T (extCells (del l s)) ∧ Keep (fun b => b = g) w w'
theorem del_hit {l : List Ext} {s : Int} {j : Nat} {e : Ext} (h : ∀ i x,i < j → l[i]? = some x → (decide (x.fr = s)) = false) : del (l.take j) s = l.take j := by
  unfold del
  rw [List.filter_eq_self]
  intro x hx
  obtain ⟨i,hi,rfl⟩ := List.mem_iff_getElem.1 hx
  rw [List.length_take] at hi
  rw [List.getElem_take]
  have := h i _ (by omega) (List.getElem?_eq_getElem (by omega))
  simpa using this
theorem idxI_cases (p : Ext → Bool) (l : List Ext) : (idxI p l = -1 ∧ ∀ x ∈ l,p x = false) ∨ ∃ j e,idxI p l = (j : Nat) ∧ l[j]? = some e ∧ p e = true ∧ ∀ i x,i < j → l[i]? = some x → p x = false := by
  unfold idxI
  cases h : l.findIdx? p with
  | none =>
    rw [List.findIdx?_eq_none_iff] at h
    exact .inl ⟨rfl,fun x hx => by simpa using h x hx⟩
  | some j =>
    obtain ⟨hj,h1,h2⟩ := List.findIdx?_eq_some_iff_getElem.1 h
    refine .inr ⟨j,l[j],rfl,List.getElem?_eq_getElem hj,h1,fun i x hi hx => ?_⟩
    obtain ⟨h3,rfl⟩ := List.getElem?_eq_some_iff.1 hx
    simpa using h2 i hi
theorem zeroExt : ∀ w,(zeroValue 59).run Tryz.prog w = .ok (.agg #[.int .i64 0,.int .i64 0,.int .i64 0,.int .i64 0]) w := fun w => by kernel_rfl
set_option maxHeartbeats 4000000 in
set_option maxRecDepth 100000 in
theorem delF_any (l : List Ext) (g c p : Nat) (s : Int) (w : World) (h : Row w g c 4 59 (extCells l)) (hm : l.length ≤ 1000) (hp : w.cell? ⟨p,0,none⟩ = some (.int .i64 s)) (hpg : p ≠ g) :
    Calls Tryz.prog 123 #[.slice (some ⟨g,0,none⟩) l.length c,.func (.func 124) #[] #[.pointer (some ⟨p,0,none⟩)]] w (DelRet 59 g c l s w) := by
  have hcm := h.cap
  have hlc : l.length ≤ c := by have := h.fit; rw [extCells_len] at this; omega
  have hex : ExtsAt w (.slice (some ⟨g,0,none⟩) l.length c) l := ⟨_,c,rfl,fun _ => ⟨g,0,rfl,fun j e he => by
    obtain ⟨k0,k1,k2,k3⟩ := extCells_at l j e he
    simp only [Nat.zero_add]
    exact ⟨h.cell k0,h.cell k1,h.cell k2,h.cell k3⟩⟩⟩
  have HIX := Lib.hid (idxF_any (fun e => decide (e.fr = s)) 124 #[.pointer (some ⟨p,0,none⟩)] l _ w (fun _ _ => by kernel_rfl) hex (by omega) (fun e wq he hb => rmt_any e p s wq (below_c hb hp)))
  have HRM := Lib.hid (fun (e : Ext) (wq : World) (hq : wq.cell? ⟨p,0,none⟩ = some (.int .i64 s)) => rmt_any e p s wq hq)
  obtain ⟨n,hn⟩ : ∃ n,l.length = n := ⟨_,rfl⟩
  have HN := Lib.hid hn
  rw [hn] at HIX hm hlc
  rw [hn]
  unfold maxLen at hcm
  have HP : Hid (∀ wr,Keep (fun b => b = g) w wr → wr.cell? ⟨p,0,none⟩ = some (.int .i64 s)) := fun wr hk => hk.cell hp (by simpa using hpg)
  rcases idxI_cases (fun e => decide (e.fr = s)) l with ⟨hi,ha⟩ | ⟨j0,e0,hi,he0,hp0,hb0⟩
  · have hd : del l s = l := by
      unfold del
      rw [List.filter_eq_self]
      intro x hx
      have := ha x hx
      simpa using this
    have HRET : Hid (∀ w',Below w.heap.size w w' → DelRet 59 g c l s w (.returned (.slice (some ⟨g,0,none⟩) n c)) w') := fun w' hb => ⟨by rw [hd,HN.out],by rw [hd]; exact h.below hb,Keep.below hb⟩
    rw [hi] at HIX
    clear hd ha hi h hex hp hn
    go_enter Tryz.func123,Tryz.ntmps123
    go_wp2_with fail
    refine HIX.out.mono ?_
    rintro e w1 ⟨rfl,hb1⟩
    have HB1 := Lib.hid hb1
    clear hb1
    go_wp2_with fail
    go_ret
    exact HRET.out _ HB1.out
  · rw [hi] at HIX
    have hj0 : j0 < n := by rw [← hn]; exact (List.getElem?_eq_some_iff.1 he0).1
    have hdh : del (l.take j0) s = l.take j0 := del_hit (e := e0) hb0
    have hdl : (del (l.take j0) s).length = j0 := by rw [hdh,List.length_take]; omega
    have HST : Hid (∀ w1,Below w.heap.size w w1 → DelSt 59 g c l s w (j0 + 1) w1) := fun w1 hb => by
      obtain ⟨cs,hw,q1,q2⟩ := h.blk
      have q3 : ∀ (q : Nat) (x : Value),(extCells l)[q]? = some x → cs[q]? = some x := fun q x hq => by
        have hql := (List.getElem?_eq_some_iff.1 hq).1
        rw [← q2,List.getElem?_take_of_lt hql] at hq
        simpa using hq
      have h0 : DelSt 59 g c l s w j0 w := by
        refine ⟨cs,hw,q1,fun q x hq => ?_,fun q x _ hq => q3 q x hq,Keep.refl _ _⟩
        rw [hdh] at hq
        refine q3 q x ?_
        rw [← List.take_append_drop j0 l,extCells_append,List.getElem?_append_left (List.getElem?_eq_some_iff.1 hq).1]
        exact hq
      exact (h0.skip he0 (by simpa using hp0)).below hb
    have HD1 : Hid ((del (l.take (j0 + 1)) s).length = j0) := by
      show _ = _
      rw [del_take l s j0 e0 he0,if_pos (by simpa using hp0),List.append_nil]; exact hdl
    have hj1 : (j0 : Int) + 1 ≤ (n : Int) := by omega
    have hj2 : ¬ ((j0 : Int) = -1) := by omega
    have hj3 : ((j0 : Int) == -1) = false := beq_eq_false_iff_ne.2 (by omega)
    have hg0 := h.lt
    have HDL : Hid (∀ j,(del (l.take j) s).length ≤ j) := fun j => Nat.le_trans (List.length_filter_le _ _) (by rw [List.length_take]; omega)
    clear hdh hdl h hex hp hn he0 hp0 hb0 hi
    go_enter Tryz.func123,Tryz.ntmps123
    go_wp2_with fail
    refine HIX.out.mono ?_
    rintro e w1 ⟨rfl,hb1⟩
    have HS1 := Lib.hid (HST.out _ hb1)
    clear hb1
    go_wp2_with fail
    go_loopw [5,6,7] (fun s5 s6 s7 wr => ∃ (i j : Nat),i < j ∧ j ≤ n ∧ s5 = .int .i64 i ∧ s6 = .int .i64 j ∧ Hid ((del (l.take j) s).length = i) ∧ Hid (DelSt 59 g c l s w j wr)) (fun _ s6 _ _ => n - (intOf s6).toNat)
    case atStart => exact ⟨j0,j0 + 1,by omega,by omega,rfl,by go_num,HD1,HS1⟩
    case round =>
      obtain ⟨i,j,hij,hjn,rfl,rfl,HI,HS⟩ := hrel
      by_cases hlt : j < n
      · have hji : (j : Int) < (n : Int) := by omega
        obtain ⟨e,hx⟩ : ∃ e,l[j]? = some e := ⟨l[j]'(by have := HN.out; omega),List.getElem?_eq_getElem (by have := HN.out; omega)⟩
        obtain ⟨c0,c1,c2,c3⟩ := HS.out.cell hx
        have HX := Lib.hid hx
        have hgs : g < wr.heap.size := World.block_lt_of_cell? _ _ c0
        have hpc := HP.out wr (by obtain ⟨cs,_,_,_,_,hk⟩ := HS.out; exact hk)
        obtain ⟨f,en,k,t⟩ := e
        simp only at c0 c1 c2 c3
        have HA0 : Hid (Below wr.heap.size wr (wr.alloc (.cells #[.int .i64 f,.int .i64 en,.int .i64 k,.int .i64 t] 59))) := (Below.refl _ _).alloc (Nat.le_refl _) _
        have HWE := Lib.hid (Whole.new wr 59 #[.int .i64 f,.int .i64 en,.int .i64 k,.int .i64 t])
        have HCL : Hid (Calls Tryz.prog 124 #[.agg #[.int .i64 f,.int .i64 en,.int .i64 k,.int .i64 t],.pointer (some ⟨p,0,none⟩)] (wr.alloc (.cells #[.int .i64 f,.int .i64 en,.int .i64 k,.int .i64 t] 59)) fun x w' => x = .returned (.bool (decide (f = s))) ∧ Below (wr.heap.size + 1) (wr.alloc (.cells #[.int .i64 f,.int .i64 en,.int .i64 k,.int .i64 t] 59)) w') := (HRM.out ⟨f,en,k,t⟩ _ (below_c HA0.out hpc)).mono fun x w' ⟨q1,q2⟩ => ⟨q1,q2.mono (by simp)⟩
        clear hpc hx
        by_cases hs : f = s
        · have HT : Hid (decide (f = s) = true) := by show _ = _; simpa using hs
          have HD2 : Hid ((del (l.take (j + 1)) s).length = i) := by show _ = _; rw [del_take l s j _ HX.out,if_pos hs,List.append_nil]; exact HI.out
          have HS2 : Hid (DelSt 59 g c l s w (j + 1) wr) := HS.out.skip HX.out hs
          clear hs
          go_wp2_with fail
          refine HCL.out.mono ?_
          rw [HT.out]
          rintro e w5 ⟨rfl,hb5⟩
          have HB5 : Hid (Below wr.heap.size wr w5) := HA0.out.trans (hb5.mono (by omega))
          clear hb5
          go_wp2_with fail
          go_roundw
          case rel => exact ⟨i,j + 1,by omega,by omega,rfl,by go_num,HD2,HS2.out.below HB5.out⟩
          case measure => simp [intOf]; omega
        · have HT : Hid (decide (f = s) = false) := by show _ = _; simpa using hs
          have HD2 : Hid ((del (l.take (j + 1)) s).length = i + 1) := by show _ = _; rw [del_take l s j _ HX.out,if_neg hs,List.length_append,HI.out]; rfl
          have HNS := Lib.hid hs
          clear hs
          go_wp2_with fail
          refine HCL.out.mono ?_
          rw [HT.out]
          rintro e w5 ⟨rfl,hb5⟩
          have HB5 : Hid (Below wr.heap.size wr w5) := HA0.out.trans (hb5.mono (by omega))
          have HS5 : Hid (DelSt 59 g c l s w j w5) := HS.out.below HB5.out
          obtain ⟨⟨q0,q1,q2,q3⟩,_⟩ := tmp4 (HWE.out.below hb5 (by omega))
          have hic : i < c := by omega
          obtain ⟨⟨v0,r0⟩,z0⟩ := HS5.out.room (i * 4) (by omega)
          obtain ⟨⟨v1,r1⟩,z1⟩ := HS5.out.room (i * 4 + 1) (by omega)
          obtain ⟨⟨v2,r2⟩,z2⟩ := HS5.out.room (i * 4 + 2) (by omega)
          obtain ⟨⟨v3,r3⟩,z3⟩ := HS5.out.room (i * 4 + 3) (by omega)
          have HPUT : Hid (DelSt 59 g c l s w (j + 1) ((((w5.setCell ⟨g,i * 4,none⟩ (.int .i64 f)).setCell ⟨g,i * 4 + 1,none⟩ (.int .i64 en)).setCell ⟨g,i * 4 + 2,none⟩ (.int .i64 k)).setCell ⟨g,i * 4 + 3,none⟩ (.int .i64 t))) := by
            have hput := HS5.out.put HX.out HNS.out HI.out (by omega) (by omega)
            rw [setCells4] at hput
            exact hput
          have hin : (i : Int) < (n : Int) := by omega
          clear hb5 c0 c1 c2 c3
          go_wp2_with fail
          go_roundw
          case rel => exact ⟨i + 1,j + 1,by omega,by omega,by go_num,by go_num,HD2,HPUT.out⟩
          case measure => simp [intOf]; omega
      · obtain rfl : j = n := by omega
        have hfull : l.take j = l := by rw [← HN.out]; exact List.take_length
        have hS := HS.out
        have hI := HI.out
        rw [hfull] at hI
        have hic : i < c := by omega
        have hci : ¬ (c = i) := by omega
        have hin : (i : Int) ≤ (j : Int) := by omega
        have hcl : ∀ ty,(Builtin.clear_ #[71] ty #[.slice (some ⟨g,i * 4,none⟩) (j - i) (c - i)]).run Tryz.prog wr = .ok (.tuple #[]) (wr.setCells g (i * 4) (Builtin.zeroCells (Value.cells (.agg #[.int .i64 0,.int .i64 0,.int .i64 0,.int .i64 0])) (j - i)).toList) := fun ty =>
          run_clearK wr _ _ ty _ 4 Tryz.underlying71 zeroExt rfl (by omega) (by simp [Value.cells,Value.oneCell']) g (i * 4) (j - i) (c - i) (by omega) (fun q hq => by obtain ⟨⟨v,hv⟩,_⟩ := hS.room (i * 4 + q) (by omega); rw [hv]; rfl) (fun q hq => (hS.room (i * 4 + q) (by omega)).2)
        obtain ⟨ZS,hZS⟩ : ∃ ZS,(Builtin.zeroCells (Value.cells (.agg #[.int .i64 0,.int .i64 0,.int .i64 0,.int .i64 0])) (j - i)).toList = ZS := ⟨_,rfl⟩
        rw [hZS] at hcl
        have HRET : Hid (DelRet 59 g c l s w (.returned (.slice (some ⟨g,0,none⟩) i c)) (wr.setCells g (i * 4) ZS)) := by
          have hl := HN.out
          have := DelSt.fin (by rw [hl]; exact hS) (by unfold maxLen; omega) (by omega) ZS (i * 4) (by omega)
          exact ⟨by rw [hI],this⟩
        clear hZS hS hI hfull
        go_wp2_with fail
        go_ret
        exact HRET.out
end Go.Proofs.YtneammhkgmkkfaaGreatDoor.tr
namespace Go.Proofs.YtneammhkgmkkfaaGreatDoor.tr
open Go.RowKit Go.Proofs.YtneammhkgmkkfaaGreatDoor.er
set_option linter.unusedVariables false
set_option linter.unusedSimpArgs false
theorem zeroNode : ∀ w,(zeroValue 62).run Tryz.prog w = .ok .nilIface w := fun w => by kernel_rfl
def DelNRet (T : TypeId) (g c n i : Nat) (xs : List Value) (w : World) (e : Ending) (w' : World) : Prop := e = .returned (.slice (some ⟨g,0,none⟩) (n - 1) c) ∧ Row w' g c 1 T (xs.eraseIdx i) ∧ Keep (fun b => b = g) w w'
theorem delN_fin {T : TypeId} {g c n i : Nat} {xs : List Value} {w : World} (h : Row w g c 1 T xs) (hn : xs.length = n) (hi : i < n) (zs : List Value) :
    Row ((w.drew.setCells g i (xs.drop (i + 1))).setCells g (n - 1) zs) g c 1 T (xs.eraseIdx i) ∧ Keep (fun b => b = g) w ((w.drew.setCells g i (xs.drop (i + 1))).setCells g (n - 1) zs) := by
  obtain ⟨cs,hb,h1,h2⟩ := h.blk
  have hb' : Whole w.drew g T cs := hb
  obtain ⟨cs1,hb1,hl1⟩ := whole_setCells (xs.drop (i + 1)) i w.drew cs hb'
  obtain ⟨cs2,hb2,hl2⟩ := whole_setCells zs (n - 1) _ cs1 hb1
  have hf := h.fit
  have hel : (xs.eraseIdx i).length = n - 1 := by rw [List.length_eraseIdx]; simp [hn,hi]
  refine ⟨Row.of hb2 (by rw [hl2.size,hl1.size]; exact h1) h.cap (by omega) (fun j hj => ?_),keep_setCells _ _ _ _ (keep_setCells _ _ _ _ (Keep.drew (Keep.refl _ _)) (.inl rfl)) (.inl rfl)⟩
  rw [hl2.front j (by omega),List.getElem?_eraseIdx]
  have hc : ∀ q,q < n → cs[q]? = xs[q]? := fun q hq => by
    have : (cs.toList.take xs.length)[q]? = xs[q]? := by rw [h2]
    rw [List.getElem?_take_of_lt (by omega)] at this
    simpa using this
  by_cases hji : j < i
  · rw [if_pos hji,hl1.front j hji,hc j (by omega)]
  · rw [if_neg hji]
    obtain ⟨d,rfl⟩ : ∃ d,j = i + d := ⟨j - i,by omega⟩
    have hdl : (xs.drop (i + 1)).length = n - (i + 1) := by rw [List.length_drop,hn]
    rw [hl1.mid d (by omega) (by omega),List.getElem?_drop]
    congr 1; omega
set_option maxHeartbeats 4000000 in
set_option maxRecDepth 100000 in
theorem delN_any (n g c i : Nat) (a b : Int) (xs : List Value) (w : World) (h : Row w g c 1 62 xs) (hn : xs.length = n) (hi : i < n) (hm : n ≤ 1000) (ha : a = i) (hb : b = (i : Int) + 1) (h1 : ∀ u ∈ xs,u.oneCell' = true) :
    Calls Tryz.prog 163 #[.slice (some ⟨g,0,none⟩) n c,.int .i64 a,.int .i64 b] w (DelNRet 62 g c n i xs w) := by
  subst ha hb
  obtain ⟨i0,hi0,hz0,hz1,hz2⟩ := info_parts infoN
  have hcm := h.cap
  have hnc : n ≤ c := by have := h.fit; omega
  unfold maxLen at hcm
  obtain ⟨news,hnews⟩ : ∃ news,xs.drop (i + 1) = news := ⟨_,rfl⟩
  have hlen : news.length = n - (i + 1) := by rw [← hnews,List.length_drop,hn]
  obtain ⟨A,hA,hsrc⟩ : ∃ A : Addr,(if c = i + 1 then some (⟨g,0,none⟩ : Addr) else some ⟨g,i + 1,none⟩) = some A ∧ Hid (∀ t u,news[t]? = some u → w.drew.cell? (A.add t) = some u) := by
    by_cases hc : c = i + 1
    · refine ⟨⟨g,0,none⟩,by simp [hc],fun t u hu => ?_⟩
      have h0 : news.length = 0 := by rw [hlen]; omega
      rw [List.length_eq_zero_iff.1 h0] at hu
      simp at hu
    · refine ⟨⟨g,i + 1,none⟩,by simp [hc],fun t u hu => ?_⟩
      rw [← hnews,List.getElem?_drop] at hu
      rw [Addr.add_lit]
      exact h.cell hu
  have s1 : Hid (news.length = (n - (i + 1)) * 1) := by show _ = _; rw [Nat.mul_one]; exact hlen
  have s2 : Hid (∀ u ∈ news,u.oneCell' = true) := fun u hu => h1 u (by rw [← hnews] at hu; exact List.mem_of_mem_drop hu)
  have s3 : Hid (∀ t,t < news.length → (w.drew.cell? ⟨g,0 + i * 1 + t,none⟩).isSome = true ∧ w.drew.frozen? ⟨g,0 + i * 1 + t,none⟩ = false) := by
    intro t ht
    rw [hlen] at ht
    rw [Nat.mul_one,Nat.zero_add]
    exact ⟨h.room (by omega),h.fz _⟩
  obtain ⟨W1,hW1⟩ : ∃ W1,W1 = w.drew.setCells g (0 + i * 1) news := ⟨_,rfl⟩
  have hW1' : W1 = w.drew.setCells g i (xs.drop (i + 1)) := by rw [hW1,hnews,Nat.mul_one,Nat.zero_add]
  have hR : Row W1 g c 1 62 (xs.eraseIdx i) := by
    have := (delN_fin h hn hi []).1
    rw [hW1']; exact this
  have hcl : ∀ ty,(Builtin.clear_ #[75] ty #[.slice (some ⟨g,n - 1,none⟩) (n - (n - 1)) (c - (n - 1))]).run Tryz.prog W1 = .ok (.tuple #[]) (W1.setCells g (n - 1) (Builtin.zeroCells (Value.cells .nilIface) (n - (n - 1))).toList) := fun ty =>
    run_clearK W1 _ _ ty _ 1 Tryz.underlying75 zeroNode rfl (by omega) (by simp [Value.cells,Value.oneCell']) g (n - 1) (n - (n - 1)) (c - (n - 1)) (by omega) (fun q hq => hR.room (by omega)) (fun q hq => hR.fz _)
  have HRET : Hid (DelNRet 62 g c n i xs w (.returned (.slice (some ⟨g,0,none⟩) (n - 1) c)) (W1.setCells g (n - 1) (Builtin.zeroCells (Value.cells .nilIface) (n - (n - 1))).toList)) := by
    rw [hW1']
    exact ⟨rfl,delN_fin h hn hi _⟩
  obtain ⟨ZS,hZS⟩ : ∃ ZS,(Builtin.zeroCells (Value.cells .nilIface) (n - (n - 1))).toList = ZS := ⟨_,rfl⟩
  rw [hZS] at hcl HRET
  have HW : Hid (W1 = w.drew.setCells g (0 + i * 1) news) := hW1
  obtain ⟨n',rfl⟩ : ∃ n',n = n' + 1 := ⟨n - 1,by omega⟩
  have e1 : n' + 1 - 1 = n' := by omega
  have e2 : n' + 1 - n' = 1 := by omega
  simp only [e1,e2] at hcl HRET ⊢
  have hii : (0 : Int) ≤ (i : Int) + 1 := by omega
  have hi2 : (i : Int) + 1 ≤ (n' : Int) + 1 := by omega
  have hi3 : (i : Int) ≤ (n' : Int) + 1 := by omega
  have hi4 : (i : Int) ≤ (c : Int) := by omega
  have hi5 : (i : Int) + 1 ≤ (c : Int) := by omega
  have hne : ¬ ((i : Int) = (i : Int) + 1) := by omega
  have hne2 : ((i : Int) == (i : Int) + 1) = false := beq_eq_false_iff_ne.2 (by omega)
  have htn : ((i : Int) + 1).toNat = i + 1 := by omega
  have hci : ¬ (c = n') := by omega
  have hHI0 := Lib.hid hi0
  have hHZ1 := Lib.hid hz1
  have hlen1 : i + (n' - i) = n' := by omega
  clear hW1 hW1' hR hZS h hn h1 hnews hlen e1 e2 hi0 hz0 hz1 hz2
  go_enter Tryz.func163,Tryz.ntmps163
  go_wp2_with fail
  go_region_law (refine step_append_room rfl (.tmp 22) (.tmp 25) 75 rfl 62 i0 1 Tryz.underlying75 hHI0.out hHZ1.out g 0 i c (by simp [Act.eval,Act.put]) A (n' + 1 - (i + 1)) (c - (i + 1)) news (by simp [Act.eval,Act.put]) s1.out hsrc.out s2.out (by omega) s3.out ?_; rw [← HW.out])
  go_wp2_with fail
  go_ret
  exact HRET.out
end Go.Proofs.YtneammhkgmkkfaaGreatDoor.tr
