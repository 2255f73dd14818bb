/- StoreKept, plain: what append does while pages fail and power is lost. StoreKept: what a law says of append at the last number, of plans of any length, of a power that comes back. What a row's condition says of lists of lists of mishaps; how long their texts are. -/
import Derived.Test.YtfacgeappbgldaaGreatDoorStW
import Derived.Test.YtfacgeappbgldaaGreatDoorFlL
import Derived.SizedLaws
namespace Go.Proofs.YtfacgeappbgldaaGreatDoor.st
open Go.RowKit Go.Proofs.YtfacgeappbgldaaGreatDoor.er Go.Proofs.YtfacgeappbgldaaGreatDoor.nd Go.Proofs.YtfacgeappbgldaaGreatDoor.we Go.Proofs.YtfacgeappbgldaaGreatDoor.ge Go.Proofs.YtfacgeappbgldaaGreatDoor.pg
set_option linter.unusedVariables false

/-! ### counting states -/
def cntS (l : List Int) (k : Int) : Nat → Int
  | 0 => 0
  | j + 1 => cntS l k j + (if l.getD j 0 == k then 1 else 0)
theorem tabTo_at (s : Sto) : ∀ (k j : Nat), j < k → (tabTo s k)[j]? = some (bkOf s j)
  | 0, j, h => by omega
  | k + 1, j, h => by
    rw [tabTo]
    by_cases hj : j < k
    · rw [List.getElem?_append_left (by rw [tabTo_len]; exact hj)]
      exact tabTo_at s k j hj
    · obtain rfl : j = k := by omega
      rw [List.getElem?_append_right (by rw [tabTo_len]; exact Nat.le_refl _)]
      simp [tabTo_len]
theorem cnt_state (s : Sto) (k : Int) : ∀ j, j ≤ s.n.blocks → cntTo (tabOf s) k j = cntS s.state k j
  | 0, _ => rfl
  | j + 1, h => by
    rw [cntTo, cntS, cnt_state s k j (by omega), show (tabOf s)[j]? = some (bkOf s j) from tabTo_at s _ j (by omega)]
    rfl
theorem count_state (s : Sto) (k : Int) : countL (tabOf s) k = cntS s.state k s.n.blocks := by
  rw [countL, show (tabOf s).length = s.n.blocks from tabTo_len s _]
  exact cnt_state s k _ (Nat.le_refl _)
theorem getD_set (l : List Int) (b i : Nat) (x : Int) (hb : b < l.length) : (l.set b x).getD i 0 = if i = b then x else l.getD i 0 := by
  rw [List.getD, List.getD, List.getElem?_set]
  by_cases h : b = i
  · subst h; simp [hb]
  · rw [if_neg h, if_neg (fun e => h e.symm)]
theorem cntS_set (l : List Int) (b : Nat) (x k : Int) (hb : b < l.length) : ∀ j, cntS (l.set b x) k j = cntS l k j + (if b < j then (if x == k then 1 else 0) - (if l.getD b 0 == k then 1 else 0) else 0)
  | 0 => by simp [cntS]
  | j + 1 => by
    rw [cntS, cntS, cntS_set l b x k hb j, getD_set l b j x hb]
    by_cases h : j = b
    · rw [if_pos h, if_neg (show ¬ b < j by omega), if_pos (show b < j + 1 by omega), h]
      generalize (if (x == k) = true then (1 : Int) else 0) = X
      generalize (if (l.getD b 0 == k) = true then (1 : Int) else 0) = Y
      omega
    · rw [if_neg h]
      by_cases h2 : b < j
      · rw [if_pos h2, if_pos (show b < j + 1 by omega)]
        generalize (if (x == k) = true then (1 : Int) else 0) = X
        generalize (if (l.getD b 0 == k) = true then (1 : Int) else 0) = Y
        omega
      · rw [if_neg h2, if_neg (show ¬ b < j + 1 by omega)]
        omega
theorem pick_state (l : List Bk) : ∀ j, 0 ≤ pickTo l j → ∃ x, l[(pickTo l j).toNat]? = some x ∧ x.st = 0
  | 0, h => absurd h (by rw [pickTo]; decide)
  | j + 1, h => by
    cases hx : l[j]? with
    | none =>
      rw [pickTo, hx] at h ⊢
      exact pick_state l j h
    | some x =>
      rw [pickTo, hx] at h ⊢
      simp only at h ⊢
      have hj : l[((j : Nat) : Int).toNat]? = some x := by simpa using hx
      by_cases h0 : x.st = 0
      · have h0' : (x.st == 0) = true := by simpa using h0
        simp only [h0', if_true] at h ⊢
        split at h
        · rename_i h1
          rw [if_pos h1]
          exact ⟨x, hj, h0⟩
        · rename_i h1
          rw [if_neg h1]
          split at h
          · rename_i h2
            rw [if_pos h2]
            exact ⟨x, hj, h0⟩
          · rename_i h2
            rw [if_neg h2]
            exact pick_state l j h
      · have h0' : ¬ (x.st == 0) = true := by simpa using h0
        rw [if_neg h0'] at h ⊢
        exact pick_state l j h
/-! ### the invariant -/
structure Fit (s : Sto) : Prop where
  b16 : s.n.blocks = 16
  p8 : s.n.per = 8
  bl : s.n.b.length = 16
  sl : s.state.length = 16
  pl : ∀ i, (s.n.blk i).pages.length ≤ 8
  sm : ∀ (i : Nat) (t : ByteArray), t ∈ (s.n.blk i).pages → t.size ≤ 128
  fr : ∀ i, i < 16 → s.state.getD i 0 = 0 → (s.n.blk i).pages = []
  op : s.op = -1 ∨ ∃ b : Nat, b < 16 ∧ s.op = (b : Int) ∧ s.state.getD b 0 = 1
def cnt3 (s : Sto) : Int := cntS s.state 3 16
def textAt (n : Nand) (a : Int) (t : ByteArray) : Prop := ∃ m : Nat, a = (m : Int) ∧ m < 128 ∧ (n.blk (m / 8)).pages[m % 8]? = some t
def Ext (n n' : Nand) : Prop := ∀ (i k : Nat) (t : ByteArray), (n.blk i).pages[k]? = some t → (n'.blk i).pages[k]? = some t
theorem Ext.refl (n : Nand) : Ext n n := fun _ _ _ h => h
theorem Ext.trans {a b c : Nand} (h : Ext a b) (k : Ext b c) : Ext a c := fun i j t hx => k i j t (h i j t hx)
theorem textAt.ext {n n' : Nand} {a : Int} {t : ByteArray} (h : textAt n a t) (he : Ext n n') : textAt n' a t := by
  obtain ⟨m, h1, h2, h3⟩ := h
  exact ⟨m, h1, h2, he _ _ _ h3⟩
theorem worn_fit {s : Sto} (h : Fit s) : wornS s = decide (2 < cnt3 s) := by
  unfold wornS cnt3
  rw [count_state, h.b16]
  rfl
theorem sealed_fit {s : Sto} (h : Fit s) : Fit s.sealed ∧ cnt3 s.sealed = cnt3 s := by
  unfold Sto.sealed
  split
  · rename_i ho
    rcases h.op with he | ⟨b, hb, he, hs⟩
    · omega
    · have hbt : s.op.toNat = b := by omega
      rw [hbt]
      have hl := h.sl
      refine ⟨⟨h.b16, h.p8, h.bl, by simpa using h.sl, h.pl, h.sm, fun i hi h0 => ?_, .inl rfl⟩, ?_⟩
      · simp only [getD_set _ _ _ _ (show b < s.state.length by omega)] at h0
        split at h0
        · exact absurd h0 (by decide)
        · exact h.fr i hi h0
      · unfold cnt3
        simp only [cntS_set _ _ _ _ (show b < s.state.length by omega), hs]
        rw [if_pos (by omega)]
        simp
  · exact ⟨h, rfl⟩
theorem full_fit {s : Sto} (h : Fit s) : Fit s.full ∧ cnt3 s.full = cnt3 s := by
  unfold Sto.full
  split
  · exact sealed_fit h
  · exact ⟨h, rfl⟩
theorem next_blk {s : Sto} (h : Fit s) (b : Nat) (hb : b < 16) : s.n.next (b : Int) = ((s.n.blk b).pages.length : Int) := by
  unfold Nand.next Nand.has
  rw [h.b16]
  simp [show (b : Int) < 16 by omega]
theorem place_fit {s u : Sto} {a : Int} (h : Fit s) (hp : s.place? = some (u, a)) : Fit u ∧ u.n = s.n ∧ u.seq = s.seq ∧ cnt3 u = cnt3 s ∧ ∃ b : Nat, b < 16 ∧ u.op = (b : Int) ∧ a = ((b * 8 + (s.n.blk b).pages.length : Nat) : Int) ∧ (s.n.blk b).pages.length < 8 := by
  obtain ⟨hf, hc⟩ := full_fit h
  have hn := place_n hp
  have hq := place_seq hp
  have hfn := full_n s
  unfold Sto.place? at hp
  split at hp
  · rename_i h0
    injection hp with hp; injection hp with h1 h2; subst h1
    rcases hf.op with he | ⟨b, hb, he, hs⟩
    · omega
    · refine ⟨hf, hn, hq, hc, b, hb, he, ?_, ?_⟩
      · rw [← h2, he, next_blk hf b hb, hfn, h.p8]
        push_cast
        omega
      · have hlt : ¬ (0 ≤ s.op ∧ (s.n.per : Int) ≤ s.n.next s.op) := by
          intro k
          have : s.full.op = -1 := by unfold Sto.full; rw [if_pos k]; exact sealed_op k.1
          omega
        have hs2 : s.full = s := by unfold Sto.full; rw [if_neg hlt]
        rw [hs2] at he
        have := next_blk h b hb
        rw [he, h.p8, this] at hlt
        omega
  · split at hp
    · rename_i h0 h1
      injection hp with hp; injection hp with h2 h3; subst h2
      obtain ⟨x, hx, hx0⟩ := pick_state (tabOf s.full) _ h1
      have hpb := (pick_bounds s.full).2 h1
      rw [hf.b16] at hpb
      obtain ⟨b, hb⟩ : ∃ b : Nat, pickL (tabOf s.full) = (b : Int) := ⟨(pickL (tabOf s.full)).toNat, by omega⟩
      have hbt : (pickL (tabOf s.full)).toNat = b := by omega
      have hb16 : b < 16 := by omega
      have hx' : (tabOf s.full)[b]? = some x := by
        have : (pickTo (tabOf s.full) (tabOf s.full).length).toNat = b := hbt
        rw [← this]; exact hx
      have hst : s.full.state.getD b 0 = 0 := by
        have h5 : (tabOf s.full)[b]? = some (bkOf s.full b) := tabTo_at s.full _ b (by rw [hf.b16]; exact hb16)
        rw [h5] at hx'
        injection hx' with hx'
        rw [← hx'] at hx0
        exact hx0
      have hpg := hf.fr b hb16 hst
      rw [hfn] at hpg
      have hl : b < s.full.state.length := by rw [hf.sl]; exact hb16
      rw [hbt]
      refine ⟨⟨hf.b16, hf.p8, hf.bl, by simpa [Sto.opened] using hf.sl, hf.pl, hf.sm, fun i hi h0 => ?_, .inr ⟨b, hb16, rfl, ?_⟩⟩, hfn, full_seq s, ?_, b, hb16, rfl, ?_, ?_⟩
      · simp only [Sto.opened, getD_set _ _ _ _ hl] at h0
        split at h0
        · exact absurd h0 (by decide)
        · exact hf.fr i hi h0
      · simp only [Sto.opened, getD_set _ _ _ _ hl, if_true]
      · rw [← hc]
        unfold cnt3
        simp only [Sto.opened, cntS_set _ _ _ _ hl, hst]
        rw [if_pos (by omega)]
        simp
      · rw [← h3, hb, next_blk hf b hb16, hfn, h.p8]
        push_cast
        omega
      · rw [hpg]; decide
    · exact absurd hp (by simp)
/-! ### a page is programmed -/
theorem blk_setB (n : Nand) (i j : Nat) (x : Blk) (hi : i < n.b.length) : (n.setB i x).blk j = if j = i then x else n.blk j := by
  unfold Nand.setB Nand.blk
  simp only [List.getD, List.getElem?_set]
  by_cases h : i = j
  · subst h; simp [hi]
  · rw [if_neg h, if_neg (fun e => h e.symm)]
theorem spoilt_small (m : Mis) (t : ByteArray) : (spoilt m t).size ≤ 128 := by
  unfold spoilt cut128
  rw [ByteArray.size_extract]
  omega
structure Grown (n n' : Nand) (b : Nat) : Prop where
  gb : n'.blocks = n.blocks
  gp : n'.per = n.per
  gl : n'.b.length = n.b.length
  go : n.ops ≤ n'.ops ∧ n'.ops ≤ n.ops + 1
  gg : ∀ i, (n'.blk i).pages = (n.blk i).pages ∨ (i = b ∧ ∃ u : ByteArray, u.size ≤ 128 ∧ (n'.blk i).pages = (n.blk i).pages ++ [u] ∧ (n.blk i).pages.length < 8)
theorem Grown.ext {n n' : Nand} {b : Nat} (h : Grown n n' b) : Ext n n' := fun i k t hx => by
  rcases h.gg i with he | ⟨_, u, _, he, _⟩
  · rw [he]; exact hx
  · rw [he, List.getElem?_append_left (List.getElem?_eq_some_iff.1 hx).1]; exact hx
theorem grown_set {n n' : Nand} {b : Nat} {x : Blk} {u : ByteArray} (hl : b < n.b.length) (h1 : n'.blocks = n.blocks) (h2 : n'.per = n.per) (h3 : n'.b = n.b.set b x) (h4 : n'.ops = n.ops + 1) (h5 : x.pages = (n.blk b).pages ++ [u]) (hu : u.size ≤ 128) (h8 : (n.blk b).pages.length < 8) : Grown n n' b := by
  refine ⟨h1, h2, by rw [h3]; simp, by omega, fun i => ?_⟩
  have hb : n'.blk i = (n.setB b x).blk i := by unfold Nand.blk Nand.setB; rw [h3]
  rw [hb, blk_setB _ _ _ _ hl]
  by_cases h : i = b
  · subst h
    rw [if_pos rfl]
    exact .inr ⟨rfl, u, hu, h5, h8⟩
  · rw [if_neg h]
    exact .inl rfl
theorem prog_cases (n : Nand) (b : Nat) (a : Int) (t : ByteArray) (hd : n.down = false) (h16 : n.blocks = 16) (h8 : n.per = 8) (hl : n.b.length = 16) (hb : b < 16) (hlen : (n.blk b).pages.length < 8) (ha : a = ((b * 8 + (n.blk b).pages.length : Nat) : Int)) (ht : t.size ≤ 128) :
    Grown n (programB n a t).2 b ∧ (((programB n a t).1 = 41 ∧ (programB n a t).2.down = false) ∨ ((programB n a t).1 = 9 ∧ (programB n a t).2.down = true) ∨ ((programB n a t).1 = 0 ∧ (programB n a t).2.down = false ∧ n.ops < (programB n a t).2.ops ∧ textAt (programB n a t).2 a t)) := by
  have hi : a.toNat / n.per = b := by rw [ha, h8]; simp only [Int.toNat_natCast]; omega
  have hk : a.toNat % n.per = (n.blk b).pages.length := by rw [ha, h8]; simp only [Int.toNat_natCast]; omega
  have e1 : (n.blocks : Int) * n.per = 128 := by rw [h16, h8]; rfl
  have hin : 0 ≤ a ∧ a < n.blocks * n.per := by rw [e1, ha]; omega
  have hbl : b < n.b.length := by omega
  unfold programB
  rw [hd, if_neg (by simp), if_neg (fun k => k hin)]
  simp only [hi, hk]
  split
  · exact ⟨⟨rfl, rfl, rfl, ⟨Int.le_refl _, by show n.ops ≤ n.ops + 1; omega⟩, fun i => .inl rfl⟩, .inl ⟨rfl, hd⟩⟩
  · rw [if_neg (by simp)]
    split
    · exact ⟨grown_set (x := { n.blk b with pages := (n.blk b).pages ++ [spoilt _ t] }) hbl rfl rfl rfl rfl rfl (spoilt_small _ _) hlen, .inr (.inl ⟨rfl, rfl⟩)⟩
    · split
      · exact ⟨grown_set (x := { n.blk b with pages := (n.blk b).pages ++ [spoilt _ t], bad := true }) hbl rfl rfl rfl rfl rfl (spoilt_small _ _) hlen, .inl ⟨rfl, hd⟩⟩
      · refine ⟨grown_set (x := { n.blk b with pages := (n.blk b).pages ++ [t] }) hbl rfl rfl rfl rfl rfl ht hlen, .inr (.inr ⟨rfl, hd, by show n.ops < n.ops + 1; omega, b * 8 + (n.blk b).pages.length, ha, by omega, ?_⟩)⟩
        rw [show (b * 8 + (n.blk b).pages.length) / 8 = b by omega, show (b * 8 + (n.blk b).pages.length) % 8 = (n.blk b).pages.length by omega]
        show ((n.count.setB b { n.blk b with pages := (n.blk b).pages ++ [t] }).blk b).pages[_]? = some t
        rw [blk_setB _ _ _ _ (show b < n.count.b.length from hbl), if_pos rfl]
        simp
theorem grown_fit {u : Sto} {n' : Nand} {b : Nat} (h : Fit u) (ho : u.op = (b : Int)) (hg : Grown u.n n' b) : Fit { u with n := n' } ∧ u.state.getD b 0 = 1 := by
  have hs : u.state.getD b 0 = 1 := by
    rcases h.op with he | ⟨b', _, he, hs⟩
    · omega
    · obtain rfl : b = b' := by omega
      exact hs
  refine ⟨⟨hg.gb.trans h.b16, hg.gp.trans h.p8, hg.gl.trans h.bl, h.sl, fun i => ?_, fun i t ht => ?_, fun i hi h0 => ?_, h.op⟩, hs⟩
  · show (n'.blk i).pages.length ≤ 8
    rcases hg.gg i with he | ⟨_, u, _, he, hl⟩
    · rw [he]; exact h.pl i
    · rw [he]; simp; omega
  · have ht' : t ∈ (n'.blk i).pages := ht
    rcases hg.gg i with he | ⟨_, u, hu, he, hl⟩
    · rw [he] at ht'; exact h.sm i t ht'
    · rw [he] at ht'
      rcases List.mem_append.1 ht' with h2 | h2
      · exact h.sm i t h2
      · rw [List.mem_singleton.1 h2]; exact hu
  · show (n'.blk i).pages = []
    have h0' : u.state.getD i 0 = 0 := h0
    rcases hg.gg i with he | ⟨rfl, _⟩
    · rw [he]; exact h.fr i hi h0'
    · rw [hs] at h0'; exact absurd h0' (by decide)
theorem retire_fit {u : Sto} {b : Nat} (h : Fit u) (hb : b < 16) (ho : u.op = (b : Int)) (hs : u.state.getD b 0 = 1) : Fit (u.retire b) ∧ cnt3 (u.retire b) = cnt3 u + 1 := by
  have hl : b < u.state.length := by rw [h.sl]; exact hb
  refine ⟨⟨h.b16, h.p8, h.bl, by simpa [Sto.retire] using h.sl, h.pl, h.sm, fun i hi h0 => ?_, .inl ?_⟩, ?_⟩
  · simp only [Sto.retire, getD_set _ _ _ _ hl] at h0
    split at h0
    · exact absurd h0 (by decide)
    · exact h.fr i hi h0
  · simp only [Sto.retire, ho, if_true]
  · unfold cnt3
    simp only [Sto.retire, cntS_set _ _ _ _ hl, hs]
    rw [if_pos (by omega)]
    simp
theorem cntS_nn (l : List Int) (k : Int) : ∀ j, 0 ≤ cntS l k j
  | 0 => Int.le_refl _
  | j + 1 => by
    have := cntS_nn l k j
    rw [cntS]
    split <;> omega
/-- Nothing more can be programmed. -/
def Dead (s : Sto) : Prop := wornS s = true ∨ s.place? = none
theorem dead_full {s : Sto} (h : s.place? = none) : s.full.place? = none := by
  have ho : ¬ 0 ≤ s.full.op := by
    intro k
    unfold Sto.place? at h
    rw [if_pos k] at h
    exact absurd h (by simp)
  have hf : s.full.full = s.full := by
    rw [Sto.full, if_neg (fun k => ho k.1)]
  unfold Sto.place? at h ⊢
  rw [hf]
  exact h
def PutOut (s : Sto) (f : Nat) (t : ByteArray) (r : Sto × Int × Int × Bool) : Prop :=
  Fit r.1 ∧ Ext s.n r.1.n ∧ s.n.ops ≤ r.1.n.ops ∧ r.1.n.ops ≤ s.n.ops + f ∧
   ((r.2.2.1 = 0 ∧ r.1.n.down = false ∧ s.n.ops < r.1.n.ops ∧ textAt r.1.n r.2.1 t) ∨ (r.2.2.1 = 9 ∧ r.1.n.down = true) ∨ ((r.2.2.1 = 60 ∨ r.2.2.1 = 61) ∧ r.1.n.down = false ∧ Dead r.1))
theorem put_fit (t : ByteArray) (ht : t.size ≤ 128) : ∀ (f : Nat) (s : Sto), Fit s → s.n.down = false → 1 ≤ f → 4 ≤ f + cnt3 s → ∃ r, putB f s t = some r ∧ PutOut s f t r
  | 0, s, _, _, h1, _ => by omega
  | f + 1, s, h, hd, _, h4 => by
    have hw := worn_fit h
    have hnn : 0 ≤ cnt3 s := cntS_nn _ _ _
    rw [putB]
    by_cases hW : wornS s = true
    · rw [if_pos hW]
      exact ⟨_, rfl, h, Ext.refl _, Int.le_refl _, by show s.n.ops ≤ _; omega, .inr (.inr ⟨.inr rfl, hd, .inl hW⟩)⟩
    · rw [if_neg hW]
      have hc : cnt3 s ≤ 2 := by
        rw [hw] at hW
        simp at hW
        exact hW
      cases hp : s.place? with
      | none =>
        refine ⟨_, rfl, (full_fit h).1, by show Ext s.n s.full.n; rw [full_n]; exact Ext.refl _, by show _ ≤ s.full.n.ops; rw [full_n]; omega, by show s.full.n.ops ≤ _; rw [full_n]; omega, .inr (.inr ⟨.inl rfl, by show s.full.n.down = false; rw [full_n]; exact hd, .inr (dead_full hp)⟩)⟩
      | some ua =>
        obtain ⟨u, a⟩ := ua
        obtain ⟨hu, hun, husq, huc, b, hb, huo, ha, hlen⟩ := place_fit h hp
        rw [← hun] at ha hlen hd
        obtain ⟨hg, hcase⟩ := prog_cases u.n b a t hd hu.b16 hu.p8 hu.bl hb hlen ha ht
        obtain ⟨hgf, hst⟩ := grown_fit hu huo hg
        have hgo : s.n.ops ≤ (programB u.n a t).2.ops ∧ (programB u.n a t).2.ops ≤ s.n.ops + 1 := by
          have h1 := hg.go
          have e : u.n.ops = s.n.ops := by rw [hun]
          omega
        have hge : Ext s.n (programB u.n a t).2 := fun i k t' hx => hg.ext i k t' (by rw [hun]; exact hx)
        simp only
        by_cases h41 : (programB u.n a t).1 = 41
        · rw [if_pos h41]
          have hd41 : (programB u.n a t).2.down = false := by
            rcases hcase with h | h | h
            · exact h.2
            · rw [h41] at h; exact absurd h.1 (by decide)
            · exact h.2.1
          have hab : a.toNat / u.n.per = b := by rw [ha, hu.p8]; simp only [Int.toNat_natCast]; omega
          rw [hab]
          obtain ⟨hr, hrc⟩ := retire_fit hgf hb huo hst
          have hrc' : cnt3 (Sto.retire { u with n := (programB u.n a t).2 } b) = cnt3 s + 1 := by rw [hrc, ← huc]; rfl
          obtain ⟨r, hr1, k1, k2, k3, k4, k5⟩ := put_fit t ht f (Sto.retire { u with n := (programB u.n a t).2 } b) hr hd41 (by omega) (by rw [hrc']; push_cast at h4; omega)
          have e1 : (Sto.retire { u with n := (programB u.n a t).2 } b).n = (programB u.n a t).2 := rfl
          rw [e1] at k2 k3 k4
          refine ⟨r, hr1, k1, hge.trans k2, by omega, by push_cast; omega, ?_⟩
          rcases k5 with ⟨c0, c1, c2, c3⟩ | k5 | k5
          · rw [e1] at c2
            exact .inl ⟨c0, c1, by omega, c3⟩
          · exact .inr (.inl k5)
          · exact .inr (.inr k5)
        · rw [if_neg h41]
          refine ⟨_, rfl, hgf, hge, hgo.1, by show (programB u.n a t).2.ops ≤ _; push_cast; omega, ?_⟩
          rcases hcase with h | h | h
          · exact absurd h.1 h41
          · exact .inr (.inl h)
          · have e : u.n.ops = s.n.ops := by rw [hun]
            have h3 := h.2.2.1
            exact .inl ⟨h.1, h.2.1, (by omega : s.n.ops < (programB u.n a t).2.ops), h.2.2.2⟩
/-! ### what does not hang on numbers and plans -/
def recast (s : Sto) (o : Int) (l : List Mis) (d : Bool) (q : Int) : Sto := ⟨⟨s.n.blocks, s.n.per, s.n.b, o, l, d⟩, s.state, s.valid, s.op, q⟩
theorem tabTo_recast (s : Sto) (o : Int) (l : List Mis) (d : Bool) (q : Int) : ∀ k, tabTo (recast s o l d q) k = tabTo s k
  | 0 => rfl
  | k + 1 => by rw [tabTo, tabTo, tabTo_recast s o l d q k]; rfl
theorem tabOf_recast (s : Sto) (o : Int) (l : List Mis) (d : Bool) (q : Int) : tabOf (recast s o l d q) = tabOf s := tabTo_recast s o l d q _
theorem sealed_recast (s : Sto) (o : Int) (l : List Mis) (d : Bool) (q : Int) : (recast s o l d q).sealed = recast s.sealed o l d q := by
  unfold Sto.sealed
  show (if 0 ≤ s.op then _ else _) = _
  split <;> rfl
theorem full_recast (s : Sto) (o : Int) (l : List Mis) (d : Bool) (q : Int) : (recast s o l d q).full = recast s.full o l d q := by
  unfold Sto.full
  show (if 0 ≤ s.op ∧ (s.n.per : Int) ≤ s.n.next s.op then _ else _) = _
  split
  · exact sealed_recast s o l d q
  · rfl
theorem dead_recast {s : Sto} (h : Dead s) (o : Int) (l : List Mis) (d : Bool) (q : Int) : Dead (recast s o l d q) := by
  rcases h with h | h
  · left
    rw [← h]
    unfold wornS
    rw [tabOf_recast]
    rfl
  · right
    unfold Sto.place? at h ⊢
    rw [full_recast, tabOf_recast]
    by_cases h1 : 0 ≤ s.full.op
    · rw [if_pos h1] at h; exact absurd h (by simp)
    · rw [if_neg h1] at h
      rw [if_neg (show ¬ 0 ≤ (recast s.full o l d q).op from h1)]
      by_cases h2 : 0 ≤ pickL (tabOf s.full)
      · rw [if_pos h2] at h; exact absurd h (by simp)
      · rw [if_neg h2]
theorem dead_put {s : Sto} (h : Dead s) (f : Nat) (t : ByteArray) (r : Sto × Int × Int × Bool) (hr : putB (f + 1) s t = some r) : r.2.2.1 = 60 ∨ r.2.2.1 = 61 := by
  rw [putB] at hr
  split at hr
  · injection hr with hr; rw [← hr]; exact .inr rfl
  · rename_i hw
    rcases h with h | h
    · exact absurd h hw
    · rw [h] at hr
      injection hr with hr; rw [← hr]; exact .inl rfl
/-- Why the number is not lost. -/
def QS (s : Sto) : Prop := s.seq ≤ 0 ∨ (∃ a t p, textAt s.n a t ∧ readF t = (p, 0) ∧ s.seq ≤ p.seq + 1) ∨ Dead s
def AppOut (s : Sto) (p : Page) (r : Sto × Int × Int) : Prop :=
  Fit r.1 ∧ Ext s.n r.1.n ∧ r.1.n.ops ≤ s.n.ops + 4 ∧
   ((r.2.2 = 0 ∧ r.1.n.down = false ∧ r.1.seq = s.seq + 1 ∧ mayB { p with seq := s.seq } = true ∧ textAt r.1.n r.2.1 (writeF { p with seq := s.seq })) ∨
    (r.2.2 ≠ 0 ∧ r.1.n.down = false ∧ QS r.1) ∨ (r.2.2 ≠ 0 ∧ r.1.n.down = true ∧ ¬ Dead s))
theorem app_fit (s : Sto) (p : Page) (h : Fit s) (hd : s.n.down = false) (hQ : QS s) (h0 : 0 ≤ s.seq) (hq : s.seq ≤ 281474976710655) : ∃ r, appF 4 s p = some r ∧ AppOut s p r := by
  cases hm : mayB { p with seq := 0 }
  · exact ⟨_, scan_no 4 s p hm, h, Ext.refl _, by show s.n.ops ≤ s.n.ops + 4; omega, .inr (.inl ⟨by show (1 : Int) ≠ 0; decide, hd, hQ⟩)⟩
  · have hm2 := mayB_seq hm h0 hq
    have hz : (writeF { p with seq := s.seq }).size ≤ 128 := by
      have := (mayB_yes hm).2.2.2.2.2.2.2.2
      rw [writeF_size]
      simp only at this ⊢
      omega
    obtain ⟨r, hr, k1, k2, k3, k4, k5⟩ := put_fit _ hz 4 s h hd (by decide) (by have := cntS_nn s.state 3 16; unfold cnt3; push_cast; omega)
    have hsq : r.1.seq = s.seq := putF_seq 4 s (writeF { p with seq := s.seq }) r (by rw [putF_B _ hz]; exact hr)
    have hf := appF_B 4 s p r hm hr
    have hfit : ∀ q, Fit { r.1 with seq := q } := fun q => ⟨k1.b16, k1.p8, k1.bl, k1.sl, k1.pl, k1.sm, k1.fr, k1.op⟩
    rcases k5 with ⟨c0, c1, c2, c3⟩ | ⟨c0, c1⟩ | ⟨c0, c1, c2⟩
    · rw [if_pos c2, if_pos c0] at hf
      exact ⟨_, hf, hfit _, k2, k4, .inl ⟨c0, c1, by show r.1.seq + 1 = _; rw [hsq], hm2, c3⟩⟩
    · have hnd : ¬ Dead s := by
        intro hD
        have := dead_put hD 3 _ r hr
        omega
      have hne : r.2.2.1 ≠ 0 := by omega
      rw [if_neg hne] at hf
      by_cases hup : s.n.ops < r.1.n.ops
      · rw [if_pos hup] at hf
        exact ⟨_, hf, hfit _, k2, k4, .inr (.inr ⟨hne, c1, hnd⟩)⟩
      · rw [if_neg hup] at hf
        exact ⟨_, hf, k1, k2, k4, .inr (.inr ⟨hne, c1, hnd⟩)⟩
    · have hne : r.2.2.1 ≠ 0 := by omega
      rw [if_neg hne] at hf
      by_cases hup : s.n.ops < r.1.n.ops
      · rw [if_pos hup] at hf
        exact ⟨_, hf, hfit _, k2, k4, .inr (.inl ⟨hne, c1, .inr (.inr (dead_recast c2 r.1.n.ops r.1.n.plan r.1.n.down _))⟩)⟩
      · rw [if_neg hup] at hf
        exact ⟨_, hf, k1, k2, k4, .inr (.inl ⟨hne, c1, .inr (.inr c2)⟩)⟩
/-! ### opened anew -/
theorem stTo_at (n : Nand) : ∀ (k j : Nat), j < k → (stTo n k)[j]? = some (firstS n j)
  | 0, j, h => by omega
  | k + 1, j, h => by
    rw [stTo]
    by_cases hj : j < k
    · rw [List.getElem?_append_left (by rw [stTo_len]; exact hj)]
      exact stTo_at n k j hj
    · obtain rfl : j = k := by omega
      rw [List.getElem?_append_right (by rw [stTo_len]; exact Nat.le_refl _)]
      simp [stTo_len]
theorem scan_mem (n : Nand) (a : Nat) (p : Page) (h : readS n a = (p, 0)) : ∀ k, a < k → ⟨(a : Int), p⟩ ∈ scanTo n k
  | 0, hk => by omega
  | k + 1, hk => by
    rw [scanTo]
    by_cases hj : a < k
    · have := scan_mem n a p h k hj
      split
      · exact List.mem_append_left _ this
      · exact this
    · obtain rfl : a = k := by omega
      rw [h, if_pos rfl]
      exact List.mem_append_right _ (List.mem_singleton.2 rfl)
theorem scan_of (n : Nand) : ∀ (k : Nat) (f : Fnd), f ∈ scanTo n k → ∃ a : Nat, a < k ∧ readS n a = (f.p, 0)
  | 0, f, h => by simp [scanTo] at h
  | k + 1, f, h => by
    rw [scanTo] at h
    split at h
    · rename_i h0
      rcases List.mem_append.1 h with h | h
      · obtain ⟨a, ha, hr⟩ := scan_of n k f h; exact ⟨a, by omega, hr⟩
      · rw [List.mem_singleton.1 h]
        exact ⟨k, by omega, by rw [← h0]⟩
    · obtain ⟨a, ha, hr⟩ := scan_of n k f h; exact ⟨a, by omega, hr⟩
theorem seqTo_ge (l : List Fnd) : ∀ (j i : Nat) (f : Fnd), i < j → l[i]? = some f → f.p.seq + 1 ≤ seqTo l j
  | 0, i, f, h, _ => by omega
  | j + 1, i, f, h, hf => by
    rw [seqTo]
    by_cases hj : i < j
    · have := seqTo_ge l j i f hj hf
      split <;> omega
    · obtain rfl : i = j := by omega
      rw [hf]
      simp only
      omega
theorem seqTo_is (l : List Fnd) : ∀ j, seqTo l j = 0 ∨ ∃ f ∈ l, seqTo l j = f.p.seq + 1
  | 0 => .inl rfl
  | j + 1 => by
    rw [seqTo]
    cases hf : l[j]? with
    | none => exact seqTo_is l j
    | some f =>
      simp only
      rcases Int.le_total (seqTo l j) (f.p.seq + 1) with h | h
      · exact .inr ⟨f, List.mem_of_getElem? hf, by omega⟩
      · rcases seqTo_is l j with h2 | ⟨g, hg, h2⟩
        · exact .inl (by omega)
        · exact .inr ⟨g, hg, by omega⟩
theorem read_text {n : Nand} {a : Int} {t : ByteArray} (hb : n.blocks = 16) (hp : n.per = 8) (hd : n.down = false) (h : textAt n a t) : n.read a = (0, t) := by
  obtain ⟨m, rfl, hm, ht⟩ := h
  have e1 : (n.blocks : Int) * n.per = 128 := by rw [hb, hp]; rfl
  unfold Nand.read
  rw [hd, if_neg (by simp), if_neg (by rw [e1]; omega)]
  simp only [Int.toNat_natCast, hp, ht]
theorem text_read {n : Nand} {m : Nat} {t : ByteArray} (hp : n.per = 8) (hm : m < 128) (h : n.read m = (0, t)) : textAt n m t := by
  unfold Nand.read at h
  split at h
  · exact absurd (congrArg Prod.fst h) (by simp)
  · split at h
    · exact absurd (congrArg Prod.fst h) (by simp)
    · simp only [Int.toNat_natCast, hp] at h
      split at h
      · exact absurd (congrArg Prod.fst h) (by simp)
      · rename_i u hu
        refine ⟨m, rfl, hm, ?_⟩
        rw [hu]
        injection h with _ h
        rw [h]
theorem readS_text {n : Nand} {a : Int} {t : ByteArray} {p : Page} (hb : n.blocks = 16) (hp : n.per = 8) (hd : n.down = false) (h : textAt n a t) (hr : readF t = (p, 0)) : readS n a = (p, 0) := by
  unfold readS
  rw [read_text hb hp hd h, if_pos rfl, hr]
theorem open_fit (s : Sto) (h : Fit s) : Fit (openS s.n.up) ∧ QS (openS s.n.up) ∧ (∀ a t p, textAt s.n a t → readF t = (p, 0) → p.seq + 1 ≤ (openS s.n.up).seq) ∧ 0 ≤ (openS s.n.up).seq ∧ (openS s.n.up).seq ≤ 281474976710656 := by
  have hb : s.n.up.blocks = 16 := h.b16
  have hp : s.n.up.per = 8 := h.p8
  have hsc : (openS s.n.up).seq = seqTo (scanTo s.n.up 128) (scanTo s.n.up 128).length := by
    unfold openS
    simp only [hb, hp]
  refine ⟨⟨h.b16, h.p8, h.bl, by show (stTo s.n.up s.n.up.blocks).length = 16; rw [stTo_len]; exact h.b16, h.pl, h.sm, fun i hi h0 => ?_, .inl rfl⟩, ?_, fun a t p ht hr => ?_, ?_, ?_⟩
  · have h1 : (stTo s.n.up s.n.up.blocks).getD i 0 = 0 := h0
    rw [List.getD, stTo_at _ _ _ (by rw [hb]; exact hi)] at h1
    have h2 : firstS s.n.up i = 0 := h1
    unfold firstS at h2
    split at h2
    · exact absurd h2 (by decide)
    · split at h2
      · rename_i h3
        have h4 : s.n.up.next (i : Int) = ((s.n.blk i).pages.length : Int) := next_blk h i hi
        rw [h4] at h3
        show (s.n.blk i).pages = []
        exact List.eq_nil_of_length_eq_zero (by omega)
      · exact absurd h2 (by decide)
  · unfold QS
    rw [hsc]
    rcases seqTo_is (scanTo s.n.up 128) (scanTo s.n.up 128).length with h0 | ⟨f, hf, h0⟩
    · exact .inl (by omega)
    · obtain ⟨m, hm, hr⟩ := scan_of _ _ _ hf
      refine .inr (.inl ⟨m, (s.n.up.read m).2, f.p, ?_, ?_, by omega⟩)
      · have hr0 : (s.n.up.read m).1 = 0 := by
          unfold readS at hr
          by_cases h1 : (s.n.up.read m).1 = 0
          · exact h1
          · rw [if_neg h1] at hr
            exact absurd (congrArg Prod.snd hr) h1
        exact text_read (n := (openS s.n.up).n) hp hm (by show s.n.up.read m = _; rw [← hr0])
      · unfold readS at hr
        split at hr
        · exact hr
        · rename_i h1
          exact absurd (congrArg Prod.snd hr) h1
  · rw [hsc]
    obtain ⟨m, rfl, hm, hx⟩ := ht
    have hr2 : readS s.n.up m = (p, 0) := readS_text hb hp rfl ⟨m, rfl, hm, hx⟩ hr
    obtain ⟨i, hi⟩ := List.mem_iff_getElem?.1 (scan_mem _ m p hr2 128 hm)
    exact seqTo_ge _ _ i _ (List.getElem?_eq_some_iff.1 hi).1 hi
  · rw [hsc]
    exact (seqTo_le _ (fun f hf => scanTo_may _ _ f hf) _).1
  · rw [hsc]
    exact (seqTo_le _ (fun f hf => scanTo_may _ _ f hf) _).2
theorem fit_size {s : Sto} (h : Fit s) (a : Int) : (s.n.up.read a).2.size ≤ 70368744177664 := by
  unfold Nand.read
  split
  · exact Nat.zero_le _
  · split
    · exact Nat.zero_le _
    · split
      · exact Nat.zero_le _
      · rename_i u hu
        have := h.sm _ u (List.mem_of_getElem? hu)
        show u.size ≤ _
        omega
theorem fit_size' {s : Sto} (h : Fit s) (a : Int) : (s.n.read a).2.size ≤ 70368744177664 := by
  unfold Nand.read
  split
  · exact Nat.zero_le _
  · split
    · exact Nat.zero_le _
    · split
      · exact Nat.zero_le _
      · rename_i u hu
        have := h.sm _ u (List.mem_of_getElem? hu)
        show u.size ≤ _
        omega
end Go.Proofs.YtfacgeappbgldaaGreatDoor.st
namespace Go.Proofs.YtfacgeappbgldaaGreatDoor.st
open Go.RowKit Go.Proofs.YtfacgeappbgldaaGreatDoor.er Go.Proofs.YtfacgeappbgldaaGreatDoor.nd Go.Proofs.YtfacgeappbgldaaGreatDoor.we Go.Proofs.YtfacgeappbgldaaGreatDoor.ge Go.Proofs.YtfacgeappbgldaaGreatDoor.pg
attribute [local go_sem ↓] Go.wp_at_zero Go.wp_at_succ
set_option linter.unusedVariables false

set_option maxHeartbeats 4000000 in
set_option maxRecDepth 100000 in
theorem app_no (w : World) (q p : Nat) (sv vv : Value) (N : Nat → Prop) (s : Sto) (pg : Page) (h : StoIn w q p sv vv N s) (hm : mayB { pg with seq := 0 } = false) :
    Calls Tryz.prog 33 #[.pointer (some ⟨q, 0, none⟩), pg.val] w (AppPost q p sv vv w N (s, 0, 1)) := by
  obtain ⟨k, sp, y, sq, b⟩ := pg
  have HB1 := Lib.hid ((Below.refl w.heap.size w).alloc (Nat.le_refl _) (.cells #[.int .i64 k, .int .i64 sp, .int .i64 y, .int .i64 0, .string b] 39))
  have H1 := Lib.hid (h.below HB1.out)
  have hq := seql q
  have HNo := Lib.hid (fun wq => write_no ⟨k, sp, y, 0, b⟩ wq hm)
  show Calls Tryz.prog 33 #[.pointer (some ⟨q, 0, none⟩), .agg #[.int .i64 k, .int .i64 sp, .int .i64 y, .int .i64 sq, .string b]] w _
  clear h hm
  go_enter Tryz.func33, Tryz.ntmps33
  go_wp2_with fail
  refine (HNo.out _).mono ?_
  rintro e w2 ⟨rfl, hb2⟩
  have HB2 := Lib.hid (HB1.out.trans (hb2.mono HB1.out.size))
  have H2 := Lib.hid (H1.out.below hb2)
  clear hb2
  go_wp2_with fail
  refine bodyPost_ret (v := .tuple #[.int .i64 0, .iface 44 (.int .i64 1)]) (by simp [results, Tryz.results33, go_sem]) rfl ⟨N, rfl, H2.out, Moved.below HB2.out⟩
set_option maxHeartbeats 4000000 in
set_option maxRecDepth 100000 in
theorem app_long (w : World) (q p : Nat) (sv vv : Value) (N : Nat → Prop) (s : Sto) (pg : Page) (h : StoIn w q p sv vv N s) (hm : mayB { pg with seq := 0 } = true) (hs : s.seq = 281474976710656) :
    Calls Tryz.prog 33 #[.pointer (some ⟨q, 0, none⟩), pg.val] w (AppPost q p sv vv w N (s, 0, 2)) := by
  obtain ⟨k, sp, y, sq, b⟩ := pg
  have HB1 := Lib.hid ((Below.refl w.heap.size w).alloc (Nat.le_refl _) (.cells #[.int .i64 k, .int .i64 sp, .int .i64 y, .int .i64 0, .string b] 39))
  have H1 := Lib.hid (h.below HB1.out)
  have hq := seql q
  have HWr := Lib.hid (fun wq => write_yes ⟨k, sp, y, 0, b⟩ wq hm)
  show Calls Tryz.prog 33 #[.pointer (some ⟨q, 0, none⟩), .agg #[.int .i64 k, .int .i64 sp, .int .i64 y, .int .i64 sq, .string b]] w _
  clear h hm
  go_enter Tryz.func33, Tryz.ntmps33
  go_wp2_with fail
  refine (HWr.out _).mono ?_
  rintro e w2 ⟨rfl, hb2⟩
  have HB2 := Lib.hid (HB1.out.trans (hb2.mono HB1.out.size))
  have H2 := Lib.hid (H1.out.below hb2)
  have c11 := H2.out.cells.c11
  rw [hs] at c11
  clear hb2
  go_wp2_with fail
  refine bodyPost_ret (v := .tuple #[.int .i64 0, .iface 44 (.int .i64 2)]) (by simp [results, Tryz.results33, go_sem]) rfl ⟨N, rfl, H2.out, Moved.below HB2.out⟩
set_option maxHeartbeats 4000000 in
set_option maxRecDepth 100000 in
theorem Append_of (w : World) (q p : Nat) (sv vv : Value) (N : Nat → Prop) (s : Sto) (pg : Page) (r : Sto × Int × Int) (h : StoIn w q p sv vv N s) (hA : ∀ wq, StoIn wq q p sv vv N s → Calls Tryz.prog 33 #[.pointer (some ⟨q, 0, none⟩), pg.val] wq (AppPost q p sv vv wq N r)) :
    Calls Tryz.prog 12 #[.pointer (some ⟨q, 0, none⟩), pg.val] w (AppP q p sv vv w N pg.key r) := by
  obtain ⟨k, sp, y, sq, b⟩ := pg
  show Calls Tryz.prog 12 #[.pointer (some ⟨q, 0, none⟩), .agg #[.int .i64 k, .int .i64 sp, .int .i64 y, .int .i64 sq, .string b]] w _
  have HB1 := Lib.hid ((Below.refl w.heap.size w).alloc (Nat.le_refl _) (.cells #[.int .i64 k, .int .i64 sp, .int .i64 y, .int .i64 sq, .string b] 39))
  have H1 := Lib.hid (h.below HB1.out)
  have HNF : Hid (¬ foot q sv vv N w.heap.size) := fun hf => by have := h.lt _ hf; omega
  have HX := Lib.hid (Whole.new w 39 #[.int .i64 k, .int .i64 sp, .int .i64 y, .int .i64 sq, .string b])
  have HA := Lib.hid (hA (w.alloc (.cells #[.int .i64 k, .int .i64 sp, .int .i64 y, .int .i64 sq, .string b] 39)) H1.out)
  clear h hA
  go_enter Tryz.func12, Tryz.ntmps12
  go_wp2_with fail
  refine HA.out.mono ?_
  rintro e w2 ⟨N2, rfl, h2, m2⟩
  obtain ⟨s1, a, c⟩ := r
  have H2 := Lib.hid h2
  have M2 := Lib.hid (Moved.trans (Moved.below HB1.out) m2)
  have hbx := HX.out.keep m2.keep HNF.out
  obtain ⟨⟨q0, q1, q2, q3, q4⟩, z0, z1, z2, z3, z4⟩ := tmp_cells hbx
  clear h2 m2 hbx q0 q1 q3 q4 z0 z1 z2 z3 z4
  by_cases hcz : c = 0
  · subst hcz
    go_wp2_with (go_at_call 34; refine (wrap_nil _ _ _).mono ?_; rintro e w3 ⟨rfl, rfl⟩)
    refine bodyPost_ret (v := .tuple #[.int .i64 a, .nilIface]) (by simp [results, Tryz.results12, go_sem]) rfl ⟨_, N2, rfl, H2.out, M2.out, .inl ⟨rfl, rfl⟩⟩
  · have HCZ := Lib.hid hcz
    have hev : errV c = .iface 44 (.int .i64 c) := if_neg hcz
    simp only [hev]
    clear hcz hev
    go_wp2_with (go_at_call 34; refine (wrap_err _ _ _ _ _).mono ?_; rintro e w3 ⟨rfl, rfl⟩)
    have hbw : Below w2.heap.size w2 (w2.alloc (.cells #[.string appName, .int .i64 y, .iface 44 (.int .i64 c)] 98)) := (Below.refl _ _).alloc (Nat.le_refl _) _
    refine bodyPost_ret (v := .tuple #[.int .i64 a, .iface 94 (.pointer (some ⟨w2.heap.size, 0, none⟩))]) (by simp [results, Tryz.results12, go_sem]) rfl ⟨_, N2, rfl, H2.out.below hbw, M2.out.trans (Moved.below hbw), .inr ⟨HCZ.out, [w2.heap.size], ⟨rfl, _, Whole.new _ _ _, rfl⟩, fun b hb hf => by have := H2.out.lt _ hf; have := List.mem_singleton.1 hb; omega⟩⟩
/-! ### what a law says -/
structure Kept (s : Sto) (ks : List Fnd) (j : Nat) : Prop where
  fit : Fit s
  up : s.n.down = false
  qs : QS s
  ops : s.n.ops ≤ 4 * (j : Int)
  all : ∀ f ∈ ks, mayB f.p = true ∧ textAt s.n f.at_ (writeF f.p)
/-- What Append leaves: c is the error's number. -/
def KeptOut (s : Sto) (ks : List Fnd) (j : Nat) (p : Page) (s' : Sto) (a c : Int) : Prop :=
  (c = 0 ∧ Kept s' (ks ++ [⟨a, { p with seq := s.seq }⟩]) (j + 1) ∧ s'.seq = s.seq + 1) ∨
  (c ≠ 0 ∧ Kept s' ks (j + 1)) ∨
  (c ≠ 0 ∧ s'.n.down = true ∧ Kept (openS s'.n.up) ks (j + 1) ∧ s.seq ≤ (openS s'.n.up).seq ∧ Fit s')
theorem kept_app {s : Sto} {ks : List Fnd} {j : Nat} (p : Page) (h : Kept s ks j) (h0 : 0 ≤ s.seq) (hq : s.seq ≤ 281474976710655) : ∃ s' a c, appF 4 s p = some (s', a, c) ∧ KeptOut s ks j p s' a c := by
  obtain ⟨⟨s', a, c⟩, hr, k1, k2, k3, k4⟩ := app_fit s p h.fit h.up h.qs h0 hq
  have hops := h.ops
  have ho : s'.n.ops ≤ 4 * ((j + 1 : Nat) : Int) := by simp only at k3; push_cast; omega
  have hall : ∀ f ∈ ks, mayB f.p = true ∧ textAt s'.n f.at_ (writeF f.p) := fun f hf => ⟨(h.all f hf).1, (h.all f hf).2.ext k2⟩
  refine ⟨s', a, c, hr, ?_⟩
  rcases k4 with ⟨c0, c1, c2, c3, c4⟩ | ⟨c0, c1, c2⟩ | ⟨c0, c1, c2⟩
  · have h3 := read_write _ c3
    refine .inl ⟨c0, ⟨k1, c1, .inr (.inl ⟨a, _, _, c4, h3, ?_⟩), ho, fun f hf => ?_⟩, c2⟩
    · simp only at c2 ⊢; omega
    · rcases List.mem_append.1 hf with hf | hf
      · exact hall f hf
      · rw [List.mem_singleton.1 hf]
        exact ⟨c3, c4⟩
  · exact .inr (.inl ⟨c0, k1, c1, c2, ho, hall⟩)
  · obtain ⟨o1, o2, o3, o4, o5⟩ := open_fit s' k1
    refine .inr (.inr ⟨c0, c1, ⟨o1, rfl, o2, ho, hall⟩, ?_, k1⟩)
    rcases h.qs with hz | ⟨a', t, p', ht, hrd, hle⟩ | hD
    · omega
    · have := o3 a' t p' (ht.ext k2) hrd
      omega
    · exact absurd hD c2
def KAppP (w0 w : World) (q p : Nat) (sv vv : Value) (N : Nat → Prop) (s : Sto) (ks : List Fnd) (j : Nat) (pg : Page) (e : Ending) (w' : World) : Prop :=
  ∃ s' a c v N', e = .returned (.tuple #[.int .i64 a, v]) ∧ KeptOut s ks j pg s' a c ∧ Law w0 w' q p sv vv N' s' ∧ Moved w q sv vv N w' N' ∧ ((c = 0 ∧ v = .nilIface) ∨ (c ≠ 0 ∧ ∃ t x, v = .iface t x))
theorem KApp {w0 w : World} {q p : Nat} {sv vv : Value} {N : Nat → Prop} {s : Sto} {ks : List Fnd} {j : Nat} (h : Law w0 w q p sv vv N s) (hk : Kept s ks j) (hj : j ≤ 1000) (pg : Page) :
    Calls Tryz.prog 12 #[.pointer (some ⟨q, 0, none⟩), pg.val] w (KAppP w0 w q p sv vv N s ks j pg) := by
  have hops := hk.ops
  have hq1 := h.st.q1
  by_cases hq : s.seq ≤ 281474976710655
  · obtain ⟨s', a, c, hr, ho⟩ := kept_app pg hk h.st.q0 hq
    refine (Append_any w q p sv vv N s pg 4 (s', a, c) h.st h.laid h.zero hr (by omega) hq).mono ?_
    rintro e w' ⟨v, N', rfl, hs, hm, he⟩
    refine ⟨s', a, c, v, N', rfl, ho, h.moved hs hm, hm, ?_⟩
    by_cases hc : c = 0
    · subst hc; exact .inl ⟨rfl, zero_errS he⟩
    · exact .inr ⟨hc, some_errS he hc⟩
  · have hs6 : s.seq = 281474976710656 := by omega
    obtain ⟨c, hc, hA⟩ : ∃ c : Int, c ≠ 0 ∧ ∀ wq, StoIn wq q p sv vv N s → Calls Tryz.prog 33 #[.pointer (some ⟨q, 0, none⟩), pg.val] wq (AppPost q p sv vv wq N (s, 0, c)) := by
      cases hm : mayB { pg with seq := 0 }
      · exact ⟨1, by decide, fun wq hw => app_no wq q p sv vv N s pg hw hm⟩
      · exact ⟨2, by decide, fun wq hw => app_long wq q p sv vv N s pg hw hm hs6⟩
    refine (Append_of w q p sv vv N s pg (s, 0, c) h.st hA).mono ?_
    rintro e w' ⟨v, N', rfl, hs, hm, he⟩
    refine ⟨s, 0, c, v, N', rfl, .inr (.inl ⟨hc, hk.fit, hk.up, hk.qs, by push_cast; omega, hk.all⟩), h.moved hs hm, hm, .inr ⟨hc, some_errS he hc⟩⟩
theorem planZ (w : World) (F : Nat → Prop) (p : Nat) (n : Nand) (h : NandAt w F p n) (A : Option Addr) (c : Nat) :
    Calls Tryz.prog 11 #[.pointer (some ⟨p, 0, none⟩), .slice A 0 c] w fun e w' => e = .returned (.tuple #[]) ∧ MvAt w F p (n.planned []) w' := by
  have HST : Hid (NandAt (w.setCell ⟨p, 4, none⟩ (.slice none 0 0)) F p (n.planned []) ∧ Mv F w F (w.setCell ⟨p, 4, none⟩ (.slice none 0 0))) := by
    obtain ⟨pb, pv, vs, hi⟩ := h
    exact ⟨⟨pb, _, vs, hi.setPlan (s' := n.planned []) (pv' := .slice none 0 0) (.slice none 0 0) rfl rfl (World.ownsRow_nil _ _ _ _) (fun g hg => by simp [Value.ownBlock] at hg) (planned_ok hi.ok [] (by simp))⟩, MvSet hi.fp _ _⟩
  obtain ⟨A0, n0, c0, c4⟩ : ∃ A n c, w.cell? ⟨p, 4, none⟩ = some (.slice A n c) := by
    obtain ⟨pb, pv, vs, hi⟩ := h
    obtain ⟨A, c, e⟩ := own_slice hi.plan
    exact ⟨A, _, c, by rw [hi.obj.cell, e]; rfl⟩
  have f4 : w.frozen? ⟨p, 4, none⟩ = false := by obtain ⟨_, _, _, hi⟩ := h; exact hi.obj.fz 4
  have hq := heql p
  clear h
  go_enter Tryz.func11, Tryz.ntmps11
  go_wp2_with fail
  refine wp_loop_rounds 1 ?_
  rw [rounds_succ]
  go_wp2_with fail
  go_end0
  exact ⟨rfl, F, HST.out.1, HST.out.2⟩
theorem PlanG {w0 w : World} {q p : Nat} {sv vv : Value} {N : Nat → Prop} {s : Sto} (h : Law w0 w q p sv vv N s) (ho : s.n.ops ≤ 1000000) (A : Option Addr) (n c : Nat) (l : List Mis) (hl : l.length = n) (hn : n ≤ 1000) (ha : 0 < n → ∃ b off, A = some ⟨b, off, none⟩ ∧ MisArg w b off l ∧ ¬ foot q sv vv N b) (hj : ∀ m ∈ l, m.junk.size ≤ 140737488351232) :
    Calls Tryz.prog 11 #[.pointer (some ⟨p, 0, none⟩), .slice A n c] w fun e w' => e = .returned (.tuple #[]) ∧ ∃ N', Law w0 w' q p sv vv N' { s with n := s.n.planned l } ∧ Moved w q sv vv N w' N' := by
  rcases Nat.eq_zero_or_pos n with h0 | h0
  · subst h0
    obtain rfl := List.eq_nil_of_length_eq_zero hl
    refine (planZ w N p s.n h.st.arr A c).mono ?_
    rintro e w' ⟨rfl, F', hn, hm⟩
    obtain ⟨h1, h2⟩ := h.st.under hn hm rfl rfl
    exact ⟨rfl, F', h.moved h1 h2, h2⟩
  · obtain ⟨b, off, rfl, hM, hF⟩ := ha h0
    refine (Plan_some w N p s.n h.st.arr (by omega) b off c n l hl (by omega) hM (fun hk => hF (.inr (.inr (.inr hk)))) hj).mono ?_
    rintro e w' ⟨rfl, F', hn, hm⟩
    obtain ⟨h1, h2⟩ := h.st.under hn hm rfl rfl
    exact ⟨rfl, F', h.moved h1 h2, h2⟩
theorem kept_plan {s : Sto} {ks : List Fnd} {j : Nat} (h : Kept s ks j) (l : List Mis) : Kept { s with n := s.n.planned l } ks j :=
  ⟨⟨h.fit.b16, h.fit.p8, h.fit.bl, h.fit.sl, h.fit.pl, h.fit.sm, h.fit.fr, h.fit.op⟩, h.up, by
    rcases h.qs with h1 | h1 | h1
    · exact .inl h1
    · exact .inr (.inl h1)
    · exact .inr (.inr (dead_recast h1 s.n.ops (s.n.planned l).plan s.n.down s.seq)), h.ops, h.all⟩
theorem UpL {w0 w : World} {q p : Nat} {sv vv : Value} {N : Nat → Prop} {s : Sto} (h : Law w0 w q p sv vv N s) :
    Calls Tryz.prog 21 #[.pointer (some ⟨p, 0, none⟩)] w fun e w' => e = .returned (.tuple #[]) ∧ ∃ N', Law w0 w' q p sv vv N' { s with n := s.n.up } ∧ Moved w q sv vv N w' N' := by
  refine (Up_any w N p s.n h.st.arr).mono ?_
  rintro e w' ⟨rfl, F', hn, hm⟩
  obtain ⟨h1, h2⟩ := h.st.under hn hm rfl rfl
  exact ⟨rfl, F', h.moved h1 h2, h2⟩
theorem OpenK {w0 w : World} {q p : Nat} {sv vv : Value} {N : Nat → Prop} {s : Sto} (h : Law w0 w q p sv vv N { s with n := s.n.up }) (hf : Fit s) :
    Calls Tryz.prog 22 #[.pointer (some ⟨p, 0, none⟩)] w fun e w' => ∃ q' sv' vv', e = .returned (.tuple #[.pointer (some ⟨q', 0, none⟩), .nilIface]) ∧ Law w0 w' q' p sv' vv' N (openS s.n.up) ∧ Below w.heap.size w w' ∧ ∀ x, x < w.heap.size → foot q' sv' vv' N x → foot q sv vv N x := by
  have ha : NandAt w N p s.n.up := h.st.arr
  refine (open_ok w N p _ ha rfl h.laid (fit_size hf)).mono ?_
  rintro e w' ⟨q', sv', vv', rfl, hst, hb, hf'⟩
  refine ⟨q', sv', vv', rfl, ⟨hst, h.bel.trans (hb.mono h.bel.size), ?_, h.laid.below hb h.laid.lt, h.pos⟩, hb, ?_⟩
  · have hz := h.bel.size
    intro k hk
    rcases hk with hk | hk | hk | hk
    · have := hf' k (.inl hk); omega
    · have := hf' k (.inr (.inl hk)); omega
    · have := hf' k (.inr (.inr (.inl hk))); omega
    · exact h.base k (.inr (.inr (.inr hk)))
  · intro x hx hk
    rcases hk with hk | hk | hk | hk
    · have := hf' x (.inl hk); omega
    · have := hf' x (.inr (.inl hk)); omega
    · have := hf' x (.inr (.inr (.inl hk))); omega
    · exact .inr (.inr (.inr hk))
theorem ReadK {w0 w : World} {q p : Nat} {sv vv : Value} {N : Nat → Prop} {s : Sto} {ks : List Fnd} {j : Nat} (h : Law w0 w q p sv vv N s) (hk : Kept s ks j) (a k sp y sq : Int) (b : ByteArray) (hf : (⟨a, ⟨k, sp, y, sq, b⟩⟩ : Fnd) ∈ ks) :
    Calls Tryz.prog 16 #[.pointer (some ⟨q, 0, none⟩), .int .i64 a] w fun e w' => e = .returned (.tuple #[.agg #[.int .i64 k, .int .i64 sp, .int .i64 y, .int .i64 sq, .string b], .nilIface]) ∧ Below w.heap.size w w' :=
  ReadP h a k sp y sq b (read_text hk.fit.b16 hk.fit.p8 hk.up (hk.all _ hf).2) (hk.all _ hf).1
theorem neq_page (k sp y sq : Int) (b : ByteArray) (w : World) : (binOp .neq 39 (.agg #[.int .i64 k, .int .i64 sp, .int .i64 y, .int .i64 sq, .string b]) (.agg #[.int .i64 k, .int .i64 sp, .int .i64 y, .int .i64 sq, .string b])).run Tryz.prog w = .ok (.bool false) w := by
  have h := eq_page k sp y sq b 9998 w
  simp [binOp, Op.equal, Op.maxDepth, h]
theorem gt_page : Tryz.prog.eqGuardType Tryz.prog.depth 39 = false := by kernel_rfl
/-- One list of mishaps: where its slice points. -/
structure Pln where
  A : Option Addr
  c : Nat
  l : List Mis
def PlnArg (w : World) (b off : Nat) (l : List Pln) : Prop := ∀ (j : Nat) (x : Pln), l[j]? = some x → w.cell? ⟨b, off + j, none⟩ = some (.slice x.A x.l.length x.c) ∧ x.l.length ≤ 9223372036854775807 ∧ (∀ m ∈ x.l, m.junk.size ≤ 140737488351232) ∧ (0 < x.l.length → ∃ b off, x.A = some ⟨b, off, none⟩ ∧ b < w.heap.size ∧ MisArg w b off x.l)
theorem misArg_below {B : Nat} {w w' : World} {b off : Nat} {l : List Mis} (h : MisArg w b off l) (hb : Below B w w') (hB : b < B) : MisArg w' b off l := fun j m hm => by
  obtain ⟨h0, h1, h2, h3⟩ := h j m hm
  exact ⟨(hb.cell (p := ⟨b, _, none⟩) hB).trans h0, (hb.cell (p := ⟨b, _, none⟩) hB).trans h1, (hb.cell (p := ⟨b, _, none⟩) hB).trans h2, (hb.cell (p := ⟨b, _, none⟩) hB).trans h3⟩
theorem s0_pages (i : Nat) : (s0.n.blk i).pages = [] := by
  show (List.getD (List.replicate 16 (⟨[], 0, false⟩ : Blk)) _ ⟨[], 0, false⟩).pages = []
  rw [List.getD, List.getElem?_replicate]
  split <;> rfl
theorem fit_s0 : Kept s0 [] 0 :=
  ⟨⟨rfl, rfl, rfl, rfl, fun i => by rw [s0_pages]; exact Nat.zero_le _, fun i t ht => by rw [s0_pages] at ht; simp at ht, fun i _ _ => s0_pages i, .inl rfl⟩, rfl, .inl (Int.le_refl _), Int.le_refl _, fun f hf => by simp at hf⟩
end Go.Proofs.YtfacgeappbgldaaGreatDoor.st
namespace Go.Proofs.YtfacgeappbgldaaGreatDoor.st
open Go.ChangeShapes Go.WideShapes Go.ChangeAt Go.RowKit Go.Joins Go.Deep
open Go.Proofs.YtfacgeappbgldaaGreatDoor.er Go.Proofs.YtfacgeappbgldaaGreatDoor.nd Go.Proofs.YtfacgeappbgldaaGreatDoor.we Go.Proofs.YtfacgeappbgldaaGreatDoor.ge Go.Proofs.YtfacgeappbgldaaGreatDoor.pg
set_option linter.unusedVariables false

/-- All lengths within a datum fit into a memory. -/
def Sm {H : Type} (P : Program) (t : TypeId) (d : DataW H) : Prop := ∀ n ∈ d.weights P t, n ≤ 140737488351232
section
variable {H : Type} {P : Program}
theorem small_all {e : TypeId} : ∀ {l : List (DataW H)} {d : DataW H}, d ∈ l → ∀ n ∈ d.weights P e, n ∈ DataW.weightsAll P e l
  | x :: r, d, h, n, hn => by
    simp only [DataW.weightsAll, List.mem_append]
    rcases List.mem_cons.1 h with rfl | h
    · exact .inl hn
    · exact .inr (small_all h n hn)
theorem sm_slice {t e : TypeId} {elems rest : List (DataW H)} (ht : P.underlying t = some (.slice e)) (h : Sm P t (.slice elems rest)) : ∀ d ∈ elems, Sm P e d := by
  intro d hd n hn
  refine h n ?_
  simp only [DataW.weights, ht, List.mem_cons, List.mem_append]
  exact .inr (.inl (small_all hd n hn))
theorem sm_struct {t : TypeId} {fs : Array Field} {parts : List (DataW H)} (ht : P.underlying t = some (.struct fs)) (h : Sm P t (.agg parts)) (j : Nat) (f : Field) (d : DataW H) (hf : fs[j]? = some f) (hd : parts[j]? = some d) : Sm P f.type d := by
  intro n hn
  refine h n ?_
  simp only [DataW.weights, ht]
  exact DataW.weights_mem_each (j := j) (by simp [hf]) hd n hn
theorem sm_string {t : TypeId} {s : ByteArray} (h : Sm P t (.lit (.string s.data.toList) : DataW H)) : s.size ≤ 140737488351232 := by
  have := h s.data.toList.length (by simp [DataW.weights])
  simpa using this
theorem sm_each {ts : List TypeId} {ds : List (DataW H)} (h : (DataW.weightsEach P ts ds).all (· ≤ reachBytes) = true) {j : Nat} {t : TypeId} {d : DataW H} (ht : ts[j]? = some t) (hd : ds[j]? = some d) : Sm P t d := by
  intro n hn
  have := List.all_eq_true.1 h n (DataW.weights_mem_each ht hd n hn)
  have h2 : n ≤ reachBytes := by simpa using this
  exact h2
end
section
variable {H : Type} {enc : TypeId × Value → H} {W : World}
theorem mis_of (n : Nat) (v : Value) (y : DataW H × List MemPlace) (hv : DataW.trod enc Tryz.prog W 0 (fun _ => true) true n 33 [v] = some y) (hs : Sm Tryz.prog 33 y.1) :
    ∃ (A : Option Addr) (c : Nat) (l : List Mis), v = .slice A l.length c ∧ l.length ≤ 9223372036854775807 ∧ (∀ m ∈ l, m.junk.size ≤ 140737488351232) ∧ (0 < l.length → ∃ b off, A = some ⟨b, off, none⟩ ∧ b < W.heap.size ∧ MisArg W b off l) := by
  rcases open_slice_fields Tryz.underlying33 Tryz.underlying32 (by kernel_rfl) (by kernel_rfl) hv with ⟨hcs, _⟩ | ⟨a, l, c, m, D, Pl, hcs, _, hl, hm, hmm, hx0, hi⟩
  · simp at hcs
    subst hcs
    exact ⟨none, 0, [], rfl, by simp, by simp, by simp⟩
  · simp at hcs
    subst hcs
    obtain ⟨b, off, spot⟩ := a
    have hml : l ≤ m := by rw [hmm]; split <;> omega
    rcases Nat.eq_zero_or_pos l with h0 | h0
    · subst h0
      exact ⟨_, c, [], rfl, by simp, by simp, by simp⟩
    · have hspot : spot = none := by
        obtain ⟨ys, n, _, _, _, hfl⟩ := hi 0 (by omega)
        obtain ⟨v0, y0, c0, _, t0⟩ := hfl 0 _ rfl
        exact addr_spot (by simpa using c0)
      subst hspot
      have hb : b < W.heap.size := by
        obtain ⟨ys, n, _, _, _, hfl⟩ := hi 0 (by omega)
        obtain ⟨v0, y0, c0, _, t0⟩ := hfl 0 _ rfl
        rw [addr_add] at c0
        exact World.block_lt_of_cell? _ _ c0
      rw [hx0] at hs
      have hx : ∀ i, i < l → ∃ s : Mis, (W.cell? ⟨b, off + i * 4, none⟩ = some (.int .i64 s.at_) ∧ W.cell? ⟨b, off + i * 4 + 1, none⟩ = some (.int .i64 s.kind) ∧ W.cell? ⟨b, off + i * 4 + 2, none⟩ = some (.int .i64 s.keep) ∧ W.cell? ⟨b, off + i * 4 + 3, none⟩ = some (.string s.junk)) ∧ s.junk.size ≤ 140737488351232 := by
        intro i hil
        obtain ⟨ys, n, hD, _, _, hfl⟩ := hi i (by omega)
        have hsD := sm_slice Tryz.underlying33 hs (D i) (List.mem_map.2 ⟨i, List.mem_range.2 hil, rfl⟩)
        rw [hD] at hsD
        obtain ⟨v0, y0, c0, _, t0⟩ := hfl 0 _ rfl
        obtain ⟨v1, y1, c1, _, t1⟩ := hfl 1 _ rfl
        obtain ⟨v2, y2, c2, _, t2⟩ := hfl 2 _ rfl
        obtain ⟨v3, y3, c3, hy3, t3⟩ := hfl 3 _ rfl
        have hs3 := sm_struct Tryz.underlying32 hsD 3 _ y3.1 rfl (by rw [List.getElem?_map, hy3]; rfl)
        obtain ⟨z0, u0, -, _⟩ := DataW.trod_int Tryz.underlying3 t0
        obtain ⟨z1, u1, -, _⟩ := DataW.trod_int Tryz.underlying3 t1
        obtain ⟨z2, u2, -, _⟩ := DataW.trod_int Tryz.underlying3 t2
        obtain ⟨s, u3, e3, _⟩ := DataW.trod_string Tryz.underlying9 t3
        rw [e3] at hs3
        have hsz := sm_string hs3
        simp at u0 u1 u2 u3
        subst u0 u1 u2 u3
        refine ⟨⟨z0, z1, z2, s⟩, ⟨?_, ?_, ?_, ?_⟩, hsz⟩
        · have := c0
          rw [addr_add] at this
          simpa using this
        · have := c1
          rw [addr_add] at this
          simpa [Nat.add_assoc] using this
        · have := c2
          rw [addr_add] at this
          simpa [Nat.add_assoc] using this
        · have := c3
          rw [addr_add] at this
          simpa [Nat.add_assoc] using this
      obtain ⟨ss, hlen, hst⟩ := exists_list _ _ hx
      exact ⟨_, c, ss, by rw [hlen], by simp only [hlen]; unfold maxLen at hm; omega, fun mm hmm => by
        obtain ⟨i, hi2⟩ := List.mem_iff_getElem?.1 hmm
        exact (hst i mm hi2).2, fun _ => ⟨b, off, rfl, hb, fun j mm hmm => (hst j mm hmm).1⟩⟩
theorem plans_of (f : Nat) (y : DataW H × List MemPlace) (A : Option Addr) (n c : Nat) (hv : DataW.trod enc Tryz.prog W 0 (fun _ => true) true f 48 (Value.slice A n c).cells.toList = some y) (hs : Sm Tryz.prog 48 y.1) :
    ∃ l2 : List Pln, l2.length = n ∧ n ≤ 9223372036854775807 ∧ (0 < n → ∃ b off, A = some ⟨b, off, none⟩ ∧ b < W.heap.size ∧ PlnArg W b off l2) := by
  rcases open_slice Tryz.underlying48 hv with ⟨hcs, _⟩ | ⟨a, l, c', m, n', D, Pl, hcs, _, hl, hm, hmm, hx0, hi⟩
  · simp [Value.cells] at hcs
    obtain ⟨_, rfl, _⟩ := hcs
    exact ⟨[], rfl, by omega, fun h => by omega⟩
  · simp [Value.cells] at hcs
    obtain ⟨rfl, rfl, rfl⟩ := hcs
    obtain ⟨b, off, spot⟩ := a
    have hml : n ≤ m := by rw [hmm]; split <;> omega
    rcases Nat.eq_zero_or_pos n with h0 | h0
    · subst h0
      exact ⟨[], rfl, by omega, fun h => by omega⟩
    · have hC : Tryz.prog.cellsOf 33 = 1 := by kernel_rfl
      rw [hC] at hi hx0
      rw [hx0] at hs
      have hv1 : ∀ i, i < n → ∃ v, W.cell? ((⟨b, off, spot⟩ : Addr).add i) = some v ∧ DataW.trod enc Tryz.prog W 0 (fun _ => true) true n' 33 [v] = some (D i, Pl i) := by
        intro i hil
        obtain ⟨cs', hc, ht'⟩ := hi i (by omega)
        obtain ⟨_, hcl, hat⟩ := World.cells?_some hc
        match cs', hcl with
        | [v], _ =>
          have h1 := hat 0 (by omega)
          refine ⟨v, ?_, ht'⟩
          have h2 : ((⟨b, off, spot⟩ : Addr).add (i * 1)).add 0 = (⟨b, off, spot⟩ : Addr).add i := by rw [Nat.mul_one]; simp [Addr.add]
          rw [h2] at h1
          simpa using h1
      have hspot : spot = none := by
        obtain ⟨v0, c0, _⟩ := hv1 0 (by omega)
        exact addr_spot c0
      subst hspot
      have hb : b < W.heap.size := by
        obtain ⟨v0, c0, _⟩ := hv1 0 (by omega)
        rw [addr_add] at c0
        exact World.block_lt_of_cell? _ _ c0
      have hx : ∀ i, i < n → ∃ x : Pln, W.cell? ⟨b, off + i, none⟩ = some (.slice x.A x.l.length x.c) ∧ x.l.length ≤ 9223372036854775807 ∧ (∀ m ∈ x.l, m.junk.size ≤ 140737488351232) ∧ (0 < x.l.length → ∃ b off, x.A = some ⟨b, off, none⟩ ∧ b < W.heap.size ∧ MisArg W b off x.l) := by
        intro i hil
        obtain ⟨v0, c0, t0⟩ := hv1 i hil
        have hsD := sm_slice Tryz.underlying48 hs (D i) (List.mem_map.2 ⟨i, List.mem_range.2 hil, rfl⟩)
        obtain ⟨A3, c3, l3, rfl, h1, h2, h3⟩ := mis_of n' v0 _ t0 hsD
        rw [addr_add] at c0
        exact ⟨⟨A3, c3, l3⟩, c0, h1, h2, h3⟩
      obtain ⟨ss, hlen, hst⟩ := exists_list _ _ hx
      exact ⟨ss, hlen, by unfold maxLen at hm; omega, fun _ => ⟨b, off, rfl, hb, hst⟩⟩
end
end Go.Proofs.YtfacgeappbgldaaGreatDoor.st
