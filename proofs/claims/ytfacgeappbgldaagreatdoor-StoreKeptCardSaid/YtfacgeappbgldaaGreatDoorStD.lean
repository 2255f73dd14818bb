/- store: retire, the array's Program, put. -/
import Derived.Test.YtfacgeappbgldaaGreatDoorStX
namespace Go.Proofs.YtfacgeappbgldaaGreatDoor.st
open Go.RowKit Go.Proofs.YtfacgeappbgldaaGreatDoor.er Go.Proofs.YtfacgeappbgldaaGreatDoor.nd Go.Proofs.YtfacgeappbgldaaGreatDoor.we Go.Proofs.YtfacgeappbgldaaGreatDoor.ge Go.Proofs.YtfacgeappbgldaaGreatDoor.pg
attribute [local go_sem ↓] Go.wp_at_zero Go.wp_at_succ
set_option linter.unusedVariables false

set_option maxHeartbeats 4000000 in
set_option maxRecDepth 100000 in
theorem retire_any (w : World) (q p : Nat) (sv vv : Value) (N : Nat → Prop) (s : Sto) (b : Nat) (h : StoIn w q p sv vv N s) (hb : b < s.n.blocks) :
    Calls Tryz.prog 61 #[.pointer (some ⟨q, 0, none⟩), .int .i64 (b : Int)] w fun e w' => e = .returned (.tuple #[]) ∧ StoIn w' q p sv vv N (s.retire b) ∧ Moved w q sv vv N w' N := by
  have hls := h.ls
  have hbl : b < s.state.length := by omega
  have hbli : (b : Int) < (s.state.length : Int) := by omega
  obtain ⟨A, c, rfl⟩ := own_slice h.st
  obtain ⟨g, rfl, _, _, _, hcs, hfs⟩ := own_cell h.st (by omega)
  obtain ⟨z, hz⟩ : ∃ z, s.state[b]? = some z := ⟨s.state[b], List.getElem?_eq_getElem hbl⟩
  have a0 := hcs b _ (ints_at _ _ _ hz)
  have a1 := hfs b
  have hgq := (h.ds g rfl).2
  have c8 := h.cells.c8
  have c10 := h.cells.c10
  have KS := Keep.set1 w g b (.int .i64 3)
  have H2 := Lib.hid (h.setState b 3 hbl)
  have d10 := H2.out.cells.c10
  have f10 := H2.out.obj.fz 10
  have SA : Hid (w.cell? ⟨q, 8, none⟩ = some (.slice (some ⟨g, 0, none⟩) s.state.length c)) := c8
  have SB : Hid ((w.setCell ⟨g, b, none⟩ (.int .i64 3)).cell? ⟨q, 8, none⟩ = some (.slice (some ⟨g, 0, none⟩) s.state.length c)) := KS.cell c8 (fun e => hgq e.symm)
  cases hq : (s.op == (b : Int))
  · have HQ := Lib.hid hq
    have HS : Hid (s.retire b = { s with state := s.state.set b 3 }) := by show _ = _; unfold Sto.retire; rw [if_neg (by simpa using hq)]
    clear h hcs hfs KS hz hls
    go_enter Tryz.func61, Tryz.ntmps61
    go_wp2_with fail
    go_end0
    rw [HS.out]
    exact ⟨rfl, H2.out, (Moved.refl w q _ vv N).setS rfl b _⟩
  · have HQ := Lib.hid hq
    have HS : Hid (s.retire b = { s with state := s.state.set b 3, op := -1 }) := by show _ = _; unfold Sto.retire; rw [if_pos (by simpa using hq)]
    have H3 := Lib.hid (StoIn.setOp (s := { s with state := s.state.set b 3 }) H2.out (-1) (by omega) (by show (-1 : Int) < s.n.blocks; omega))
    clear h hcs hfs KS hz hls
    go_enter Tryz.func61, Tryz.ntmps61
    go_wp2_with fail
    go_end0
    rw [HS.out]
    exact ⟨rfl, H3.out, ((Moved.refl w q _ vv N).setS rfl b _).setQ 10 _⟩
theorem program_geo (n : Nand) (a : Int) (t : ByteArray) : (n.program a t).2.blocks = n.blocks ∧ (n.program a t).2.per = n.per ∧ (n.program a t).2.ops ≤ n.ops + 1 ∧ n.ops ≤ (n.program a t).2.ops := by
  unfold Nand.program
  split
  · exact ⟨rfl, rfl, by show n.ops ≤ n.ops + 1; omega, Int.le_refl _⟩
  · split
    · exact ⟨rfl, rfl, by show n.ops ≤ n.ops + 1; omega, Int.le_refl _⟩
    · simp only
      split
      · exact ⟨rfl, rfl, by show n.ops ≤ n.ops + 1; omega, Int.le_refl _⟩
      · split
        · exact ⟨rfl, rfl, by show n.ops ≤ n.ops + 1; omega, Int.le_refl _⟩
        · split
          · exact ⟨rfl, rfl, Int.le_refl _, by show n.ops ≤ n.ops + 1; omega⟩
          · split
            · exact ⟨rfl, rfl, Int.le_refl _, by show n.ops ≤ n.ops + 1; omega⟩
            · exact ⟨rfl, rfl, Int.le_refl _, by show n.ops ≤ n.ops + 1; omega⟩
theorem program_in (n : Nand) (a : Int) (t : ByteArray) (h : (n.program a t).1 = 41) : 0 ≤ a ∧ a < n.blocks * n.per := by
  unfold Nand.program at h
  split at h
  · exact absurd h (by simp)
  · split at h
    · exact absurd h (by simp)
    · rename_i h2
      have := Decidable.of_not_not h2
      exact ⟨this.1, this.2.1⟩
/-- The array below has turned. -/
theorem StoIn.under {w w' : World} {q p : Nat} {sv vv : Value} {N N' : Nat → Prop} {s : Sto} {n' : Nand} (h : StoIn w q p sv vv N s) (hn : NandAt w' N' p n') (hm : Mv N w N' w') (hb : n'.blocks = s.n.blocks) (hp : n'.per = s.n.per) :
    StoIn w' q p sv vv N' { s with n := n' } ∧ Moved w q sv vv N w' N' := by
  have hq := h.obj.lt
  have hlt : ∀ {v : Value} {xs : List Value} {n : Nat}, w.ownsRow 0 3 1 v n xs → ∀ k, v.ownBlock = some k → k < w.heap.size := fun ho k hk => (ho.lt k hk).2
  have hno : ∀ k, k < w.heap.size → ¬ N k → ¬ N' k := fun k hk hN h2 => (hm.sub k h2).elim hN (fun h3 => by omega)
  refine ⟨⟨?_, own_keep h.st hm.keep (fun g hg => (h.ds g hg).1), own_keep h.va hm.keep (fun g hg => (h.dv g hg).1), hn, by show s.state.length = n'.blocks; rw [hb]; exact h.ls, by show s.valid.length = n'.blocks; rw [hb]; exact h.lv, h.o0, by show s.op < (n'.blocks : Int); rw [hb]; exact h.o1, h.q0, h.q1, hno _ hq h.dq, fun k hk => ⟨hno _ (hlt h.st k hk) (h.ds k hk).1, (h.ds k hk).2⟩, fun k hk => ⟨hno _ (hlt h.va k hk) (h.dv k hk).1, (h.dv k hk).2⟩, h.dsv⟩,
    ⟨hm.keep.mono (fun k _ hk => .inr (.inr (.inr hk))), hm.sub⟩⟩
  have := h.obj.keep hm.keep h.dq
  unfold stoCells at this ⊢
  simp only [hb, hp]
  exact this
/-- A full block that is open is sealed. -/
def Sto.full (s : Sto) : Sto := if 0 ≤ s.op ∧ (s.n.per : Int) ≤ s.n.next s.op then s.sealed else s
def Sto.place? (s : Sto) : Option (Sto × Int) :=
  if 0 ≤ s.full.op then some (s.full, s.full.op * s.full.n.per + s.full.n.next s.full.op)
  else if 0 ≤ pickL (tabOf s.full) then some (s.full.opened (pickL (tabOf s.full)).toNat, pickL (tabOf s.full) * s.full.n.per + s.full.n.next (pickL (tabOf s.full))) else none
theorem sealed_n (s : Sto) : s.sealed.n = s.n := by unfold Sto.sealed; split <;> rfl
theorem sealed_seq (s : Sto) : s.sealed.seq = s.seq := by unfold Sto.sealed; split <;> rfl
theorem full_n (s : Sto) : s.full.n = s.n := by
  unfold Sto.full
  split
  · exact sealed_n s
  · rfl
theorem full_seq (s : Sto) : s.full.seq = s.seq := by
  unfold Sto.full
  split
  · exact sealed_seq s
  · rfl
theorem sealed_op {s : Sto} (h : 0 ≤ s.op) : s.sealed.op = -1 := by unfold Sto.sealed; rw [if_pos h]
theorem pick_bounds (s : Sto) : -1 ≤ pickL (tabOf s) ∧ (0 ≤ pickL (tabOf s) → pickL (tabOf s) < s.n.blocks) := by
  have h := pickTo_le (tabOf s) (tabOf s).length
  have hl : (tabOf s).length = s.n.blocks := tabTo_len s _
  rw [hl] at h
  have hp : pickL (tabOf s) = pickTo (tabOf s) s.n.blocks := by rw [pickL, hl]
  rw [hp]
  omega
theorem place_any (w : World) (q p : Nat) (sv vv : Value) (N : Nat → Prop) (s u : Sto) (a : Int) (h : StoIn w q p sv vv N s) (hp : s.place? = some (u, a)) :
    Calls Tryz.prog 71 #[.pointer (some ⟨q, 0, none⟩)] w fun e w' => e = .returned (.tuple #[.int .i64 a, .nilIface]) ∧ StoIn w' q p sv vv N u ∧ Moved w q sv vv N w' N := by
  unfold Sto.place? at hp
  have ho0 := h.o0
  by_cases hf : 0 ≤ s.op ∧ (s.n.per : Int) ≤ s.n.next s.op
  · have hs : s.full = s.sealed := by unfold Sto.full; rw [if_pos hf]
    rw [hs, if_neg (by rw [sealed_op hf.1]; decide)] at hp
    split at hp
    · rename_i h2
      injection hp with hp
      injection hp with h4 h5
      subst h4 h5
      obtain ⟨o, ho⟩ : ∃ o : Nat, s.op = (o : Int) := ⟨s.op.toNat, by omega⟩
      obtain ⟨b, hb⟩ : ∃ b : Nat, pickL (tabOf s.sealed) = (b : Int) := ⟨(pickL (tabOf s.sealed)).toNat, by omega⟩
      have hbl := (pick_bounds s.sealed).2 h2
      rw [hb] at hbl ⊢
      exact place_full w q p sv vv N s o b h ho (by have := hf.2; rw [ho] at this; exact this) hb (by omega)
    · exact absurd hp (by simp)
  · have hs : s.full = s := by unfold Sto.full; rw [if_neg hf]
    rw [hs] at hp
    split at hp
    · rename_i h0
      injection hp with hp
      injection hp with h2 h3
      subst h2 h3
      have h1 : s.n.next s.op < s.n.per := by omega
      obtain ⟨b, hb⟩ : ∃ b : Nat, s.op = (b : Int) := ⟨s.op.toNat, by omega⟩
      rw [hb] at h1 ⊢
      refine (place_a w q p sv vv N s b h hb h1).mono ?_
      rintro e w' ⟨rfl, hb⟩
      exact ⟨rfl, h.below hb, Moved.below hb⟩
    · split at hp
      · rename_i h1 h2
        injection hp with hp
        injection hp with h4 h5
        subst h4 h5
        have h3 := (pick_bounds s).2 h2
        obtain ⟨b, hb⟩ : ∃ b : Nat, pickL (tabOf s) = (b : Int) := ⟨(pickL (tabOf s)).toNat, by omega⟩
        rw [hb] at h3 ⊢
        exact place_b w q p sv vv N s b h (by omega) hb (by omega)
      · exact absurd hp (by simp)
theorem place_none (w : World) (q p : Nat) (sv vv : Value) (N : Nat → Prop) (s : Sto) (h : StoIn w q p sv vv N s) (hp : s.place? = none) :
    Calls Tryz.prog 71 #[.pointer (some ⟨q, 0, none⟩)] w fun e w' => e = .returned (.tuple #[.int .i64 0, .iface 44 (.int .i64 60)]) ∧ StoIn w' q p sv vv N s.full ∧ Moved w q sv vv N w' N := by
  unfold Sto.place? at hp
  have ho0 := h.o0
  by_cases hf : 0 ≤ s.op ∧ (s.n.per : Int) ≤ s.n.next s.op
  · have hs : s.full = s.sealed := by unfold Sto.full; rw [if_pos hf]
    rw [hs, if_neg (by rw [sealed_op hf.1]; decide)] at hp
    split at hp
    · exact absurd hp (by simp)
    · rename_i h2
      obtain ⟨o, ho⟩ : ∃ o : Nat, s.op = (o : Int) := ⟨s.op.toNat, by omega⟩
      rw [hs]
      have := (pick_bounds s.sealed).1
      exact place_fullno w q p sv vv N s o h ho (by have := hf.2; rw [ho] at this; exact this) (by omega)
  · have hs : s.full = s := by unfold Sto.full; rw [if_neg hf]
    rw [hs] at hp
    split at hp
    · exact absurd hp (by simp)
    · split at hp
      · exact absurd hp (by simp)
      · rename_i h1 h2
        rw [hs]
        have := (pick_bounds s).1
        exact place_no w q p sv vv N s h (by omega) (by omega)
/-- What put does: the store behind it, the place, the error's number, and whether it is the array's. -/
def putF : Nat → Sto → ByteArray → Option (Sto × Int × Int × Bool)
  | 0, _, _ => none
  | f + 1, s, t =>
    if wornS s = true then some (s, 0, 61, false)
    else match s.place? with
      | none => some (s.full, 0, 60, false)
      | some (u, a) =>
        if (u.n.program a t).1 = 41 then putF f (Sto.retire { u with n := (u.n.program a t).2 } (a.toNat / u.n.per)) t
        else some ({ u with n := (u.n.program a t).2 }, a, (u.n.program a t).1, true)
def putErr (r : Sto × Int × Int × Bool) : List (ByteArray × Int) := if r.2.2.2 = true then [(⟨#[112, 114, 111, 103, 114, 97, 109]⟩, r.2.1)] else []
theorem errW_weak {w : World} {F : Nat → Prop} {l : List (ByteArray × Int)} {c : Int} {v : Value} (h : ErrW w F l c v) : ErrW w (fun _ => False) l c v := by
  rcases h with h | ⟨hc, bs, he, _⟩
  · exact .inl h
  · exact .inr ⟨hc, bs, he, fun _ _ => id⟩
theorem place_n {s u : Sto} {a : Int} (h : s.place? = some (u, a)) : u.n = s.n := by
  unfold Sto.place? at h
  split at h
  · injection h with h; injection h with h _; rw [← h]; exact full_n s
  · split at h
    · injection h with h; injection h with h _; rw [← h]; exact full_n s
    · exact absurd h (by simp)
set_option maxHeartbeats 4000000 in
set_option maxRecDepth 100000 in
theorem put_any (w : World) (q p : Nat) (sv vv : Value) (N : Nat → Prop) (s : Sto) (t : ByteArray) (f : Nat) (r : Sto × Int × Int × Bool) (h : StoIn w q p sv vv N s) (hr : putF f s t = some r) (ho : s.n.ops + f ≤ 1000000000000000000) (hts : t.size ≤ 9223372036854775807) :
    Calls Tryz.prog 49 #[.pointer (some ⟨q, 0, none⟩), .string t] w fun e w' => ∃ v N', e = .returned (.tuple #[.int .i64 r.2.1, v]) ∧ StoIn w' q p sv vv N' r.1 ∧ Moved w q sv vv N w' N' ∧ ErrW w' (fun _ => False) (putErr r) r.2.2.1 v := by
  have H := Lib.hid h
  have HR := Lib.hid hr
  have HO := Lib.hid ho
  clear h hr ho
  go_enter Tryz.func49, Tryz.ntmps49
  go_wp2_with fail
  go_loopg [] f (fun k wr => Hid (∃ s' N', putF k s' t = some r ∧ StoIn wr q p sv vv N' s' ∧ Moved w q sv vv N wr N' ∧ s'.n.ops + k ≤ 1000000000000000000))
  case atStart => exact ⟨s, N, HR.out, H.out, Moved.refl _ _ _ _ _, HO.out⟩
  case round =>
    obtain ⟨s', N', hp, hs, hm, hops⟩ := hrel.out
    clear hrel
    cases gk with
    | zero => exact absurd hp (by simp [putF])
    | succ k =>
      have HS := Lib.hid hs
      have HM := Lib.hid hm
      cases hw : wornS s'
      · rw [putF, hw, if_neg (by simp)] at hp
        cases hpl : s'.place? with
        | none =>
          rw [hpl] at hp
          injection hp with hp
          have HW := Lib.hid hw
          have HPL := Lib.hid hpl
          have HRR := Lib.hid hp
          clear hp hs hm hw hpl hops
          go_wp2_with fail
          refine (wornS_any _ _ _ _ _ _ _ HS.out).mono ?_
          rw [HW.out]
          rintro e w1 ⟨rfl, hb1⟩
          have H1 := Lib.hid (HS.out.below hb1)
          have M1 := Lib.hid (HM.out.trans (Moved.below hb1))
          clear hb1
          go_wp2_with fail
          refine (place_none _ _ _ _ _ _ _ H1.out HPL.out).mono ?_
          rintro e w2 ⟨rfl, h2, m2⟩
          have H2 := Lib.hid h2
          have M2 := Lib.hid (M1.out.trans m2)
          clear h2 m2
          go_wp2_with fail
          obtain rfl := HRR.out
          refine bodyPost_ret (v := .tuple #[.int .i64 0, .iface 44 (.int .i64 60)]) (by simp [results, Tryz.results49, go_sem]) rfl ⟨_, N', rfl, H2.out, M2.out, .inr ⟨(show (60 : Int) ≠ 0 from by decide), [], rfl, by simp⟩⟩
        | some ua =>
          obtain ⟨u, a⟩ := ua
          rw [hpl] at hp
          simp only at hp
          have hun := place_n hpl
          have HW := Lib.hid hw
          have HPL := Lib.hid hpl
          obtain ⟨g1, g2, g3, g4⟩ := program_geo u.n a t
          have HG1 := Lib.hid g1
          have HG2 := Lib.hid g2
          have hou : u.n.ops ≤ 1000000000000000000 := by rw [hun]; omega
          have HOU := Lib.hid hou
          have hog : (u.n.program a t).2.ops + k ≤ 1000000000000000000 := by rw [hun] at g3 ⊢; omega
          have HOG := Lib.hid hog
          obtain ⟨c, hc⟩ : ∃ c, (u.n.program a t).1 = c := ⟨_, rfl⟩
          cases hcc : (c == 41)
          · have HCC := Lib.hid hcc
            have hr1 : r = ({ u with n := (u.n.program a t).2 }, a, c, true) := by
              rw [hc, if_neg (by simpa using hcc)] at hp
              injection hp with hp
              exact hp.symm
            have HR1 := Lib.hid hr1
            have HC := Lib.hid hc
            clear hp hs hm hw hpl g1 g2 g3 g4 hou hog hc hcc hr1 hun hops
            go_wp2_with fail
            refine (wornS_any _ _ _ _ _ _ _ HS.out).mono ?_
            rw [HW.out]
            rintro e w1 ⟨rfl, hb1⟩
            have H1 := Lib.hid (HS.out.below hb1)
            have M1 := Lib.hid (HM.out.trans (Moved.below hb1))
            clear hb1
            go_wp2_with fail
            refine (place_any _ _ _ _ _ _ _ _ _ H1.out HPL.out).mono ?_
            rintro e w2 ⟨rfl, h2, m2⟩
            have H2 := Lib.hid h2
            have M2 := Lib.hid (M1.out.trans m2)
            have c0 := h2.cells.c0
            clear h2 m2
            go_wp2_with fail
            refine (Program_any _ _ _ _ a t H2.out.arr HOU.out hts).mono ?_
            rintro e w3 ⟨v, N3, rfl, hn3, hm3, he3⟩
            obtain ⟨h3, m3⟩ := H2.out.under hn3 hm3 HG1.out HG2.out
            rw [HC.out] at he3
            have H3 := Lib.hid h3
            have M3 := Lib.hid (M2.out.trans m3)
            have E3 := Lib.hid he3
            clear h3 m3 he3 hn3 hm3
            go_wp2_with fail
            refine (Is_W _ _ c 41 v _ E3.out (by decide)).mono ?_
            rw [HCC.out]
            rintro e w4 ⟨rfl, rfl⟩
            go_wp2_with fail
            obtain rfl := HR1.out
            refine bodyPost_ret (v := .tuple #[.int .i64 a, v]) (by simp [results, Tryz.results49, go_sem]) rfl ⟨v, N3, rfl, H3.out, M3.out, errW_weak E3.out⟩
          · have HCC := Lib.hid hcc
            have hc41 : c = 41 := by simpa using hcc
            have hin := program_in u.n a t (hc.trans hc41)
            rw [hc, if_pos hc41] at hp
            have hok := hs.arr.ok
            rw [← hun] at hok
            have hb0 := hok.b0
            have hb1' := hok.b1
            have hq0 := hok.p0
            have hq1 := hok.p1
            have hblk : a / (u.n.per : Int) = ((a.toNat / u.n.per : Nat) : Int) := by
              obtain ⟨m, hm⟩ : ∃ m : Nat, a = (m : Int) := ⟨a.toNat, by omega⟩
              rw [hm]; simp
            have hlt : a.toNat / u.n.per < u.n.blocks := by
              rw [Nat.div_lt_iff_lt_mul (by omega)]
              have := hin.2
              have h2 : (a.toNat : Int) = a := Int.toNat_of_nonneg hin.1
              have h3 : (a.toNat : Int) < ((u.n.blocks * u.n.per : Nat) : Int) := by rw [h2]; push_cast; exact this
              omega
            obtain ⟨d, hd⟩ : ∃ d : Nat, a.toNat / u.n.per = d := ⟨_, rfl⟩
            rw [hd] at hblk hlt hp
            have HBK : Hid (∀ wq, Calls Tryz.prog 43 #[.agg #[.int .i64 u.n.blocks, .int .i64 u.n.per], .int .i64 a] wq fun e w' => e = .returned (.int .i64 (d : Int)) ∧ Below wq.heap.size wq w') := fun wq => hblk ▸ block_in u.n.blocks u.n.per a wq (by omega) (by omega) (by omega) (by omega) hin.1 hin.2
            have HLT := Lib.hid hlt
            have HP := Lib.hid hp
            have HC := Lib.hid hc
            clear hp hs hm hw hpl g1 g2 g3 g4 hou hog hc hcc hun hops hin hok hb0 hb1' hq0 hq1 hblk hlt hc41 hd
            go_wp2_with fail
            refine (wornS_any _ _ _ _ _ _ _ HS.out).mono ?_
            rw [HW.out]
            rintro e w1 ⟨rfl, hb1⟩
            have H1 := Lib.hid (HS.out.below hb1)
            have M1 := Lib.hid (HM.out.trans (Moved.below hb1))
            clear hb1
            go_wp2_with fail
            refine (place_any _ _ _ _ _ _ _ _ _ H1.out HPL.out).mono ?_
            rintro e w2 ⟨rfl, h2, m2⟩
            have H2 := Lib.hid h2
            have M2 := Lib.hid (M1.out.trans m2)
            have c0 := h2.cells.c0
            clear h2 m2
            go_wp2_with fail
            refine (Program_any _ _ _ _ a t H2.out.arr HOU.out hts).mono ?_
            rintro e w3 ⟨v, N3, rfl, hn3, hm3, he3⟩
            obtain ⟨h3, m3⟩ := H2.out.under hn3 hm3 HG1.out HG2.out
            rw [HC.out] at he3
            have H3 := Lib.hid h3
            have M3 := Lib.hid (M2.out.trans m3)
            have E3 := Lib.hid he3
            clear h3 m3 he3 hn3 hm3
            go_wp2_with fail
            refine (Is_W _ _ c 41 v _ E3.out (by decide)).mono ?_
            rw [HCC.out]
            rintro e w4 ⟨rfl, rfl⟩
            have k1 : w3.cell? ⟨q, 1, none⟩ = some (.int .i64 u.n.blocks) := by rw [← HG1.out]; exact H3.out.cells.c1
            have k2 : w3.cell? ⟨q, 2, none⟩ = some (.int .i64 u.n.per) := by rw [← HG2.out]; exact H3.out.cells.c2
            go_wp2_with fail
            refine (HBK.out _).mono ?_
            rintro e w5 ⟨rfl, hb5⟩
            have H5 := Lib.hid (H3.out.below hb5)
            have M5 := Lib.hid (M3.out.trans (Moved.below hb5))
            clear hb5
            go_wp2_with fail
            refine (retire_any _ _ _ _ _ _ _ _ H5.out (by show _ < (u.n.program a t).2.blocks; rw [HG1.out]; exact HLT.out)).mono ?_
            rintro e w6 ⟨rfl, h6, m6⟩
            have H6 := Lib.hid h6
            have M6 := Lib.hid (M5.out.trans m6)
            clear h6 m6
            go_wp2_with fail
            go_roundg k
            case measure => exact Nat.lt_succ_self _
            case rel => exact ⟨_, N3, HP.out, H6.out, M6.out, HOG.out⟩
      · rw [putF, if_pos hw] at hp
        injection hp with hp
        have HW := Lib.hid hw
        have HR1 := Lib.hid hp
        clear hp hs hm hw hops
        go_wp2_with fail
        refine (wornS_any _ _ _ _ _ _ _ HS.out).mono ?_
        rw [HW.out]
        rintro e w1 ⟨rfl, hb1⟩
        have H1 := Lib.hid (HS.out.below hb1)
        have M1 := Lib.hid (HM.out.trans (Moved.below hb1))
        clear hb1
        go_wp2_with fail
        obtain rfl := HR1.out
        refine bodyPost_ret (v := .tuple #[.int .i64 0, .iface 44 (.int .i64 61)]) (by simp [results, Tryz.results49, go_sem]) rfl ⟨_, N', rfl, H1.out, M1.out, .inr ⟨by show (61 : Int) ≠ 0; decide, [], rfl, by simp⟩⟩
end Go.Proofs.YtfacgeappbgldaaGreatDoor.st
