/- The contract of fault.Trail. -/
import Derived.Test.YtkkfolbidclonaaDoorErE
import Derived.OwnWalk
namespace Go.Proofs.YtkkfolbidclonaaDoor.er
open Go.RowKit Go.Extern.Stop Go.Stop Go.Extern
set_option linter.unusedVariables false

/-! ### plain: the steps inside, each found in what the one ahead wraps -/
def trailF (l : List Nd) : Nat → Nat → List Nat
  | 0, _ => []
  | f + 1, i => match firstO l i with
    | none => []
    | some x => match l[x]? with
      | none => []
      | some n => x :: (match n.kids with
        | [] => []
        | k :: _ => trailF l f k)
def trailO (l : List Nd) (i : Nat) : List Nat := trailF l (i + 1) i
theorem trailF_fuel {l : List Nd} (hd : Down l) : ∀ (f g i : Nat), i < f → i < g → trailF l f i = trailF l g i
  | 0, _, _, h, _ => by omega
  | _ + 1, 0, _, _, h => by omega
  | f + 1, g + 1, i, hf, hg => by
    unfold trailF
    cases hx : firstO l i with
    | none => rfl
    | some x =>
      simp only
      obtain ⟨hxi, _⟩ := firstO_kind hd i x hx
      cases hn : l[x]? with
      | none => rfl
      | some n =>
        simp only
        cases hk : n.kids with
        | nil => rfl
        | cons k r =>
          simp only
          have := hd x n hn k (by rw [hk]; simp)
          rw [trailF_fuel hd f g k (by omega) (by omega)]
theorem trailO_none {l : List Nd} {i : Nat} (h : firstO l i = none) : trailO l i = [] := by unfold trailO trailF; rw [h]
theorem trailO_some {l : List Nd} (hd : Down l) {i x k : Nat} {n : Nd} (h : firstO l i = some x) (hn : l[x]? = some n) (hk : n.kids = [k]) : trailO l i = x :: trailO l k := by
  unfold trailO
  rw [trailF]
  simp only [h, hn, hk]
  obtain ⟨hxi, _⟩ := firstO_kind hd i x h
  have := hd x n hn k (by rw [hk]; simp)
  rw [trailF_fuel hd i (k + 1) k (by omega) (by omega)]

/-- The cells of a list of steps. -/
def stepCells (l : List Nd) (xs : List Nat) : List Value := xs.flatMap fun x => match l[x]? with
  | some n => [.string n.op, .int .i64 n.at_]
  | none => [.string ByteArray.empty, .int .i64 0]
theorem stepCells_snoc (l : List Nd) (xs : List Nat) (x : Nat) (n : Nd) (hn : l[x]? = some n) : stepCells l (xs ++ [x]) = stepCells l xs ++ [.string n.op, .int .i64 n.at_] := by
  simp [stepCells, hn]
theorem stepCells_len (l : List Nd) (xs : List Nat) : (stepCells l xs).length = xs.length * 2 := by
  induction xs with
  | nil => rfl
  | cons x r ih =>
    have : stepCells l (x :: r) = (match l[x]? with | some n => [.string n.op, .int .i64 n.at_] | none => [.string ByteArray.empty, .int .i64 0]) ++ stepCells l r := by simp [stepCells]
    rw [this, List.length_append, ih]
    cases l[x]? <;> simp <;> omega
theorem stepInfo : (Tryd.prog.info? 39).map (fun i => (i.zero, i.size, i.bytes)) = some (some (.agg #[.string ByteArray.empty, .int .i64 0]), 2, 24) := by kernel_rfl

theorem own_base {w : World} {base base' : Nat} {e : TypeId} {size : Nat} {v : Value} {n : Nat} {xs : List Value} (h : w.ownsRow base e size v n xs) (hb : base' ≤ base) : w.ownsRow base' e size v n xs := by
  refine ⟨h.1, ?_⟩
  rcases h.2 with h2 | ⟨g, cap, cur, h1, h2, h3⟩
  · exact .inl h2
  · exact .inr ⟨g, cap, cur, h1, by omega, h3⟩
theorem own_slice {w : World} {base : Nat} {e : TypeId} {size : Nat} {v : Value} {n : Nat} {xs : List Value} (h : w.ownsRow base e size v n xs) : ∃ A c, v = .slice A n c := by
  rcases h.2 with ⟨h1, h2⟩ | ⟨g, cap, cur, h1, _⟩
  · exact ⟨none, 0, by rw [h1, h2]⟩
  · exact ⟨_, _, h1⟩
theorem own_below {w w' : World} {base : Nat} {e : TypeId} {size : Nat} {v : Value} {n : Nat} {xs : List Value} (h : w.ownsRow base e size v n xs) (hb : Below w.heap.size w w') : w'.ownsRow base e size v n xs :=
  h.kept (only_of_below hb none) (by cases v.ownBlock <;> simp)

theorem below_append {wr w2 : World} {o : Obj} {base : Nat} {e : TypeId} {size : Nat} {v : Value} {n : Nat} {xs : List Value} (hown : wr.ownsRow base e size v n xs) (hg : (wr.alloc o).grownBy w2 v.ownBlock) (hb : base ≤ wr.heap.size) : Below base wr w2 :=
  ⟨hg.os, hg.tape, hg.output, Nat.le_trans (by simp) hg.size, fun i hi => (hg.block i (by simp; omega) (fun e => by have := (hown.lt i e.symm).1; omega)).trans (Below.heap_alloc _ _ _ (by omega))⟩
theorem cell_one_new' (w : World) (a : Value) (t : TypeId) : ∀ j u, [a][j]? = some u → (w.alloc (.cells #[a] t)).cell? ((⟨w.heap.size, 0, none⟩ : Addr).add j) = some u := by
  intro j u hj
  match j, hj with
  | 0, hj => simp at hj; subst hj; simp [Addr.add]

set_option maxHeartbeats 2000000 in
set_option maxRecDepth 100000 in
theorem trail_err (l : List Nd) (vs : List Value) (i : Nat) (v : Value) (w : World) (B : Nat) (hv : vs[i]? = some v) (hrep : Rep w B l vs) (hB : B ≤ w.heap.size) (hg : LaidT w) (hi : i < 1000) :
    Calls Tryd.prog 14 #[v] w fun e w' => ∃ s, e = .returned s ∧ w'.ownsRow w.heap.size 39 2 s (trailO l i).length (stepCells l (trailO l i)) ∧ Below w.heap.size w w' := by
  obtain ⟨i0, hi0, hz0, hz1, hz2⟩ := info_parts stepInfo
  have HV := Lib.hid hv
  have REP := Lib.hid hrep
  have HG := Lib.hid hg
  have hlt0 := hg.lt
  clear hv hrep hg
  go_enter Tryd.func14, Tryd.ntmps14
  go_wp2
  go_loopg [0, 3] i (fun k s o wr => vs[k]? = some s ∧ (∃ old, wr.cell? ⟨w.heap.size, 0, none⟩ = some old) ∧ wr.frozen? ⟨w.heap.size, 0, none⟩ = false ∧ Below w.heap.size w wr ∧ w.heap.size < wr.heap.size ∧ ∃ xs : List Nat, xs.length + k ≤ i ∧ Hid (xs ++ trailO l k = trailO l i) ∧ wr.ownsRow (w.heap.size + 1) 39 2 o xs.length (stepCells l xs))
  case atStart => exact ⟨HV.out, ⟨_, by simp; rfl⟩, by simp, (Below.refl _ _).alloc (Nat.le_refl _) _, by simp, [], by simp, rfl, World.ownsRow_nil _ _ _ _⟩
  case round =>
    obtain ⟨hs, ⟨old, hold⟩, hfz, hbel, hsz, xs, hxi, HX, hown⟩ := hrel
    have REPr := Lib.hid (REP.out.below (hbel.mono hB))
    have HGr := Lib.hid (HG.out.below hbel hlt0)
    have HS := Lib.hid hs
    have HOLD := Lib.hid hold
    have HFZ := Lib.hid hfz
    have HBEL := Lib.hid hbel
    have HOWN := Lib.hid hown
    obtain ⟨tx, y, hxy⟩ := REP.out.iface hs
    subst hxy
    clear hs hold hfz hbel hown
    cases hco : firstO l gk with
    | none =>
      have HCO := Lib.hid hco
      clear hco
      go_wp2_with (go_at_call 21; refine (As_F l vs gk _ _ B w.heap.size old HS.out REPr.out hB HOLD.out HFZ.out HGr.out).mono ?_; intro e w' hh; rw [HCO.out] at hh; obtain ⟨rfl, hb⟩ := hh; have HB2 := Lib.hid hb; clear hb)
      go_ret
      have hfin : xs = trailO l i := by rw [← HX.out, trailO_none HCO.out, List.append_nil]
      subst hfin
      exact ⟨_, rfl, own_base (own_below HOWN.out HB2.out) (by omega), HBEL.out.trans (HB2.out.mono HBEL.out.size)⟩
    | some x =>
      have HCO := Lib.hid hco
      clear hco
      obtain ⟨hxk, n, hn, hkind⟩ := firstO_kind REP.out.down gk x HCO.out
      have HN := Lib.hid hn
      obtain ⟨vx, hvx, hnode⟩ := REPr.out.at_ hn
      rcases hnode with ⟨n1, _⟩ | ⟨n1, b, k, z, nb, n2, n3, rfl, n5⟩ | ⟨n1, _⟩ | ⟨n1, _⟩
      · omega
      · have hkx : k < x := REP.out.down x n hn k (by rw [n2]; simp)
        have N3 := Lib.hid n3
        have N5 := Lib.hid n5
        have HVX := Lib.hid hvx
        have HTR : Hid (trailO l gk = x :: trailO l k) := trailO_some REP.out.down HCO.out hn n2
        obtain ⟨tz, yz, hz⟩ := REP.out.iface n3
        subst hz
        clear hn hvx n1 n2 n3 n5 hkind
        have HP : Hid (∀ w' : World, (∃ a, vs[x]? = some (.iface 56 (.pointer (some a))) ∧ w'.cell? ⟨w.heap.size, 0, none⟩ = some (.pointer (some a)) ∧ w'.frozen? ⟨w.heap.size, 0, none⟩ = false) → w'.cell? ⟨w.heap.size, 0, none⟩ = some (.pointer (some ⟨b, 0, none⟩)) ∧ w'.frozen? ⟨w.heap.size, 0, none⟩ = false) := fun w' ⟨a, h1, h2, h3⟩ => by
          have e := HVX.out.symm.trans h1
          injection e with e
          injection e with _ e
          injection e with e
          exact ⟨by rw [h2, e], h3⟩
        have OWK : Hid (∀ w' : World, wr.grownBy w' (some w.heap.size) → w'.ownsRow (w.heap.size + 1) 39 2 u3 xs.length (stepCells l xs)) := fun w' hq => HOWN.out.kept hq (by
          cases ho : u3.ownBlock with
          | none => exact .inl rfl
          | some g => exact .inr (fun e => by injection e with e; have := (HOWN.out.lt g ho).1; omega))
        have NB2 : Hid (∀ w' : World, w'.ownsRow (w.heap.size + 1) 39 2 u3 xs.length (stepCells l xs) → ∀ k, k ≤ w.heap.size → some k ≠ u3.ownBlock) := fun w' ho k hk e => by
          have := (ho.lt k e.symm).1
          omega
        have NB : Hid (∀ w' : World, wr.grownBy w' (some w.heap.size) → w'.cell? ⟨b, 0, none⟩ = some (.string n.op) ∧ w'.cell? ⟨b, 1, none⟩ = some (.int .i64 n.at_) ∧ w'.cell? ⟨b, 2, none⟩ = some (.iface tz yz)) := fun w' hq => by
          have hh : w'.heap[b]? = some (.cells #[.string n.op, .int .i64 n.at_, .iface tz yz] 59 (0, 0)) := (hq.block b (by omega) (fun e => by injection e; omega)).trans N5.out
          exact ⟨by rw [cell_of_row w' b 0 _ _ _ hh]; rfl, by rw [cell_of_row w' b 1 _ _ _ hh]; rfl, by rw [cell_of_row w' b 2 _ _ _ hh]; rfl⟩
        go_wp2_with (first | (go_at_call 21; refine (As_F l vs gk _ _ B w.heap.size old HS.out REPr.out hB HOLD.out HFZ.out HGr.out).mono ?_; intro e w1 hh; rw [HCO.out] at hh; obtain ⟨rfl, hq1, hq2⟩ := hh; obtain ⟨hc, hcf⟩ := HP.out _ hq1; have HCF := Lib.hid hcf; clear hcf; have HQ2 := Lib.hid hq2; have hcb := NB.out _ hq2; obtain ⟨cb0, cb1, cb2⟩ := hcb; have how := Lib.hid (OWK.out _ hq2); have hs1 := hq2.size; clear hq1 hq2) | (at_builtin; go_must (refine wpList_append_own _ rfl (.tmp 16) (.tmp 21) 34 rfl (w.heap.size + 1) 39 i0 _ 2 24 Tryd.underlying34 hi0 hz0 hz1 hz2 rfl (by omega) u3 xs.length (stepCells l xs) rfl (how.out.alloc _) ⟨w1.heap.size, 0, none⟩ 1 1 [.string n.op, .int .i64 n.at_] rfl rfl (cell_two_new _ _ _ _) (by simp [Value.oneCell']) (by simp only [maxLen]; omega) (by omega) (by simp; omega) ?_; intro v2 w2 hown2 hg2 _; have nb2 := NB2.out w1 how.out; have hlt1 : w.heap.size < w1.heap.size := (by omega); have d0 := hg2.cell (a := ⟨w.heap.size, 0, none⟩) (v := .pointer (some ⟨b, 0, none⟩)) (by rw [World.cell?_alloc_lt _ _ _ (by simpa using hlt1)]; exact hc) (nb2 _ (Nat.le_refl _)); have d1 := hg2.cell (a := ⟨b, 2, none⟩) (v := .iface tz yz) (by rw [World.cell?_alloc_lt _ _ _ (by simp; omega)]; exact cb2) (nb2 _ (by simp; omega)); have HO2 := Lib.hid hown2; have HG2 := Lib.hid hg2; clear hown2 hg2 nb2 hc cb0 cb1 cb2)))
        go_roundg k
        case measure => omega
        case rel =>
          have hb12 : Below (w.heap.size + 1) (w1.alloc (.cells #[.string n.op, .int .i64 n.at_] 39)) w2 :=
            ⟨HG2.out.os, HG2.out.tape, HG2.out.output, HG2.out.size, fun j hj => HG2.out.block j (by simp; omega) (NB2.out w1 how.out j (by omega))⟩
          have hbr1 : Below w.heap.size wr w1 := below_of_only HQ2.out (Nat.le_refl _) HBEL.out.size
          have hbw2 : Below w.heap.size w w2 := (HBEL.out.trans hbr1).trans (((Below.refl _ _).alloc (by omega) _).trans (hb12.mono (by omega)))
          refine ⟨N3.out, ⟨_, d0⟩, ?_, hbw2, ?_, xs ++ [x], by simp; omega, ?_, ?_⟩
          · have e1 : w1.frozen? ⟨w.heap.size, 0, none⟩ = false := HCF.out
            rw [hb12.frozen (p := ⟨w.heap.size, 0, none⟩) (by simp), World.frozen?_alloc_old _ _ _ (by simp; omega)]
            exact e1
          · have := hb12.size
            simp at this
            omega
          · show xs ++ [x] ++ trailO l k = trailO l i
            rw [← HX.out, HTR.out, List.append_assoc]
            rfl
          · have := HO2.out
            rw [← stepCells_snoc l xs x n HN.out] at this
            simpa using this
      · omega
      · omega
end Go.Proofs.YtkkfolbidclonaaDoor.er
