/- Contracts: errors.is, errors.Is, fault.Has at a number. -/
import Derived.Test.YtkkfolbidclonaaDoorErE
import Derived.Lib.IfaceEq
namespace Go.Proofs.YtkkfolbidclonaaDoor.er
open Go.RowKit Go.Extern.Stop Go.Stop Go.Extern
set_option linter.unusedVariables false

theorem eqEE (a b : Int) (w : World) : (binOp .eql 26 (.iface 30 (.int .i64 a)) (.iface 30 (.int .i64 b))).run Tryd.prog w = .ok (.bool (a == b)) w :=
  Lib.run_eql_iface_int w a b Tryd.underlying26 (by kernel_rfl) Tryd.underlying30
theorem eqFE (x y : Value) (w : World) : (binOp .eql 26 (.iface 56 x) (.iface 30 y)).run Tryd.prog w = .ok (.bool false) w :=
  run_eql_iface_types (P := Tryd.prog) 56 30 x y Tryd.underlying26 (by decide) w
theorem eqJE (x y : Value) (w : World) : (binOp .eql 26 (.iface 80 x) (.iface 30 y)).run Tryd.prog w = .ok (.bool false) w :=
  run_eql_iface_types (P := Tryd.prog) 80 30 x y Tryd.underlying26 (by decide) w
theorem eqSE (x y : Value) (w : World) : (binOp .eql 26 (.iface 63 x) (.iface 30 y)).run Tryd.prog w = .ok (.bool false) w :=
  run_eql_iface_types (P := Tryd.prog) 63 30 x y Tryd.underlying26 (by decide) w

set_option maxHeartbeats 2000000 in
set_option maxRecDepth 100000 in
theorem isE (l : List Nd) (vs : List Value) (q : Int) : ∀ (i : Nat) (v : Value) (w : World) (B : Nat), vs[i]? = some v → Rep w B l vs →
    Calls Tryd.prog 30 #[v, .iface 30 (.int .i64 q), .bool true] w fun e w' => e = .returned (.bool (hasO l q i)) ∧ w = w' := by
  intro i
  induction i using Nat.strongRecOn with
  | _ i ih =>
    intro v w B hv hrep
    have IH := Lib.hid ih
    clear ih
    have HV := Lib.hid hv
    have REP := Lib.hid hrep
    clear hv hrep
    go_enter Tryd.func30, Tryd.ntmps30
    go_wp2
    go_loopg [0] i (fun k s wr => w = wr ∧ k ≤ i ∧ vs[k]? = some s ∧ Hid (hasO l q k = hasO l q i))
    case atStart => exact ⟨rfl, Nat.le_refl _, HV.out, rfl⟩
    case round =>
      obtain ⟨rfl, hk, hs, hco⟩ := hrel
      obtain ⟨n, hn, hnode⟩ := REP.out.node? hs
      rcases hnode with ⟨n1, n2, rfl⟩ | ⟨n1, b, k, x, nb, n2, n3, rfl, n5⟩ | ⟨n1, b, g, c, nb, ng, nl, rfl, n5, n6⟩ | ⟨n1, n2, a, rfl⟩
      · -- a number
        have hc0 : hasO l q i = (n.code == q) := by rw [← hco.out, hasO_eq REP.out.down q hn, if_pos n1]
        have HC := Lib.hid hc0
        have t1 := eqEE n.code q
        have t3 := noIsE (.int .i64 n.code)
        have t4 := noUnE (.int .i64 n.code)
        have t5 := noUnsE (.int .i64 n.code)
        by_cases hcc : n.code = q
        · have hb : (n.code == q) = true := by simp [hcc]
          clear hs n1 hn hc0 hco n2 hcc
          go_wp2
          go_ret
          rw [HC.out]
          exact ⟨by simp [hb], rfl⟩
        · have hb : (n.code == q) = false := by simp [hcc]
          clear hs n1 hn hc0 hco n2 hcc
          go_wp2
          go_ret
          rw [HC.out]
          exact ⟨by simp [hb], rfl⟩
      · -- a Fault: what it wraps
        have hkn : k < gk := REP.out.down gk n hn k (by rw [n2]; simp)
        have hck : hasO l q k = hasO l q i := by rw [← hco.out, hasO_eq REP.out.down q hn, if_neg (by omega), n2]; simp
        have HC := Lib.hid hck
        have HK := Lib.hid n3
        obtain ⟨tx, y, hx⟩ := REP.out.iface n3
        subst hx
        have t1 := eqFE (.pointer (some ⟨b, 0, none⟩)) (.int .i64 q)
        have t3 := noIsF (.pointer (some ⟨b, 0, none⟩))
        have t4 := hasUnF (.pointer (some ⟨b, 0, none⟩))
        have t5 := unwrapF (.pointer (some ⟨b, 0, none⟩))
        have N5 := Lib.hid n5
        clear hs n1 hn hck hco n2 n3 n5
        go_wp2_with (go_at_call 52; refine (unwrap_fault _ _ _ _ _ N5.out).mono ?_; rintro e w' ⟨rfl, rfl⟩)
        go_roundg k
        case measure => exact hkn
        case rel => exact ⟨rfl, by omega, HK.out, HC.out⟩
      · -- some errors joined: one by one
        have hall : hasO l q i = n.kids.any (hasO l q) := by rw [← hco.out, hasO_eq REP.out.down q hn, if_neg (by omega)]
        have HALL := Lib.hid hall
        have N6 := Lib.hid n6
        have HLT := Lib.hid (fun k hk => REP.out.down gk n hn k hk)
        have N5 : Hid (w.cell? ⟨b, 0, none⟩ = some (.slice (some ⟨g, 0, none⟩) n.kids.length c)) := by show w.cell? _ = _; rw [cell_of_row w b 0 _ _ _ n5]; rfl
        have t1 := eqJE (.pointer (some ⟨b, 0, none⟩)) (.int .i64 q)
        have t3 := noIsJ (.pointer (some ⟨b, 0, none⟩))
        have t4 := noUnJ (.pointer (some ⟨b, 0, none⟩))
        have t5 := hasUnsJ (.pointer (some ⟨b, 0, none⟩))
        have t6 := unwrapJ (.pointer (some ⟨b, 0, none⟩))
        clear hs n1 hn hall hco n5 n6
        generalize n.kids = ks at *
        go_wp2_with (go_at_call 58; refine (unwrap_join _ _ _ N5.out).mono ?_; rintro e w' ⟨rfl, rfl⟩)
        have N6r : Hid (∀ (j k : Nat), ks[j]? = some k → ∃ x, vs[k]? = some x ∧ w.cell? ⟨g, j, none⟩ = some x) := N6.out
        clear N6
        obtain ⟨wo, rfl⟩ : ∃ wo : World, wo = w := ⟨_, rfl⟩
        go_loopw [45] (fun s wq => wo = wq ∧ ∃ j : Nat, j ≤ ks.length ∧ s = .int .i64 j ∧ Hid (∀ (j' a' : Nat), j' < j → ks[j']? = some a' → hasO l q a' = false)) (fun s _ => ks.length - (intOf s).toNat)
        case atStart => exact ⟨rfl, 0, Nat.zero_le _, rfl, fun j' a' h _ => by omega⟩
        case round =>
          obtain ⟨rfl, j, hj, rfl, HN⟩ := hrel
          by_cases hlt : j < ks.length
          · obtain ⟨k, hkk⟩ : ∃ k, ks[j]? = some k := ⟨ks[j], List.getElem?_eq_getElem hlt⟩
            obtain ⟨x, hx, hxc⟩ := N6r.out j k hkk
            obtain ⟨tx, y, hxy⟩ := REP.out.iface hx
            subst hxy
            have hki : k < i := by have := HLT.out k (List.mem_of_getElem? hkk); omega
            have HX := Lib.hid hx
            have HKK := Lib.hid hkk
            cases hco : hasO l q k with
            | false =>
              have HCO := Lib.hid hco
              clear hx hkk hco
              go_wp2_with (go_at_call 30; refine (IH.out k hki _ _ B HX.out REP.out).mono ?_; rw [HCO.out]; rintro e w' ⟨rfl, rfl⟩)
              go_roundw
              case rel =>
                exact ⟨by first | rfl | trivial, j + 1, by omega, by go_num, fun j' a' hj' ha' => by
                  rcases Nat.lt_or_ge j' j with h | h
                  · exact HN.out j' a' h ha'
                  · obtain rfl : j' = j := by omega
                    have := HKK.out.symm.trans ha'
                    injection this with this
                    subst this
                    exact HCO.out⟩
              case measure => simp [intOf]; omega
            | true =>
              have HCO := Lib.hid hco
              have hfin : hasO l q i = true := by rw [HALL.out]; exact any_at _ _ j k hkk hco
              have HFIN := Lib.hid hfin
              clear hx hkk hco hfin
              go_wp2_with (go_at_call 30; refine (IH.out k hki _ _ B HX.out REP.out).mono ?_; rw [HCO.out]; rintro e w' ⟨rfl, rfl⟩)
              go_ret
              rw [HFIN.out]
              exact ⟨rfl, rfl⟩
          · obtain rfl : j = ks.length := by omega
            have hfin : hasO l q i = false := by rw [HALL.out]; exact any_none _ _ HN.out
            have HFIN := Lib.hid hfin
            clear hfin
            go_wp2
            go_ret
            rw [HFIN.out]
            exact ⟨rfl, rfl⟩
      · -- a stranger: false
        have hc0 : hasO l q i = false := by
          rw [← hco.out, hasO_eq REP.out.down q hn, if_neg (by omega), n2]
          rfl
        have HC := Lib.hid hc0
        have t1 := eqSE (.pointer (some a)) (.int .i64 q)
        have t3 := noIsS (.pointer (some a))
        have t4 := noUnS (.pointer (some a))
        have t5 := noUnsS (.pointer (some a))
        clear hs n1 hn hc0 hco n2
        go_wp2
        go_ret
        rw [HC.out]
        exact ⟨rfl, rfl⟩

set_option maxHeartbeats 1000000 in
set_option maxRecDepth 100000 in
theorem Is_E (l : List Nd) (vs : List Value) (q : Int) (i : Nat) (v : Value) (w : World) (B : Nat) (hv : vs[i]? = some v) (hrep : Rep w B l vs) :
    Calls Tryd.prog 23 #[v, .iface 30 (.int .i64 q)] w fun e w' => e = .returned (.bool (hasO l q i)) ∧ w = w' := by
  have HV := Lib.hid hv
  have REP := Lib.hid hrep
  obtain ⟨tx, y, hxy⟩ := hrep.iface hv
  subst hxy
  clear hv hrep
  have x29 := @run_callFunc_extern Tryd.prog 29 _ ReflectliteType.typeOf Tryd.func29 (by kernel_rfl) (by kernel_rfl) (by kernel_rfl) (by kernel_rfl)
  have x61 := @run_callFunc_extern Tryd.prog 61 _ (Extern.ReflectliteType.method fun t => do Extern.Rtype.noPackHeld "Comparable" t; pure (.bool (← typeInfo t).comparable)) Tryd.func61 (by kernel_rfl) (by kernel_rfl) (by kernel_rfl) (by kernel_rfl)
  have f1 := typeOfE
  have f2 := methodComparable
  have f3 : ∀ w, (Extern.ReflectliteType.method (fun t => do Extern.Rtype.noPackHeld "Comparable" t; (fun a : TypeInfo => Value.bool a.comparable) <$> typeInfo t) #[.agg #[.pointer (some ⟨1, 30, none⟩)]]).run Tryd.prog w = .ok (.bool true) w := fun w => by kernel_rfl
  go_enter Tryd.func23, Tryd.ntmps23
  go_wp2_with (go_at_call 30; refine (isE l vs q i _ _ B HV.out REP.out).mono ?_; rintro e w' ⟨rfl, rfl⟩)
  go_ret
  exact ⟨rfl, rfl⟩

set_option maxHeartbeats 1000000 in
theorem has_nil (q : Int) (w : World) : Calls Tryd.prog 17 #[.nilIface, .int .i64 q] w fun e w' => e = .returned (.bool (q == 0)) ∧ w = w' := by
  go_enter Tryd.func17, Tryd.ntmps17
  go_wp2
  go_ret
  exact ⟨rfl, rfl⟩
set_option maxHeartbeats 1000000 in
theorem has_err (l : List Nd) (vs : List Value) (q : Int) (i : Nat) (v : Value) (w : World) (B : Nat) (hv : vs[i]? = some v) (hrep : Rep w B l vs) :
    Calls Tryd.prog 17 #[v, .int .i64 q] w fun e w' => e = .returned (.bool (hasO l q i)) ∧ w = w' := by
  have HV := Lib.hid hv
  have REP := Lib.hid hrep
  obtain ⟨tx, y, hxy⟩ := hrep.iface hv
  subst hxy
  clear hv hrep
  go_enter Tryd.func17, Tryd.ntmps17
  go_wp2_with (go_at_call 23; refine (Is_E l vs q i _ _ B HV.out REP.out).mono ?_; rintro e w' ⟨rfl, rfl⟩)
  go_ret
  exact ⟨rfl, rfl⟩
end Go.Proofs.YtkkfolbidclonaaDoor.er
