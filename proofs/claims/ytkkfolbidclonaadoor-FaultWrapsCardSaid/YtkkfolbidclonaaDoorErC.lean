/- Contracts: fault.Wrap, the two Unwrap, errors.New; errors.as at the targets *api.Errno and **fault.Fault. -/
import Derived.Test.YtkkfolbidclonaaDoorErB
namespace Go.Proofs.YtkkfolbidclonaaDoor.er
open Go.RowKit Go.Extern.Stop Go.Stop Go.Extern
set_option linter.unusedVariables false

theorem wrap_nil (op : ByteArray) (k : Int) (w : World) :
    Calls Tryd.prog 16 #[.string op, .int .i64 k, .nilIface] w fun e w' => e = .returned .nilIface ∧ w = w' := by
  go_enter Tryd.func16, Tryd.ntmps16
  go_wp2
  go_ret
  exact ⟨rfl, rfl⟩
theorem wrap_err (op : ByteArray) (k : Int) (t : TypeId) (x : Value) (w : World) :
    Calls Tryd.prog 16 #[.string op, .int .i64 k, .iface t x] w fun e w' =>
      e = .returned (.iface 56 (.pointer (some ⟨w.heap.size, 0, none⟩))) ∧ w.alloc (.cells #[.string op, .int .i64 k, .iface t x] 59) = w' := by
  go_enter Tryd.func16, Tryd.ntmps16
  go_wp2
  go_ret
  exact ⟨rfl, rfl⟩
theorem unwrap_fault (b : Nat) (op : ByteArray) (k : Int) (x : Value) (w : World) (h : w.heap[b]? = some (.cells #[.string op, .int .i64 k, x] 59 (0, 0))) :
    Calls Tryd.prog 52 #[.pointer (some ⟨b, 0, none⟩)] w fun e w' => e = .returned x ∧ w = w' := by
  have hc : w.cell? ⟨b, 2, none⟩ = some x := by rw [cell_of_row w b 2 _ _ _ h]; rfl
  have hn : ∀ (w : World), (binOp .eql 56 (.pointer (some ⟨b, 0, none⟩)) (.pointer none)).run Tryd.prog w = .ok (.bool false) w := fun w => by kernel_rfl
  clear h
  go_enter Tryd.func52, Tryd.ntmps52
  go_wp2
  go_ret
  exact ⟨rfl, rfl⟩
theorem unwrap_join (b : Nat) (x : Value) (w : World) (h : w.cell? ⟨b, 0, none⟩ = some x) :
    Calls Tryd.prog 58 #[.pointer (some ⟨b, 0, none⟩)] w fun e w' => e = .returned x ∧ w = w' := by
  go_enter Tryd.func58, Tryd.ntmps58
  go_wp2
  go_ret
  exact ⟨rfl, rfl⟩
theorem new_err (s : ByteArray) (w : World) :
    Calls Tryd.prog 20 #[.string s] w fun e w' => e = .returned (.iface 63 (.pointer (some ⟨w.heap.size, 0, none⟩))) ∧ w.alloc (.cells #[.string s] 65) = w' := by
  go_enter Tryd.func20, Tryd.ntmps20
  go_wp2
  go_ret
  exact ⟨rfl, rfl⟩

theorem below_c {w w' : World} (h : Below w.heap.size w w') {a : Addr} {v : Value} (hc : w.cell? a = some v) : w'.cell? a = some v := (h.cell (World.block_lt_of_cell? _ _ hc)).trans hc
theorem below_f {w w' : World} (h : Below w.heap.size w w') {a : Addr} {v : Value} {b : Bool} (hc : w.cell? a = some v) (hf : w.frozen? a = b) : w'.frozen? a = b := (h.frozen (World.block_lt_of_cell? _ _ hc)).trans hf
/-! ### errors.as at *api.Errno -/
/-- What is there when errors.as is called for an Errno: the target's variable, and the variable of the reflected value that points to it. -/
structure TgtE (w : World) (B ta pa : Nat) (old : Int) : Prop where
  cell : w.cell? ⟨ta, 0, none⟩ = some (.int .i64 old)
  fz : w.frozen? ⟨ta, 0, none⟩ = false
  ptr : w.cell? ⟨pa, 0, none⟩ = some (.pointer (some ⟨ta, 0, none⟩))
  lt : B ≤ ta
def AsE (w : World) (ta : Nat) : Option Int → Ending → World → Prop
  | none, e, w' => e = .returned (.bool false) ∧ Below w.heap.size w w'
  | some c, e, w' => e = .returned (.bool true) ∧ w'.cell? ⟨ta, 0, none⟩ = some (.int .i64 c) ∧ w.grownBy w' (some ta)

set_option maxHeartbeats 2000000 in
set_option maxRecDepth 100000 in
theorem asE (l : List Nd) (vs : List Value) : ∀ (i : Nat) (v : Value) (w : World) (B ta pa : Nat) (old : Int), vs[i]? = some v → Rep w B l vs → B ≤ w.heap.size → TgtE w B ta pa old →
    Calls Tryd.prog 28 #[v, .iface 55 (.pointer (some ⟨ta, 0, none⟩)), .agg #[.pointer (some ⟨1, 55, none⟩), .pointer (some ⟨pa, 0, none⟩), .int .u64 150], .iface 84 (.agg #[.pointer (some ⟨1, 30, none⟩)])] w (AsE w ta (codeO l i)) := by
  intro i
  induction i using Nat.strongRecOn with
  | _ i ih =>
    intro v w B ta pa old hv hrep hB ht
    have IH := Lib.hid ih
    clear ih
    have HV := Lib.hid hv
    have REP := Lib.hid hrep
    have TG := Lib.hid ht
    clear hv hrep ht
    have x25 := @run_callFunc_extern Tryd.prog 25 _ (fun args => ReflectliteValue.unpack (args.getD 0 (.tuple #[]))) Tryd.func25 (by kernel_rfl) (by kernel_rfl) (by kernel_rfl) (by kernel_rfl)
    have x29 := @run_callFunc_extern Tryd.prog 29 _ ReflectliteType.typeOf Tryd.func29 (by kernel_rfl) (by kernel_rfl) (by kernel_rfl) (by kernel_rfl)
    have x60 := @run_callFunc_extern Tryd.prog 60 _ (ReflectliteType.relation "AssignableTo" ReflectliteType.assignableTo) Tryd.func60 (by kernel_rfl) (by kernel_rfl) (by kernel_rfl) (by kernel_rfl)
    have x31 := @run_callFunc_extern Tryd.prog 31 _ (ReflectliteValue.method (ReflectliteValue.valueError "reflectlite.Value.Elem" 0) ReflectliteValue.elem) Tryd.func31 (by kernel_rfl) (by kernel_rfl) (by kernel_rfl) (by kernel_rfl)
    have x32 := @run_callFunc_extern Tryd.prog 32 _ ReflectliteValue.set Tryd.func32 (by kernel_rfl) (by kernel_rfl) (by kernel_rfl) (by kernel_rfl)
    have mAss := methodAssignableTo
    go_enter Tryd.func28, Tryd.ntmps28
    go_wp2
    go_loopg [0] i (fun k s wr => k ≤ i ∧ vs[k]? = some s ∧ Hid (codeO l k = codeO l i) ∧ Below w.heap.size w wr ∧ wr.cell? ⟨w.heap.size, 0, none⟩ = some (.pointer (some ⟨1, 55, none⟩)) ∧ wr.cell? ⟨w.heap.size, 1, none⟩ = some (.pointer (some ⟨pa, 0, none⟩)) ∧ wr.cell? ⟨w.heap.size, 2, none⟩ = some (.int .u64 150))
    case atStart => exact ⟨Nat.le_refl _, HV.out, rfl, (Below.refl _ _).alloc (Nat.le_refl _) _, by simp, by simp, by simp⟩
    case round =>
      obtain ⟨hk, hs, hco, hbel, c0, c1, c2⟩ := hrel
      obtain ⟨n, hn, hnode⟩ := (REP.out.below (hbel.mono hB)).node? hs
      rcases hnode with ⟨n1, n2, rfl⟩ | ⟨n1, b, k, x, nb, n2, n3, rfl, n5⟩ | ⟨n1, b, g, c, nb, ng, nl, rfl, n5, n6⟩ | ⟨n1, n2, a, rfl⟩
      · -- an Errno: set, true
        have hc0 : codeO l i = some n.code := by rw [← hco.out, codeO_eq REP.out.down hn, if_pos n1]
        have HC := Lib.hid hc0
        have tq := below_c hbel TG.out.cell
        have tf := below_f hbel TG.out.cell TG.out.fz
        have tp := below_c hbel TG.out.ptr
        have tlt := World.block_lt_of_cell? _ _ tq
        have t1 := typeOfE (.int .i64 n.code)
        have t2 := assignEE
        have t3 := elemVPE ⟨pa, 0, none⟩ ⟨ta, 0, none⟩ wr tp
        have t4 := valueOfE n.code
        have t5 := setE ⟨ta, 0, none⟩ ⟨wr.heap.size, 0, none⟩ n.code (.int .i64 old) (wr.alloc (.cells #[.int .i64 n.code] 30)) (by simp) (by rw [World.cell?_alloc_lt _ _ _ tlt]; exact tq) (by rw [World.frozen?_alloc_old _ _ _ (Nat.ne_of_lt tlt)]; exact tf)
        clear hs n1 hn hc0 hco
        go_wp2
        go_ret
        rw [HC.out]
        refine ⟨rfl, ?_, only_alloc (only_setCell (only_of_below hbel _) (.inl rfl) _) _⟩
        rw [World.cell?_alloc_lt _ _ _ (by simpa using tlt)]
        exact World.cell?_setCell_same _ _ _ tq
      · -- a Fault: what it wraps
        have hkn : k < gk := REP.out.down gk n hn k (by rw [n2]; simp)
        have hck : codeO l k = codeO l i := by rw [← hco.out, codeO_eq REP.out.down hn, if_neg (by omega), n2]; simp
        have HC := Lib.hid hck
        have HK := Lib.hid n3
        obtain ⟨tx, y, hx⟩ := REP.out.iface n3
        subst hx
        have t1 := typeOfPF (.pointer (some ⟨b, 0, none⟩))
        have t2 := assignFE
        have t3 := noAsF (.pointer (some ⟨b, 0, none⟩))
        have t4 := hasUnF (.pointer (some ⟨b, 0, none⟩))
        have t5 := unwrapF (.pointer (some ⟨b, 0, none⟩))
        have N5 := Lib.hid n5
        clear hs n1 hn hck hco n2 n3 n5
        go_wp2_with (go_at_call 52; refine (unwrap_fault _ _ _ _ _ N5.out).mono ?_; rintro e w' ⟨rfl, rfl⟩)
        go_roundg k
        case measure => exact hkn
        case rel => exact ⟨by omega, HK.out, HC.out, hbel, c0, c1, c2⟩
      · -- some errors joined: one by one
        have hall : codeO l i = n.kids.findSome? (codeO l) := by rw [← hco.out, codeO_eq REP.out.down hn, if_neg (by omega)]
        have HALL := Lib.hid hall
        have N6 := Lib.hid n6
        have HLT := Lib.hid (fun k hk => REP.out.down gk n hn k hk)
        have REPr := Lib.hid (REP.out.below (hbel.mono hB))
        have N5 : Hid (wr.cell? ⟨b, 0, none⟩ = some (.slice (some ⟨g, 0, none⟩) n.kids.length c)) := by show wr.cell? _ = _; rw [cell_of_row wr b 0 _ _ _ n5]; rfl
        have t1 := typeOfJE (.pointer (some ⟨b, 0, none⟩))
        have t2 := assignJE
        have t3 := noAsJ (.pointer (some ⟨b, 0, none⟩))
        have t4 := noUnJ (.pointer (some ⟨b, 0, none⟩))
        have t5 := hasUnsJ (.pointer (some ⟨b, 0, none⟩))
        have t6 := unwrapJ (.pointer (some ⟨b, 0, none⟩))
        clear hs n1 hn hall hco n5 n6
        generalize n.kids = ks at *
        go_wp2_with (go_at_call 58; refine (unwrap_join _ _ _ N5.out).mono ?_; rintro e w' ⟨rfl, rfl⟩)
        have N6r : Hid (∀ (j k : Nat), ks[j]? = some k → ∃ x, vs[k]? = some x ∧ wr.cell? ⟨g, j, none⟩ = some x) := N6.out
        have B0 := Lib.hid hbel
        have C0 := Lib.hid (And.intro c0 (And.intro c1 c2))
        clear c0 c1 c2 hbel N6
        obtain ⟨wo, rfl⟩ : ∃ wo : World, wo = wr := ⟨_, rfl⟩
        go_loopw [50] (fun s wq => ∃ j : Nat, j ≤ ks.length ∧ s = .int .i64 j ∧ Hid (∀ (j' a' : Nat), j' < j → ks[j']? = some a' → codeO l a' = none) ∧ Below wo.heap.size wo wq ∧ wq.cell? ⟨w.heap.size, 0, none⟩ = some (.pointer (some ⟨1, 55, none⟩)) ∧ wq.cell? ⟨w.heap.size, 1, none⟩ = some (.pointer (some ⟨pa, 0, none⟩)) ∧ wq.cell? ⟨w.heap.size, 2, none⟩ = some (.int .u64 150)) (fun s _ => ks.length - (intOf s).toNat)
        case atStart => exact ⟨0, Nat.zero_le _, rfl, fun j' a' h _ => by omega, Below.refl _ _, C0.out.1, C0.out.2.1, C0.out.2.2⟩
        case round =>
          obtain ⟨j, hj, rfl, HN, hbq, c0, c1, c2⟩ := hrel
          by_cases hlt : j < ks.length
          · obtain ⟨k, hkk⟩ : ∃ k, ks[j]? = some k := ⟨ks[j], List.getElem?_eq_getElem hlt⟩
            obtain ⟨x, hx, hxc⟩ := N6r.out j k hkk
            have hxq := below_c hbq hxc
            obtain ⟨tx, y, hxy⟩ := REPr.out.iface hx
            subst hxy
            have hki : k < i := by have := HLT.out k (List.mem_of_getElem? hkk); omega
            have HX := Lib.hid hx
            have hbw : Below w.heap.size w wr := B0.out.trans (hbq.mono B0.out.size)
            have REPq := Lib.hid (REP.out.below (hbw.mono hB))
            have TGq : Hid (TgtE wr B ta pa old) := ⟨below_c hbw TG.out.cell, below_f hbw TG.out.cell TG.out.fz, below_c hbw TG.out.ptr, TG.out.lt⟩
            have HBq := Lib.hid hbw
            have HKK := Lib.hid hkk
            have HBO := Lib.hid hbq
            have hsz : B ≤ wr.heap.size := by have := hbw.size; omega
            cases hco : codeO l k with
            | none =>
              have HCO := Lib.hid hco
              clear hx hxc hkk hco hbw hbq
              go_wp2_with (go_at_call 28; refine (IH.out k hki _ _ B ta pa old HX.out REPq.out hsz TGq.out).mono ?_; intro e w' hh; rw [HCO.out] at hh; obtain ⟨rfl, hb2⟩ := hh)
              go_roundw
              case rel =>
                have C := below_c (a := ⟨w.heap.size, 0, none⟩) hb2 c0
                exact ⟨j + 1, by omega, by go_num, fun j' a' hj' ha' => by
                  rcases Nat.lt_or_ge j' j with h | h
                  · exact HN.out j' a' h ha'
                  · obtain rfl : j' = j := by omega
                    have := HKK.out.symm.trans ha'
                    injection this with this
                    subst this
                    exact HCO.out, HBO.out.trans (hb2.mono HBO.out.size), below_c hb2 c0, below_c hb2 c1, below_c hb2 c2⟩
              case measure => simp [intOf]; omega
            | some c' =>
              have HCO := Lib.hid hco
              have hfin : codeO l i = some c' := by rw [HALL.out]; exact findSome_at _ _ j k c' hkk HN.out hco
              have HFIN := Lib.hid hfin
              clear hx hxc hkk hco hbw hbq hfin
              go_wp2_with (go_at_call 28; refine (IH.out k hki _ _ B ta pa old HX.out REPq.out hsz TGq.out).mono ?_; intro e w' hh; rw [HCO.out] at hh; obtain ⟨rfl, hq1, hq2⟩ := hh; have HQ1 := Lib.hid hq1; have HQ2 := Lib.hid hq2; clear hq1 hq2)
              go_ret
              rw [HFIN.out]
              exact ⟨rfl, HQ1.out, only_trans (only_of_below HBq.out _) HQ2.out⟩
          · obtain rfl : j = ks.length := by omega
            have hfin : codeO l i = none := by rw [HALL.out]; exact findSome_none _ _ HN.out
            have HFIN := Lib.hid hfin
            have HBO := Lib.hid hbq
            clear hfin hbq
            go_wp2
            go_ret
            rw [HFIN.out]
            exact ⟨rfl, B0.out.trans (HBO.out.mono B0.out.size)⟩
      · -- a stranger: false
        have hc0 : codeO l i = none := by
          rw [← hco.out, codeO_eq REP.out.down hn, if_neg (by omega), n2]
          rfl
        have HC := Lib.hid hc0
        have t1 := typeOfES (.pointer (some a))
        have t2 := assignSE
        have t3 := noAsS (.pointer (some a))
        have t4 := noUnS (.pointer (some a))
        have t5 := noUnsS (.pointer (some a))
        clear hs n1 hn hc0 hco n2
        go_wp2
        go_ret
        rw [HC.out]
        exact ⟨rfl, hbel⟩
end Go.Proofs.YtkkfolbidclonaaDoor.er
