/- A part of the proof. -/
import Derived.Test.YtneammhkgmkkfaaGreatDoorQFlL
import Derived.Test.YtneammhkgmkkfaaGreatDoorQTrMg
import Derived.BigQuiet
import Derived.Deep.AppendLies
import Derived.Deep.DeepCutAuto
import Derived.Deep.QuietTactic
import Derived.Deep.RegionHeld3
import Derived.Deep.RegionLaw
import Derived.Laws.IdiomCopy
import Derived.Laws.StructEq
namespace Go.Proofs.YtneammhkgmkkfaaGreatDoor.tr
open Go.RowKit Go.Proofs.YtneammhkgmkkfaaGreatDoor.er
set_option linter.unusedVariables false
set_option linter.unusedSimpArgs false
def Ext.cells (e : Ext) : List Value := [.int .i64 e.fr,.int .i64 e.n,.int .i64 e.kind,.int .i64 e.at_]
def Ext.val (e : Ext) : Value := .agg #[.int .i64 e.fr,.int .i64 e.n,.int .i64 e.kind,.int .i64 e.at_]
def extCells (l : List Ext) : List Value := l.flatMap Ext.cells
theorem extCells_len (l : List Ext) : (extCells l).length = l.length * 4 := by
  induction l with
  | nil => rfl
  | cons m r ih => simp [extCells,List.flatMap_cons,Ext.cells] at ih ⊢; omega
theorem extCells_snoc (l : List Ext) (e : Ext) : extCells (l ++ [e]) = extCells l ++ [.int .i64 e.fr,.int .i64 e.n,.int .i64 e.kind,.int .i64 e.at_] := by simp [extCells,Ext.cells]
theorem extCells_append (l r : List Ext) : extCells (l ++ r) = extCells l ++ extCells r := by simp [extCells]
theorem extCells_at : ∀ (l : List Ext) (j : Nat) (m : Ext),l[j]? = some m →
    (extCells l)[j * 4]? = some (.int .i64 m.fr) ∧ (extCells l)[j * 4 + 1]? = some (.int .i64 m.n) ∧ (extCells l)[j * 4 + 2]? = some (.int .i64 m.kind) ∧ (extCells l)[j * 4 + 3]? = some (.int .i64 m.at_)
  | [],_,_,h => by simp at h
  | x :: r,0,m,h => by
    simp at h
    subst h
    simp [extCells,Ext.cells]
  | x :: r,j + 1,m,h => by
    have ih := extCells_at r j m (by simpa using h)
    have e : extCells (x :: r) = .int .i64 x.fr :: .int .i64 x.n :: .int .i64 x.kind :: .int .i64 x.at_ :: extCells r := by simp [extCells,Ext.cells]
    rw [e,show (j + 1) * 4 = j * 4 + 4 from by omega]
    simpa using ih
def ExtAt (w : World) (g o : Nat) (e : Ext) : Prop := w.cell? ⟨g,o,none⟩ = some (.int .i64 e.fr) ∧ w.cell? ⟨g,o + 1,none⟩ = some (.int .i64 e.n) ∧ w.cell? ⟨g,o + 2,none⟩ = some (.int .i64 e.kind) ∧ w.cell? ⟨g,o + 3,none⟩ = some (.int .i64 e.at_)
def ExtsAt (w : World) (v : Value) (l : List Ext) : Prop := ∃ A c,v = .slice A l.length c ∧ (0 < l.length → ∃ g o,A = some ⟨g,o,none⟩ ∧ ∀ (j : Nat) (e : Ext),l[j]? = some e → ExtAt w g (o + j * 4) e)
theorem ExtAt.below {w w' : World} {g o : Nat} {e : Ext} (h : ExtAt w g o e) (hb : Below w.heap.size w w') : ExtAt w' g o e := ⟨below_c hb h.1,below_c hb h.2.1,below_c hb h.2.2.1,below_c hb h.2.2.2⟩
theorem ExtsAt.below {w w' : World} {v : Value} {l : List Ext} (h : ExtsAt w v l) (hb : Below w.heap.size w w') : ExtsAt w' v l := by
  obtain ⟨A,c,rfl,h2⟩ := h
  refine ⟨A,c,rfl,fun h0 => ?_⟩
  obtain ⟨g,o,rfl,hc⟩ := h2 h0
  exact ⟨g,o,rfl,fun j e he => (hc j e he).below hb⟩
theorem own_lenE {w : World} {B n : Nat} {A : Option Addr} {cap : Nat} {e : TypeId} {k : Nat} {xs : List Value} (h : w.ownsRow B e k (.slice A n cap) n xs) : xs.length = n * k := h.1
theorem ExtsAt.own {w : World} {B n : Nat} {v : Value} {l : List Ext} (h : w.ownsRow B 59 4 v n (extCells l)) : ExtsAt w v l ∧ l.length = n := by
  have hn : l.length = n := by
    have := h.1
    rw [extCells_len] at this
    omega
  subst hn
  refine ⟨?_,rfl⟩
  obtain ⟨A,c,rfl⟩ := own_slice h
  refine ⟨A,c,rfl,fun h0 => ?_⟩
  obtain ⟨g,rfl,_,_,_,hc,_⟩ := own_cell h h0
  refine ⟨g,0,rfl,fun j e he => ?_⟩
  obtain ⟨k0,k1,k2,k3⟩ := extCells_at l j e he
  simp only [Nat.zero_add]
  exact ⟨hc _ _ k0,hc _ _ k1,hc _ _ k2,hc _ _ k3⟩
theorem span_any (fr n : Int) (w : World) : Calls Tryz.prog 65 #[.int .i64 fr,.int .i64 n] w fun e w' => e = .returned (.bool (spanB fr n)) ∧ w = w' := by
  have key : ∀ b,spanB fr n = b → Calls Tryz.prog 65 #[.int .i64 fr,.int .i64 n] w fun e w' => e = .returned (.bool b) ∧ w = w' := by
    intro b hb
    unfold spanB at hb
    by_cases h1 : 0 ≤ fr
    · by_cases h2 : 0 ≤ n
      · by_cases h3 : fr ≤ 16777216
        · have hw : wrap64 (16777216 - fr) = 16777216 - fr := by unfold wrap64; omega
          by_cases h4 : n ≤ 16777216 - fr
          · obtain rfl : true = b := by rw [← hb]; simp [h1,h2,h3,h4]
            clear hb
            go_enter Tryz.func65,Tryz.ntmps65
            go_wp2_with fail
            go_ret
            exact ⟨rfl,rfl⟩
          · obtain rfl : false = b := by rw [← hb]; simp [h1,h2,h3,h4]
            clear hb
            go_enter Tryz.func65,Tryz.ntmps65
            go_wp2_with fail
            go_ret
            exact ⟨rfl,rfl⟩
        · obtain rfl : false = b := by rw [← hb]; simp [h1,h2,h3]
          clear hb
          go_enter Tryz.func65,Tryz.ntmps65
          go_wp2_with fail
          go_ret
          exact ⟨rfl,rfl⟩
      · obtain rfl : false = b := by rw [← hb]; simp [h1,h2]
        clear hb
        go_enter Tryz.func65,Tryz.ntmps65
        go_wp2_with fail
        go_ret
        exact ⟨rfl,rfl⟩
    · obtain rfl : false = b := by rw [← hb]; simp [h1]
      clear hb
      go_enter Tryz.func65,Tryz.ntmps65
      go_wp2_with fail
      go_ret
      exact ⟨rfl,rfl⟩
  exact key _ rfl
theorem end_any (e : Ext) (w : World) (h : oneB e = true) : Calls Tryz.prog 46 #[e.val] w fun x w' => x = .returned (.int .i64 e.end_) ∧ Below w.heap.size w w' := by
  obtain ⟨k1,k2,k3,k4⟩ := one_spec h
  obtain ⟨f,n,k,t⟩ := e
  simp only at k1 k2 k3
  have hw : wrap64 (f + n) = f + n := by unfold wrap64; omega
  show Calls Tryz.prog 46 #[.agg #[.int .i64 f,.int .i64 n,.int .i64 k,.int .i64 t]] w _
  have HB := Lib.hid ((Below.refl w.heap.size w).alloc (Nat.le_refl _) (.cells #[.int .i64 f,.int .i64 n,.int .i64 k,.int .i64 t] 59))
  go_enter Tryz.func46,Tryz.ntmps46
  go_wp2_with fail
  go_ret
  exact ⟨rfl,HB.out⟩
theorem one_any (e : Ext) (w : World) : Calls Tryz.prog 38 #[e.val] w fun x w' => x = .returned (.bool (oneB e)) ∧ Below w.heap.size w w' := by
  obtain ⟨f,n,k,t⟩ := e
  show Calls Tryz.prog 38 #[.agg #[.int .i64 f,.int .i64 n,.int .i64 k,.int .i64 t]] w _
  have HB := Lib.hid ((Below.refl w.heap.size w).alloc (Nat.le_refl _) (.cells #[.int .i64 f,.int .i64 n,.int .i64 k,.int .i64 t] 59))
  cases hs : spanB f n
  · have HS := Lib.hid hs
    have HR : Hid (oneB ⟨f,n,k,t⟩ = false) := by show _ = _; unfold oneB; rw [hs]; rfl
    clear hs
    go_enter Tryz.func38,Tryz.ntmps38
    go_wp2_with fail
    refine (span_any _ _ _).mono ?_
    rintro e w1 ⟨rfl,rfl⟩
    rw [HS.out]
    go_wp2_with fail
    go_ret
    exact ⟨by rw [HR.out]; (first | rfl | simp [*]),HB.out⟩
  · have HS := Lib.hid hs
    by_cases h1 : n < 1
    · have HR : Hid (oneB ⟨f,n,k,t⟩ = false) := by show _ = _; unfold oneB; rw [hs]; simp; intro h; omega
      clear hs
      go_enter Tryz.func38,Tryz.ntmps38
      go_wp2_with fail
      refine (span_any _ _ _).mono ?_
      rintro e w1 ⟨rfl,rfl⟩
      rw [HS.out]
      go_wp2_with fail
      go_ret
      exact ⟨by rw [HR.out]; (first | rfl | simp [*]),HB.out⟩
    · have h1' : (1 : Int) ≤ n := by omega
      by_cases h2 : k = 1
      · subst h2
        have HR : Hid (oneB ⟨f,n,1,t⟩ = (t == 0)) := by show _ = _; unfold oneB; rw [hs,if_pos rfl]; simp [h1']; rfl
        clear hs
        go_enter Tryz.func38,Tryz.ntmps38
        go_wp2_with fail
        refine (span_any _ _ _).mono ?_
        rintro e w1 ⟨rfl,rfl⟩
        rw [HS.out]
        go_wp2_with fail
        go_ret
        exact ⟨by rw [HR.out]; (first | rfl | simp [*]),HB.out⟩
      · by_cases h3 : k = 2
        · subst h3
          by_cases h4 : 0 ≤ t
          · by_cases h5 : t ≤ 2048
            · have hw : wrap64 (2048 - t) = 2048 - t := by unfold wrap64; omega
              by_cases h6 : n ≤ 2048 - t
              · have HR : Hid (oneB ⟨f,n,2,t⟩ = true) := by show _ = _; unfold oneB; rw [hs]; simp; omega
                clear hs
                go_enter Tryz.func38,Tryz.ntmps38
                go_wp2_with fail
                refine (span_any _ _ _).mono ?_
                rintro e w1 ⟨rfl,rfl⟩
                rw [HS.out]
                go_wp2_with fail
                go_ret
                exact ⟨by rw [HR.out]; (first | rfl | simp [*]),HB.out⟩
              · have HR : Hid (oneB ⟨f,n,2,t⟩ = false) := by show _ = _; unfold oneB; rw [hs]; simp; omega
                clear hs
                go_enter Tryz.func38,Tryz.ntmps38
                go_wp2_with fail
                refine (span_any _ _ _).mono ?_
                rintro e w1 ⟨rfl,rfl⟩
                rw [HS.out]
                go_wp2_with fail
                go_ret
                exact ⟨by rw [HR.out]; (first | rfl | simp [*]),HB.out⟩
            · have HR : Hid (oneB ⟨f,n,2,t⟩ = false) := by show _ = _; unfold oneB; rw [hs]; simp; omega
              clear hs
              go_enter Tryz.func38,Tryz.ntmps38
              go_wp2_with fail
              refine (span_any _ _ _).mono ?_
              rintro e w1 ⟨rfl,rfl⟩
              rw [HS.out]
              go_wp2_with fail
              go_ret
              exact ⟨by rw [HR.out]; (first | rfl | simp [*]),HB.out⟩
          · have HR : Hid (oneB ⟨f,n,2,t⟩ = false) := by show _ = _; unfold oneB; rw [hs]; simp; omega
            clear hs
            go_enter Tryz.func38,Tryz.ntmps38
            go_wp2_with fail
            refine (span_any _ _ _).mono ?_
            rintro e w1 ⟨rfl,rfl⟩
            rw [HS.out]
            go_wp2_with fail
            go_ret
            exact ⟨by rw [HR.out]; (first | rfl | simp [*]),HB.out⟩
        · have HR : Hid (oneB ⟨f,n,k,t⟩ = false) := by show _ = _; unfold oneB; rw [hs]; simp [h2,h3]
          clear hs
          go_enter Tryz.func38,Tryz.ntmps38
          go_wp2_with fail
          refine (span_any _ _ _).mono ?_
          rintro e w1 ⟨rfl,rfl⟩
          rw [HS.out]
          go_wp2_with fail
          go_ret
          exact ⟨by rw [HR.out]; (first | rfl | simp [*]),HB.out⟩
end Go.Proofs.YtneammhkgmkkfaaGreatDoor.tr
namespace Go.Proofs.YtneammhkgmkkfaaGreatDoor.tr
open Go.RowKit Go.Proofs.YtneammhkgmkkfaaGreatDoor.er
set_option linter.unusedVariables false
set_option linter.unusedSimpArgs false
structure Row (w : World) (g c k : Nat) (t : TypeId) (xs : List Value) : Prop where
  blk : ∃ cs,Whole w g t cs ∧ c * k ≤ cs.size ∧ cs.toList.take xs.length = xs
  cap : c ≤ maxLen
  fit : xs.length ≤ c * k
theorem Row.lt {w : World} {g c k : Nat} {t : TypeId} {xs : List Value} (h : Row w g c k t xs) : g < w.heap.size := by
  obtain ⟨cs,hw,_⟩ := h.blk
  exact hw.lt
theorem Row.keep {F : Nat → Prop} {w w' : World} {g c k : Nat} {t : TypeId} {xs : List Value} (h : Row w g c k t xs) (hk : Keep F w w') (hF : ¬ F g) : Row w' g c k t xs := by
  obtain ⟨cs,hw,h1,h2⟩ := h.blk
  exact ⟨⟨cs,hw.keep hk hF,h1,h2⟩,h.cap,h.fit⟩
theorem Row.cell {w : World} {g c k : Nat} {t : TypeId} {xs : List Value} (h : Row w g c k t xs) {j : Nat} {v : Value} (hj : xs[j]? = some v) : w.cell? ⟨g,j,none⟩ = some v := by
  obtain ⟨cs,hw,h1,h2⟩ := h.blk
  rw [hw.cell]
  have hl : j < xs.length := (List.getElem?_eq_some_iff.1 hj).1
  rw [← h2] at hj
  rw [List.getElem?_take_of_lt hl] at hj
  simpa using hj
theorem Row.room {w : World} {g c k : Nat} {t : TypeId} {xs : List Value} (h : Row w g c k t xs) {j : Nat} (hj : j < c * k) : (w.cell? ⟨g,j,none⟩).isSome = true := by
  obtain ⟨cs,hw,h1,h2⟩ := h.blk
  rw [hw.cell]
  have : j < cs.size := by omega
  simp [this]
theorem Row.fz {w : World} {g c k : Nat} {t : TypeId} {xs : List Value} (h : Row w g c k t xs) (j : Nat) : w.frozen? ⟨g,j,none⟩ = false := by
  obtain ⟨cs,hw,h1,h2⟩ := h.blk
  exact hw.fz j
theorem Row.own {w : World} {B k n : Nat} {t : TypeId} {v : Value} {xs : List Value} (h : w.ownsRow B t k v n xs) (hn : 0 < n) : ∃ g c,v = .slice (some ⟨g,0,none⟩) n c ∧ Row w g c k t xs ∧ B ≤ g := by
  obtain ⟨hl,h | ⟨g,cap,cur,h1,h2,h3,h4,h5,h6,h7⟩⟩ := h
  · omega
  · refine ⟨g,cap,h1,⟨⟨cur,h3,by omega,by rw [hl]; exact h7⟩,h5,?_⟩,h2⟩
    rw [hl]
    exact Nat.mul_le_mul_right k h4
def NdAt (w : World) : {h : Nat} → List Nat → Value → Nd h → Prop
  | 0,F,v,n => ∃ b g c,F = [b,g] ∧ v = .iface 117 (.pointer (some ⟨b,0,none⟩)) ∧ Whole w b 119 #[.int .i64 (Nd.at_ n),.slice (some ⟨g,0,none⟩) (Nd.l n).length c] ∧ Row w g c 4 59 (extCells (Nd.l n))
  | h + 1,F,v,n => ∃ b g c,∃ ds : List (List Nat × Value × Nd h),F = b :: g :: ds.flatMap (fun d => d.1) ∧ v = .iface 94 (.pointer (some ⟨b,0,none⟩)) ∧ Whole w b 97 #[.int .i64 (Nd.at_ n),.slice (some ⟨g,0,none⟩) (Nd.ks n).length c] ∧ Nd.ks n = ds.map (fun d => d.2.2) ∧ Row w g c 1 62 (ds.map fun d => d.2.1) ∧ ∀ d ∈ ds,NdAt w d.1 d.2.1 d.2.2
theorem NdAt.keep {G : Nat → Prop} {w w' : World} (hk : Keep G w w') : ∀ {h : Nat} {F : List Nat} {v : Value} {n : Nd h},NdAt w F v n → (∀ k ∈ F,¬ G k) → NdAt w' F v n
  | 0,F,v,n,⟨b,g,c,h1,h2,h3,h4⟩,hF => by
    subst h1
    exact ⟨b,g,c,rfl,h2,h3.keep hk (hF b (by simp)),h4.keep hk (hF g (by simp))⟩
  | h + 1,F,v,n,⟨b,g,c,ds,h1,h2,h3,h4,h5,h6⟩,hF => by
    subst h1
    exact ⟨b,g,c,ds,rfl,h2,h3.keep hk (hF b (by simp)),h4,h5.keep hk (hF g (by simp)),fun d hd => NdAt.keep hk (h6 d hd) (fun k hm => hF k (by
      simp only [List.mem_cons,List.mem_flatMap]
      exact .inr (.inr ⟨d,hd,hm⟩)))⟩
theorem NdAt.lt {w : World} : ∀ {h : Nat} {F : List Nat} {v : Value} {n : Nd h},NdAt w F v n → ∀ k ∈ F,k < w.heap.size
  | 0,F,v,n,⟨b,g,c,h1,h2,h3,h4⟩,k,hk => by
    subst h1
    simp only [List.mem_cons,List.not_mem_nil,or_false] at hk
    rcases hk with rfl | rfl
    · exact h3.lt
    · exact h4.lt
  | h + 1,F,v,n,⟨b,g,c,ds,h1,h2,h3,h4,h5,h6⟩,k,hk => by
    subst h1
    simp only [List.mem_cons,List.mem_flatMap] at hk
    rcases hk with rfl | rfl | ⟨d,hd,hm⟩
    · exact h3.lt
    · exact h5.lt
    · exact NdAt.lt (h6 d hd) k hm
structure NdIn (w : World) {h : Nat} (F : List Nat) (v : Value) (n : Nd h) : Prop where
  at_ : NdAt w F v n
  nd : F.Nodup
end Go.Proofs.YtneammhkgmkkfaaGreatDoor.tr
