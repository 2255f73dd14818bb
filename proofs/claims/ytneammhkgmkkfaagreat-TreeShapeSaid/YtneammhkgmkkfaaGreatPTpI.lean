/- A part of the proof. -/
import Derived.Test.YtneammhkgmkkfaaGreatPTpH
namespace Go.Proofs.YtneammhkgmkkfaaGreat.tr
open Go.RowKit Go.Proofs.YtneammhkgmkkfaaGreat.er
set_option linter.unusedVariables false
set_option linter.unusedSimpArgs false
structure SyW (w : World) (bo : Nat) (fst nodes : Int) (l : List Ext) (A : Option Addr) (c : Nat) (wr : World) : Prop where
  box : Whole wr bo 67 #[.slice A l.length c,.int .i64 fst,.bool false,.int .i64 nodes]
  row : wr.ownsRow w.heap.size 49 4 (.slice A l.length c) l.length (extCells l)
  bel : Below w.heap.size w wr
theorem sy_new {w wq : World} (fst : Int) (hb : Below w.heap.size w wq) : SyW w wq.heap.size fst 1 [] none 0 (wq.alloc (.cells #[.slice none 0 0,.int .i64 fst,.bool false,.int .i64 1] 67)) :=
  ⟨Whole.new _ _ _,⟨rfl,.inl ⟨rfl,rfl⟩⟩,hb.alloc hb.size _⟩
theorem SyW.below {w wr wq : World} {bo : Nat} {fst nodes : Int} {l : List Ext} {A : Option Addr} {c : Nat} (h : SyW w bo fst nodes l A c wr) (hb : Below wr.heap.size wr wq) : SyW w bo fst nodes l A c wq :=
  ⟨h.box.keep (Keep.below (F := fun _ => False) hb) (fun h => h),own_below h.row hb,h.bel.trans (hb.mono h.bel.size)⟩
theorem sy_nodes {w wr : World} {bo : Nat} {fst nodes : Int} {l : List Ext} {A : Option Addr} {c : Nat} (hwb : w.heap.size ≤ bo) (h : SyW w bo fst nodes l A c wr) (x : Int) : SyW w bo fst x l A c (wr.setCell ⟨bo,3,none⟩ (.int .i64 x)) := by
  have hk : Keep (fun k => k = bo) wr (wr.setCell ⟨bo,3,none⟩ (.int .i64 x)) := Keep.set1 wr bo 3 _
  refine ⟨by simpa using h.box.set 3 (.int .i64 x),own_keep h.row hk (fun j hj e => own_ne h.row h.box (by decide) (by rw [hj,e])),h.bel.trans (hk.toBelow h.bel.size (fun k hk => by have hk' : k = bo := hk; omega))⟩
theorem sy_put {w wr w6 : World} {bo : Nat} {fst nodes : Int} {l : List Ext} {A : Option Addr} {c g2 c2 : Nat} {e : Ext} (hwb : w.heap.size ≤ bo) (h : SyW w bo fst nodes l A c wr)
    (q1 : w6.ownsRow w.heap.size 49 4 (.slice (some ⟨g2,0,none⟩) (l.length + 1) c2) (l.length + 1) (extCells l ++ [.int .i64 e.fr,.int .i64 e.n,.int .i64 e.kind,.int .i64 e.at_]))
    (q2 : (wr.alloc (.cells #[.int .i64 e.fr,.int .i64 e.n,.int .i64 e.kind,.int .i64 e.at_] 49)).drew.grownBy w6 (Value.slice A l.length c).ownBlock) :
    (w6.cell? ⟨bo,0,none⟩ = some (.slice A l.length c) ∧ w6.frozen? ⟨bo,0,none⟩ = false) ∧ SyW w bo fst nodes (l ++ [e]) (some ⟨g2,0,none⟩) c2 (w6.setCell ⟨bo,0,none⟩ (.slice (some ⟨g2,0,none⟩) (l.length + 1) c2)) ∧
      Keep (fun k => k = bo ∨ (Value.slice A l.length c).ownBlock = some k) wr (w6.setCell ⟨bo,0,none⟩ (.slice (some ⟨g2,0,none⟩) (l.length + 1) c2)) := by
  have hbx : Whole (wr.alloc (.cells #[.int .i64 e.fr,.int .i64 e.n,.int .i64 e.kind,.int .i64 e.at_] 49)).drew bo 67 #[.slice A l.length c,.int .i64 fst,.bool false,.int .i64 nodes] :=
    h.box.keep (((Keep.refl (fun _ => False) wr).alloc _).drew) (fun h => h)
  have b6 := hbx.grown q2 (own_ne h.row h.box (by decide))
  obtain ⟨v2,hv2⟩ : ∃ v2 : Value,.slice (some ⟨g2,0,none⟩) (l.length + 1) c2 = v2 := ⟨_,rfl⟩
  have hl : (l ++ [e]).length = l.length + 1 := by simp
  have hK : Keep (fun k => k = bo ∨ (Value.slice A l.length c).ownBlock = some k) wr (w6.setCell ⟨bo,0,none⟩ v2) :=
    ((((Keep.refl _ _).alloc _).drew).grown q2 (fun j hj => .inl (.inr hj))).setCell (p := ⟨bo,0,none⟩) (.inl (.inl rfl)) _
  refine ⟨⟨b6.cell 0,b6.fz 0⟩,⟨?_,?_,?_⟩,by rw [hv2]; exact hK⟩
  · rw [hl,hv2]; simpa using b6.set 0 v2
  · rw [hl,hv2,extCells_snoc]
    rw [hv2] at q1
    have hkS : Keep (fun j => j = bo) w6 (w6.setCell ⟨bo,0,none⟩ v2) := Keep.set1 w6 bo 0 _
    exact own_keep q1 hkS (fun j hj e => own_ne q1 b6 (by decide) (by rw [hj,e]))
  · rw [hv2]
    exact h.bel.trans (hK.toBelow h.bel.size (fun k hk => by
      rcases hk with rfl | hk
      · exact hwb
      · exact (h.row.lt k hk).1))
theorem nodup_len : ∀ (l : List Int) (n : Nat),l.Nodup → (∀ a ∈ l,0 ≤ a ∧ a < n) → l.length ≤ n
  | l,0,_,hr => by
    cases l with
    | nil => simp
    | cons a r => have := hr a (by simp); omega
  | l,n + 1,hn,hr => by
    have ih := nodup_len (l.filter fun a => decide (a ≠ n)) n (hn.filter _) (fun a ha => by
      have h1 := List.mem_filter.1 ha
      have h2 := hr a h1.1
      have h3 : a ≠ n := by simpa using h1.2
      omega)
    have hc : l.length ≤ (l.filter fun a => decide (a ≠ (n : Int))).length + 1 := by
      clear hr ih
      induction l with
      | nil => simp
      | cons a r ihr =>
        obtain ⟨h1,h2⟩ := List.nodup_cons.1 hn
        by_cases e : a = n
        · have : r.filter (fun a => decide (a ≠ (n : Int))) = r := List.filter_eq_self.2 (fun x hx => by
            have : x ≠ n := fun e2 => h1 (by rw [e,← e2]; exact hx)
            simpa using this)
          rw [List.filter_cons,if_neg (by simp [e]),this,List.length_cons]
          exact Nat.le_refl _
        · have := ihr h2
          rw [List.filter_cons,if_pos (by simpa using e),List.length_cons,List.length_cons]
          omega
    omega
theorem cnt_bound {h : Nat} {n : Nd h} (hn : (ats n).Nodup) (hr : ∀ a ∈ ats n,0 ≤ a ∧ a < 2048) : cntN n ≤ 2048 := by
  have := nodup_len (ats n) 2048 hn hr
  rw [ats_len] at this
  exact this
structure SyI (w : World) (bo bs : Nat) (fst nodes : Int) (l : List Ext) (A : Option Addr) (c : Nat) (B : Nat) (Aq : Option Addr) (cq : Nat) (fk cn : Int) (lk : List Ext) (q : Nat) (wr : World) : Prop where
  out : SyW w bo fst nodes (l ++ lk.take q) A c wr
  box : Whole wr bs 67 #[.slice Aq lk.length cq,.int .i64 fk,.bool false,.int .i64 cn]
  row : wr.ownsRow B 49 4 (.slice Aq lk.length cq) lk.length (extCells lk)
  ne : bs ≠ bo
  apart : ∀ g,(Value.slice Aq lk.length cq).ownBlock = some g → (Value.slice A (l ++ lk.take q).length c).ownBlock ≠ some g
theorem syi_put {w wr w6 : World} {bo bs : Nat} {fst nodes : Int} {l : List Ext} {A : Option Addr} {c B : Nat} {Aq : Option Addr} {cq : Nat} {fk cn : Int} {lk : List Ext} {q g2 c2 : Nat} {e : Ext} (hwb : w.heap.size ≤ bo) (h : SyI w bo bs fst nodes l A c B Aq cq fk cn lk q wr) (he : lk[q]? = some e)
    (q1 : w6.ownsRow w.heap.size 49 4 (.slice (some ⟨g2,0,none⟩) ((l ++ lk.take q).length + 1) c2) ((l ++ lk.take q).length + 1) (extCells (l ++ lk.take q) ++ [.int .i64 e.fr,.int .i64 e.n,.int .i64 e.kind,.int .i64 e.at_]))
    (q2 : (wr.alloc (.cells #[.int .i64 e.fr,.int .i64 e.n,.int .i64 e.kind,.int .i64 e.at_] 49)).drew.grownBy w6 (Value.slice A (l ++ lk.take q).length c).ownBlock)
    (q3 : (Value.slice A (l ++ lk.take q).length c).ownBlock = some g2 ∨ wr.heap.size ≤ g2) :
    SyI w bo bs fst nodes l (some ⟨g2,0,none⟩) c2 B Aq cq fk cn lk (q + 1) (w6.setCell ⟨bo,0,none⟩ (.slice (some ⟨g2,0,none⟩) ((l ++ lk.take q).length + 1) c2)) := by
  obtain ⟨_,p2,p3⟩ := sy_put hwb h.out q1 q2
  have hap : ∀ g,(Value.slice Aq lk.length cq).ownBlock = some g → g ≠ bo := fun g hg e => own_ne h.row h.out.box (by decide) (by rw [hg,e])
  have hes : (l ++ lk.take q) ++ [e] = l ++ lk.take (q + 1) := by rw [List.append_assoc,List.take_add_one,he]; rfl
  rw [hes] at p2
  refine ⟨p2,h.box.keep p3 ?_,own_keep h.row p3 (fun g hg hk => ?_),h.ne,fun g hg e2 => ?_⟩
  · rintro (e2 | e2)
    · exact h.ne e2
    · exact own_ne h.out.row h.box (by decide) e2.symm
  · rcases hk with hk | hk
    · exact hap g hg hk
    · exact h.apart g hg hk
  · have e3 : g2 = g := by
      have : some g2 = some g := e2
      injection this
    rcases q3 with q3 | q3
    · exact h.apart g hg (by rw [q3,e3])
    · have := (h.row.lt g hg).2; omega
end Go.Proofs.YtneammhkgmkkfaaGreat.tr
