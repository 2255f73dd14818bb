/- NandKept, plain: the first block stays; and what holds of the world with the law's own list of texts. -/
import Derived.Test.YtfnoojhnhkodaaaDoorNdS
import Derived.Test.YtfnoojhnhkodaaaDoorNdT
import Derived.Maps.AppendAt
namespace Go.Proofs.YtfnoojhnhkodaaaDoor.nd
open Go.RowKit Go.Proofs.YtfnoojhnhkodaaaDoor.er
set_option linter.unusedVariables false

structure Kp (s : Nand) (kept : List ByteArray) : Prop where
  bl : s.blocks = 16
  pr : s.per = 8
  b0 : s.b[0]? = some ⟨kept, 0, false⟩
theorem kp_new : Kp fs [] := ⟨rfl, rfl, rfl⟩
theorem kp_far {s : Nand} {kept : List ByteArray} (h : s.Ok) (k : Kp s kept) (q : Int) (t : ByteArray) (hq : 8 ≤ q) : Kp (s.program q t).2 kept ∧ (s.program q t).2.ops ≤ s.ops + 1 := by
  rcases program_next h q t with ⟨e, _⟩ | ⟨ho, hb, hp, _, n, hn, hlt, _, _, far⟩
  · rw [e]
    exact ⟨k, by omega⟩
  · refine ⟨⟨hb.trans k.bl, hp.trans k.pr, (far 0 ?_).trans k.b0⟩, by omega⟩
    rw [k.pr]
    omega
theorem kp_erase {s : Nand} {kept : List ByteArray} (h : s.Ok) (k : Kp s kept) (q : Int) (hq : 1 ≤ q) : Kp (s.erase q).2 kept ∧ (s.erase q).2.ops ≤ s.ops + 1 := by
  obtain ⟨hb, hp, _, _, ho, far, _⟩ := erase_next h q
  exact ⟨⟨hb.trans k.bl, hp.trans k.pr, (far 0 (by omega)).trans k.b0⟩, ho⟩
theorem kp_blk {s : Nand} {kept : List ByteArray} (k : Kp s kept) : s.blk 0 = ⟨kept, 0, false⟩ := by
  unfold Nand.blk
  rw [List.getD_eq_getElem?_getD, k.b0]
  rfl
theorem kp_own {s : Nand} {kept : List ByteArray} (k : Kp s kept) (hd : s.down = false) (hpl : s.plan = []) (hl : kept.length < 8) (t : ByteArray) (ht : t.size ≤ 128) :
    (s.program (kept.length : Int) t).1 = 0 ∧ Kp (s.program (kept.length : Int) t).2 (kept ++ [t]) ∧ (s.program (kept.length : Int) t).2.down = false ∧ (s.program (kept.length : Int) t).2.plan = [] ∧ (s.program (kept.length : Int) t).2.ops = s.ops + 1 := by
  have e := program_at s k.pr hd 0 kept.length (by rw [k.bl]; omega) hl (kept.length : Int) (by omega) t ht
  simp only [kp_blk k, hpl] at e
  have e' : s.program (kept.length : Int) t = (0, s.count.setB 0 ⟨kept ++ [t], 0, false⟩) := by
    rw [e]
    simp [waits, noMis]
  rw [e']
  refine ⟨rfl, ⟨k.bl, k.pr, ?_⟩, hd, hpl, rfl⟩
  show (s.b.set 0 _)[0]? = _
  rw [List.getElem?_set_self (by exact (List.getElem?_eq_some_iff.1 k.b0).1)]
theorem kp_read {s : Nand} {kept : List ByteArray} (k : Kp s kept) (hd : s.down = false) (i : Nat) (hi : i < 8) (t : ByteArray) (ht : kept[i]? = some t) : s.read (i : Int) = (0, t) := by
  unfold Nand.read
  rw [hd, if_neg (by decide), if_neg (fun h => h ⟨by omega, by rw [k.bl, k.pr]; omega⟩)]
  simp only [Int.toNat_natCast, k.pr]
  rw [show i / 8 = 0 from by omega, show i % 8 = i from by omega, kp_blk k]
  simp only [ht]
theorem kp_next {s : Nand} {kept : List ByteArray} (k : Kp s kept) : s.next 0 = kept.length ∧ s.wornB 0 = 0 ∧ s.badB 0 = false := by
  have hh : s.has 0 = true := by unfold Nand.has; rw [k.bl]; rfl
  refine ⟨?_, ?_, ?_⟩
  · unfold Nand.next; rw [if_pos hh]; exact congrArg (fun b : Blk => (b.pages.length : Int)) (kp_blk k)
  · unfold Nand.wornB; rw [if_pos hh]; exact congrArg (fun b : Blk => b.worn) (kp_blk k)
  · unfold Nand.badB; rw [hh]; exact congrArg (fun b : Blk => b.bad) (kp_blk k)

def strVals (l : List ByteArray) : List Value := l.map .string
/-- The array, its first block, and the law's own list. -/
structure KpSt (w0 w : World) (F : Nat → Prop) (p : Nat) (s : Nand) (A : Option Addr) (c : Nat) (kept : List ByteArray) : Prop where
  st : St w0 w F p s
  kp : Kp s kept
  le : kept.length ≤ 8
  own : w.ownsRow w0.heap.size 9 1 (.slice A kept.length c) kept.length (strVals kept)
  nf : ∀ g, (Value.slice A kept.length c).ownBlock = some g → ¬ F g
theorem KpSt.below {w0 w w' : World} {F : Nat → Prop} {p : Nat} {s : Nand} {A : Option Addr} {c : Nat} {kept : List ByteArray} (h : KpSt w0 w F p s A c kept) (hb : Below w.heap.size w w') : KpSt w0 w' F p s A c kept :=
  ⟨h.st.below hb, h.kp, h.le, own_below h.own hb, h.nf⟩
/-- A call to the array that leaves the first block. -/
theorem KpSt.mv {w0 w w' : World} {F F' : Nat → Prop} {p : Nat} {s s' : Nand} {A : Option Addr} {c : Nat} {kept : List ByteArray} (h : KpSt w0 w F p s A c kept) (hs : St w0 w' F' p s') (hm : Mv F w F' w') (hk : Kp s' kept) : KpSt w0 w' F' p s' A c kept :=
  ⟨hs, hk, h.le, own_keep h.own hm.keep h.nf, fun g hg h2 => (hm.sub g h2).elim (h.nf g hg) (fun h3 => by
    obtain ⟨cs, h4⟩ := own_type h.own hg
    have := (Array.getElem?_eq_some_iff.1 h4).1
    omega)⟩
/-- What a text of the law's own list reads as. -/
theorem KpSt.cell {w0 w : World} {F : Nat → Prop} {p : Nat} {s : Nand} {A : Option Addr} {c : Nat} {kept : List ByteArray} (h : KpSt w0 w F p s A c kept) {i : Nat} {t : ByteArray} (ht : kept[i]? = some t) :
    ∃ g, A = some ⟨g, 0, none⟩ ∧ w.cell? ⟨g, i, none⟩ = some (.string t) ∧ kept.length ≤ c := by
  obtain ⟨g, e, _, _, hc, hcell, _⟩ := own_cell h.own (by have := (List.getElem?_eq_some_iff.1 ht).1; omega)
  exact ⟨g, e, hcell i _ (by unfold strVals; rw [List.getElem?_map, ht]; rfl), hc⟩
/-- The list grown behind a call to the array: w5 the world behind the call, w2 the one behind append. -/
theorem KpSt.grow {w0 w w5 w2 : World} {o : Obj} {F F5 : Nat → Prop} {p : Nat} {s s5 : Nand} {A : Option Addr} {c : Nat} {kept : List ByteArray} {t : ByteArray} {v2 : Value} (h : KpSt w0 w F p s A c kept) (hs : St w0 w5 F5 p s5) (hm : Mv F w F5 w5) (hk : Kp s5 (kept ++ [t])) (hl : kept.length < 8)
    (hown : w2.ownsRow w0.heap.size 9 1 v2 (kept.length + 1) (strVals kept ++ [.string t])) (hg : (w5.alloc o).grownBy w2 (Value.slice A kept.length c).ownBlock)
    (hb : v2.ownBlock = (Value.slice A kept.length c).ownBlock ∨ v2.ownBlock = some (w5.alloc o).heap.size) :
    ∃ A2 c2, v2 = .slice A2 (kept.length + 1) c2 ∧ KpSt w0 w2 F5 p s5 A2 c2 (kept ++ [t]) := by
  obtain ⟨A2, c2, rfl⟩ := own_slice hown
  refine ⟨A2, c2, rfl, ?_, hk, by simp; omega, ?_, ?_⟩
  · have hK : Keep (fun k => (Value.slice A kept.length c).ownBlock = some k) w5 w2 := Keep.grown ((Keep.refl _ _).alloc o) hg (fun g hg => .inl hg)
    have hnf5 : ∀ k, F5 k → ¬ (Value.slice A kept.length c).ownBlock = some k := fun k hk5 e => (hm.sub k hk5).elim (h.nf k e) (fun h3 => by
      obtain ⟨cs, h4⟩ := own_type h.own e
      have := (Array.getElem?_eq_some_iff.1 h4).1
      omega)
    have hbase : ∀ k, (Value.slice A kept.length c).ownBlock = some k → w0.heap.size ≤ k := fun k e => by
      rcases h.own.2 with ⟨h1, _⟩ | ⟨g, cap', cur, h1, h2, _⟩
      · rw [h1] at e; simp [Value.ownBlock] at e
      · rw [h1] at e; simp [Value.ownBlock] at e; omega
    exact ⟨hs.at_.keep hK hnf5, hs.bel.trans (hK.toBelow hs.bel.size hbase), hs.base, hs.laid.below (hK.toBelow hs.bel.size hbase) hs.pos, hs.pos⟩
  · have e : (kept ++ [t]).length = kept.length + 1 := by simp
    rw [e]
    have e2 : strVals (kept ++ [t]) = strVals kept ++ [.string t] := by simp [strVals]
    rw [e2]
    exact hown
  · intro g hgo hF
    have e : (kept ++ [t]).length = kept.length + 1 := by simp
    rw [e] at hgo
    rcases hb with hb | hb
    · rw [hb] at hgo
      exact (hm.sub g hF).elim (h.nf g hgo) (fun h3 => by
        obtain ⟨cs, h4⟩ := own_type h.own hgo
        have := (Array.getElem?_eq_some_iff.1 h4).1
        omega)
    · rw [hb] at hgo
      obtain ⟨_, _, _, hi⟩ := hs.at_
      have := hi.lt g hF
      injection hgo with hgo
      rw [World.size_alloc] at hgo
      omega
end Go.Proofs.YtfnoojhnhkodaaaDoor.nd
