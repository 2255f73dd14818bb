/- A struct of five one-cell fields that comes in by value, opened. -/
import Derived.Test.YtfacgeappbgldaaGreatDoorFlL
import Derived.Test.YtfacgeappbgldaaGreatDoorTie
import Derived.Test.YtfacgeappbgldaaGreatDoorCards
import Derived.SevenTiedAt
namespace Go.Proofs.YtfacgeappbgldaaGreatDoor.er
open Go.ChangeShapes Go.WideShapes Go.ChangeAt Go.RowKit Go.Joins Go.Deep
set_option linter.unusedVariables false
section
variable {H : Type} {enc : TypeId × Value → H} {P : Program} {w : World} {base : Nat} {spare : Nat → Bool} {held : Bool}
theorem five_of {α : Type} {cs : Array α} (h : cs.size = 5) : ∃ a b c d e, cs = #[a, b, c, d, e] := by
  obtain ⟨l⟩ := cs
  match l, h with
  | [a, b, c, d, e], _ => exact ⟨a, b, c, d, e, rfl⟩
theorem open_agg5 {r : Reach} {b0 : Nat} {t : TypeId} {f0 f1 f2 f3 f4 : Field} {v : Value} {d : DataW H} {p : List MemPlace} (hs : P.underlying t = some (.struct #[f0, f1, f2, f3, f4])) (hone : oneCellFields P #[f0, f1, f2, f3, f4] = true) (hC : P.cellsOf t = 5)
    (hv : Value.okWide P w r b0 t v) (h : DataW.Trod enc P w base spare held t v d p) :
    ∃ (v0 v1 v2 v3 v4 : Value) (y0 y1 y2 y3 y4 : DataW H × List MemPlace) (n : Nat), v = .agg #[v0, v1, v2, v3, v4] ∧ d = .agg [y0.1, y1.1, y2.1, y3.1, y4.1] ∧ p = y0.2 ++ (y1.2 ++ (y2.2 ++ (y3.2 ++ y4.2))) ∧
      DataW.trod enc P w base spare held n f0.type [v0] = some y0 ∧ DataW.trod enc P w base spare held n f1.type [v1] = some y1 ∧ DataW.trod enc P w base spare held n f2.type [v2] = some y2 ∧ DataW.trod enc P w base spare held n f3.type [v3] = some y3 ∧ DataW.trod enc P w base spare held n f4.type [v4] = some y4 := by
  obtain ⟨cs, rfl, hsz⟩ := okWide_struct hs hv
  obtain ⟨a, b, c, e, g, rfl⟩ := five_of (hsz.trans hC)
  obtain ⟨fuel, hf⟩ := h
  obtain ⟨xs, n, _, hx, hl, hlen, hw⟩ := DataW.trod_struct hs hf
  match xs, hlen with
  | [y0, y1, y2, y3, y4], _ =>
    have q := fun i f hi => hone_of hone i f hi
    obtain ⟨o0, k0⟩ := q 0 f0 rfl
    obtain ⟨o1, k1⟩ := q 1 f1 rfl
    obtain ⟨o2, k2⟩ := q 2 f2 rfl
    obtain ⟨o3, k3⟩ := q 3 f3 rfl
    obtain ⟨o4, k4⟩ := q 4 f4 rfl
    have h0 := hw 0 f0 rfl
    have h1 := hw 1 f1 rfl
    have h2 := hw 2 f2 rfl
    have h3 := hw 3 f3 rfl
    have h4 := hw 4 f4 rfl
    simp [Value.cells, o0, k0] at h0
    simp [Value.cells, o1, k1] at h1
    simp [Value.cells, o2, k2] at h2
    simp [Value.cells, o3, k3] at h3
    simp [Value.cells, o4, k4] at h4
    have hx1 := congrArg Prod.fst hx
    have hx2 := congrArg Prod.snd hx
    exact ⟨a, b, c, e, g, y0, y1, y2, y3, y4, n, rfl, by simpa using hx1, by simpa using hx2, h0, h1, h2, h3, h4⟩
end
end Go.Proofs.YtfacgeappbgldaaGreatDoor.er
