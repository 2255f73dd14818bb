/- A part of the proof. -/
import Derived.Test.YtneammhkgmkkfaaGreatPTqH
namespace Go.Proofs.YtneammhkgmkkfaaGreat.tr
open Go.RowKit Go.Proofs.YtneammhkgmkkfaaGreat.er
set_option linter.unusedVariables false
set_option linter.unusedSimpArgs false
theorem pl_nodes {w0 wr : World} {p bb : Nat} {T : Tree} {rv : Value} {L : Bk} (h : PlI w0 wr p bb T rv L) (hN : T.cnt ≤ 16777216) :
    Calls Tryz.prog 15 #[.pointer (some ⟨p,0,none⟩)] wr fun x w' => x = .returned (.int .i64 T.cnt) ∧ PlI w0 w' p bb T rv L := by
  have hh := h
  obtain ⟨h1,h2,h3,h4,F,G,f1,_⟩ := h
  refine (Nodes_any wr F p T f1 h2 hN).mono ?_
  rintro x w' ⟨rfl,hb⟩
  exact ⟨rfl,hh.below hb⟩
theorem high_small {T : Tree} (hok : T.Ok) (hl : T.flat.length ≤ 300) : T.high ≤ 4 := by
  have h1 := tree_high hok
  by_cases he : T.flat = []
  · have := (h1.1 he).1; omega
  · obtain ⟨_,_,h3,_⟩ := h1.2 he
    rcases h3 with h3 | h3
    · omega
    · refine Decidable.byContradiction fun hn => ?_
      have : 4 ^ 4 ≤ 4 ^ (T.high - 1) := Nat.pow_le_pow_right (by omega) (by omega)
      omega
end Go.Proofs.YtneammhkgmkkfaaGreat.tr
