/- The contract of nand's count. -/
import Derived.Test.YtfacgeappbgldaaGreatDoorNdB
namespace Go.Proofs.YtfacgeappbgldaaGreatDoor.nd
open Go.RowKit Go.Proofs.YtfacgeappbgldaaGreatDoor.er
set_option linter.unusedVariables false

def misVal (m : Mis) : Value := .agg #[.int .i64 m.at_, .int .i64 m.kind, .int .i64 m.keep, .string m.junk]
theorem NandIn.hide {w : World} {F : Nat → Prop} {p : Nat} {s : Nand} {pb : Nat} {pv : Value} {vs : List Value} (h : NandIn w F p s pb pv vs) :
    w.cell? ⟨p, 0, none⟩ = some (.int .i64 s.blocks) ∧ w.cell? ⟨p, 1, none⟩ = some (.int .i64 s.per) ∧ w.cell? ⟨p, 2, none⟩ = some (.slice (some ⟨pb, 0, none⟩) s.blocks s.blocks) ∧ w.cell? ⟨p, 3, none⟩ = some (.int .i64 s.ops) ∧
    w.cell? ⟨p, 4, none⟩ = some pv ∧ w.cell? ⟨p, 5, none⟩ = some (.bool s.down) ∧ p < w.heap.size ∧ ∀ i, w.frozen? ⟨p, i, none⟩ = false :=
  ⟨h.obj.cell 0, h.obj.cell 1, h.obj.cell 2, h.obj.cell 3, h.obj.cell 4, h.obj.cell 5, h.obj.lt, h.obj.fz⟩
/-- The array's own block is stored into, to say another array of the same blocks. -/
theorem NandIn.setObj {w : World} {F : Nat → Prop} {p : Nat} {s s' : Nand} {pb : Nat} {pv : Value} {vs : List Value} (h : NandIn w F p s pb pv vs) (i : Nat) (u : Value)
    (he : (#[.int .i64 s.blocks, .int .i64 s.per, .slice (some ⟨pb, 0, none⟩) s.blocks s.blocks, .int .i64 s.ops, pv, .bool s.down] : Array Value).setIfInBounds i u =
      #[.int .i64 s'.blocks, .int .i64 s'.per, .slice (some ⟨pb, 0, none⟩) s'.blocks s'.blocks, .int .i64 s'.ops, pv, .bool s'.down]) (hb : s'.b = s.b) (hp : s'.plan = s.plan) (hok : s'.Ok) : NandIn (w.setCell ⟨p, i, none⟩ u) F p s' pb pv vs := by
  have hpb : pb ≠ p := whole_apart h.blk h.obj (by decide)
  have hk : Keep (fun k => k = p) w (w.setCell ⟨p, i, none⟩ u) := Keep.set1 w p i u
  have hne : ∀ g, (∃ cs, w.heap[g]? = some (.cells cs 9 (0, 0))) → ¬ (g = p) := by
    rintro g ⟨cs, h1⟩ rfl
    have h2 := h.obj
    unfold Whole at h2
    rw [h1] at h2
    injection h2 with h2
    injection h2 with _ h2
    exact absurd h2 (by decide)
  refine ⟨hok, ?_, ?_, ?_, ?_, h.sep, ?_, h.fp, h.fb, h.fr, h.fl, fun g hg => by rw [size_set]; exact h.lt g hg⟩
  · have := h.obj.set i u
    rw [he] at this
    exact this
  · rw [hb]
    exact h.blk.keep hk hpb
  · rw [hb]
    exact h.len
  · intro j b v hj hv
    rw [hb] at hj
    exact own_keep (h.row j b v hj hv) hk (fun g hg => hne g (own_type (h.row j b v hj hv) hg))
  · rw [hp]
    refine own_keep h.plan hk (fun g hg => ?_)
    rintro rfl
    obtain ⟨cs, h1⟩ := own_type h.plan hg
    have h2 := h.obj
    unfold Whole at h2
    rw [h1] at h2
    injection h2 with h2
    injection h2 with _ h2
    exact absurd h2 (by decide)
theorem Nand.Ok.count {s : Nand} (h : s.Ok) : s.count.Ok :=
  ⟨h.b0, h.b1, h.p0, h.p1, h.bl, fun i b hb => ⟨(h.pl i b hb).1, (h.pl i b hb).2.1, by have := (h.pl i b hb).2.2; show b.worn ≤ s.ops + 1; omega⟩, by have := h.o0; show 0 ≤ s.ops + 1; omega, h.jk⟩
theorem NandIn.alloc {w : World} {F : Nat → Prop} {p : Nat} {s : Nand} {pb : Nat} {pv : Value} {vs : List Value} (h : NandIn w F p s pb pv vs) (o : Obj) : NandIn (w.alloc o) F p s pb pv vs :=
  h.keep (G := fun _ => False) ((Keep.refl _ _).alloc o) (fun _ _ => id)
theorem NandIn.below {w w' : World} {F : Nat → Prop} {p : Nat} {s : Nand} {pb : Nat} {pv : Value} {vs : List Value} (h : NandIn w F p s pb pv vs) (hb : Below w.heap.size w w') : NandIn w' F p s pb pv vs :=
  h.keep (G := fun _ => False) (Keep.below hb) (fun _ _ => id)

set_option maxHeartbeats 2000000 in
theorem count_any (w : World) (F : Nat → Prop) (p : Nat) (s : Nand) (pb : Nat) (pv : Value) (vs : List Value) (h : NandIn w F p s pb pv vs) (ho : s.ops ≤ 1000000000000000000) :
    Calls Tryz.prog 65 #[.pointer (some ⟨p, 0, none⟩)] w fun e w' => e = .returned (misVal (waits s.plan (s.ops + 1))) ∧ NandIn w' F p s.count pb pv vs ∧ Keep (fun k => k = p) w w' := by
  obtain ⟨c0, c1, c2, c3, c4, c5, hpl, hfz⟩ := h.hide
  have f3 := hfz 3
  have HLT := Lib.hid h.lt
  have o0 := h.ok.o0
  have IN1 : Hid (NandIn (((w.setCell ⟨p, 3, none⟩ (.int .i64 (s.ops + 1))).alloc (.cells #[.pointer (some ⟨p, 0, none⟩)] 22)).alloc (.cells #[.int .i64 0, .int .i64 0, .int .i64 0, .string ⟨#[]⟩] 32)) F p s.count pb pv vs) :=
    ((h.setObj (s' := s.count) 3 _ rfl rfl rfl h.ok.count).alloc _).alloc _
  have KP : Hid (Keep (fun k => k = p) w (((w.setCell ⟨p, 3, none⟩ (.int .i64 (s.ops + 1))).alloc (.cells #[.pointer (some ⟨p, 0, none⟩)] 22)).alloc (.cells #[.int .i64 0, .int .i64 0, .int .i64 0, .string ⟨#[]⟩] 32))) :=
    ((Keep.set1 w p 3 _).alloc _).alloc _
  have WR : Hid (Whole (((w.setCell ⟨p, 3, none⟩ (.int .i64 (s.ops + 1))).alloc (.cells #[.pointer (some ⟨p, 0, none⟩)] 22)).alloc (.cells #[.int .i64 0, .int .i64 0, .int .i64 0, .string ⟨#[]⟩] 32)) (w.heap.size + 1) 32 #[.int .i64 0, .int .i64 0, .int .i64 0, .string ⟨#[]⟩]) :=
    Whole.new' _ _ _ _ (by rw [World.size_alloc, size_set])
  have BX : Hid (Whole (((w.setCell ⟨p, 3, none⟩ (.int .i64 (s.ops + 1))).alloc (.cells #[.pointer (some ⟨p, 0, none⟩)] 22)).alloc (.cells #[.int .i64 0, .int .i64 0, .int .i64 0, .string ⟨#[]⟩] 32)) w.heap.size 22 #[.pointer (some ⟨p, 0, none⟩)]) :=
    (Whole.new' _ _ _ _ (by rw [size_set])).alloc _
  obtain ⟨A, cap, rfl⟩ := own_slice h.plan
  clear h hfz
  go_enter Tryz.func65, Tryz.ntmps65
  go_wp2_with fail
  refine (index_any s.plan A cap w.heap.size p (s.ops + 1) _ IN1.out.plan (BX.out.cell 0) (IN1.out.obj.cell 3)).mono ?_
  rintro e w2 ⟨rfl, hb2⟩
  have IN2 := Lib.hid (IN1.out.below hb2)
  have d0 := (BX.out.below hb2 BX.out.lt).cell 0
  have d4 := IN2.out.obj.cell 4
  have WR2 := Lib.hid (WR.out.below hb2 WR.out.lt)
  have g0 := WR2.out.cell 0
  have g1 := WR2.out.cell 1
  have g2 := WR2.out.cell 2
  have g3 := WR2.out.cell 3
  have z0 := WR2.out.fz 0
  have z1 := WR2.out.fz 1
  have z2 := WR2.out.fz 2
  have z3 := WR2.out.fz 3
  simp only [List.getElem?_toArray, List.getElem?_cons_zero, List.getElem?_cons_succ] at g0 g1 g2 g3 d0 d4
  have hs2 : w.heap.size + 1 < w2.heap.size := WR2.out.lt
  have KP2 := Lib.hid (KP.out.transBelow hb2)
  have hwa := waits_at s.plan (s.ops + 1)
  cases hq : waitsAt s.plan (s.ops + 1) with
  | none =>
    rw [hq] at hwa
    have HWA := Lib.hid hwa
    have hin : idxInt none = -1 := rfl
    rw [hin]
    clear hb2 c0 c1 c2 c3 c4 c5 hq hwa hin
    go_wp2_with fail
    have hk := Keep.set4 w2 (w.heap.size + 1) (.int .i64 0) (.int .i64 0) (.int .i64 0) (.string ⟨#[]⟩)
    have WW := WR2.out.set4 (.int .i64 0) (.int .i64 0) (.int .i64 0) (.string ⟨#[]⟩)
    generalize ((((w2.setCell ⟨w.heap.size + 1, 0, none⟩ (.int .i64 0)).setCell ⟨w.heap.size + 1, 1, none⟩ (.int .i64 0)).setCell ⟨w.heap.size + 1, 2, none⟩ (.int .i64 0)).setCell ⟨w.heap.size + 1, 3, none⟩ (.string ⟨#[]⟩)) = W at *
    have q0 := WW.cell 0
    have q1 := WW.cell 1
    have q2 := WW.cell 2
    have q3 := WW.cell 3
    simp only [List.getElem?_toArray, List.getElem?_cons_zero, List.getElem?_cons_succ] at q0 q1 q2 q3
    refine bodyPost_ret (v := misVal noMis) (by simp [results, Tryz.results65, go_sem, misVal, noMis, q0, q1, q2, q3]) rfl ⟨by rw [HWA.out], IN2.out.keep hk (fun k hf he => by have := HLT.out k hf; omega), KP2.out.trans hk (fun x hx => .inr (by omega))⟩
  | some j =>
    rw [hq] at hwa
    obtain ⟨m, hm⟩ : ∃ m, s.plan[j]? = some m := by
      unfold waitsAt at hq
      rw [List.findIdx?_eq_some_iff_getElem] at hq
      obtain ⟨hj, _⟩ := hq
      exact ⟨_, List.getElem?_eq_getElem hj⟩
    have hjl : j < s.plan.length := (List.getElem?_eq_some_iff.1 hm).1
    simp only [hm, Option.getD_some] at hwa
    have HWA := Lib.hid hwa
    obtain ⟨g, rfl, _, hgl, hgc, hcells, _⟩ := own_cell IN2.out.plan (by show 0 < s.plan.length; omega)
    obtain ⟨e0, e1, e2, e3⟩ := misCells_at s.plan j m hm
    have k0 := hcells _ _ e0
    have k1 := hcells _ _ e1
    have k2 := hcells _ _ e2
    have k3 := hcells _ _ e3
    have hcap := (own_cap IN2.out.plan).2
    have hpl0 : s.plan.length ≤ 9223372036854775807 := by unfold maxLen at hcap; change s.plan.length ≤ cap at hgc; omega
    have hin : idxInt (some j) = (j : Int) := rfl
    rw [hin]
    clear hb2 c0 c1 c2 c3 c4 c5 hq hwa hin hm e0 e1 e2 e3 hcells hcap
    go_wp2_with fail
    have hk := Keep.set4 w2 (w.heap.size + 1) (.int .i64 m.at_) (.int .i64 m.kind) (.int .i64 m.keep) (.string m.junk)
    have WW := WR2.out.set4 (.int .i64 m.at_) (.int .i64 m.kind) (.int .i64 m.keep) (.string m.junk)
    generalize ((((w2.setCell ⟨w.heap.size + 1, 0, none⟩ (.int .i64 m.at_)).setCell ⟨w.heap.size + 1, 1, none⟩ (.int .i64 m.kind)).setCell ⟨w.heap.size + 1, 2, none⟩ (.int .i64 m.keep)).setCell ⟨w.heap.size + 1, 3, none⟩ (.string m.junk)) = W at *
    have q0 := WW.cell 0
    have q1 := WW.cell 1
    have q2 := WW.cell 2
    have q3 := WW.cell 3
    simp only [List.getElem?_toArray, List.getElem?_cons_zero, List.getElem?_cons_succ] at q0 q1 q2 q3
    refine bodyPost_ret (v := misVal m) (by simp [results, Tryz.results65, go_sem, misVal, q0, q1, q2, q3]) rfl ⟨by rw [HWA.out], IN2.out.keep hk (fun k hf he => by have := HLT.out k hf; omega), KP2.out.trans hk (fun x hx => .inr (by omega))⟩
end Go.Proofs.YtfacgeappbgldaaGreatDoor.nd
