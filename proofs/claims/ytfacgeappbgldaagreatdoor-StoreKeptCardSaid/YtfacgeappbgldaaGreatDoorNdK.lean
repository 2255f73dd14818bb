/- Contracts of nand's Read, Up, Geometry, New. -/
import Derived.Test.YtfacgeappbgldaaGreatDoorNdJ
namespace Go.Proofs.YtfacgeappbgldaaGreatDoor.nd
open Go.RowKit Go.Proofs.YtfacgeappbgldaaGreatDoor.er
attribute [local go_sem ↓] Go.wp_at_zero Go.wp_at_succ
set_option linter.unusedVariables false

def RdPost (w : World) (F : Nat → Prop) (p : Nat) (s : Nand) (l : List (ByteArray × Int)) (r : Int × ByteArray) (e : Ending) (w' : World) : Prop :=
  ∃ v, e = .returned (.tuple #[.string r.2, v]) ∧ Below w.heap.size w w' ∧ ErrW w' F l r.1 v
set_option maxHeartbeats 1000000 in
theorem Read_any (w : World) (F : Nat → Prop) (p : Nat) (s : Nand) (q : Int) (h : NandAt w F p s) :
    Calls Tryz.prog 50 #[.pointer (some ⟨p, 0, none⟩), .int .i64 q] w (RdPost w F p s [(⟨#[114, 101, 97, 100]⟩, q)] (s.read q)) := by
  have H := Lib.hid h
  have HLT : Hid (∀ k, F k → k < w.heap.size) := by obtain ⟨_, _, _, h⟩ := h; exact h.lt
  clear h
  by_cases hc : (s.read q).1 = 0
  · have HC := Lib.hid hc
    have he : errV (s.read q).1 = .nilIface := by rw [hc]; rfl
    have HE := Lib.hid he
    clear hc he
    go_enter Tryz.func50, Tryz.ntmps50
    go_wp2_with fail
    refine (read_any _ F p s q H.out).mono ?_
    rw [HE.out]
    rintro e w1 ⟨rfl, hb⟩
    have HB := Lib.hid hb
    clear hb
    go_wp2_with (go_at_call 34; refine (wrap_nil _ _ _).mono ?_; rintro e w' ⟨rfl, rfl⟩)
    go_ret2
    exact ⟨_, rfl, HB.out, .inl ⟨HC.out, rfl⟩⟩
  · have HC := Lib.hid hc
    have HE := Lib.hid (errV_ne hc)
    clear hc
    go_enter Tryz.func50, Tryz.ntmps50
    go_wp2_with fail
    refine (read_any _ F p s q H.out).mono ?_
    rw [HE.out]
    rintro e w1 ⟨rfl, hb⟩
    have HB := Lib.hid hb
    have W := Lib.hid (wrapped (F' := F) ⟨#[114, 101, 97, 100]⟩ q _ HC.out (H.out.below hb) (Mv.below hb))
    clear hb
    go_wp2_with (go_at_call 34; refine (wrap_err _ _ _ _ _).mono ?_; rintro e w' ⟨rfl, rfl⟩)
    go_ret2
    exact ⟨_, rfl, HB.out.trans ((Below.refl _ _).alloc HB.out.size _), W.out.2.2⟩
theorem read_nil (q : Int) (w : World) :
    Calls Tryz.prog 72 #[.pointer none, .int .i64 q] w fun e w' => e = .returned (.tuple #[.string ⟨#[]⟩, errV 1]) ∧ Below w.heap.size w w' := by
  have HB : Hid (Below w.heap.size w ((w.alloc (.cells #[.pointer none] 22)).alloc (.cells #[.int .i64 q] 3))) := by show Below _ _ _; exact ((Below.refl _ _).alloc (Nat.le_refl _) _).alloc (by simp) _
  go_enter Tryz.func72, Tryz.ntmps72
  go_wp2_with (go_at_call 62; refine (ready_nil _ _).mono ?_; rintro e w' ⟨rfl, rfl⟩; rw [show errV 1 = .iface 44 (.int .i64 1) from rfl])
  go_ret2
  exact ⟨rfl, HB.out⟩
theorem Read_nil (q : Int) (w : World) :
    Calls Tryz.prog 50 #[.pointer none, .int .i64 q] w fun e w' => ∃ v b, e = .returned (.tuple #[.string ⟨#[]⟩, v]) ∧ Below w.heap.size w w' ∧ ErrAt w' [b] [(⟨#[114, 101, 97, 100]⟩, q)] 1 v := by
  go_enter Tryz.func50, Tryz.ntmps50
  go_wp2_with fail
  refine (read_nil q _).mono ?_
  rintro e w1 ⟨rfl, hb⟩
  have HB := Lib.hid hb
  rw [show errV 1 = .iface 44 (.int .i64 1) from rfl]
  clear hb
  go_wp2_with (go_at_call 34; refine (wrap_err _ _ _ _ _).mono ?_; rintro e w' ⟨rfl, rfl⟩)
  go_ret2
  exact ⟨_, _, rfl, HB.out.trans ((Below.refl _ _).alloc HB.out.size _), rfl, _, Whole.new _ _ _, rfl⟩

/-! ### Up -/
theorem NandIn.setPlan {w : World} {F : Nat → Prop} {p : Nat} {s s' : Nand} {pb : Nat} {pv pv' : Value} {vs : List Value} (h : NandIn w F p s pb pv vs) (u : Value)
    (he : (#[.int .i64 s.blocks, .int .i64 s.per, .slice (some ⟨pb, 0, none⟩) s.blocks s.blocks, .int .i64 s.ops, pv, .bool s.down] : Array Value).setIfInBounds 4 u =
      #[.int .i64 s'.blocks, .int .i64 s'.per, .slice (some ⟨pb, 0, none⟩) s'.blocks s'.blocks, .int .i64 s'.ops, pv', .bool s'.down]) (hb : s'.b = s.b)
    (hown : (w.setCell ⟨p, 4, none⟩ u).ownsRow 0 32 4 pv' s'.plan.length (misCells s'.plan)) (hF : ∀ g, pv'.ownBlock = some g → F g) (hok : s'.Ok) : NandIn (w.setCell ⟨p, 4, none⟩ u) F p s' pb pv' vs := by
  have hpb : pb ≠ p := whole_apart h.blk h.obj (by decide)
  have hk : Keep (fun k => k = p) w (w.setCell ⟨p, 4, none⟩ u) := Keep.set1 w p 4 u
  refine ⟨hok, ?_, ?_, ?_, ?_, h.sep, hown, h.fp, h.fb, h.fr, hF, fun g hg => by rw [size_set]; exact h.lt g hg⟩
  · have := h.obj.set 4 u
    rw [he] at this
    exact this
  · rw [hb]
    exact h.blk.keep hk hpb
  · rw [hb]
    exact h.len
  · intro j b v hj hv
    rw [hb] at hj
    refine own_keep (h.row j b v hj hv) hk (fun g hg => ?_)
    rintro rfl
    obtain ⟨cs, h1⟩ := own_type (h.row j b v hj hv) hg
    have h2 := h.obj
    unfold Whole at h2
    rw [h1] at h2
    injection h2 with h2
    injection h2 with _ h2
    exact absurd h2 (by decide)
theorem Nand.Ok.upOk {s : Nand} (h : s.Ok) : s.up.Ok := ⟨h.b0, h.b1, h.p0, h.p1, h.bl, h.pl, h.o0, fun m hm => by simp [Nand.up] at hm⟩
set_option maxHeartbeats 1000000 in
theorem Up_any (w : World) (F : Nat → Prop) (p : Nat) (s : Nand) (h : NandAt w F p s) :
    Calls Tryz.prog 21 #[.pointer (some ⟨p, 0, none⟩)] w fun e w' => e = .returned (.tuple #[]) ∧ MvAt w F p s.up w' := by
  obtain ⟨pb, pv, vs, h⟩ := h
  obtain ⟨c0, c1, c2, c3, c4, c5, hpl, hfz⟩ := h.hide
  have f5 := hfz 5
  have f4 := hfz 4
  have hn := hneq p
  have hu0 : { s with down := false }.Ok := ⟨h.ok.b0, h.ok.b1, h.ok.p0, h.ok.p1, h.ok.bl, h.ok.pl, h.ok.o0, h.ok.jk⟩
  have h1 := h.setObj (s' := { s with down := false }) 5 (.bool false) rfl rfl rfl hu0
  have h2 := h1.setPlan (s' := s.up) (pv' := .slice none 0 0) (.slice none 0 0) rfl rfl (World.ownsRow_nil _ _ _ _) (fun g hg => by simp [Value.ownBlock] at hg) h.ok.upOk
  have H2 := Lib.hid h2
  have HF := Lib.hid h.fp
  clear h h1 h2 hu0 c0 c1 c2 c3 hfz
  go_enter Tryz.func21, Tryz.ntmps21
  go_wp2
  go_end0
  exact ⟨rfl, F, ⟨pb, _, vs, H2.out⟩, (MvSet HF.out 5 _).trans (MvSet HF.out 4 _)⟩

/-! ### Geometry -/
theorem Whole.set2 {w : World} {g : Nat} {t : TypeId} {a0 a1 : Value} (h : Whole w g t #[a0, a1]) (b0 b1 : Value) :
    Whole ((w.setCell ⟨g, 0, none⟩ b0).setCell ⟨g, 1, none⟩ b1) g t #[b0, b1] := by
  simpa using (h.set 0 b0).set 1 b1
set_option maxHeartbeats 1000000 in
theorem Geometry_any (w : World) (F : Nat → Prop) (p : Nat) (s : Nand) (h : NandAt w F p s) :
    Calls Tryz.prog 38 #[.pointer (some ⟨p, 0, none⟩)] w fun e w' => e = .returned (.agg #[.int .i64 s.blocks, .int .i64 s.per]) ∧ Below w.heap.size w w' := by
  obtain ⟨pb, pv, vs, h⟩ := h
  obtain ⟨c0, c1, c2, c3, c4, c5, hpl, hfz⟩ := h.hide
  have hn := heql p
  clear h c2 c3 c4 c5 hfz
  go_enter Tryz.func38, Tryz.ntmps38
  go_wp2
  refine bodyPost_ret (v := .agg #[.int .i64 s.blocks, .int .i64 s.per]) (by simp [results, Tryz.results38, go_sem]) rfl ⟨rfl, ?_⟩
  exact (Below.refl _ _).alloc (Nat.le_refl _) _
theorem Geometry_nil (w : World) :
    Calls Tryz.prog 38 #[.pointer none] w fun e w' => e = .returned (.agg #[.int .i64 0, .int .i64 0]) ∧ Below w.heap.size w w' := by
  go_enter Tryz.func38, Tryz.ntmps38
  go_wp2
  refine bodyPost_ret (v := .agg #[.int .i64 0, .int .i64 0]) (by simp [results, Tryz.results38, go_sem]) rfl ⟨rfl, ?_⟩
  exact (Below.refl _ _).alloc (Nat.le_refl _) _
end Go.Proofs.YtfacgeappbgldaaGreatDoor.nd
