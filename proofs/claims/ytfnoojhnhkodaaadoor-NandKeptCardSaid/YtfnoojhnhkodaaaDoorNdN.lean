/- nand's methods as a law sees them; the page's example of layer 4; light. (By wip/tools/gen_ndn.py.) -/
import Derived.Test.YtfnoojhnhkodaaaDoorNdM
namespace Go.Proofs.YtfnoojhnhkodaaaDoor.nd
open Go.RowKit Go.Proofs.YtfnoojhnhkodaaaDoor.er
attribute [local go_sem ↓] Go.wp_at_zero Go.wp_at_succ
set_option linter.unusedVariables false

/-- A law holds an array of its own. -/
structure St (w0 w : World) (F : Nat → Prop) (p : Nat) (s : Nand) : Prop where
  at_ : NandAt w F p s
  bel : Below w0.heap.size w0 w
  base : ∀ k, F k → w0.heap.size ≤ k
  laid : LaidT w
  pos : 0 < w0.heap.size
theorem St.mv {w0 w w' : World} {F F' : Nat → Prop} {p : Nat} {s s' : Nand} (h : St w0 w F p s) (hn : NandAt w' F' p s') (hm : Mv F w F' w') : St w0 w' F' p s' := by
  obtain ⟨b1, b2⟩ := hm.toBelow h.bel.size h.base
  exact ⟨hn, h.bel.trans b1, b2, h.laid.below b1 h.pos, h.pos⟩
theorem St.below {w0 w w' : World} {F : Nat → Prop} {p : Nat} {s : Nand} (h : St w0 w F p s) (hb : Below w.heap.size w w') : St w0 w' F p s := h.mv (h.at_.below hb) (Mv.below hb)
theorem zero_err {w : World} {F : Nat → Prop} {l : List (ByteArray × Int)} {v : Value} (h : ErrW w F l 0 v) : v = .nilIface := by
  rcases h with ⟨_, h⟩ | ⟨h, _⟩
  · exact h
  · exact absurd rfl h
theorem one_err {w : World} {F : Nat → Prop} {x : ByteArray × Int} {c : Int} {v : Value} (h : ErrW w F [x] c v) (hc : c ≠ 0) : ∃ b, v = .iface 66 (.pointer (some ⟨b, 0, none⟩)) := by
  rcases h with ⟨h, _⟩ | ⟨_, bs, he, _⟩
  · exact absurd h hc
  · cases bs with
    | nil => exact he.elim
    | cons b bs => exact ⟨b, he.1⟩
theorem Code_w {w : World} {F : Nat → Prop} {l : List (ByteArray × Int)} {c : Int} {v : Value} (h : ErrW w F l c v) (hg : LaidT w) :
    Calls Tryd.prog 19 #[v] w fun e w' => e = .returned (.int .i64 c) ∧ Below w.heap.size w w' := by
  rcases h with ⟨rfl, rfl⟩ | ⟨_, bs, he, _⟩
  · refine (code_nil w).mono ?_
    rintro e w' ⟨rfl, rfl⟩
    exact ⟨rfl, Below.refl _ _⟩
  · exact code_at bs l c v w he hg

theorem Prog0 {w0 w : World} {F : Nat → Prop} {p : Nat} {s : Nand} (h : St w0 w F p s) (q : Int) (t : ByteArray) (ho : s.ops ≤ 1000000000000000000) (hts : t.size ≤ 9223372036854775807) (hc : (s.program q t).1 = 0) :
    Calls Tryd.prog 13 #[.pointer (some ⟨p, 0, none⟩), .int .i64 q, .string t] w fun e w' => e = .returned .nilIface ∧ ∃ F', St w0 w' F' p (s.program q t).2 ∧ Mv F w F' w' := by
  refine (Program_any w F p s q t h.at_ ho hts).mono ?_
  rintro e w' ⟨v, F', rfl, hn, hm, he⟩
  rw [hc] at he
  rw [zero_err he]
  exact ⟨rfl, F', h.mv hn hm, hm⟩
theorem ProgE {w0 w : World} {F : Nat → Prop} {p : Nat} {s : Nand} (h : St w0 w F p s) (q : Int) (t : ByteArray) (ho : s.ops ≤ 1000000000000000000) (hts : t.size ≤ 9223372036854775807) (c : Int) (hc : (s.program q t).1 = c) (hc0 : c ≠ 0) :
    Calls Tryd.prog 13 #[.pointer (some ⟨p, 0, none⟩), .int .i64 q, .string t] w fun e w' => ∃ b F', e = .returned (.iface 66 (.pointer (some ⟨b, 0, none⟩))) ∧ St w0 w' F' p (s.program q t).2 ∧ Mv F w F' w' ∧ ErrW w' F' [(⟨#[112, 114, 111, 103, 114, 97, 109]⟩, q)] c (.iface 66 (.pointer (some ⟨b, 0, none⟩))) := by
  refine (Program_any w F p s q t h.at_ ho hts).mono ?_
  rintro e w' ⟨v, F', rfl, hn, hm, he⟩
  rw [hc] at he
  obtain ⟨b, rfl⟩ := one_err he hc0
  exact ⟨b, F', rfl, h.mv hn hm, hm, he⟩

theorem Eras0 {w0 w : World} {F : Nat → Prop} {p : Nat} {s : Nand} (h : St w0 w F p s) (q : Int) (ho : s.ops ≤ 1000000000000000000) (hc : (s.erase q).1 = 0) :
    Calls Tryd.prog 14 #[.pointer (some ⟨p, 0, none⟩), .int .i64 q] w fun e w' => e = .returned .nilIface ∧ ∃ F', St w0 w' F' p (s.erase q).2 ∧ Mv F w F' w' := by
  refine (Erase_any w F p s q h.at_ ho).mono ?_
  rintro e w' ⟨v, F', rfl, hn, hm, he⟩
  rw [hc] at he
  rw [zero_err he]
  exact ⟨rfl, F', h.mv hn hm, hm⟩
theorem ErasE {w0 w : World} {F : Nat → Prop} {p : Nat} {s : Nand} (h : St w0 w F p s) (q : Int) (ho : s.ops ≤ 1000000000000000000) (c : Int) (hc : (s.erase q).1 = c) (hc0 : c ≠ 0) :
    Calls Tryd.prog 14 #[.pointer (some ⟨p, 0, none⟩), .int .i64 q] w fun e w' => ∃ b F', e = .returned (.iface 66 (.pointer (some ⟨b, 0, none⟩))) ∧ St w0 w' F' p (s.erase q).2 ∧ Mv F w F' w' ∧ ErrW w' F' [(⟨#[101, 114, 97, 115, 101]⟩, q)] c (.iface 66 (.pointer (some ⟨b, 0, none⟩))) := by
  refine (Erase_any w F p s q h.at_ ho).mono ?_
  rintro e w' ⟨v, F', rfl, hn, hm, he⟩
  rw [hc] at he
  obtain ⟨b, rfl⟩ := one_err he hc0
  exact ⟨b, F', rfl, h.mv hn hm, hm, he⟩

theorem Read0 {w0 w : World} {F : Nat → Prop} {p : Nat} {s : Nand} (h : St w0 w F p s) (q : Int) (t : ByteArray) (hc : s.read q = (0, t)) :
    Calls Tryd.prog 18 #[.pointer (some ⟨p, 0, none⟩), .int .i64 q] w fun e w' => e = .returned (.tuple #[.string t, .nilIface]) ∧ Below w.heap.size w w' := by
  refine (Read_any w F p s q h.at_).mono ?_
  rintro e w' ⟨v, rfl, hb, he⟩
  rw [hc] at he ⊢
  rw [zero_err he]
  exact ⟨rfl, hb⟩
theorem ReadE {w0 w : World} {F : Nat → Prop} {p : Nat} {s : Nand} (h : St w0 w F p s) (q c : Int) (t : ByteArray) (hc : s.read q = (c, t)) (hc0 : c ≠ 0) :
    Calls Tryd.prog 18 #[.pointer (some ⟨p, 0, none⟩), .int .i64 q] w fun e w' => ∃ b, e = .returned (.tuple #[.string t, .iface 66 (.pointer (some ⟨b, 0, none⟩))]) ∧ Below w.heap.size w w' ∧ ErrW w' F [(⟨#[114, 101, 97, 100]⟩, q)] c (.iface 66 (.pointer (some ⟨b, 0, none⟩))) := by
  refine (Read_any w F p s q h.at_).mono ?_
  rintro e w' ⟨v, rfl, hb, he⟩
  rw [hc] at he ⊢
  obtain ⟨b, rfl⟩ := one_err he hc0
  exact ⟨b, rfl, hb, he⟩
theorem UpS {w0 w : World} {F : Nat → Prop} {p : Nat} {s : Nand} (h : St w0 w F p s) :
    Calls Tryd.prog 17 #[.pointer (some ⟨p, 0, none⟩)] w fun e w' => e = .returned (.tuple #[]) ∧ ∃ F', St w0 w' F' p s.up ∧ Mv F w F' w' := by
  refine (Up_any w F p s h.at_).mono ?_
  rintro e w' ⟨rfl, F', hn, hm⟩
  exact ⟨rfl, F', h.mv hn hm, hm⟩
theorem PlanS {w0 w : World} {F : Nat → Prop} {p : Nat} {s : Nand} (h : St w0 w F p s) (ho : s.ops ≤ 1000000000000000000) (b off cap n : Nat) (l : List Mis) (hl : l.length = n) (hn : n ≤ 1000000) (ha : MisArg w b off l) (hF : ¬ F b) (hj : ∀ m ∈ l, m.junk.size ≤ 1000000) :
    Calls Tryd.prog 16 #[.pointer (some ⟨p, 0, none⟩), .slice (some ⟨b, off, none⟩) n cap] w fun e w' => e = .returned (.tuple #[]) ∧ ∃ F', St w0 w' F' p (s.planned l) ∧ Mv F w F' w' := by
  refine (Plan_some w F p s h.at_ ho b off cap n l hl hn ha hF hj).mono ?_
  rintro e w' ⟨rfl, F', hn, hm⟩
  exact ⟨rfl, F', h.mv hn hm, hm⟩
/-- A list of mishaps that the law itself has just laid. -/
def misFlat : List Mis → List Value := misCells
theorem misArg_new (w : World) (l : List Mis) : MisArg (w.alloc (.cells (misCells l).toArray 44)) w.heap.size 0 l := fun j m hm => by
  obtain ⟨e0, e1, e2, e3⟩ := misCells_at l j m hm
  have hw := Whole.new w 44 (misCells l).toArray
  simp only [Nat.zero_add]
  exact ⟨(hw.cell _).trans (by simpa using e0), (hw.cell _).trans (by simpa using e1), (hw.cell _).trans (by simpa using e2), (hw.cell _).trans (by simpa using e3)⟩
def NewS (w0 w : World) (s : Nand) (e : Ending) (w' : World) : Prop := ∃ F p, e = .returned (.tuple #[.pointer (some ⟨p, 0, none⟩), .nilIface]) ∧ St w0 w' F p s ∧ Below w.heap.size w w' ∧ ∀ k, F k → w.heap.size ≤ k
theorem New16 (w0 w : World) (hb0 : Below w0.heap.size w0 w) (hg : LaidT w) (hp : 0 < w0.heap.size) : Calls Tryd.prog 8 #[.agg #[.int .i64 16, .int .i64 8]] w (NewS w0 w (freshNand 16 8)) := by
  refine (New_ok 16 8 (by omega) (by omega) (by omega) (by omega) w).mono ?_
  rintro e w' ⟨F, p, rfl, hn, hb, hF⟩
  exact ⟨F, p, rfl, ⟨hn, hb0.trans (hb.mono hb0.size), fun k hk => Nat.le_trans hb0.size (hF k hk), hg.below hb hg.lt, hp⟩, hb, hF⟩
theorem St.box {w0 w w' : World} {F : Nat → Prop} {p x : Nat} {s : Nand} (h : St w0 w F p s) (hk : Keep (fun k => k = x) w w') (hF : ¬ F x) (hx : w0.heap.size ≤ x) : St w0 w' F p s :=
  ⟨h.at_.keep hk (fun k hf e => hF (e ▸ hf)), h.bel.trans (hk.toBelow h.bel.size (fun k e => by omega)), h.base, h.laid.below (hk.toBelow h.bel.size (fun k e => by omega)) h.pos, h.pos⟩
theorem plain_any (w : World) : Calls Tryd.prog 9 #[] w fun e w' => e = .returned (.agg #[.int .i64 16, .int .i64 8]) ∧ Below w.heap.size w w' := by
  go_enter Tryd.func9, Tryd.ntmps9
  go_wp2
  refine bodyPost_ret (v := .agg #[.int .i64 16, .int .i64 8]) (by simp [results, Tryd.results9, go_sem]) rfl ⟨rfl, ?_⟩
  exact (Below.refl _ _).alloc (Nat.le_refl _) _

def fs : Nand := freshNand 16 8
def bx : ByteArray := ⟨#[120]⟩
def babc : ByteArray := ⟨#[97, 98, 99]⟩
def mz : Mis := ⟨1, 1, 1, ⟨#[122]⟩⟩
set_option maxHeartbeats 2000000 in
set_option maxRecDepth 100000 in
theorem awake_yes (w : World) (hg : LaidT w) : Calls Tryd.prog 10 #[] w fun e w' => e = .returned (.bool true) ∧ Below w.heap.size w w' := by
  have HG := Lib.hid hg
  clear hg
  go_enter Tryd.func10, Tryd.ntmps10
  go_wp2_with fail
  refine (plain_any _).mono ?_
  rintro e w1 ⟨rfl, hb1⟩
  have HB1 := Lib.hid hb1
  have HG1 := Lib.hid (HG.out.below hb1 HG.out.lt)
  clear hb1
  go_wp2_with fail
  refine (New16 w _ HB1.out HG1.out HG.out.lt).mono ?_
  rintro e w2 ⟨F2, p, rfl, S2, hb2, _⟩
  have HS2 := Lib.hid S2
  have HB2 := Lib.hid hb2
  have hpn := heql p
  clear S2 hb2
  go_wp2_with fail
  refine (ProgE HS2.out 1 ⟨#[120]⟩ (by decide) (by decide) 40 (by rfl) (by decide)).mono ?_
  rintro e w3 ⟨b3, F3, rfl, S3, M3, E3⟩
  have HS3 : Hid (St w w3 F3 p fs) := S3
  have HM3 := Lib.hid M3
  have HE3 := Lib.hid E3
  clear S3 M3 E3
  go_wp2_with fail
  refine (Prog0 HS3.out 0 ⟨#[120]⟩ (by decide) (by decide) (by rfl)).mono ?_
  rintro e w4 ⟨rfl, F4, S4, M4⟩
  have HS4 : Hid (St w w4 F4 p (fs.program 0 ⟨#[120]⟩).2) := S4
  have HM4 := Lib.hid M4
  have HE4 := Lib.hid (HE3.out.mv M4)
  clear S4 M4
  have HB4 : Hid (Below w4.heap.size w4 (w4.alloc (.cells (misCells [mz]).toArray 44))) := (Below.refl _ _).alloc (Nat.le_refl _) _
  have HS5 := Lib.hid (HS4.out.below HB4.out)
  have HE5 := Lib.hid (HE4.out.below HB4.out)
  have HN5 : Hid (¬ F4 w4.heap.size) := fun h => by obtain ⟨_, _, _, hi⟩ := HS4.out.at_; exact absurd (hi.lt _ h) (Nat.lt_irrefl _)
  go_wp2_with fail
  refine (PlanS (s := (fs.program 0 ⟨#[120]⟩).2) HS5.out (by decide) w4.heap.size 0 1 1 [mz] rfl (by decide) (misArg_new w4 [mz]) HN5.out (by decide)).mono ?_
  rintro e w6 ⟨rfl, F6, S6, M6⟩
  have HS6 := Lib.hid S6
  have HE6 := Lib.hid (HE5.out.mv M6)
  clear S6 M6
  go_wp2_with fail
  refine (ProgE HS6.out 1 ⟨#[97, 98, 99]⟩ (by decide) (by decide) 9 (by rfl) (by decide)).mono ?_
  rintro e w7 ⟨b7, F7, rfl, S7, M7, E7⟩
  have HS7 := Lib.hid S7
  have HE7 := Lib.hid (HE6.out.mv M7)
  have HC7 := Lib.hid E7
  clear S7 M7 E7
  go_wp2_with fail
  refine (Down_any _ _ _ _ HS7.out.at_).mono ?_
  rw [show (((fs.program 0 ⟨#[120]⟩).2.planned [mz]).program 1 ⟨#[97, 98, 99]⟩).2.down = true from rfl]
  rintro e w' ⟨rfl, rfl⟩
  go_wp2_with fail
  refine (UpS HS7.out).mono ?_
  rintro e w8 ⟨rfl, F8, S8, M8⟩
  have HS8 := Lib.hid S8
  have HE8 := Lib.hid (HE7.out.mv M8)
  have HC8 := Lib.hid (HC7.out.mv M8)
  clear S8 M8
  go_wp2_with fail
  refine (Read0 HS8.out 1 ⟨#[97, 122]⟩ (by rfl)).mono ?_
  rintro e w9 ⟨rfl, hb9⟩
  have HS9 := Lib.hid (HS8.out.below hb9)
  have HE9 := Lib.hid (HE8.out.below hb9)
  have HC9 := Lib.hid (HC8.out.below hb9)
  clear hb9
  go_wp2_with fail
  refine (Code_w HE9.out HS9.out.laid).mono ?_
  rintro e wa ⟨rfl, hba⟩
  have HSa := Lib.hid (HS9.out.below hba)
  have HCa := Lib.hid (HC9.out.below hba)
  clear hba
  go_wp2_with fail
  refine (Code_w HCa.out HSa.out.laid).mono ?_
  rintro e wb ⟨rfl, hbb⟩
  have HSb := Lib.hid (HSa.out.below hbb)
  clear hbb
  go_wp2_with fail
  go_ret
  exact ⟨rfl, HSb.out.bel⟩
end Go.Proofs.YtfnoojhnhkodaaaDoor.nd
