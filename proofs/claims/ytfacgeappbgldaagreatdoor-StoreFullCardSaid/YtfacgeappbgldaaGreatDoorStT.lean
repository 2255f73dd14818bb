/- StoreFull, plain: a block that is erased makes room; what a law says of it. -/
import Derived.Test.YtfacgeappbgldaaGreatDoorStQ
import Derived.Test.YtfacgeappbgldaaGreatDoorStR
namespace Go.Proofs.YtfacgeappbgldaaGreatDoor.st
open Go.RowKit Go.Proofs.YtfacgeappbgldaaGreatDoor.er Go.Proofs.YtfacgeappbgldaaGreatDoor.nd Go.Proofs.YtfacgeappbgldaaGreatDoor.we Go.Proofs.YtfacgeappbgldaaGreatDoor.ge Go.Proofs.YtfacgeappbgldaaGreatDoor.pg
attribute [local go_sem ↓] Go.wp_at_zero Go.wp_at_succ
set_option linter.unusedVariables false

section
variable (xs : Nat → ByteArray)
def zs : List Int := List.replicate 16 0
def ls (b : Nat) : Sto := lastS xs (zs.set b 1)
def erS (b : Nat) : Sto := ⟨{ fullN xs 128 with b := (fullN xs 128).b.set b ⟨[], 1, false⟩, ops := 129 }, (List.replicate 16 2).set b 0, zs, -1, 128⟩
def enS (b : Nat) (t : ByteArray) : Sto := ⟨{ fullN xs 128 with b := (fullN xs 128).b.set b ⟨[t], 1, false⟩, ops := 130 }, (List.replicate 16 2).set b 1, zs, b, 128⟩
theorem need_b (b : Nat) (hb : b < 16) : (lastS xs zs).need [8 * (b : Int) + 3] = ls xs b :=
  of_maps (f := fun b => (lastS xs zs).need [8 * (b : Int) + 3]) (g := fun b => ls xs b) (n := 16) (by kernel_rfl) b hb
theorem er_no (b : Nat) (hb : b < 16) : (ls xs b).eraseS b = (ls xs b, 1) :=
  of_maps (f := fun b => (ls xs b).eraseS b) (g := fun b => (ls xs b, 1)) (n := 16) (by kernel_rfl) b hb
theorem need_0 (b : Nat) (hb : b < 16) : (ls xs b).need [] = lastS xs zs :=
  of_maps (f := fun b => (ls xs b).need []) (g := fun b => lastS xs zs) (n := 16) (by kernel_rfl) b hb
theorem er_yes (b : Nat) (hb : b < 16) : (lastS xs zs).eraseS b = (erS xs b, 0) :=
  of_maps (f := fun b => (lastS xs zs).eraseS b) (g := fun b => (erS xs b, 0)) (n := 16) (by kernel_rfl) b hb
theorem er_again (b : Nat) (hb : b < 16) : (erS xs b).eraseS b = (erS xs b, 1) :=
  of_maps (f := fun b => (erS xs b).eraseS b) (g := fun b => (erS xs b, 1)) (n := 16) (by kernel_rfl) b hb
theorem er_free (b : Nat) (hb : b < 16) : countL (tabOf (erS xs b)) 0 = 1 :=
  of_maps (f := fun b => countL (tabOf (erS xs b)) 0) (g := fun b => 1) (n := 16) (by kernel_rfl) b hb
theorem er_worn (b : Nat) (hb : b < 16) : (tabOf (erS xs b))[b]? = some ⟨0, 0, 1⟩ :=
  of_maps (f := fun b => (tabOf (erS xs b))[b]?) (g := fun b => some ⟨0, 0, 1⟩) (n := 16) (by kernel_rfl) b hb
theorem en_put (t : ByteArray) (b : Nat) (hb : b < 16) : putB 3 (erS xs b) t = some (enS xs b t, 8 * (b : Int), 0, true) :=
  of_maps (f := fun b => putB 3 (erS xs b) t) (g := fun b => some (enS xs b t, 8 * (b : Int), 0, true)) (n := 16) (by kernel_rfl) b hb
theorem en_read (t : ByteArray) (b : Nat) (hb : b < 16) : (enS xs b t).n.read (8 * (b : Int)) = (0, t) :=
  of_maps (f := fun b => (enS xs b t).n.read (8 * (b : Int))) (g := fun b => (0, t)) (n := 16) (by kernel_rfl) b hb
theorem last_free (l : List Int) : countL (tabOf (lastS xs zs)) 0 = 0 := by kernel_rfl
end
/-! ### what a law says -/
theorem seq_anyS (w : World) (q p : Nat) (sv vv : Value) (N : Nat → Prop) (s : Sto) (h : StoIn w q p sv vv N s) :
    Calls Tryz.prog 19 #[.pointer (some ⟨q, 0, none⟩)] w fun e w' => e = .returned (.int .i64 s.seq) ∧ w = w' := by
  have c11 := h.cells.c11
  have hq := seql q
  clear h
  go_enter Tryz.func19, Tryz.ntmps19
  go_wp2_with fail
  go_ret
  exact ⟨rfl, rfl⟩
theorem FreeL {w0 w : World} {q p : Nat} {sv vv : Value} {N : Nat → Prop} {s : Sto} (h : Law w0 w q p sv vv N s) (k : Int) (hk : countL (tabOf s) 0 = k) :
    Calls Tryz.prog 25 #[.pointer (some ⟨q, 0, none⟩)] w fun e w' => e = .returned (.int .i64 k) ∧ Below w.heap.size w w' := hk ▸ free_any w q p sv vv N s h.st
theorem NeedL {w0 w : World} {q p : Nat} {sv vv : Value} {N : Nat → Prop} {s : Sto} (h : Law w0 w q p sv vv N s) (A : Option Addr) (n c : Nat) (l : List Int) (s' : Sto) (hn : l.length = n) (hn1 : n ≤ 1000000) (ha : IntsArg w (foot q sv vv N) A l) (hs : s.need l = s') :
    Calls Tryz.prog 26 #[.pointer (some ⟨q, 0, none⟩), .slice A n c] w fun e w' => e = .returned (.tuple #[]) ∧ Law w0 w' q p sv vv N s' ∧ Moved w q sv vv N w' N := by
  refine (need_any w q p sv vv N s A n c l hn hn1 h.st ha).mono ?_
  rintro e w' ⟨rfl, h1, h2⟩
  rw [hs] at h1
  exact ⟨rfl, h.moved h1 h2, h2⟩
def ErEP (w0 w : World) (q p : Nat) (sv vv : Value) (N : Nat → Prop) (s' : Sto) (c b : Int) (e : Ending) (w' : World) : Prop :=
  ∃ v N', e = .returned v ∧ Law w0 w' q p sv vv N' s' ∧ Moved w q sv vv N w' N' ∧ ErrW w' (foot q sv vv N') [(eraseName, b)] c v
theorem EraseL {w0 w : World} {q p : Nat} {sv vv : Value} {N : Nat → Prop} {s s' : Sto} (h : Law w0 w q p sv vv N s) (b c : Int) (hr : s.eraseS b = (s', c)) (ho : s.n.ops ≤ 1000000) :
    Calls Tryz.prog 27 #[.pointer (some ⟨q, 0, none⟩), .int .i64 b] w (ErEP w0 w q p sv vv N s' c b) := by
  refine (Erase_anyS w q p sv vv N s b h.st h.laid h.zero (by omega)).mono ?_
  rintro e w' ⟨v, N', rfl, hs, hm, he⟩
  rw [hr] at hs he
  exact ⟨v, N', rfl, h.moved hs hm, hm, he⟩
end Go.Proofs.YtfacgeappbgldaaGreatDoor.st
