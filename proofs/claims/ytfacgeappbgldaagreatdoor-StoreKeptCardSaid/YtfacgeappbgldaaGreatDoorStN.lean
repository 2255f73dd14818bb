/- StoreBad, plain: five appends while blocks go bad. -/
import Derived.Test.YtfacgeappbgldaaGreatDoorStK
namespace Go.Proofs.YtfacgeappbgldaaGreatDoor.st
open Go.RowKit Go.Proofs.YtfacgeappbgldaaGreatDoor.er Go.Proofs.YtfacgeappbgldaaGreatDoor.nd Go.Proofs.YtfacgeappbgldaaGreatDoor.we Go.Proofs.YtfacgeappbgldaaGreatDoor.ge Go.Proofs.YtfacgeappbgldaaGreatDoor.pg
set_option linter.unusedVariables false

def m1 (k : Int) : Mis := ⟨1, 2, k, ⟨#[]⟩⟩
def m3 (k : Int) : Mis := ⟨3, 2, k, ⟨#[]⟩⟩
def m6 : Mis := ⟨6, 2, 0, ⟨#[]⟩⟩
def pb (k : Int) : List Mis := [m1 k, m3 k, m6]
def z0 (k : Int) : Sto := { s0 with n := fs.planned (pb k) }
def e14 (n : Nat) : List Blk := List.replicate n (bk [] false)
def z1 (k : Int) (t : ByteArray) : Sto := ⟨⟨16, 8, bk [spoilt (m1 k) t] true :: bk [t] false :: e14 14, 2, pb k, false⟩, 3 :: 1 :: List.replicate 14 0, List.replicate 16 0, 1, 0⟩
theorem bad1 (k : Int) (t : ByteArray) : putB 3 (z0 k) t = some (z1 k t, 8, 0, true) := by kernel_rfl
def z2 (k : Int) (t u : ByteArray) : Sto := ⟨⟨16, 8, bk [spoilt (m1 k) t] true :: bk [t, spoilt (m3 k) u] true :: bk [u] false :: e14 13, 4, pb k, false⟩, 3 :: 3 :: 1 :: List.replicate 13 0, List.replicate 16 0, 2, 1⟩
theorem bad2 (k : Int) (t u : ByteArray) : putB 3 { z1 k t with seq := 1 } u = some (z2 k t u, 16, 0, true) := by kernel_rfl
def z3 (k : Int) (t u v : ByteArray) : Sto := ⟨⟨16, 8, bk [spoilt (m1 k) t] true :: bk [t, spoilt (m3 k) u] true :: bk [u, v] false :: e14 13, 5, pb k, false⟩, 3 :: 3 :: 1 :: List.replicate 13 0, List.replicate 16 0, 2, 2⟩
theorem bad3 (k : Int) (t u v : ByteArray) : putB 3 { z2 k t u with seq := 2 } v = some (z3 k t u v, 17, 0, true) := by kernel_rfl
def z4 (k : Int) (t u v x : ByteArray) : Sto := ⟨⟨16, 8, bk [spoilt (m1 k) t] true :: bk [t, spoilt (m3 k) u] true :: bk [u, v, spoilt m6 x] true :: e14 13, 6, pb k, false⟩, 3 :: 3 :: 3 :: List.replicate 13 0, List.replicate 16 0, -1, 3⟩
theorem bad4 (k : Int) (t u v x : ByteArray) : putB 3 { z3 k t u v with seq := 3 } x = some (z4 k t u v x, 0, 61, false) := by kernel_rfl
theorem bad5 (k : Int) (t u v x y : ByteArray) : putB 3 { z4 k t u v x with seq := 4 } y = some ({ z4 k t u v x with seq := 4 }, 0, 61, false) := by kernel_rfl
/-! ### the five appends of a body -/
section
variable (k : Int) (b : ByteArray)
def u1 : ByteArray := writeF { pg 1 b with seq := 0 }
def u2 : ByteArray := writeF { pg 2 b with seq := 1 }
def u3 : ByteArray := writeF { pg 3 b with seq := 2 }
def u4 : ByteArray := writeF { pg 4 b with seq := 3 }
def u5 : ByteArray := writeF { pg 5 b with seq := 4 }
def c1 : Sto := { z1 k (u1 b) with seq := 1 }
def c2 : Sto := { z2 k (u1 b) (u2 b) with seq := 2 }
def c3 : Sto := { z3 k (u1 b) (u2 b) (u3 b) with seq := 3 }
def c4 : Sto := { z4 k (u1 b) (u2 b) (u3 b) (u4 b) with seq := 4 }
theorem bapp1 (h : b.size ≤ 100) : appF 3 (z0 k) (pg 1 b) = some (c1 k b, 8, 0) := by
  rw [appF_B 3 (z0 k) (pg 1 b) _ (may_pg 1 b (by decide) (by decide) h) (bad1 k (u1 b))]
  rfl
theorem bapp2 (h : b.size ≤ 100) : appF 3 (c1 k b) (pg 2 b) = some (c2 k b, 16, 0) := by
  rw [appF_B 3 (c1 k b) (pg 2 b) _ (may_pg 2 b (by decide) (by decide) h) (bad2 k (u1 b) (u2 b))]
  rfl
theorem bapp3 (h : b.size ≤ 100) : appF 3 (c2 k b) (pg 3 b) = some (c3 k b, 17, 0) := by
  rw [appF_B 3 (c2 k b) (pg 3 b) _ (may_pg 3 b (by decide) (by decide) h) (bad3 k (u1 b) (u2 b) (u3 b))]
  rfl
theorem bapp4 (h : b.size ≤ 100) : appF 3 (c3 k b) (pg 4 b) = some (c4 k b, 0, 61) := by
  rw [appF_B 3 (c3 k b) (pg 4 b) _ (may_pg 4 b (by decide) (by decide) h) (bad4 k (u1 b) (u2 b) (u3 b) (u4 b))]
  rfl
theorem bapp5 (h : b.size ≤ 100) : appF 3 (c4 k b) (pg 5 b) = some (c4 k b, 0, 61) := by
  rw [appF_B 3 (c4 k b) (pg 5 b) _ (may_pg 5 b (by decide) (by decide) h) (bad5 k (u1 b) (u2 b) (u3 b) (u4 b) (u5 b))]
  rfl
theorem badR : countL (tabOf (c3 k b)) 3 = 2 := by kernel_rfl
theorem badR4 : countL (tabOf (c4 k b)) 3 = 3 := by kernel_rfl
theorem badW : wornS (c3 k b) = false := by kernel_rfl
theorem badW4 : wornS (c4 k b) = true := by kernel_rfl
theorem badA : (c4 k b).n.read 8 = (0, u1 b) := by kernel_rfl
theorem badB : (c4 k b).n.read 16 = (0, u2 b) := by kernel_rfl
theorem badC : (c4 k b).n.read 17 = (0, u3 b) := by kernel_rfl
end
theorem planned_z0 (k : Int) : ({ s0 with n := s0.n.planned [⟨1, 2, k, ⟨#[]⟩⟩, ⟨3, 2, k, ⟨#[]⟩⟩, ⟨6, 2, 0, ⟨#[]⟩⟩] } : Sto) = z0 k := by kernel_rfl
/-! ### what a law holds beside the store -/
theorem ErrW.moved {w w' : World} {q : Nat} {sv vv : Value} {N N' : Nat → Prop} {l : List (ByteArray × Int)} {c : Int} {v : Value} (h : ErrW w (foot q sv vv N) l c v) (hm : Moved w q sv vv N w' N') : ErrW w' (foot q sv vv N') l c v := by
  rcases h with h | ⟨hc, bs, he, hb⟩
  · exact .inl h
  · refine .inr ⟨hc, bs, he.keep hm.keep hb, fun b hbs hf => ?_⟩
    rcases hf with hf | hf | hf | hf
    · exact hb b hbs (.inl hf)
    · exact hb b hbs (.inr (.inl hf))
    · exact hb b hbs (.inr (.inr (.inl hf)))
    · rcases hm.sub b hf with h2 | h2
      · exact hb b hbs (.inr (.inr (.inr h2)))
      · have := he.lt b hbs; omega
def AppEP (w0 w : World) (q p : Nat) (sv vv : Value) (N : Nat → Prop) (s' : Sto) (a c key : Int) (e : Ending) (w' : World) : Prop :=
  ∃ v N', e = .returned (.tuple #[.int .i64 a, v]) ∧ Law w0 w' q p sv vv N' s' ∧ Moved w q sv vv N w' N' ∧ ErrW w' (foot q sv vv N') [(appName, key)] c v
theorem AppE {w0 w : World} {q p : Nat} {sv vv : Value} {N : Nat → Prop} {s s' : Sto} (h : Law w0 w q p sv vv N s) (key : Int) (b : ByteArray) (a c : Int) (hr : appF 3 s (pg key b) = some (s', a, c)) (ho : s.n.ops ≤ 1000000) (hq : s.seq ≤ 281474976710655) :
    Calls Tryz.prog 12 #[.pointer (some ⟨q, 0, none⟩), .agg #[.int .i64 1, .int .i64 1, .int .i64 key, .int .i64 0, .string b]] w (AppEP w0 w q p sv vv N s' a c key) := by
  refine (Append_any w q p sv vv N s (pg key b) 3 (s', a, c) h.st h.laid h.zero hr (by omega) hq).mono ?_
  rintro e w' ⟨v, N', rfl, hs, hm, he⟩
  exact ⟨v, N', rfl, h.moved hs hm, hm, he⟩
theorem ReadP {w0 w : World} {q p : Nat} {sv vv : Value} {N : Nat → Prop} {s : Sto} (h : Law w0 w q p sv vv N s) (a k sp y sq : Int) (b : ByteArray) (hr : s.n.read a = (0, writeF ⟨k, sp, y, sq, b⟩)) (hm : mayB ⟨k, sp, y, sq, b⟩ = true) :
    Calls Tryz.prog 16 #[.pointer (some ⟨q, 0, none⟩), .int .i64 a] w fun e w' => e = .returned (.tuple #[.agg #[.int .i64 k, .int .i64 sp, .int .i64 y, .int .i64 sq, .string b], .nilIface]) ∧ Below w.heap.size w w' := by
  have hb := (mayB_yes hm).2.2.2.2.2.2.2.2
  refine ReadL h a k sp y sq b ?_ ?_
  · unfold readS
    rw [hr, if_pos rfl]
    exact read_write _ hm
  · rw [hr, writeF_size]
    simp only at hb ⊢
    omega
theorem WornL {w0 w : World} {q p : Nat} {sv vv : Value} {N : Nat → Prop} {s : Sto} (h : Law w0 w q p sv vv N s) (k : Bool) (hk : wornS s = k) :
    Calls Tryz.prog 15 #[.pointer (some ⟨q, 0, none⟩)] w fun e w' => e = .returned (.bool k) ∧ Below w.heap.size w w' := hk ▸ wornS_any w q p sv vv N s h.st
end Go.Proofs.YtfacgeappbgldaaGreatDoor.st
