/- A part of the proof. -/
import Derived.Test.YtneammhkgmkkfaaGreatDoorQTnB
namespace Go.Proofs.YtneammhkgmkkfaaGreatDoor.tr
open Go.RowKit Go.Proofs.YtneammhkgmkkfaaGreatDoor.er
set_option linter.unusedVariables false
set_option linter.unusedSimpArgs false
set_option maxHeartbeats 4000000 in
set_option maxRecDepth 100000 in
theorem bput_full (w : World) (G : Nat → Prop) (bb : Nat) (L : Bk) (kind key : Int) (s : ByteArray) (h : BkAt w G bb L) (hl : 2000 ≤ L.length) (hl2 : L.length ≤ 1000000) :
    Calls Tryz.prog 17 #[.pointer (some ⟨bb,0,none⟩),.int .i64 kind,.int .i64 key,.string s] w fun x w' => x = .returned (.tuple #[.int .i64 0,.iface 35 (.int .i64 2)]) ∧ Below w.heap.size w w' := by
  obtain ⟨A,c,co⟩ := h.cell
  obtain ⟨n,hn⟩ : ∃ n,L.length = n := ⟨_,rfl⟩
  rw [hn] at co hl hl2
  have hli : (2000 : Int) ≤ (n : Int) := by omega
  clear h hn
  go_enter Tryz.func17,Tryz.ntmps17
  go_wp2_with fail
  refine bodyPost_ret (v := .tuple #[.int .i64 0,.iface 35 (.int .i64 2)]) (by simp [results,Tryz.results17,go_sem]) rfl ⟨rfl,Below.refl _ _⟩
def bkStep (B : Bk) (pg : Pg) (a : Int) (B' : Bk) : Prop := a = (B.length : Int) ∧ B' = B ++ [(pgKind pg,pgStr pg)] ∧ B.length < 2000
def bkBad (B B' : Bk) (v : Value) (_ : World) : Prop := B' = B ∧ 2000 ≤ B.length ∧ v = .iface 35 (.int .i64 2)
theorem bk_run : ∀ {l : List (Pg × Int)} {L B : Bk},Run bkStep L l B → B = L ++ l.map (fun x => (pgKind x.1,pgStr x.1)) ∧ (l ≠ [] → B.length ≤ 2000) ∧ ∀ x ∈ l.map (·.2),(L.length : Int) ≤ x ∧ x < L.length + l.length
  | [],L,B,h => by
    obtain rfl : B = L := h
    exact ⟨by simp,fun h => absurd rfl h,by simp⟩
  | x :: l,L,B,⟨u,⟨h1,h2,h3⟩,h4⟩ => by
    obtain ⟨i1,i2,i3⟩ := bk_run h4
    subst h2
    refine ⟨by rw [i1]; simp,fun _ => ?_,fun y hy => ?_⟩
    · cases l with
      | nil => rw [i1]; simp; omega
      | cons z l => exact i2 (by simp)
    · rw [List.map_cons] at hy
      rcases List.mem_cons.1 hy with rfl | hy
      · rw [h1]; simp; omega
      · have := i3 y hy
        simp at this ⊢
        omega
theorem bk_snk (bb : Nat) (L : Bk) (X : List Int) (M : Nat) (hL : L.length ≤ 2000) (hX : ∀ a ∈ X,¬ ((L.length : Int) ≤ a ∧ a < L.length + M)) :
    Snk 17 #[.pointer (some ⟨bb,0,none⟩)] #[] bkStep bkBad (fun B G w => BkAt w G bb B) X M L where
  eg := fun _ _ => by kernel_rfl
  keep := fun h hk hX => h.keep hk hX
  lt := fun h => h.lt
  put := by
    intro l s G w h m hrun hl _ _ _ _ hb
    obtain ⟨r1,r2,r3⟩ := bk_run hrun
    have hsl : s.length = L.length + l.length := by rw [r1]; simp
    by_cases hs : s.length < 2000
    · refine (bput_any w G bb s _ (firstN m) _ hb hs).mono ?_
      rintro x w' ⟨rfl,G',g1,g2⟩
      refine .inl ⟨_,_,G',rfl,⟨rfl,rfl,hs⟩,by omega,fun hm => hX _ hm (by omega),fun hm => ?_,g1,g2⟩
      have := r3 _ hm
      omega
    · have hs2 : s.length ≤ 2000 := by
        cases hl' : l with
        | nil => rw [hl'] at hsl; simp at hsl; omega
        | cons y t => exact r2 (by rw [hl']; simp)
      refine (bput_full w G bb s _ (firstN m) _ hb (by omega) (by omega)).mono ?_
      rintro x w' ⟨rfl,hbl⟩
      exact .inr ⟨_,_,_,s,G,rfl,⟨rfl,by omega,rfl⟩,hb.below hbl,Mv.below hbl⟩
theorem wrs_fr {σ : Type} {step : σ → Pg → Int → σ → Prop} {h : Nat} {n n' : Nd h} {s0 s : σ} {j : Nat} (hs : WrS step n s0 j n' s) : frN n' + (newl ((ats n).take j) ((pgs n').take j) ((ats n').take j)).length = frN n := by
  obtain ⟨l1,l2⟩ := hs.lens
  rw [newl_len _ _ _ (by simp; omega) (by simp; omega)]
  have e1 : (ats n').drop j = (ats n).drop j := by
    apply List.ext_getElem?
    intro i
    rw [List.getElem?_drop,List.getElem?_drop,hs.hi _ (by omega)]
  have e2 : ((ats n').take j).filter (fun a => decide (a = -1)) = [] := by
    rw [List.filter_eq_nil_iff]
    intro a ha
    obtain ⟨i,hi,rfl⟩ := List.mem_iff_getElem.1 ha
    have hij : i < j := by rw [List.length_take] at hi; omega
    have := hs.low i _ hij (by rw [← List.getElem?_eq_getElem hi,List.getElem?_take,if_pos hij])
    simpa using this
  have e3 : ∀ l : List Int,(l.filter fun a => decide (a = -1)).length = ((l.take j).filter fun a => decide (a = -1)).length + ((l.drop j).filter fun a => decide (a = -1)).length := fun l => by
    conv => lhs; rw [← List.take_append_drop j l]
    rw [List.filter_append,List.length_append]
  unfold frN
  rw [e3 (ats n'),e3 (ats n),e1,e2,List.length_nil]
  omega
end Go.Proofs.YtneammhkgmkkfaaGreatDoor.tr
