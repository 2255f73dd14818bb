/- reader.read: the inner page. -/
import Derived.Test.YtneammhkgmkkfaaGreatTqD
namespace Go.Proofs.YtneammhkgmkkfaaGreat.tr
open Go.RowKit Go.Proofs.YtneammhkgmkkfaaGreat.er
set_option linter.unusedVariables false
set_option linter.unusedSimpArgs false

/-- How far read is with an inner page's kids. -/
structure RdW (w : World) (b : Nat) (pg : Int) {h : Nat} (ds : List (Kd h)) (A : Option Addr) (c : Nat) (wr : World) : Prop where
  box : Whole wr b 85 #[.int .i64 pg, .slice A ds.length c]
  row : wr.ownsRow w.heap.size 78 1 (.slice A ds.length c) ds.length (ds.map fun d => d.2.1)
  nds : ∀ d ∈ ds, NdAt wr d.1 d.2.1 d.2.2
  nd : (dsF ds).Nodup
  ge : ∀ k ∈ dsF ds, w.heap.size ≤ k ∧ k ≠ b ∧ (Value.slice A ds.length c).ownBlock ≠ some k
  ne : ∀ d ∈ ds, Ne d.2.2
  bel : Below w.heap.size w wr
theorem RdW.below {w wr wq : World} {b : Nat} {pg : Int} {h : Nat} {ds : List (Kd h)} {A : Option Addr} {c : Nat} (hr : RdW w b pg ds A c wr) (hb : Below wr.heap.size wr wq) : RdW w b pg ds A c wq :=
  ⟨hr.box.keep (Keep.below (F := fun _ => False) hb) (fun h => h), own_below hr.row hb, kids_keep (Keep.below (F := fun _ => False) hb) hr.nds (fun _ _ h => h), hr.nd, hr.ge, hr.ne, hr.bel.trans (hb.mono hr.bel.size)⟩
theorem rdw_new {w wq : World} {pg : Int} {h : Nat} (hb : Below w.heap.size w wq) : RdW w wq.heap.size pg ([] : List (Kd h)) none 0 (wq.alloc (.cells #[.int .i64 pg, .slice none 0 0] 85)) :=
  ⟨Whole.new _ _ _, ⟨rfl, .inl ⟨rfl, rfl⟩⟩, fun d hd => by simp at hd, by simp [dsF], fun k hk => by simp [dsF] at hk, fun d hd => by simp at hd, hb.alloc hb.size _⟩
theorem rdw_put {w wr w6 : World} {b : Nat} {pg : Int} {h : Nat} {ds : List (Kd h)} {A : Option Addr} {c : Nat} {d : Kd h} {g2 c2 : Nat} (hwb : w.heap.size ≤ b) (hr : RdW w b pg ds A c wr) (hd : NdAt wr d.1 d.2.1 d.2.2) (hne : Ne d.2.2) (hnd : d.1.Nodup)
    (hge : ∀ k ∈ d.1, w.heap.size ≤ k ∧ k ≠ b ∧ (Value.slice A ds.length c).ownBlock ≠ some k ∧ k ∉ dsF ds)
    (q1 : w6.ownsRow w.heap.size 78 1 (.slice (some ⟨g2, 0, none⟩) (ds.length + 1) c2) (ds.length + 1) ((ds.map fun d => d.2.1) ++ [d.2.1]))
    (q2 : (wr.alloc (.cells #[d.2.1] 78)).grownBy w6 (Value.slice A ds.length c).ownBlock)
    (q3 : (Value.slice A ds.length c).ownBlock = some g2 ∨ g2 = (wr.alloc (.cells #[d.2.1] 78)).heap.size) :
    (w6.cell? ⟨b, 1, none⟩ = some (.slice A ds.length c) ∧ w6.frozen? ⟨b, 1, none⟩ = false) ∧ RdW w b pg (ds ++ [d]) (some ⟨g2, 0, none⟩) c2 (w6.setCell ⟨b, 1, none⟩ (.slice (some ⟨g2, 0, none⟩) (ds.length + 1) c2)) := by
  have b6 := (hr.box.alloc (.cells #[d.2.1] 78)).grown q2 (own_ne hr.row hr.box (by decide))
  obtain ⟨v2, hv2⟩ : ∃ v2 : Value, .slice (some ⟨g2, 0, none⟩) (ds.length + 1) c2 = v2 := ⟨_, rfl⟩
  have hl : (ds ++ [d]).length = ds.length + 1 := by simp
  have b7 : Whole (w6.setCell ⟨b, 1, none⟩ v2) b 85 #[.int .i64 pg, v2] := by simpa using b6.set 1 v2
  have hK : Keep (fun k => k = b ∨ (Value.slice A ds.length c).ownBlock = some k) wr (w6.setCell ⟨b, 1, none⟩ v2) :=
    (((Keep.refl _ _).alloc _).grown q2 (fun j hj => .inl (.inr hj))).setCell (p := ⟨b, 1, none⟩) (.inl (.inl rfl)) _
  have hltF := kids_lt hr.nds
  have hlt1 := hd.lt
  refine ⟨⟨b6.cell 1, b6.fz 1⟩, ?_, ?_, ?_, ?_, ?_, ?_, ?_⟩
  · rw [hl, hv2]; exact b7
  · rw [hl, hv2, List.map_append]
    rw [hv2] at q1
    have hkS : Keep (fun j => j = b) w6 (w6.setCell ⟨b, 1, none⟩ v2) := Keep.set1 w6 b 1 _
    exact own_keep q1 hkS (fun j hj e => own_ne q1 b6 (by decide) (by rw [hj, e]))
  · intro x hx
    rw [hv2]
    rcases List.mem_append.1 hx with hx | hx
    · refine (hr.nds x hx).keep hK (fun k hk => ?_)
      have := hr.ge k (mem_dsF hx hk)
      rintro (e | e)
      · exact this.2.1 e
      · exact this.2.2 e
    · obtain rfl : x = d := by simpa using hx
      refine hd.keep hK (fun k hk => ?_)
      have := hge k hk
      rintro (e | e)
      · exact this.2.1 e
      · exact this.2.2.1 e
  · have e1 : dsF (ds ++ [d]) = dsF ds ++ d.1 := by simp [dsF]
    rw [e1]
    exact List.nodup_append.2 ⟨hr.nd, hnd, fun a ha b hb e => (hge b hb).2.2.2 (e ▸ ha)⟩
  · intro k hk
    have e1 : dsF (ds ++ [d]) = dsF ds ++ d.1 := by simp [dsF]
    rw [e1] at hk
    have hk2 : w.heap.size ≤ k ∧ k ≠ b ∧ (Value.slice A ds.length c).ownBlock ≠ some k ∧ k < wr.heap.size := by
      rcases List.mem_append.1 hk with hk | hk
      · exact ⟨(hr.ge k hk).1, (hr.ge k hk).2.1, (hr.ge k hk).2.2, hltF k hk⟩
      · exact ⟨(hge k hk).1, (hge k hk).2.1, (hge k hk).2.2.1, hlt1 k hk⟩
    refine ⟨hk2.1, hk2.2.1, fun e => ?_⟩
    have e2 : g2 = k := by
      have : some g2 = some k := e
      injection this
    rcases q3 with q3 | q3
    · exact hk2.2.2.1 (by rw [q3, e2])
    · simp at q3; omega
  · intro x hx
    rcases List.mem_append.1 hx with hx | hx
    · exact hr.ne x hx
    · obtain rfl : x = d := by simpa using hx
      exact hne
  · rw [hv2]
    exact hr.bel.trans (hK.toBelow hr.bel.size (fun k hk => by
      rcases hk with rfl | hk
      · exact hwb
      · exact (hr.row.lt k hk).1))
theorem rdw_end {w wr : World} {b : Nat} {pg : Int} {h : Nat} {ds : List (Kd h)} {A : Option Addr} {c : Nat} (hwb : w.heap.size ≤ b) (hr : RdW w b pg ds A c wr) (h0 : 0 < ds.length) :
    ∃ F, NdAt wr F (ptrV (h + 1) b) (mkI pg (ds.map fun d => d.2.2)) ∧ F.Nodup ∧ (∀ k ∈ F, w.heap.size ≤ k) ∧ Ne (mkI pg (ds.map fun d => d.2.2)) := by
  obtain ⟨g, c', e, hro, hgB⟩ := Row.own hr.row h0
  injection e with e1 e2 e3
  subst e1 e3
  have hne := own_ne hr.row hr.box (by decide)
  refine ⟨b :: g :: dsF ds, inner_at ⟨hr.box, hro, hr.nds⟩, ?_, ?_, ?_, ?_⟩
  · rw [List.nodup_cons, List.nodup_cons]
    refine ⟨?_, ?_, hr.nd⟩
    · rw [List.mem_cons]
      rintro (e | e)
      · exact hne (by rw [e]; rfl)
      · exact (hr.ge b e).2.1 rfl
    · intro e
      exact (hr.ge g e).2.2 rfl
  · intro k hk
    simp only [List.mem_cons] at hk
    rcases hk with rfl | rfl | hk
    · exact hwb
    · exact hgB
    · exact (hr.ge k hk).1
  · show 1 ≤ (ds.map fun d => d.2.2).length
    simp; omega
  · intro k hk
    obtain ⟨d, hd, rfl⟩ := List.mem_map.1 (show k ∈ ds.map fun d => d.2.2 from hk)
    exact hr.ne d hd
/-- What is read so far is what will be read. -/
def RdS {h : Nat} (f : Int → Option (Nd h)) (ks : List Kid) (j : Nat) (ds : List (Kd h)) : Prop := ds.length = j ∧ rdKids f ks = (rdKids f (ks.drop j)).map (fun t => (ds.map fun d => d.2.2) ++ t)
theorem rds_new {h : Nat} (f : Int → Option (Nd h)) (ks : List Kid) : RdS f ks 0 [] := ⟨rfl, by simp⟩
theorem rds_step {h : Nat} {f : Int → Option (Nd h)} {ks : List Kid} {j : Nat} {ds : List (Kd h)} (hs : RdS f ks j ds) {k : Kid} (hk : ks[j]? = some k) :
    (f k.at_ = none → rdKids f ks = none) ∧ (∀ n, f k.at_ = some n → (firstN n ≠ k.key → rdKids f ks = none) ∧ (firstN n = k.key → ∀ d : Kd h, d.2.2 = n → RdS f ks (j + 1) (ds ++ [d]))) := by
  obtain ⟨h1, h2⟩ := hs
  obtain ⟨hj, rfl⟩ := List.getElem?_eq_some_iff.1 hk
  rw [List.drop_eq_getElem_cons hj] at h2
  refine ⟨fun hn => ?_, fun n hn => ⟨fun hne => ?_, fun he d hd => ⟨by simp [h1], ?_⟩⟩⟩
  · rw [h2]; simp [rdKids, hn]
  · rw [h2]; simp [rdKids, hn, hne]
  · rw [h2]
    simp only [rdKids, hn]
    rw [if_pos he, List.map_append]
    cases rdKids f (ks.drop (j + 1)) <;> simp [hd]
theorem rds_end {h : Nat} {f : Int → Option (Nd h)} {ks : List Kid} {ds : List (Kd h)} (hs : RdS f ks ks.length ds) : rdKids f ks = some (ds.map fun d => d.2.2) := by
  rw [hs.2, List.drop_length]; simp [rdKids]
end Go.Proofs.YtneammhkgmkkfaaGreat.tr
