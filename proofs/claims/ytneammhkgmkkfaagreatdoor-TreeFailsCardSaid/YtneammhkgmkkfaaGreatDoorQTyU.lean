/- A part of the proof. -/
import Derived.Test.YtneammhkgmkkfaaGreatDoorQTyMf
namespace Go.Proofs.YtneammhkgmkkfaaGreatDoor.tr
open Go.RowKit Go.Proofs.YtneammhkgmkkfaaGreatDoor.er
set_option linter.unusedVariables false
set_option linter.unusedSimpArgs false
def InsPost {h : Nat} (w : World) (F : List Nat) (v : Value) (x : Nd h) (o : Option (Nd h)) (e : Ending) (w' : World) : Prop :=
  match o with
  | none => e = .returned .nilIface ∧ RemPost w F v x w'
  | some s => ∃ rb F' G',e = .returned (ptrV h rb) ∧ NdIn w' F' v x ∧ NdIn w' G' (ptrV h rb) s ∧ (∀ k ∈ F',k ∉ G') ∧ Mv (fun k => k ∈ F) w (fun k => k ∈ F' ∨ k ∈ G') w'
theorem Row.exts {w : World} {g c : Nat} {l : List Ext} (h : Row w g c 4 59 (extCells l)) : ExtsAt w (.slice (some ⟨g,0,none⟩) l.length c) l := ⟨_,c,rfl,fun _ => ⟨g,0,rfl,fun j e he => by
    obtain ⟨k0,k1,k2,k3⟩ := extCells_at l j e he
    simp only [Nat.zero_add]
    exact ⟨h.cell k0,h.cell k1,h.cell k2,h.cell k3⟩⟩⟩
theorem ins_cells {l : List Ext} {e : Ext} {i : Nat} (h : srchP l e.fr i) : (extCells l).take (i * 4) ++ [.int .i64 e.fr,.int .i64 e.n,.int .i64 e.kind,.int .i64 e.at_] ++ (extCells l).drop (i * 4) = extCells (ins l e) := by
  rw [ins_at h.1 h.2.1 h.2.2,extCells_take,extCells_drop,List.append_assoc]
  have e1 : extCells (l.take i ++ e :: l.drop i) = extCells (l.take i) ++ (extCells [e] ++ extCells (l.drop i)) := by rw [← extCells_append,← extCells_append]; rfl
  rw [e1]
  simp [extCells,Ext.cells]
theorem leaf_split_end {w w7 w9 w10 : World} {b g g' c' r : Nat} {l' : List Ext} {A : Option Addr} {m c2 : Nat} {xs : List Value} (hL : LfAt w7 b g' c' (-1) l') (hbg : b ≠ g') (hmv : Mv (fun k => k ∈ [b,g]) w (fun k => k ∈ [b,g']) w7) (h9 : l'.length = 9) (hr : w7.heap.size = r)
    (hb9 : Below (w7.alloc (.cells #[.int .i64 (-1),.slice none 0 0] 119)).heap.size (w7.alloc (.cells #[.int .i64 (-1),.slice none 0 0] 119)) w9) (ho : w9.ownsRow (w7.alloc (.cells #[.int .i64 (-1),.slice none 0 0] 119)).heap.size 59 4 (.slice A m c2) 5 xs) (hxs : xs = (extCells l').drop (4 * 4))
    (hw : w10 = (w9.setCell ⟨b,1,none⟩ (.slice (some ⟨g',0,none⟩) 4 4)).setCell ⟨r,1,none⟩ (.slice A m c2)) :
    InsPost w [b,g] (ptrV 0 b) (mkL (-1) (l'.take 4)) (some (mkL (-1) (l'.drop 4))) (.returned (.iface 117 (.pointer (some ⟨r,0,none⟩)))) w10 := by
  subst hr hw hxs
  rw [extCells_drop] at ho
  obtain ⟨n2,d2,e2,hr2,hn2⟩ := Row.own ho (by omega)
  rw [e2]
  have hkA : Keep (fun _ => False) w7 (w7.alloc (.cells #[.int .i64 (-1),.slice none 0 0] 119)) := Keep.alloc (Keep.refl _ _) _
  have hk9 : Keep (fun _ => False) w7 w9 := hkA.transBelow hb9
  have hL9 : LfAt w9 b g' c' (-1) l' := hL.keep hk9 (fun h => h) (fun h => h)
  have hR9 : Whole w9 w7.heap.size 119 #[.int .i64 (-1),.slice none 0 0] := (Whole.new w7 _ _).below hb9 (by simp)
  have hbl := hL.1.lt
  have hgl := hL.2.lt
  have hs1 : (w7.alloc (.cells #[.int .i64 (-1),.slice none 0 0] 119)).heap.size = w7.heap.size + 1 := by simp
  rw [hs1] at hn2
  have hbr : b ≠ w7.heap.size := by omega
  have hK1 : Keep (fun k => k = b ∨ k = w7.heap.size) w9 ((w9.setCell ⟨b,1,none⟩ (.slice (some ⟨g',0,none⟩) 4 4)).setCell ⟨w7.heap.size,1,none⟩ (.slice (some ⟨n2,0,none⟩) 5 d2)) :=
    ((Keep.refl _ _).setCell (p := ⟨b,1,none⟩) (.inl (.inl rfl)) _).setCell (p := ⟨w7.heap.size,1,none⟩) (.inl (.inr rfl)) _
  have ht4 : (l'.take 4).length = 4 := by rw [List.length_take]; omega
  have hd5 : (l'.drop 4).length = 5 := by rw [List.length_drop]; omega
  have hrow1 : Row w9 g' 4 4 59 (extCells (l'.take 4)) := by
    have := hL9.2.front (q := 4) (by have := hL9.2.fit; rw [extCells_len] at this; omega) (by rw [extCells_take,extCells_len,ht4])
    rwa [extCells_take] at this
  refine ⟨w7.heap.size,[b,g'],[w7.heap.size,n2],rfl,⟨leaf_at (c := 4) ⟨?_,hrow1.keep hK1 (by omega)⟩,by simpa using hbg⟩,⟨leaf_at (c := d2) ⟨?_,hr2.keep hK1 (by omega)⟩,by simp; omega⟩,fun k hk hk2 => ?_,⟨?_,fun k hk => ?_⟩⟩
  · rw [ht4]
    have := (hL9.1.set 1 (.slice (some ⟨g',0,none⟩) 4 4)).far (p := ⟨w7.heap.size,1,none⟩) hbr (.slice (some ⟨n2,0,none⟩) 5 d2)
    simpa using this
  · rw [hd5]
    have := (hR9.far (p := ⟨b,1,none⟩) hbr.symm (.slice (some ⟨g',0,none⟩) 4 4)).set 1 (.slice (some ⟨n2,0,none⟩) 5 d2)
    simpa using this
  · simp at hk hk2; omega
  · have h1 : Keep (fun k => k ∈ [b,g']) w7 w9 := hk9.mono (fun _ _ h => h.elim)
    have h2 : Keep (fun k => k ∈ [b,g']) w7 ((w9.setCell ⟨b,1,none⟩ (.slice (some ⟨g',0,none⟩) 4 4)).setCell ⟨w7.heap.size,1,none⟩ (.slice (some ⟨n2,0,none⟩) 5 d2)) :=
      h1.trans hK1 (fun k hk => by rcases hk with rfl | rfl; exact .inl (by simp); exact .inr (Nat.le_refl _))
    exact hmv.keep.trans h2 hmv.sub
  · have hsz := hmv.keep.size
    simp at hk
    rcases hk with (rfl | rfl) | rfl | rfl
    · exact hmv.sub _ (by simp)
    · exact hmv.sub _ (by simp)
    · exact .inr (by omega)
    · exact .inr (by omega)
set_option maxHeartbeats 4000000 in
set_option maxRecDepth 100000 in
theorem ins_leaf (w : World) (b g c : Nat) (a : Int) (l : List Ext) (e : Ext) (h1 : LfAt w b g c a l) (hbg : b ≠ g) (hm : l.length ≤ 8) (ho : ∀ x ∈ l,oneB x = true) (hi : Inc l) (he : oneB e = true) :
    Calls Tryz.prog 102 #[ptrV 0 b,e.val] w (InsPost w [b,g] (ptrV 0 b) (insN (mkL (-1) l) e).1 (insN (mkL (-1) l) e).2) := by
  have hbl := h1.1.lt
  have hgl := h1.2.lt
  have hsp := one_spec he
  obtain ⟨f,en,k,t⟩ := e
  simp only at hsp
  obtain ⟨CE,hCE⟩ : ∃ CE : Obj,.cells #[.int .i64 f,.int .i64 en,.int .i64 k,.int .i64 t] 59 = CE := ⟨_,rfl⟩
  have hA : Keep (fun _ => False) w (w.alloc CE) := Keep.alloc (Keep.refl _ _) _
  have hV1 : LfAt (w.alloc CE) b g c a l := h1.keep hA (fun h => h) (fun h => h)
  have hbox : Whole (w.alloc CE) w.heap.size 59 #[.int .i64 f,.int .i64 en,.int .i64 k,.int .i64 t] := by rw [← hCE]; exact Whole.new w _ _
  have x10 := hV1.1.cell 0
  have z10 := hV1.1.fz 0
  simp at x10
  have hpb : w.heap.size ≠ b := by omega
  obtain ⟨w2,hw2⟩ : ∃ w2,(w.alloc CE).setCell ⟨b,0,none⟩ (.int .i64 (-1)) = w2 := ⟨_,rfl⟩
  have HK2 : Keep (fun k => k = b) (w.alloc CE) w2 := by rw [← hw2]; exact Keep.set1 _ b 0 _
  have HX : Whole w2 b 119 #[.int .i64 (-1),.slice (some ⟨g,0,none⟩) l.length c] := by
    rw [← hw2]
    have := hV1.1.set 0 (.int .i64 (-1))
    simpa using this
  have HR : Row w2 g c 4 59 (extCells l) := hV1.2.keep HK2 (by simpa using hbg.symm)
  have HB : Whole w2 w.heap.size 59 #[.int .i64 f,.int .i64 en,.int .i64 k,.int .i64 t] := hbox.keep HK2 (by simpa using hpb)
  have HKA : Keep (fun k => k ∈ [b,g]) w w2 := (hA.mono (fun _ _ h => h.elim)).trans (HK2.mono (fun k _ e => by simp [e])) (fun k hk => .inl hk)
  have hs2 : w.heap.size < w2.heap.size := HB.lt
  have hgl2 := HR.lt
  obtain ⟨n,hn⟩ : ∃ n,l.length = n := ⟨_,rfl⟩
  have HSR : Hid (∀ wq,Below w2.heap.size w2 wq → Calls Tryz.prog 126 #[.slice (some ⟨g,0,none⟩) n c,.int .i64 f,.func (.func 127) #[] #[]] wq (SrchRet l f wq)) := fun wq hb => by
    have := bsearch_any l _ f wq ((HR.below hb).exts) (by omega) ho hi (by omega) (by omega)
    rw [hn] at this
    exact this
  have HF5 : Hid (∀ w5,Below w2.heap.size w2 w5 → w5.cell? ⟨b,1,none⟩ = some (.slice (some ⟨g,0,none⟩) n c) ∧ w5.cell? ⟨w.heap.size,0,none⟩ = some (.int .i64 f) ∧ w5.cell? ⟨w.heap.size,1,none⟩ = some (.int .i64 en) ∧ w5.cell? ⟨w.heap.size,2,none⟩ = some (.int .i64 k) ∧ w5.cell? ⟨w.heap.size,3,none⟩ = some (.int .i64 t)) := fun w5 hb =>
    ⟨by have := (HX.below hb HX.lt).cell 1; rw [hn] at this; exact this,(HB.below hb HB.lt).cell 0,(HB.below hb HB.lt).cell 1,(HB.below hb HB.lt).cell 2,(HB.below hb HB.lt).cell 3⟩
  obtain ⟨l',hl'⟩ : ∃ l',ins l ⟨f,en,k,t⟩ = l' := ⟨_,rfl⟩
  have hll : l'.length = n + 1 := by rw [← hl',ins_len,hn]
  -- Insert
  have HIN : Hid (∀ w5,Below w2.heap.size w2 w5 → ∀ i,srchP l f i → ∀ wq,Below w5.heap.size w5 wq → Whole wq w5.heap.size 59 #[.int .i64 f,.int .i64 en,.int .i64 k,.int .i64 t] →
      Calls Tryz.prog 128 #[.slice (some ⟨g,0,none⟩) n c,.int .i64 i,.slice (some ⟨w5.heap.size,0,none⟩) 1 1] wq fun e w6 => ∃ g' c',e = .returned (.slice (some ⟨g',0,none⟩) (n + 1) c') ∧ (w6.cell? ⟨b,1,none⟩ = some (.slice (some ⟨g,0,none⟩) n c) ∧ w6.frozen? ⟨b,1,none⟩ = false) ∧
        (LfAt (w6.setCell ⟨b,1,none⟩ (.slice (some ⟨g',0,none⟩) (n + 1) c')) b g' c' (-1) l' ∧ b ≠ g' ∧ Mv (fun k => k ∈ [b,g]) w (fun k => k ∈ [b,g']) (w6.setCell ⟨b,1,none⟩ (.slice (some ⟨g',0,none⟩) (n + 1) c')))) := by
    intro w5 hb5 i hsr wq hbq hwq
    have hb := bel_tr hb5 hbq
    have hs5 := hb5.size
    have key := insertE n c g i w5.heap.size (extCells l) [.int .i64 f,.int .i64 en,.int .i64 k,.int .i64 t] wq (HR.below hb) (by rw [extCells_len,hn]) (by have := hsr.1; omega) (by omega) (by simpa using hwq) rfl (by omega) (extCells_one l) (by simp [Value.oneCell'])
    rw [ins_cells (e := ⟨f,en,k,t⟩) hsr,hl'] at key
    refine key.mono ?_
    rintro x w6 ⟨g',c',rfl,q2,q3,q4⟩
    have hXq : Whole wq b 119 #[.int .i64 (-1),.slice (some ⟨g,0,none⟩) n c] := by have := HX.below hb HX.lt; rw [hn] at this; exact this
    have v1 := hXq.keep q3 (by simpa using hbg)
    have hbg' : b ≠ g' := by
      rcases q4 with rfl | q4
      · exact hbg
      · have := hXq.lt; omega
    refine ⟨g',c',rfl,⟨v1.cell 1,v1.fz 1⟩,⟨?_,q2.keep (Keep.set1 w6 b 1 _) (by simpa using hbg'.symm)⟩,hbg',⟨?_,fun k hk => ?_⟩⟩
    · rw [hll]
      have := v1.set 1 (.slice (some ⟨g',0,none⟩) (n + 1) c')
      simpa using this
    · exact ((HKA.transBelow hb).trans (q3.mono (fun k _ e => by have e' : k = g := e; simp [e'])) (fun k hk => .inl hk)).setCell (p := ⟨b,1,none⟩) (.inl (by simp)) _
    · simp only [List.mem_cons,List.not_mem_nil,or_false] at hk ⊢
      rcases hk with rfl | rfl
      · exact .inl (.inl rfl)
      · rcases q4 with rfl | q4
        · exact .inl (.inr rfl)
        · have := hb.size; exact .inr (by omega)
  have hme := fun w => meWh (.pointer (some ⟨b,0,none⟩)) w 0
  have hen := fun w => enWh #[.pointer (some ⟨b,0,none⟩)] w 0
  simp only [ndT,whF] at hme hen
  have hta := ta_ll
  have HWH := Lib.hid (fun wq => where_any wq b 0)
  have hn8 : n ≤ 8 := by omega
  obtain ⟨R1,hR1⟩ : ∃ R,(insN (mkL (-1) l) ⟨f,en,k,t⟩).1 = R := ⟨_,rfl⟩
  obtain ⟨R2,hR2⟩ : ∃ R,(insN (mkL (-1) l) ⟨f,en,k,t⟩).2 = R := ⟨_,rfl⟩
  have HRR : Hid (if n < 8 then R1 = mkL (-1) l' ∧ R2 = none else R1 = mkL (-1) (l'.take 4) ∧ R2 = some (mkL (-1) (l'.drop 4))) := by
    have hx : insN (mkL (-1) l) ⟨f,en,k,t⟩ = if 8 < l'.length then (mkL (-1) (l'.take (l'.length / 2)),some (mkL (-1) (l'.drop (l'.length / 2)))) else (mkL (-1) l',none) := by rw [← hl']; rfl
    show (if n < 8 then _ else _)
    rw [← hR1,← hR2,hx]
    by_cases h8 : n < 8
    · rw [if_pos h8,if_neg (by omega)]; exact ⟨rfl,rfl⟩
    · rw [if_neg h8,if_pos (by omega),show l'.length / 2 = 4 by omega]; exact ⟨rfl,rfl⟩
  rw [hR1,hR2]
  have hb0 : w.heap.size < w2.heap.size := hs2
  have SA := Lib.hid (HF5.out w2 (Below.refl _ _))
  have hl9 : Hid (l'.length = n + 1) := hll
  have HNl : Hid (l.length = n) := hn
  clear hR1 hR2 hll hl' hn hgl2 HKA HB HR HX HK2 hbox hV1 hA hbl hgl h1 hm ho hi he hs2
  subst hCE
  show Calls Tryz.prog 102 #[.iface 117 (.pointer (some ⟨b,0,none⟩)),.agg #[.int .i64 f,.int .i64 en,.int .i64 k,.int .i64 t]] w _
  go_enter Tryz.func102,Tryz.ntmps102
  go_wp2_with fail
  refine (HWH.out _).mono ?_
  rintro e w' ⟨rfl,rfl⟩
  go_wp2_with fail
  go_region_held3 (fun w' => w'.cell? ⟨b,1,none⟩ = some (.slice (some ⟨g,0,none⟩) n c) ∧ w'.cell? ⟨w.heap.size,0,none⟩ = some (.int .i64 f) ∧ w'.cell? ⟨w.heap.size,1,none⟩ = some (.int .i64 en) ∧ w'.cell? ⟨w.heap.size,2,none⟩ = some (.int .i64 k) ∧ w'.cell? ⟨w.heap.size,3,none⟩ = some (.int .i64 t)) (first | with_reducible exact SA.out | with_reducible exact SH5.out | exact HF5.out _ (Below.drew (Below.refl _ _))) ((go_at_call 126; (with_reducible refine (HSR.out _ (Below.drew (Below.refl _ _))).mono ?_); rintro e w5 ⟨i,bb,hsr,rfl,hb5⟩; have HSP := Lib.hid hsr; have HB5 : Hid (Below w2.heap.size w2 w5) := Below.trans (Below.drew (Below.refl _ _)) hb5; have SH5 := Lib.hid (HF5.out w5 HB5.out); clear hsr hb5))
  have HI5 := Lib.hid (HIN.out w5 HB5.out i HSP.out)
  have hil : (i : Int) ≤ (n : Int) := by have := HSP.out.1; have := HNl.out; omega
  have hi0 : (0 : Int) ≤ (i : Int) := by omega
  obtain ⟨y1,y2,y3,y4,y5⟩ := SH5.out
  have hbb : b < w5.heap.size := World.block_lt_of_cell? _ _ y1
  have qa := fun o => (World.cell?_alloc_lt w5 o ⟨b,1,none⟩ (by show b < _; omega)).trans y1
  by_cases h8 : n < 8
  · have h8' : ¬ (8 : Int) < (n : Int) + 1 := by omega
    obtain ⟨e1,e2⟩ : R1 = mkL (-1) l' ∧ R2 = none := by have := HRR.out; rw [if_pos h8] at this; exact this
    subst e1 e2
    go_wp2_with fail
    go_region_law (go_simp; go_at_call 128; (with_reducible refine (HI5.out _ (by repeat (first | exact Below.refl _ _ | refine Below.drew ?_ | refine Below.alloc ?_ (by first | omega | (simp <;> omega)) _)) (by first | exact wh_drew (Whole.new w5 _ _) | exact Whole.new w5 _ _)).mono ?_); rintro e w6 ⟨g',c',rfl,⟨r1,r2⟩,hpost⟩; have HP6 := Lib.hid hpost; clear hpost)
    all_goals (go_wp2_with fail)
    all_goals go_ret
    all_goals exact ⟨rfl,[b,g'],⟨leaf_at HP6.out.1,by have := HP6.out.2.1; simpa using this⟩,HP6.out.2.2⟩
  · obtain rfl : n = 8 := by omega
    obtain ⟨e1,e2⟩ : R1 = mkL (-1) (l'.take 4) ∧ R2 = some (mkL (-1) (l'.drop 4)) := by have := HRR.out; rw [if_neg h8] at this; exact this
    subst e1 e2
    have HEX := Lib.hid (extCells_one l')
    have HEL : Hid ((extCells l').length = 9 * 4) := by show _ = _; rw [extCells_len,hl9.out]
    clear h8
    go_wp2_with fail
    go_region_law (go_simp; go_at_call 128; (with_reducible refine (HI5.out _ (by repeat (first | exact Below.refl _ _ | refine Below.drew ?_ | refine Below.alloc ?_ (by first | omega | (simp <;> omega)) _)) (by first | exact wh_drew (Whole.new w5 _ _) | exact Whole.new w5 _ _)).mono ?_); rintro e w6 ⟨g',c',rfl,⟨r1,r2⟩,hpost⟩; have HP6 := Lib.hid hpost; clear hpost)
    all_goals (obtain ⟨w7,hw7⟩ : ∃ w7,w6.setCell ⟨b,1,none⟩ (.slice (some ⟨g',0,none⟩) (8 + 1) c') = w7 := ⟨_,rfl⟩)
    all_goals (rw [hw7] at HP6)
    all_goals (simp only [Nat.reduceAdd] at hw7)
    all_goals (try simp only [Nat.reduceAdd])
    all_goals (rw [hw7])
    all_goals (have y71 : w7.cell? ⟨b,1,none⟩ = some (.slice (some ⟨g',0,none⟩) 9 c') := by have := HP6.out.1.1.cell 1; rw [hl9.out] at this; exact this)
    all_goals (have hb7 : b < w7.heap.size := HP6.out.1.1.lt)
    all_goals (have hbn7 : b ≠ w7.heap.size := by omega)
    all_goals (have hbn8 : w7.heap.size ≠ b := by omega)
    all_goals (have qb := fun o => (World.cell?_alloc_lt w7 o ⟨b,1,none⟩ hb7).trans y71)
    all_goals (have HSPL : Hid (Calls Tryz.prog 129 #[.slice (some ⟨g',0,none⟩) 9 c'] (w7.alloc (.cells #[.int .i64 (-1),.slice none 0 0] 119)) fun e w9 => ∃ A c2,e = .returned (.tuple #[.slice (some ⟨g',0,none⟩) 4 4,.slice A 5 c2]) ∧ ((w9.cell? ⟨b,1,none⟩ = some (.slice (some ⟨g',0,none⟩) 9 c') ∧ w9.frozen? ⟨b,1,none⟩ = false) ∧ w9.cell? ⟨w7.heap.size,1,none⟩ = some (.slice none 0 0) ∧ w9.frozen? ⟨w7.heap.size,1,none⟩ = false) ∧
        InsPost w [b,g] (ptrV 0 b) (mkL (-1) (l'.take 4)) (some (mkL (-1) (l'.drop 4))) (.returned (.iface 117 (.pointer (some ⟨w7.heap.size,0,none⟩)))) ((w9.setCell ⟨b,1,none⟩ (.slice (some ⟨g',0,none⟩) 4 4)).setCell ⟨w7.heap.size,1,none⟩ (.slice A 5 c2))) := by {
      have hL8 : LfAt (w7.alloc (.cells #[.int .i64 (-1),.slice none 0 0] 119)) b g' c' (-1) l' := HP6.out.1.keep (Keep.alloc (Keep.refl (fun _ => False) _) _) (fun h => h) (fun h => h)
      refine (splitE 9 g' c' (extCells l') _ hL8.2 HEL.out (by omega) (by omega) HEX.out).mono ?_
      rintro e w9 ⟨v',rfl,ho,hb⟩
      obtain ⟨A,c2,rfl⟩ := own_slice ho
      have hX := hL8.1.below hb hL8.1.lt
      have hY : Whole w9 w7.heap.size 119 #[.int .i64 (-1),.slice none 0 0] := (Whole.new w7 _ _).below hb (by simp)
      have h1 := hX.cell 1
      rw [hl9.out] at h1
      exact ⟨A,c2,rfl,⟨⟨h1,hX.fz 1⟩,hY.cell 1,hY.fz 1⟩,leaf_split_end HP6.out.1 HP6.out.2.1 HP6.out.2.2 hl9.out rfl hb ho rfl rfl⟩ })
    all_goals (clear hw7 r1 r2 qa y1 y2 y3 y4 y5)
    all_goals (go_wp2_with fail)
    all_goals (with_reducible refine HSPL.out.mono ?_)
    all_goals (rintro e w9 ⟨A,c2,rfl,⟨⟨p1,p2⟩,p3,p4⟩,hfin⟩)
    all_goals (have HFIN := Lib.hid hfin)
    all_goals (clear hfin)
    all_goals (go_wp2_with fail)
    all_goals go_ret
    all_goals exact HFIN.out
end Go.Proofs.YtneammhkgmkkfaaGreatDoor.tr
