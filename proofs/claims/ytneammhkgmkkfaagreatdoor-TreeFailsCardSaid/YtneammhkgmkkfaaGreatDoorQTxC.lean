/- A part of the proof. -/
import Derived.Test.YtneammhkgmkkfaaGreatDoorQTxMb
namespace Go.Proofs.YtneammhkgmkkfaaGreatDoor.tr
open Go.RowKit Go.Proofs.YtneammhkgmkkfaaGreatDoor.er
set_option linter.unusedVariables false
set_option linter.unusedSimpArgs false
theorem eqIn_ext (d : Nat) (f n k t f' n' k' t' : Int) (w : World) : (Op.equalIn (d + 2) 59 (.agg #[.int .i64 f,.int .i64 n,.int .i64 k,.int .i64 t]) (.agg #[.int .i64 f',.int .i64 n',.int .i64 k',.int .i64 t'])).run Tryz.prog w = .ok (f == f' && (n == n' && (k == k' && t == t'))) w := by
  rw [run_equalIn_agg w (d + 1) 59 _ _ (by kernel_rfl) (by kernel_rfl)]
  simp only [Program.fieldsOf,Tryz.underlying59]
  go_simp
  by_cases h1 : f = f' <;> by_cases h2 : n = n' <;> by_cases h3 : k = k' <;> by_cases h4 : t = t' <;> simp [h1,h2,h3,h4]
theorem beq_ext (f n k t f' n' k' t' : Int) : (f == f' && (n == n' && (k == k' && t == t'))) = decide ((⟨f,n,k,t⟩ : Ext) = ⟨f',n',k',t'⟩) := by
  by_cases h1 : f = f' <;> by_cases h2 : n = n' <;> by_cases h3 : k = k' <;> by_cases h4 : t = t' <;> simp [h1,h2,h3,h4]
theorem eq_ext (f n k t f' n' k' t' : Int) (w : World) : (binOp .eql 59 (.agg #[.int .i64 f,.int .i64 n,.int .i64 k,.int .i64 t]) (.agg #[.int .i64 f',.int .i64 n',.int .i64 k',.int .i64 t'])).run Tryz.prog w = .ok (.bool (decide ((⟨f,n,k,t⟩ : Ext) = ⟨f',n',k',t'⟩))) w := by
  have h := eqIn_ext 9998 f n k t f' n' k' t' w
  rw [beq_ext] at h
  simp [binOp,Op.equal,Op.maxDepth,h]
theorem tmp4 {w : World} {g : Nat} {t : TypeId} {a b c d : Value} (h : Whole w g t #[a,b,c,d]) :
    (w.cell? ⟨g,0,none⟩ = some a ∧ w.cell? ⟨g,1,none⟩ = some b ∧ w.cell? ⟨g,2,none⟩ = some c ∧ w.cell? ⟨g,3,none⟩ = some d) ∧
    w.frozen? ⟨g,0,none⟩ = false ∧ w.frozen? ⟨g,1,none⟩ = false ∧ w.frozen? ⟨g,2,none⟩ = false ∧ w.frozen? ⟨g,3,none⟩ = false :=
  ⟨⟨h.cell 0,h.cell 1,h.cell 2,h.cell 3⟩,h.fz 0,h.fz 1,h.fz 2,h.fz 3⟩
theorem wh_drew {w : World} {g : Nat} {t : TypeId} {cs : Array Value} (h : Whole w g t cs) : Whole w.drew g t cs := h
theorem tog_run (a b : Ext) : tog a b = (decide (a.end_ = b.fr) && (decide (a.kind = b.kind) && decide ((if a.kind = 2 then a.at_ + a.n else 0) = b.at_))) := by
  have h : tog a b = true ↔ (decide (a.end_ = b.fr) && (decide (a.kind = b.kind) && decide ((if a.kind = 2 then a.at_ + a.n else 0) = b.at_))) = true := by
    rw [tog_iff]
    simp only [Bool.and_eq_true,decide_eq_true_eq]
    constructor
    · rintro ⟨h1,h2,h3⟩; exact ⟨h1.symm,h2.symm,h3.symm⟩
    · rintro ⟨h1,h2,h3⟩; exact ⟨h1.symm,h2.symm,h3.symm⟩
  exact Bool.eq_iff_iff.mpr h
theorem gt_ext : Tryz.prog.eqGuardType Tryz.prog.depth 59 = false := by kernel_rfl
set_option maxHeartbeats 4000000 in
set_option maxRecDepth 100000 in
theorem tog_any (a b : Ext) (w : World) (h : oneB a = true) : Calls Tryz.prog 47 #[a.val,b.val] w fun x w' => x = .returned (.bool (tog a b)) ∧ Below w.heap.size w w' := by
  obtain ⟨k1,k2,k3,k4⟩ := one_spec h
  obtain ⟨f,n,k,t⟩ := a
  obtain ⟨f',n',k',t'⟩ := b
  simp only at k1 k2 k3 k4
  have HE := Lib.hid (fun wq => end_any ⟨f,n,k,t⟩ wq h)
  have hw : k = 2 → wrap64 (t + n) = t + n := by intro hk; unfold wrap64; omega
  show Calls Tryz.prog 47 #[.agg #[.int .i64 f,.int .i64 n,.int .i64 k,.int .i64 t],.agg #[.int .i64 f',.int .i64 n',.int .i64 k',.int .i64 t']] w _
  have hgt := gt_ext
  have heq := eq_ext
  have HB1 := Lib.hid (((Below.refl w.heap.size w).alloc (Nat.le_refl _) (.cells #[.int .i64 f,.int .i64 n,.int .i64 k,.int .i64 t] 59)).alloc (by simp) (.cells #[.int .i64 f',.int .i64 n',.int .i64 k',.int .i64 t'] 59))
  have hx0 := Whole.alloc (Whole.new w 59 #[.int .i64 f,.int .i64 n,.int .i64 k,.int .i64 t]) (.cells #[.int .i64 f',.int .i64 n',.int .i64 k',.int .i64 t'] 59)
  have hy0 := Whole.new (w.alloc (.cells #[.int .i64 f,.int .i64 n,.int .i64 k,.int .i64 t] 59)) 59 #[.int .i64 f',.int .i64 n',.int .i64 k',.int .i64 t']
  obtain ⟨w2,hw2⟩ : ∃ w2,(w.alloc (.cells #[.int .i64 f,.int .i64 n,.int .i64 k,.int .i64 t] 59)).alloc (.cells #[.int .i64 f',.int .i64 n',.int .i64 k',.int .i64 t'] 59) = w2 := ⟨_,rfl⟩
  have hsz : w2.heap.size = w.heap.size + 2 := by rw [← hw2]; simp
  rw [hw2] at HB1 hx0 hy0
  rw [World.size_alloc] at hy0
  have HK : Hid (∀ w',Below w2.heap.size w2 w' → (w'.cell? ⟨w.heap.size,0,none⟩ = some (.int .i64 f) ∧ w'.cell? ⟨w.heap.size,1,none⟩ = some (.int .i64 n) ∧ w'.cell? ⟨w.heap.size,2,none⟩ = some (.int .i64 k) ∧ w'.cell? ⟨w.heap.size,3,none⟩ = some (.int .i64 t)) ∧ (w'.cell? ⟨w.heap.size + 1,0,none⟩ = some (.int .i64 f') ∧ w'.cell? ⟨w.heap.size + 1,1,none⟩ = some (.int .i64 n') ∧ w'.cell? ⟨w.heap.size + 1,2,none⟩ = some (.int .i64 k') ∧ w'.cell? ⟨w.heap.size + 1,3,none⟩ = some (.int .i64 t'))) := fun w' hb => ⟨⟨below_c hb (hx0.cell 0),below_c hb (hx0.cell 1),below_c hb (hx0.cell 2),below_c hb (hx0.cell 3)⟩,⟨below_c hb (hy0.cell 0),below_c hb (hy0.cell 1),below_c hb (hy0.cell 2),below_c hb (hy0.cell 3)⟩⟩
  have SA := Lib.hid (HK.out _ (Below.refl _ _))
  have HW := Lib.hid hw
  clear h k1 k2 k3 k4 hw hx0 hy0
  go_enter Tryz.func47,Tryz.ntmps47
  go_wp2_with fail
  go_region_held3 (fun w' => (w'.cell? ⟨w.heap.size,0,none⟩ = some (.int .i64 f) ∧ w'.cell? ⟨w.heap.size,1,none⟩ = some (.int .i64 n) ∧ w'.cell? ⟨w.heap.size,2,none⟩ = some (.int .i64 k) ∧ w'.cell? ⟨w.heap.size,3,none⟩ = some (.int .i64 t)) ∧ (w'.cell? ⟨w.heap.size + 1,0,none⟩ = some (.int .i64 f') ∧ w'.cell? ⟨w.heap.size + 1,1,none⟩ = some (.int .i64 n') ∧ w'.cell? ⟨w.heap.size + 1,2,none⟩ = some (.int .i64 k') ∧ w'.cell? ⟨w.heap.size + 1,3,none⟩ = some (.int .i64 t'))) (first | with_reducible exact SA.out | exact HK.out _ (by repeat (first | with_reducible exact HB5.out | with_reducible exact Below.refl _ _ | refine Below.drew ?_ | refine Below.setCell ?_ (by first | omega | (simp <;> omega)) _ | refine Below.alloc ?_ (by first | omega | (simp <;> omega)) _))) ((go_at_call 46; refine (HE.out _).mono ?_; rintro e w5 ⟨rfl,hb5⟩; have HB5 : Hid (Below w2.heap.size w2 w5) := Below.trans (by repeat (first | exact Below.refl _ _ | refine Below.drew ?_ | refine Below.alloc ?_ (by first | omega | (simp <;> omega)) _)) (hb5.mono (by first | exact Nat.le_refl _ | (simp <;> omega))); have hs5 := HB5.out.size; have HB5x := Lib.hid hb5; (try (obtain ⟨⟨z0,z1,z2,z3⟩,z4,z5,z6,z7⟩ := tmp4 (Whole.below (wh_drew (Whole.new' w2 59 #[.int .i64 0,.int .i64 0,.int .i64 0,.int .i64 0] (w.heap.size + 2) hsz)) hb5 (by simp <;> omega)))); clear hb5))
  · have hX := Whole.new w5 59 #[.int .i64 (Ext.end_ ⟨f,n,k,t⟩),.int .i64 n',.int .i64 k,.int .i64 0]
    have hBX : Hid (Below w2.heap.size w2 (w5.alloc (.cells #[.int .i64 (Ext.end_ ⟨f,n,k,t⟩),.int .i64 n',.int .i64 k,.int .i64 0] 59))) := HB5.out.alloc hs5 _
    have hgx : w.heap.size + 2 ≤ w5.heap.size := by omega
    obtain ⟨gx,hgx'⟩ : ∃ gx,w5.heap.size = gx := ⟨_,rfl⟩
    obtain ⟨wX,hwX⟩ : ∃ wX,w5.alloc (.cells #[.int .i64 (Ext.end_ ⟨f,n,k,t⟩),.int .i64 n',.int .i64 k,.int .i64 0] 59) = wX := ⟨_,rfl⟩
    simp only [hwX,hgx'] at hX hBX hgx ⊢
    clear hwX hgx' hs5
    obtain ⟨⟨p0,p1,p2,p3⟩,⟨q0,q1,q2,q3⟩⟩ := HK.out _ hBX.out
    obtain ⟨⟨x0,x1,x2,x3⟩,y0,y1,y2,y3⟩ := tmp4 hX
    have HTB : Hid (Below w.heap.size w wX) := HB1.out.trans (hBX.out.mono HB1.out.size)
    by_cases hk : k = 2
    · subst hk
      have hw := HW.out rfl
      have HT : Hid (tog ⟨f,n,2,t⟩ ⟨f',n',k',t'⟩ = (decide (Ext.end_ ⟨f,n,2,t⟩ = f') && (decide (2 = k') && decide (t + n = t')))) := by show _ = _; rw [tog_run,if_pos rfl]
      go_wp2_with fail
      go_ret
      exact ⟨by rw [HT.out]; rfl,HTB.out.setCell (p := ⟨gx,3,none⟩) (by show w.heap.size ≤ gx; omega) _⟩
    · have hk' : (k == 2) = false := by simpa using hk
      have HT : Hid (tog ⟨f,n,k,t⟩ ⟨f',n',k',t'⟩ = (decide (Ext.end_ ⟨f,n,k,t⟩ = f') && (decide (k = k') && decide (0 = t')))) := by show _ = _; rw [tog_run,if_neg hk]
      go_wp2_with fail
      go_ret
      exact ⟨by rw [HT.out]; rfl,HTB.out⟩
  · have hX := Whole.set4 (Whole.below (wh_drew (Whole.new' w2 59 #[.int .i64 0,.int .i64 0,.int .i64 0,.int .i64 0] (w.heap.size + 2) hsz)) HB5x.out (by simp <;> omega)) (.int .i64 (Ext.end_ ⟨f,n,k,t⟩)) (.int .i64 n') (.int .i64 k) (.int .i64 0)
    have hBX : Hid (Below w2.heap.size w2 ((((w5.setCell ⟨w.heap.size + 2,0,none⟩ (.int .i64 (Ext.end_ ⟨f,n,k,t⟩))).setCell ⟨w.heap.size + 2,1,none⟩ (.int .i64 n')).setCell ⟨w.heap.size + 2,2,none⟩ (.int .i64 k)).setCell ⟨w.heap.size + 2,3,none⟩ (.int .i64 0))) := (((HB5.out.setCell (p := ⟨w.heap.size + 2,0,none⟩) (by show w2.heap.size ≤ w.heap.size + 2; omega) _).setCell (p := ⟨w.heap.size + 2,1,none⟩) (by show w2.heap.size ≤ w.heap.size + 2; omega) _).setCell (p := ⟨w.heap.size + 2,2,none⟩) (by show w2.heap.size ≤ w.heap.size + 2; omega) _).setCell (p := ⟨w.heap.size + 2,3,none⟩) (by show w2.heap.size ≤ w.heap.size + 2; omega) _
    have hgx : w.heap.size + 2 ≤ w.heap.size + 2 := Nat.le_refl _
    obtain ⟨gx,hgx'⟩ : ∃ gx,w.heap.size + 2 = gx := ⟨_,rfl⟩
    obtain ⟨wX,hwX⟩ : ∃ wX,(((w5.setCell ⟨w.heap.size + 2,0,none⟩ (.int .i64 (Ext.end_ ⟨f,n,k,t⟩))).setCell ⟨w.heap.size + 2,1,none⟩ (.int .i64 n')).setCell ⟨w.heap.size + 2,2,none⟩ (.int .i64 k)).setCell ⟨w.heap.size + 2,3,none⟩ (.int .i64 0) = wX := ⟨_,rfl⟩
    simp only [hwX] at hX hBX ⊢
    simp only [hgx'] at hX ⊢
    have hgx : w.heap.size + 2 ≤ gx := by omega
    clear hwX hgx' hs5 z0 z1 z2 z3 z4 z5 z6 z7
    obtain ⟨⟨p0,p1,p2,p3⟩,⟨q0,q1,q2,q3⟩⟩ := HK.out _ hBX.out
    obtain ⟨⟨x0,x1,x2,x3⟩,y0,y1,y2,y3⟩ := tmp4 hX
    have HTB : Hid (Below w.heap.size w wX) := HB1.out.trans (hBX.out.mono HB1.out.size)
    by_cases hk : k = 2
    · subst hk
      have hw := HW.out rfl
      have HT : Hid (tog ⟨f,n,2,t⟩ ⟨f',n',k',t'⟩ = (decide (Ext.end_ ⟨f,n,2,t⟩ = f') && (decide (2 = k') && decide (t + n = t')))) := by show _ = _; rw [tog_run,if_pos rfl]
      go_wp2_with fail
      go_ret
      exact ⟨by rw [HT.out]; rfl,HTB.out.setCell (p := ⟨gx,3,none⟩) (by show w.heap.size ≤ gx; omega) _⟩
    · have hk' : (k == 2) = false := by simpa using hk
      have HT : Hid (tog ⟨f,n,k,t⟩ ⟨f',n',k',t'⟩ = (decide (Ext.end_ ⟨f,n,k,t⟩ = f') && (decide (k = k') && decide (0 = t')))) := by show _ = _; rw [tog_run,if_neg hk]
      go_wp2_with fail
      go_ret
      exact ⟨by rw [HT.out]; rfl,HTB.out⟩
set_option maxHeartbeats 4000000 in
set_option maxRecDepth 100000 in
theorem part_any (e : Ext) (a b : Int) (w : World) (h : oneB e = true) (ha : 0 ≤ a) (ha2 : a ≤ 16777216) (hb : 0 ≤ b) (hb2 : b ≤ 16777216) : Calls Tryz.prog 99 #[e.val,.int .i64 a,.int .i64 b] w fun x w' => x = .returned (match partOf e a b with | some y => .tuple #[y.val,.bool true] | none => .tuple #[.agg #[.int .i64 0,.int .i64 0,.int .i64 0,.int .i64 0],.bool false]) ∧ Below w.heap.size w w' := by
  obtain ⟨k1,k2,k3,k4⟩ := one_spec h
  obtain ⟨f,n,k,t⟩ := e
  simp only at k1 k2 k3 k4
  have HE := Lib.hid (fun wq => end_any ⟨f,n,k,t⟩ wq h)
  show Calls Tryz.prog 99 #[.agg #[.int .i64 f,.int .i64 n,.int .i64 k,.int .i64 t],.int .i64 a,.int .i64 b] w _
  have HB1 := Lib.hid (((Below.refl w.heap.size w).alloc (Nat.le_refl _) (.cells #[.int .i64 f,.int .i64 n,.int .i64 k,.int .i64 t] 59)).alloc (by simp) (.cells #[.int .i64 0,.int .i64 0,.int .i64 0,.int .i64 0] 59))
  have hx0 := Whole.alloc (Whole.new w 59 #[.int .i64 f,.int .i64 n,.int .i64 k,.int .i64 t]) (.cells #[.int .i64 0,.int .i64 0,.int .i64 0,.int .i64 0] 59)
  have hy0 := Whole.new (w.alloc (.cells #[.int .i64 f,.int .i64 n,.int .i64 k,.int .i64 t] 59)) 59 #[.int .i64 0,.int .i64 0,.int .i64 0,.int .i64 0]
  obtain ⟨w2,hw2⟩ : ∃ w2,(w.alloc (.cells #[.int .i64 f,.int .i64 n,.int .i64 k,.int .i64 t] 59)).alloc (.cells #[.int .i64 0,.int .i64 0,.int .i64 0,.int .i64 0] 59) = w2 := ⟨_,rfl⟩
  have hsz : w2.heap.size = w.heap.size + 2 := by rw [← hw2]; simp
  rw [hw2] at HB1 hx0 hy0
  rw [World.size_alloc] at hy0
  have HK : Hid (∀ w',Below w2.heap.size w2 w' → (w'.cell? ⟨w.heap.size,0,none⟩ = some (.int .i64 f) ∧ w'.cell? ⟨w.heap.size,1,none⟩ = some (.int .i64 n) ∧ w'.cell? ⟨w.heap.size,2,none⟩ = some (.int .i64 k) ∧ w'.cell? ⟨w.heap.size,3,none⟩ = some (.int .i64 t))) := fun w' hb => ⟨below_c hb (hx0.cell 0),below_c hb (hx0.cell 1),below_c hb (hx0.cell 2),below_c hb (hx0.cell 3)⟩
  have SA := Lib.hid (HK.out _ (Below.refl _ _))
  have HY := Lib.hid hy0
  obtain ⟨en,hen⟩ : ∃ en,Ext.end_ ⟨f,n,k,t⟩ = en := ⟨_,rfl⟩
  have hen2 : f + n = en := hen
  simp only [hen] at HE
  have HP : Hid (partOf ⟨f,n,k,t⟩ a b = if min en b ≤ max f a then none else some ⟨max f a,min en b - max f a,k,if k = 2 then t + max f a - f else 0⟩) := by show _ = _; unfold partOf; rw [hen]
  have K4 := Lib.hid k4
  clear h k4 hx0 hy0 hen
  by_cases h1 : f < a
  · by_cases h2 : b < en
    · skip
      by_cases h3 : b ≤ a
      · have HPN : Hid (partOf ⟨f,n,k,t⟩ a b = none) := by show _ = _; rw [HP.out,if_pos (by omega)]
        rw [HPN.out]
        go_enter Tryz.func99,Tryz.ntmps99
        go_wp2_with fail
        go_region_held3 (fun w' => w'.cell? ⟨w.heap.size,0,none⟩ = some (.int .i64 f) ∧ w'.cell? ⟨w.heap.size,1,none⟩ = some (.int .i64 n) ∧ w'.cell? ⟨w.heap.size,2,none⟩ = some (.int .i64 k) ∧ w'.cell? ⟨w.heap.size,3,none⟩ = some (.int .i64 t)) (first | with_reducible exact SA.out | exact HK.out _ (by repeat (first | with_reducible exact HB5.out | with_reducible exact Below.refl _ _ | refine Below.drew ?_ | refine Below.setCell ?_ (by first | omega | (simp <;> omega)) _ | refine Below.alloc ?_ (by first | omega | (simp <;> omega)) _))) ((go_at_call 46; refine (HE.out _).mono ?_; rintro e w5 ⟨rfl,hb5⟩; have HB5 : Hid (Below w2.heap.size w2 w5) := Below.trans (by repeat (first | exact Below.refl _ _ | refine Below.drew ?_ | refine Below.alloc ?_ (by first | omega | (simp <;> omega)) _)) (hb5.mono (by first | exact Nat.le_refl _ | (simp <;> omega))); have hs5 := HB5.out.size; clear hb5))
        all_goals (obtain ⟨p0,p1,p2,p3⟩ := HK.out _ HB5.out)
        all_goals (obtain ⟨⟨z0,z1,z2,z3⟩,z4,z5,z6,z7⟩ := tmp4 (HY.out.below HB5.out HY.out.lt))
        all_goals go_wp2_with fail
        all_goals (obtain ⟨⟨r0,r1,r2,r3⟩,_⟩ := tmp4 (Whole.set4 (HY.out.below HB5.out HY.out.lt) (.int .i64 0) (.int .i64 0) (.int .i64 0) (.int .i64 0)); refine bodyPost_ret (v := .tuple #[.agg #[.int .i64 0,.int .i64 0,.int .i64 0,.int .i64 0],.bool false]) (by simp [results,Tryz.results99,go_sem,r0,r1,r2,r3]) rfl ⟨rfl,?_⟩)
        all_goals (have HBW : Hid (Below w.heap.size w w5) := HB1.out.trans (HB5.out.mono HB1.out.size); have hsw := HBW.out.size; repeat (first | with_reducible exact HBW.out | refine Below.drew ?_ | refine Below.setCell ?_ (by first | omega | (simp <;> omega)) _ | refine Below.alloc ?_ (by first | omega | (simp <;> omega)) _))
      · by_cases hk : k = 2
        · have hk2 : (k == 2) = true := by simpa using hk
          have hv1 : wrap64 (b - a) = b - a := by unfold wrap64; omega
          have hv2 : wrap64 (t + a) = t + a := by have := K4.out; unfold wrap64; omega
          have hv3 : wrap64 (t + a - f) = t + a - f := by have := K4.out; unfold wrap64; omega
          have HPS : Hid (partOf ⟨f,n,k,t⟩ a b = some ⟨a,b - a,k,t + a - f⟩) := by show _ = _; rw [HP.out,if_neg (by omega),if_pos hk,show max f a = a by omega,show min en b = b by omega]
          rw [HPS.out]
          clear hk
          go_enter Tryz.func99,Tryz.ntmps99
          go_wp2_with fail
          go_region_held3 (fun w' => w'.cell? ⟨w.heap.size,0,none⟩ = some (.int .i64 f) ∧ w'.cell? ⟨w.heap.size,1,none⟩ = some (.int .i64 n) ∧ w'.cell? ⟨w.heap.size,2,none⟩ = some (.int .i64 k) ∧ w'.cell? ⟨w.heap.size,3,none⟩ = some (.int .i64 t)) (first | with_reducible exact SA.out | exact HK.out _ (by repeat (first | with_reducible exact HB5.out | with_reducible exact Below.refl _ _ | refine Below.drew ?_ | refine Below.setCell ?_ (by first | omega | (simp <;> omega)) _ | refine Below.alloc ?_ (by first | omega | (simp <;> omega)) _))) ((go_at_call 46; refine (HE.out _).mono ?_; rintro e w5 ⟨rfl,hb5⟩; have HB5 : Hid (Below w2.heap.size w2 w5) := Below.trans (by repeat (first | exact Below.refl _ _ | refine Below.drew ?_ | refine Below.alloc ?_ (by first | omega | (simp <;> omega)) _)) (hb5.mono (by first | exact Nat.le_refl _ | (simp <;> omega))); have hs5 := HB5.out.size; clear hb5))
          all_goals (obtain ⟨p0,p1,p2,p3⟩ := HK.out _ HB5.out)
          all_goals (obtain ⟨⟨z0,z1,z2,z3⟩,z4,z5,z6,z7⟩ := tmp4 (HY.out.below HB5.out HY.out.lt))
          all_goals (have u0 := fun o => (HK.out (w5.alloc o) (HB5.out.alloc hs5 o)).1; have u1 := fun o => (HK.out (w5.alloc o) (HB5.out.alloc hs5 o)).2.1; have u2 := fun o => (HK.out (w5.alloc o) (HB5.out.alloc hs5 o)).2.2.1; have u3 := fun o => (HK.out (w5.alloc o) (HB5.out.alloc hs5 o)).2.2.2; have y0 := fun o => ((HY.out.below HB5.out HY.out.lt).alloc o).cell 0; have y1 := fun o => ((HY.out.below HB5.out HY.out.lt).alloc o).cell 1; have y2 := fun o => ((HY.out.below HB5.out HY.out.lt).alloc o).cell 2; have y3 := fun o => ((HY.out.below HB5.out HY.out.lt).alloc o).cell 3; have x0 := fun o => ((HY.out.below HB5.out HY.out.lt).alloc o).fz 0; have x1 := fun o => ((HY.out.below HB5.out HY.out.lt).alloc o).fz 1; have x2 := fun o => ((HY.out.below HB5.out HY.out.lt).alloc o).fz 2; have x3 := fun o => ((HY.out.below HB5.out HY.out.lt).alloc o).fz 3)
          all_goals go_wp2_with fail
          all_goals (obtain ⟨⟨r0,r1,r2,r3⟩,_⟩ := tmp4 (Whole.set4 ((HY.out.below HB5.out HY.out.lt).alloc (.cells #[.int .i64 a,.int .i64 (b - a),.int .i64 k,.int .i64 (t + a - f)] 59)) (.int .i64 a) (.int .i64 (b - a)) (.int .i64 k) (.int .i64 (t + a - f))); refine bodyPost_ret (v := .tuple #[.agg #[.int .i64 a,.int .i64 (b - a),.int .i64 k,.int .i64 (t + a - f)],.bool true]) (by simp [results,Tryz.results99,go_sem,r0,r1,r2,r3]) rfl ⟨rfl,?_⟩)
          all_goals (have HBW : Hid (Below w.heap.size w w5) := HB1.out.trans (HB5.out.mono HB1.out.size); have hsw := HBW.out.size; repeat (first | with_reducible exact HBW.out | refine Below.drew ?_ | refine Below.setCell ?_ (by first | omega | (simp <;> omega)) _ | refine Below.alloc ?_ (by first | omega | (simp <;> omega)) _))
        · have hk2 : (k == 2) = false := by simpa using hk
          have hv1 : wrap64 (b - a) = b - a := by unfold wrap64; omega
          have HPS : Hid (partOf ⟨f,n,k,t⟩ a b = some ⟨a,b - a,k,0⟩) := by show _ = _; rw [HP.out,if_neg (by omega),if_neg hk,show max f a = a by omega,show min en b = b by omega]
          rw [HPS.out]
          clear hk
          go_enter Tryz.func99,Tryz.ntmps99
          go_wp2_with fail
          go_region_held3 (fun w' => w'.cell? ⟨w.heap.size,0,none⟩ = some (.int .i64 f) ∧ w'.cell? ⟨w.heap.size,1,none⟩ = some (.int .i64 n) ∧ w'.cell? ⟨w.heap.size,2,none⟩ = some (.int .i64 k) ∧ w'.cell? ⟨w.heap.size,3,none⟩ = some (.int .i64 t)) (first | with_reducible exact SA.out | exact HK.out _ (by repeat (first | with_reducible exact HB5.out | with_reducible exact Below.refl _ _ | refine Below.drew ?_ | refine Below.setCell ?_ (by first | omega | (simp <;> omega)) _ | refine Below.alloc ?_ (by first | omega | (simp <;> omega)) _))) ((go_at_call 46; refine (HE.out _).mono ?_; rintro e w5 ⟨rfl,hb5⟩; have HB5 : Hid (Below w2.heap.size w2 w5) := Below.trans (by repeat (first | exact Below.refl _ _ | refine Below.drew ?_ | refine Below.alloc ?_ (by first | omega | (simp <;> omega)) _)) (hb5.mono (by first | exact Nat.le_refl _ | (simp <;> omega))); have hs5 := HB5.out.size; clear hb5))
          all_goals (obtain ⟨p0,p1,p2,p3⟩ := HK.out _ HB5.out)
          all_goals (obtain ⟨⟨z0,z1,z2,z3⟩,z4,z5,z6,z7⟩ := tmp4 (HY.out.below HB5.out HY.out.lt))
          all_goals (have u0 := fun o => (HK.out (w5.alloc o) (HB5.out.alloc hs5 o)).1; have u1 := fun o => (HK.out (w5.alloc o) (HB5.out.alloc hs5 o)).2.1; have u2 := fun o => (HK.out (w5.alloc o) (HB5.out.alloc hs5 o)).2.2.1; have u3 := fun o => (HK.out (w5.alloc o) (HB5.out.alloc hs5 o)).2.2.2; have y0 := fun o => ((HY.out.below HB5.out HY.out.lt).alloc o).cell 0; have y1 := fun o => ((HY.out.below HB5.out HY.out.lt).alloc o).cell 1; have y2 := fun o => ((HY.out.below HB5.out HY.out.lt).alloc o).cell 2; have y3 := fun o => ((HY.out.below HB5.out HY.out.lt).alloc o).cell 3; have x0 := fun o => ((HY.out.below HB5.out HY.out.lt).alloc o).fz 0; have x1 := fun o => ((HY.out.below HB5.out HY.out.lt).alloc o).fz 1; have x2 := fun o => ((HY.out.below HB5.out HY.out.lt).alloc o).fz 2; have x3 := fun o => ((HY.out.below HB5.out HY.out.lt).alloc o).fz 3)
          all_goals go_wp2_with fail
          all_goals (obtain ⟨⟨r0,r1,r2,r3⟩,_⟩ := tmp4 (Whole.set4 ((HY.out.below HB5.out HY.out.lt).alloc (.cells #[.int .i64 a,.int .i64 (b - a),.int .i64 k,.int .i64 0] 59)) (.int .i64 a) (.int .i64 (b - a)) (.int .i64 k) (.int .i64 0)); refine bodyPost_ret (v := .tuple #[.agg #[.int .i64 a,.int .i64 (b - a),.int .i64 k,.int .i64 0],.bool true]) (by simp [results,Tryz.results99,go_sem,r0,r1,r2,r3]) rfl ⟨rfl,?_⟩)
          all_goals (have HBW : Hid (Below w.heap.size w w5) := HB1.out.trans (HB5.out.mono HB1.out.size); have hsw := HBW.out.size; repeat (first | with_reducible exact HBW.out | refine Below.drew ?_ | refine Below.setCell ?_ (by first | omega | (simp <;> omega)) _ | refine Below.alloc ?_ (by first | omega | (simp <;> omega)) _))
    · skip
      by_cases h3 : en ≤ a
      · have HPN : Hid (partOf ⟨f,n,k,t⟩ a b = none) := by show _ = _; rw [HP.out,if_pos (by omega)]
        rw [HPN.out]
        go_enter Tryz.func99,Tryz.ntmps99
        go_wp2_with fail
        go_region_held3 (fun w' => w'.cell? ⟨w.heap.size,0,none⟩ = some (.int .i64 f) ∧ w'.cell? ⟨w.heap.size,1,none⟩ = some (.int .i64 n) ∧ w'.cell? ⟨w.heap.size,2,none⟩ = some (.int .i64 k) ∧ w'.cell? ⟨w.heap.size,3,none⟩ = some (.int .i64 t)) (first | with_reducible exact SA.out | exact HK.out _ (by repeat (first | with_reducible exact HB5.out | with_reducible exact Below.refl _ _ | refine Below.drew ?_ | refine Below.setCell ?_ (by first | omega | (simp <;> omega)) _ | refine Below.alloc ?_ (by first | omega | (simp <;> omega)) _))) ((go_at_call 46; refine (HE.out _).mono ?_; rintro e w5 ⟨rfl,hb5⟩; have HB5 : Hid (Below w2.heap.size w2 w5) := Below.trans (by repeat (first | exact Below.refl _ _ | refine Below.drew ?_ | refine Below.alloc ?_ (by first | omega | (simp <;> omega)) _)) (hb5.mono (by first | exact Nat.le_refl _ | (simp <;> omega))); have hs5 := HB5.out.size; clear hb5))
        all_goals (obtain ⟨p0,p1,p2,p3⟩ := HK.out _ HB5.out)
        all_goals (obtain ⟨⟨z0,z1,z2,z3⟩,z4,z5,z6,z7⟩ := tmp4 (HY.out.below HB5.out HY.out.lt))
        all_goals go_wp2_with fail
        all_goals (obtain ⟨⟨r0,r1,r2,r3⟩,_⟩ := tmp4 (Whole.set4 (HY.out.below HB5.out HY.out.lt) (.int .i64 0) (.int .i64 0) (.int .i64 0) (.int .i64 0)); refine bodyPost_ret (v := .tuple #[.agg #[.int .i64 0,.int .i64 0,.int .i64 0,.int .i64 0],.bool false]) (by simp [results,Tryz.results99,go_sem,r0,r1,r2,r3]) rfl ⟨rfl,?_⟩)
        all_goals (have HBW : Hid (Below w.heap.size w w5) := HB1.out.trans (HB5.out.mono HB1.out.size); have hsw := HBW.out.size; repeat (first | with_reducible exact HBW.out | refine Below.drew ?_ | refine Below.setCell ?_ (by first | omega | (simp <;> omega)) _ | refine Below.alloc ?_ (by first | omega | (simp <;> omega)) _))
      · by_cases hk : k = 2
        · have hk2 : (k == 2) = true := by simpa using hk
          have hv1 : wrap64 (en - a) = en - a := by unfold wrap64; omega
          have hv2 : wrap64 (t + a) = t + a := by have := K4.out; unfold wrap64; omega
          have hv3 : wrap64 (t + a - f) = t + a - f := by have := K4.out; unfold wrap64; omega
          have HPS : Hid (partOf ⟨f,n,k,t⟩ a b = some ⟨a,en - a,k,t + a - f⟩) := by show _ = _; rw [HP.out,if_neg (by omega),if_pos hk,show max f a = a by omega,show min en b = en by omega]
          rw [HPS.out]
          clear hk
          go_enter Tryz.func99,Tryz.ntmps99
          go_wp2_with fail
          go_region_held3 (fun w' => w'.cell? ⟨w.heap.size,0,none⟩ = some (.int .i64 f) ∧ w'.cell? ⟨w.heap.size,1,none⟩ = some (.int .i64 n) ∧ w'.cell? ⟨w.heap.size,2,none⟩ = some (.int .i64 k) ∧ w'.cell? ⟨w.heap.size,3,none⟩ = some (.int .i64 t)) (first | with_reducible exact SA.out | exact HK.out _ (by repeat (first | with_reducible exact HB5.out | with_reducible exact Below.refl _ _ | refine Below.drew ?_ | refine Below.setCell ?_ (by first | omega | (simp <;> omega)) _ | refine Below.alloc ?_ (by first | omega | (simp <;> omega)) _))) ((go_at_call 46; refine (HE.out _).mono ?_; rintro e w5 ⟨rfl,hb5⟩; have HB5 : Hid (Below w2.heap.size w2 w5) := Below.trans (by repeat (first | exact Below.refl _ _ | refine Below.drew ?_ | refine Below.alloc ?_ (by first | omega | (simp <;> omega)) _)) (hb5.mono (by first | exact Nat.le_refl _ | (simp <;> omega))); have hs5 := HB5.out.size; clear hb5))
          all_goals (obtain ⟨p0,p1,p2,p3⟩ := HK.out _ HB5.out)
          all_goals (obtain ⟨⟨z0,z1,z2,z3⟩,z4,z5,z6,z7⟩ := tmp4 (HY.out.below HB5.out HY.out.lt))
          all_goals (have u0 := fun o => (HK.out (w5.alloc o) (HB5.out.alloc hs5 o)).1; have u1 := fun o => (HK.out (w5.alloc o) (HB5.out.alloc hs5 o)).2.1; have u2 := fun o => (HK.out (w5.alloc o) (HB5.out.alloc hs5 o)).2.2.1; have u3 := fun o => (HK.out (w5.alloc o) (HB5.out.alloc hs5 o)).2.2.2; have y0 := fun o => ((HY.out.below HB5.out HY.out.lt).alloc o).cell 0; have y1 := fun o => ((HY.out.below HB5.out HY.out.lt).alloc o).cell 1; have y2 := fun o => ((HY.out.below HB5.out HY.out.lt).alloc o).cell 2; have y3 := fun o => ((HY.out.below HB5.out HY.out.lt).alloc o).cell 3; have x0 := fun o => ((HY.out.below HB5.out HY.out.lt).alloc o).fz 0; have x1 := fun o => ((HY.out.below HB5.out HY.out.lt).alloc o).fz 1; have x2 := fun o => ((HY.out.below HB5.out HY.out.lt).alloc o).fz 2; have x3 := fun o => ((HY.out.below HB5.out HY.out.lt).alloc o).fz 3)
          all_goals go_wp2_with fail
          all_goals (obtain ⟨⟨r0,r1,r2,r3⟩,_⟩ := tmp4 (Whole.set4 ((HY.out.below HB5.out HY.out.lt).alloc (.cells #[.int .i64 a,.int .i64 (en - a),.int .i64 k,.int .i64 (t + a - f)] 59)) (.int .i64 a) (.int .i64 (en - a)) (.int .i64 k) (.int .i64 (t + a - f))); refine bodyPost_ret (v := .tuple #[.agg #[.int .i64 a,.int .i64 (en - a),.int .i64 k,.int .i64 (t + a - f)],.bool true]) (by simp [results,Tryz.results99,go_sem,r0,r1,r2,r3]) rfl ⟨rfl,?_⟩)
          all_goals (have HBW : Hid (Below w.heap.size w w5) := HB1.out.trans (HB5.out.mono HB1.out.size); have hsw := HBW.out.size; repeat (first | with_reducible exact HBW.out | refine Below.drew ?_ | refine Below.setCell ?_ (by first | omega | (simp <;> omega)) _ | refine Below.alloc ?_ (by first | omega | (simp <;> omega)) _))
        · have hk2 : (k == 2) = false := by simpa using hk
          have hv1 : wrap64 (en - a) = en - a := by unfold wrap64; omega
          have HPS : Hid (partOf ⟨f,n,k,t⟩ a b = some ⟨a,en - a,k,0⟩) := by show _ = _; rw [HP.out,if_neg (by omega),if_neg hk,show max f a = a by omega,show min en b = en by omega]
          rw [HPS.out]
          clear hk
          go_enter Tryz.func99,Tryz.ntmps99
          go_wp2_with fail
          go_region_held3 (fun w' => w'.cell? ⟨w.heap.size,0,none⟩ = some (.int .i64 f) ∧ w'.cell? ⟨w.heap.size,1,none⟩ = some (.int .i64 n) ∧ w'.cell? ⟨w.heap.size,2,none⟩ = some (.int .i64 k) ∧ w'.cell? ⟨w.heap.size,3,none⟩ = some (.int .i64 t)) (first | with_reducible exact SA.out | exact HK.out _ (by repeat (first | with_reducible exact HB5.out | with_reducible exact Below.refl _ _ | refine Below.drew ?_ | refine Below.setCell ?_ (by first | omega | (simp <;> omega)) _ | refine Below.alloc ?_ (by first | omega | (simp <;> omega)) _))) ((go_at_call 46; refine (HE.out _).mono ?_; rintro e w5 ⟨rfl,hb5⟩; have HB5 : Hid (Below w2.heap.size w2 w5) := Below.trans (by repeat (first | exact Below.refl _ _ | refine Below.drew ?_ | refine Below.alloc ?_ (by first | omega | (simp <;> omega)) _)) (hb5.mono (by first | exact Nat.le_refl _ | (simp <;> omega))); have hs5 := HB5.out.size; clear hb5))
          all_goals (obtain ⟨p0,p1,p2,p3⟩ := HK.out _ HB5.out)
          all_goals (obtain ⟨⟨z0,z1,z2,z3⟩,z4,z5,z6,z7⟩ := tmp4 (HY.out.below HB5.out HY.out.lt))
          all_goals (have u0 := fun o => (HK.out (w5.alloc o) (HB5.out.alloc hs5 o)).1; have u1 := fun o => (HK.out (w5.alloc o) (HB5.out.alloc hs5 o)).2.1; have u2 := fun o => (HK.out (w5.alloc o) (HB5.out.alloc hs5 o)).2.2.1; have u3 := fun o => (HK.out (w5.alloc o) (HB5.out.alloc hs5 o)).2.2.2; have y0 := fun o => ((HY.out.below HB5.out HY.out.lt).alloc o).cell 0; have y1 := fun o => ((HY.out.below HB5.out HY.out.lt).alloc o).cell 1; have y2 := fun o => ((HY.out.below HB5.out HY.out.lt).alloc o).cell 2; have y3 := fun o => ((HY.out.below HB5.out HY.out.lt).alloc o).cell 3; have x0 := fun o => ((HY.out.below HB5.out HY.out.lt).alloc o).fz 0; have x1 := fun o => ((HY.out.below HB5.out HY.out.lt).alloc o).fz 1; have x2 := fun o => ((HY.out.below HB5.out HY.out.lt).alloc o).fz 2; have x3 := fun o => ((HY.out.below HB5.out HY.out.lt).alloc o).fz 3)
          all_goals go_wp2_with fail
          all_goals (obtain ⟨⟨r0,r1,r2,r3⟩,_⟩ := tmp4 (Whole.set4 ((HY.out.below HB5.out HY.out.lt).alloc (.cells #[.int .i64 a,.int .i64 (en - a),.int .i64 k,.int .i64 0] 59)) (.int .i64 a) (.int .i64 (en - a)) (.int .i64 k) (.int .i64 0)); refine bodyPost_ret (v := .tuple #[.agg #[.int .i64 a,.int .i64 (en - a),.int .i64 k,.int .i64 0],.bool true]) (by simp [results,Tryz.results99,go_sem,r0,r1,r2,r3]) rfl ⟨rfl,?_⟩)
          all_goals (have HBW : Hid (Below w.heap.size w w5) := HB1.out.trans (HB5.out.mono HB1.out.size); have hsw := HBW.out.size; repeat (first | with_reducible exact HBW.out | refine Below.drew ?_ | refine Below.setCell ?_ (by first | omega | (simp <;> omega)) _ | refine Below.alloc ?_ (by first | omega | (simp <;> omega)) _))
  · by_cases h2 : b < en
    · skip
      by_cases h3 : b ≤ f
      · have HPN : Hid (partOf ⟨f,n,k,t⟩ a b = none) := by show _ = _; rw [HP.out,if_pos (by omega)]
        rw [HPN.out]
        go_enter Tryz.func99,Tryz.ntmps99
        go_wp2_with fail
        go_region_held3 (fun w' => w'.cell? ⟨w.heap.size,0,none⟩ = some (.int .i64 f) ∧ w'.cell? ⟨w.heap.size,1,none⟩ = some (.int .i64 n) ∧ w'.cell? ⟨w.heap.size,2,none⟩ = some (.int .i64 k) ∧ w'.cell? ⟨w.heap.size,3,none⟩ = some (.int .i64 t)) (first | with_reducible exact SA.out | exact HK.out _ (by repeat (first | with_reducible exact HB5.out | with_reducible exact Below.refl _ _ | refine Below.drew ?_ | refine Below.setCell ?_ (by first | omega | (simp <;> omega)) _ | refine Below.alloc ?_ (by first | omega | (simp <;> omega)) _))) ((go_at_call 46; refine (HE.out _).mono ?_; rintro e w5 ⟨rfl,hb5⟩; have HB5 : Hid (Below w2.heap.size w2 w5) := Below.trans (by repeat (first | exact Below.refl _ _ | refine Below.drew ?_ | refine Below.alloc ?_ (by first | omega | (simp <;> omega)) _)) (hb5.mono (by first | exact Nat.le_refl _ | (simp <;> omega))); have hs5 := HB5.out.size; clear hb5))
        all_goals (obtain ⟨p0,p1,p2,p3⟩ := HK.out _ HB5.out)
        all_goals (obtain ⟨⟨z0,z1,z2,z3⟩,z4,z5,z6,z7⟩ := tmp4 (HY.out.below HB5.out HY.out.lt))
        all_goals go_wp2_with fail
        all_goals (obtain ⟨⟨r0,r1,r2,r3⟩,_⟩ := tmp4 (Whole.set4 (HY.out.below HB5.out HY.out.lt) (.int .i64 0) (.int .i64 0) (.int .i64 0) (.int .i64 0)); refine bodyPost_ret (v := .tuple #[.agg #[.int .i64 0,.int .i64 0,.int .i64 0,.int .i64 0],.bool false]) (by simp [results,Tryz.results99,go_sem,r0,r1,r2,r3]) rfl ⟨rfl,?_⟩)
        all_goals (have HBW : Hid (Below w.heap.size w w5) := HB1.out.trans (HB5.out.mono HB1.out.size); have hsw := HBW.out.size; repeat (first | with_reducible exact HBW.out | refine Below.drew ?_ | refine Below.setCell ?_ (by first | omega | (simp <;> omega)) _ | refine Below.alloc ?_ (by first | omega | (simp <;> omega)) _))
      · by_cases hk : k = 2
        · have hk2 : (k == 2) = true := by simpa using hk
          have hv1 : wrap64 (b - f) = b - f := by unfold wrap64; omega
          have hv2 : wrap64 (t + f) = t + f := by have := K4.out; unfold wrap64; omega
          have hv3 : wrap64 t = t := by have := K4.out; unfold wrap64; omega
          have HPS : Hid (partOf ⟨f,n,k,t⟩ a b = some ⟨f,b - f,k,t⟩) := by show _ = _; rw [HP.out,if_neg (by omega),if_pos hk,show max f a = f by omega,show min en b = b by omega,show t + f - f = t by omega]
          rw [HPS.out]
          clear hk
          go_enter Tryz.func99,Tryz.ntmps99
          go_wp2_with fail
          go_region_held3 (fun w' => w'.cell? ⟨w.heap.size,0,none⟩ = some (.int .i64 f) ∧ w'.cell? ⟨w.heap.size,1,none⟩ = some (.int .i64 n) ∧ w'.cell? ⟨w.heap.size,2,none⟩ = some (.int .i64 k) ∧ w'.cell? ⟨w.heap.size,3,none⟩ = some (.int .i64 t)) (first | with_reducible exact SA.out | exact HK.out _ (by repeat (first | with_reducible exact HB5.out | with_reducible exact Below.refl _ _ | refine Below.drew ?_ | refine Below.setCell ?_ (by first | omega | (simp <;> omega)) _ | refine Below.alloc ?_ (by first | omega | (simp <;> omega)) _))) ((go_at_call 46; refine (HE.out _).mono ?_; rintro e w5 ⟨rfl,hb5⟩; have HB5 : Hid (Below w2.heap.size w2 w5) := Below.trans (by repeat (first | exact Below.refl _ _ | refine Below.drew ?_ | refine Below.alloc ?_ (by first | omega | (simp <;> omega)) _)) (hb5.mono (by first | exact Nat.le_refl _ | (simp <;> omega))); have hs5 := HB5.out.size; clear hb5))
          all_goals (obtain ⟨p0,p1,p2,p3⟩ := HK.out _ HB5.out)
          all_goals (obtain ⟨⟨z0,z1,z2,z3⟩,z4,z5,z6,z7⟩ := tmp4 (HY.out.below HB5.out HY.out.lt))
          all_goals (have u0 := fun o => (HK.out (w5.alloc o) (HB5.out.alloc hs5 o)).1; have u1 := fun o => (HK.out (w5.alloc o) (HB5.out.alloc hs5 o)).2.1; have u2 := fun o => (HK.out (w5.alloc o) (HB5.out.alloc hs5 o)).2.2.1; have u3 := fun o => (HK.out (w5.alloc o) (HB5.out.alloc hs5 o)).2.2.2; have y0 := fun o => ((HY.out.below HB5.out HY.out.lt).alloc o).cell 0; have y1 := fun o => ((HY.out.below HB5.out HY.out.lt).alloc o).cell 1; have y2 := fun o => ((HY.out.below HB5.out HY.out.lt).alloc o).cell 2; have y3 := fun o => ((HY.out.below HB5.out HY.out.lt).alloc o).cell 3; have x0 := fun o => ((HY.out.below HB5.out HY.out.lt).alloc o).fz 0; have x1 := fun o => ((HY.out.below HB5.out HY.out.lt).alloc o).fz 1; have x2 := fun o => ((HY.out.below HB5.out HY.out.lt).alloc o).fz 2; have x3 := fun o => ((HY.out.below HB5.out HY.out.lt).alloc o).fz 3)
          all_goals go_wp2_with fail
          all_goals (obtain ⟨⟨r0,r1,r2,r3⟩,_⟩ := tmp4 (Whole.set4 ((HY.out.below HB5.out HY.out.lt).alloc (.cells #[.int .i64 f,.int .i64 (b - f),.int .i64 k,.int .i64 (t)] 59)) (.int .i64 f) (.int .i64 (b - f)) (.int .i64 k) (.int .i64 (t))); refine bodyPost_ret (v := .tuple #[.agg #[.int .i64 f,.int .i64 (b - f),.int .i64 k,.int .i64 (t)],.bool true]) (by simp [results,Tryz.results99,go_sem,r0,r1,r2,r3]) rfl ⟨rfl,?_⟩)
          all_goals (have HBW : Hid (Below w.heap.size w w5) := HB1.out.trans (HB5.out.mono HB1.out.size); have hsw := HBW.out.size; repeat (first | with_reducible exact HBW.out | refine Below.drew ?_ | refine Below.setCell ?_ (by first | omega | (simp <;> omega)) _ | refine Below.alloc ?_ (by first | omega | (simp <;> omega)) _))
        · have hk2 : (k == 2) = false := by simpa using hk
          have hv1 : wrap64 (b - f) = b - f := by unfold wrap64; omega
          have HPS : Hid (partOf ⟨f,n,k,t⟩ a b = some ⟨f,b - f,k,0⟩) := by show _ = _; rw [HP.out,if_neg (by omega),if_neg hk,show max f a = f by omega,show min en b = b by omega]
          rw [HPS.out]
          clear hk
          go_enter Tryz.func99,Tryz.ntmps99
          go_wp2_with fail
          go_region_held3 (fun w' => w'.cell? ⟨w.heap.size,0,none⟩ = some (.int .i64 f) ∧ w'.cell? ⟨w.heap.size,1,none⟩ = some (.int .i64 n) ∧ w'.cell? ⟨w.heap.size,2,none⟩ = some (.int .i64 k) ∧ w'.cell? ⟨w.heap.size,3,none⟩ = some (.int .i64 t)) (first | with_reducible exact SA.out | exact HK.out _ (by repeat (first | with_reducible exact HB5.out | with_reducible exact Below.refl _ _ | refine Below.drew ?_ | refine Below.setCell ?_ (by first | omega | (simp <;> omega)) _ | refine Below.alloc ?_ (by first | omega | (simp <;> omega)) _))) ((go_at_call 46; refine (HE.out _).mono ?_; rintro e w5 ⟨rfl,hb5⟩; have HB5 : Hid (Below w2.heap.size w2 w5) := Below.trans (by repeat (first | exact Below.refl _ _ | refine Below.drew ?_ | refine Below.alloc ?_ (by first | omega | (simp <;> omega)) _)) (hb5.mono (by first | exact Nat.le_refl _ | (simp <;> omega))); have hs5 := HB5.out.size; clear hb5))
          all_goals (obtain ⟨p0,p1,p2,p3⟩ := HK.out _ HB5.out)
          all_goals (obtain ⟨⟨z0,z1,z2,z3⟩,z4,z5,z6,z7⟩ := tmp4 (HY.out.below HB5.out HY.out.lt))
          all_goals (have u0 := fun o => (HK.out (w5.alloc o) (HB5.out.alloc hs5 o)).1; have u1 := fun o => (HK.out (w5.alloc o) (HB5.out.alloc hs5 o)).2.1; have u2 := fun o => (HK.out (w5.alloc o) (HB5.out.alloc hs5 o)).2.2.1; have u3 := fun o => (HK.out (w5.alloc o) (HB5.out.alloc hs5 o)).2.2.2; have y0 := fun o => ((HY.out.below HB5.out HY.out.lt).alloc o).cell 0; have y1 := fun o => ((HY.out.below HB5.out HY.out.lt).alloc o).cell 1; have y2 := fun o => ((HY.out.below HB5.out HY.out.lt).alloc o).cell 2; have y3 := fun o => ((HY.out.below HB5.out HY.out.lt).alloc o).cell 3; have x0 := fun o => ((HY.out.below HB5.out HY.out.lt).alloc o).fz 0; have x1 := fun o => ((HY.out.below HB5.out HY.out.lt).alloc o).fz 1; have x2 := fun o => ((HY.out.below HB5.out HY.out.lt).alloc o).fz 2; have x3 := fun o => ((HY.out.below HB5.out HY.out.lt).alloc o).fz 3)
          all_goals go_wp2_with fail
          all_goals (obtain ⟨⟨r0,r1,r2,r3⟩,_⟩ := tmp4 (Whole.set4 ((HY.out.below HB5.out HY.out.lt).alloc (.cells #[.int .i64 f,.int .i64 (b - f),.int .i64 k,.int .i64 0] 59)) (.int .i64 f) (.int .i64 (b - f)) (.int .i64 k) (.int .i64 0)); refine bodyPost_ret (v := .tuple #[.agg #[.int .i64 f,.int .i64 (b - f),.int .i64 k,.int .i64 0],.bool true]) (by simp [results,Tryz.results99,go_sem,r0,r1,r2,r3]) rfl ⟨rfl,?_⟩)
          all_goals (have HBW : Hid (Below w.heap.size w w5) := HB1.out.trans (HB5.out.mono HB1.out.size); have hsw := HBW.out.size; repeat (first | with_reducible exact HBW.out | refine Below.drew ?_ | refine Below.setCell ?_ (by first | omega | (simp <;> omega)) _ | refine Below.alloc ?_ (by first | omega | (simp <;> omega)) _))
    · skip
      by_cases h3 : en ≤ f
      · exact absurd h3 (by omega)
      · by_cases hk : k = 2
        · have hk2 : (k == 2) = true := by simpa using hk
          have hv1 : wrap64 (en - f) = en - f := by unfold wrap64; omega
          have hv2 : wrap64 (t + f) = t + f := by have := K4.out; unfold wrap64; omega
          have hv3 : wrap64 t = t := by have := K4.out; unfold wrap64; omega
          have HPS : Hid (partOf ⟨f,n,k,t⟩ a b = some ⟨f,en - f,k,t⟩) := by show _ = _; rw [HP.out,if_neg (by omega),if_pos hk,show max f a = f by omega,show min en b = en by omega,show t + f - f = t by omega]
          rw [HPS.out]
          clear hk
          go_enter Tryz.func99,Tryz.ntmps99
          go_wp2_with fail
          go_region_held3 (fun w' => w'.cell? ⟨w.heap.size,0,none⟩ = some (.int .i64 f) ∧ w'.cell? ⟨w.heap.size,1,none⟩ = some (.int .i64 n) ∧ w'.cell? ⟨w.heap.size,2,none⟩ = some (.int .i64 k) ∧ w'.cell? ⟨w.heap.size,3,none⟩ = some (.int .i64 t)) (first | with_reducible exact SA.out | exact HK.out _ (by repeat (first | with_reducible exact HB5.out | with_reducible exact Below.refl _ _ | refine Below.drew ?_ | refine Below.setCell ?_ (by first | omega | (simp <;> omega)) _ | refine Below.alloc ?_ (by first | omega | (simp <;> omega)) _))) ((go_at_call 46; refine (HE.out _).mono ?_; rintro e w5 ⟨rfl,hb5⟩; have HB5 : Hid (Below w2.heap.size w2 w5) := Below.trans (by repeat (first | exact Below.refl _ _ | refine Below.drew ?_ | refine Below.alloc ?_ (by first | omega | (simp <;> omega)) _)) (hb5.mono (by first | exact Nat.le_refl _ | (simp <;> omega))); have hs5 := HB5.out.size; clear hb5))
          all_goals (obtain ⟨p0,p1,p2,p3⟩ := HK.out _ HB5.out)
          all_goals (obtain ⟨⟨z0,z1,z2,z3⟩,z4,z5,z6,z7⟩ := tmp4 (HY.out.below HB5.out HY.out.lt))
          all_goals (have u0 := fun o => (HK.out (w5.alloc o) (HB5.out.alloc hs5 o)).1; have u1 := fun o => (HK.out (w5.alloc o) (HB5.out.alloc hs5 o)).2.1; have u2 := fun o => (HK.out (w5.alloc o) (HB5.out.alloc hs5 o)).2.2.1; have u3 := fun o => (HK.out (w5.alloc o) (HB5.out.alloc hs5 o)).2.2.2; have y0 := fun o => ((HY.out.below HB5.out HY.out.lt).alloc o).cell 0; have y1 := fun o => ((HY.out.below HB5.out HY.out.lt).alloc o).cell 1; have y2 := fun o => ((HY.out.below HB5.out HY.out.lt).alloc o).cell 2; have y3 := fun o => ((HY.out.below HB5.out HY.out.lt).alloc o).cell 3; have x0 := fun o => ((HY.out.below HB5.out HY.out.lt).alloc o).fz 0; have x1 := fun o => ((HY.out.below HB5.out HY.out.lt).alloc o).fz 1; have x2 := fun o => ((HY.out.below HB5.out HY.out.lt).alloc o).fz 2; have x3 := fun o => ((HY.out.below HB5.out HY.out.lt).alloc o).fz 3)
          all_goals go_wp2_with fail
          all_goals (obtain ⟨⟨r0,r1,r2,r3⟩,_⟩ := tmp4 (Whole.set4 ((HY.out.below HB5.out HY.out.lt).alloc (.cells #[.int .i64 f,.int .i64 (en - f),.int .i64 k,.int .i64 (t)] 59)) (.int .i64 f) (.int .i64 (en - f)) (.int .i64 k) (.int .i64 (t))); refine bodyPost_ret (v := .tuple #[.agg #[.int .i64 f,.int .i64 (en - f),.int .i64 k,.int .i64 (t)],.bool true]) (by simp [results,Tryz.results99,go_sem,r0,r1,r2,r3]) rfl ⟨rfl,?_⟩)
          all_goals (have HBW : Hid (Below w.heap.size w w5) := HB1.out.trans (HB5.out.mono HB1.out.size); have hsw := HBW.out.size; repeat (first | with_reducible exact HBW.out | refine Below.drew ?_ | refine Below.setCell ?_ (by first | omega | (simp <;> omega)) _ | refine Below.alloc ?_ (by first | omega | (simp <;> omega)) _))
        · have hk2 : (k == 2) = false := by simpa using hk
          have hv1 : wrap64 (en - f) = en - f := by unfold wrap64; omega
          have HPS : Hid (partOf ⟨f,n,k,t⟩ a b = some ⟨f,en - f,k,0⟩) := by show _ = _; rw [HP.out,if_neg (by omega),if_neg hk,show max f a = f by omega,show min en b = en by omega]
          rw [HPS.out]
          clear hk
          go_enter Tryz.func99,Tryz.ntmps99
          go_wp2_with fail
          go_region_held3 (fun w' => w'.cell? ⟨w.heap.size,0,none⟩ = some (.int .i64 f) ∧ w'.cell? ⟨w.heap.size,1,none⟩ = some (.int .i64 n) ∧ w'.cell? ⟨w.heap.size,2,none⟩ = some (.int .i64 k) ∧ w'.cell? ⟨w.heap.size,3,none⟩ = some (.int .i64 t)) (first | with_reducible exact SA.out | exact HK.out _ (by repeat (first | with_reducible exact HB5.out | with_reducible exact Below.refl _ _ | refine Below.drew ?_ | refine Below.setCell ?_ (by first | omega | (simp <;> omega)) _ | refine Below.alloc ?_ (by first | omega | (simp <;> omega)) _))) ((go_at_call 46; refine (HE.out _).mono ?_; rintro e w5 ⟨rfl,hb5⟩; have HB5 : Hid (Below w2.heap.size w2 w5) := Below.trans (by repeat (first | exact Below.refl _ _ | refine Below.drew ?_ | refine Below.alloc ?_ (by first | omega | (simp <;> omega)) _)) (hb5.mono (by first | exact Nat.le_refl _ | (simp <;> omega))); have hs5 := HB5.out.size; clear hb5))
          all_goals (obtain ⟨p0,p1,p2,p3⟩ := HK.out _ HB5.out)
          all_goals (obtain ⟨⟨z0,z1,z2,z3⟩,z4,z5,z6,z7⟩ := tmp4 (HY.out.below HB5.out HY.out.lt))
          all_goals (have u0 := fun o => (HK.out (w5.alloc o) (HB5.out.alloc hs5 o)).1; have u1 := fun o => (HK.out (w5.alloc o) (HB5.out.alloc hs5 o)).2.1; have u2 := fun o => (HK.out (w5.alloc o) (HB5.out.alloc hs5 o)).2.2.1; have u3 := fun o => (HK.out (w5.alloc o) (HB5.out.alloc hs5 o)).2.2.2; have y0 := fun o => ((HY.out.below HB5.out HY.out.lt).alloc o).cell 0; have y1 := fun o => ((HY.out.below HB5.out HY.out.lt).alloc o).cell 1; have y2 := fun o => ((HY.out.below HB5.out HY.out.lt).alloc o).cell 2; have y3 := fun o => ((HY.out.below HB5.out HY.out.lt).alloc o).cell 3; have x0 := fun o => ((HY.out.below HB5.out HY.out.lt).alloc o).fz 0; have x1 := fun o => ((HY.out.below HB5.out HY.out.lt).alloc o).fz 1; have x2 := fun o => ((HY.out.below HB5.out HY.out.lt).alloc o).fz 2; have x3 := fun o => ((HY.out.below HB5.out HY.out.lt).alloc o).fz 3)
          all_goals go_wp2_with fail
          all_goals (obtain ⟨⟨r0,r1,r2,r3⟩,_⟩ := tmp4 (Whole.set4 ((HY.out.below HB5.out HY.out.lt).alloc (.cells #[.int .i64 f,.int .i64 (en - f),.int .i64 k,.int .i64 0] 59)) (.int .i64 f) (.int .i64 (en - f)) (.int .i64 k) (.int .i64 0)); refine bodyPost_ret (v := .tuple #[.agg #[.int .i64 f,.int .i64 (en - f),.int .i64 k,.int .i64 0],.bool true]) (by simp [results,Tryz.results99,go_sem,r0,r1,r2,r3]) rfl ⟨rfl,?_⟩)
          all_goals (have HBW : Hid (Below w.heap.size w w5) := HB1.out.trans (HB5.out.mono HB1.out.size); have hsw := HBW.out.size; repeat (first | with_reducible exact HBW.out | refine Below.drew ?_ | refine Below.setCell ?_ (by first | omega | (simp <;> omega)) _ | refine Below.alloc ?_ (by first | omega | (simp <;> omega)) _))
end Go.Proofs.YtneammhkgmkkfaaGreatDoor.tr
