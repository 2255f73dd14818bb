/- A part of the proof. -/
import Derived.Test.YtneammhkgmkkfaaGreatDoorQTyMa
import Derived.Deep.AppendSrc
import Derived.Laws.Externs
import Derived.Laws.NewBlocks
import Derived.Lib.AppendZerosOnto
import Derived.Lib.Overlaps
namespace Go.Proofs.YtneammhkgmkkfaaGreatDoor.tr
open Go.RowKit Go.Proofs.YtneammhkgmkkfaaGreatDoor.er
set_option linter.unusedVariables false
set_option linter.unusedSimpArgs false
theorem run_copyK {P : Program} (w : World) (dT sT ty elem : TypeId) (i : TypeInfo) (k : Nat) (b o dLen dCap : Nat) (a : Addr) (sLen sCap : Nat) (m : Nat) (cs : List Value)
    (hu : P.underlying dT = some (.slice elem)) (hi : P.info? elem = some i) (hk : i.size = k) (hm : Nat.min sLen dLen = m) (hn : cs.length = m * k)
    (hsrc : ∀ j v,cs[j]? = some v → w.cell? (a.add j) = some v) (hc : ∀ j,j < cs.length → (w.cell? ⟨b,o + j,none⟩).isSome = true) (hf : ∀ j,j < cs.length → w.frozen? ⟨b,o + j,none⟩ = false) (h1 : ∀ v ∈ cs,v.oneCell' = true) :
    (Builtin.copy_ #[dT,sT] ty #[.slice (some ⟨b,o,none⟩) dLen dCap,.slice (some a) sLen sCap]).run P w = .ok (goInt m) (w.setCells b o cs) := by
  have hl := run_loadCells_list (P := P) w a cs hsrc
  have hst := run_storeCells_cells (P := P) b o cs 0 w (by simpa using hc) (by simpa using hf) h1
  simp [Builtin.copy_,run_underlying hu,Builtin.lenOf,Builtin.firstCells,sizeOf,typeInfo,hi,hk,hm,← hn,hl,hst]
theorem step_copyK {P : Program} {ops : Array Oper} {o : Oper} {a : Act} {w : World} {K : Act → World → Prop} {Q : Exit → Act → World → Prop} {E : Prop}
    (hg : o.guard = none) (d x : Operand) (dT sT : TypeId) (hop : o.op = Op.call { callee := Callee.builtin Builtin.copy,args := #[d,x],argTypes := #[dT,sT] })
    (v u : Value) (hd : a.eval d = v) (hx : a.eval x = u) {v' : Value} {w' : World} (hr : (Builtin.copy_ #[dT,sT] o.type #[v,u]).run P w = .ok v' w') (hK : K (a.put o.dst v') w') :
    if Region.wanted o (yielded ops a.tmps) = true then Oper.wp P o a w K Q else E := by
  have hw : Region.wanted o (yielded ops a.tmps) = true := by simp [Region.wanted,hg]
  rw [if_pos hw]
  unfold Oper.wp
  simp [execOp,hop,resolve,invoke,builtin,hd,hx,hr,Result.andThen]
  exact hK
structure LaidIn (cs : Array Value) (o : Nat) (vs : List Value) (cs' : Array Value) : Prop where
  size : cs'.size = cs.size
  front : ∀ j,j < o → cs'[j]? = cs[j]?
  mid : ∀ j,j < vs.length → o + j < cs.size → cs'[o + j]? = vs[j]?
  back : ∀ j,o + vs.length ≤ j → cs'[j]? = cs[j]?
theorem whole_setCells {g : Nat} {t : TypeId} : ∀ (vs : List Value) (o : Nat) (w : World) (cs : Array Value),Whole w g t cs → ∃ cs',Whole (w.setCells g o vs) g t cs' ∧ LaidIn cs o vs cs'
  | [],o,w,cs,h => ⟨cs,h,rfl,fun _ _ => rfl,fun j hj => by simp at hj,fun _ _ => rfl⟩
  | v :: r,o,w,cs,h => by
    obtain ⟨cs',h1,h2,h3,h4,h5⟩ := whole_setCells r (o + 1) (w.setCell ⟨g,o,none⟩ v) _ (h.set o v)
    rw [World.setCells]
    refine ⟨cs',h1,by rw [h2]; simp,fun j hj => ?_,fun j hj hl => ?_,fun j hj => ?_⟩
    · rw [h3 j (by omega),Array.getElem?_setIfInBounds_ne (by omega)]
    · cases j with
      | zero =>
        rw [h3 (o + 0) (by omega)]
        simp at hl
        simp [hl]
      | succ j =>
        have := h4 j (by simpa using hj) (by simp; omega)
        rw [show o + (j + 1) = o + 1 + j by omega,this]
        simp
    · rw [h5 j (by simp at hj ⊢; omega),Array.getElem?_setIfInBounds_ne (by simp at hj; omega)]
theorem keep_setCells {G : Nat → Prop} {g : Nat} : ∀ (vs : List Value) (o : Nat) (a w : World),Keep G a w → (G g ∨ a.heap.size ≤ g) → Keep G a (w.setCells g o vs)
  | [],o,a,w,h,_ => h
  | v :: r,o,a,w,h,hg => keep_setCells r (o + 1) a _ (h.setCell (p := ⟨g,o,none⟩) hg v) hg
theorem Row.of {w : World} {g c k : Nat} {t : TypeId} {xs : List Value} {cs : Array Value} (h : Whole w g t cs) (h1 : c * k ≤ cs.size) (h2 : c ≤ maxLen) (h3 : xs.length ≤ c * k) (h4 : ∀ j,j < xs.length → cs[j]? = xs[j]?) : Row w g c k t xs := by
  refine ⟨⟨cs,h,h1,?_⟩,h2,h3⟩
  refine List.ext_getElem? fun j => ?_
  rw [List.getElem?_take]
  by_cases hj : j < xs.length
  · rw [if_pos hj,← h4 j hj]; simp
  · rw [if_neg hj,List.getElem?_eq_none (by omega)]
theorem row_mid {cs cs1 cs2 : Array Value} {xs ys : List Value} {o : Nat} (ho : o ≤ xs.length) (h0 : cs.toList.take xs.length = xs) (h1 : LaidIn cs (o + ys.length) (xs.drop o) cs1) (h2 : LaidIn cs1 o ys cs2) (hs : xs.length + ys.length ≤ cs.size) :
    ∀ j,j < (xs.take o ++ ys ++ xs.drop o).length → cs2[j]? = (xs.take o ++ ys ++ xs.drop o)[j]? := by
  intro j hj
  have hto : (xs.take o).length = o := by rw [List.length_take]; omega
  have hdl : (xs.drop o).length = xs.length - o := List.length_drop
  by_cases a : j < o
  · rw [h2.front j a,h1.front j (by omega),List.append_assoc,List.getElem?_append_left (by omega),List.getElem?_take_of_lt a]
    have : (cs.toList.take xs.length)[j]? = xs[j]? := by rw [h0]
    rw [List.getElem?_take_of_lt (by omega)] at this
    simpa using this
  · by_cases b : j < o + ys.length
    · obtain ⟨d,rfl⟩ : ∃ d,j = o + d := ⟨j - o,by omega⟩
      rw [h2.mid d (by omega) (by rw [h1.size]; omega),List.append_assoc,List.getElem?_append_right (by omega),hto,List.getElem?_append_left (by omega)]
      congr 1; omega
    · obtain ⟨d,rfl⟩ : ∃ d,j = o + ys.length + d := ⟨j - (o + ys.length),by omega⟩
      have hd : d < (xs.drop o).length := by simp at hj; omega
      rw [h2.back _ (by omega),h1.mid d hd (by omega),List.getElem?_append_right (by rw [List.length_append,hto]; omega)]
      congr 1
      rw [List.length_append,hto]; omega
def InsRet (T : TypeId) (k g n : Nat) (ys : List Value) (w : World) (e : Ending) (w' : World) : Prop := ∃ g' c',e = .returned (.slice (some ⟨g',0,none⟩) (n + 1) c') ∧ Row w' g' c' k T ys ∧ Keep (fun b => b = g) w w' ∧ (g' = g ∨ w.heap.size ≤ g')
theorem ins_place {T : TypeId} {k g c n i : Nat} {xs ys : List Value} {w w1 : World} (h : Row w g c k T xs) (hn : xs.length = n * k) (hy : ys.length = 1 * k) (hi : i ≤ n) (hc : n + 1 ≤ c) (hw : w1.heap = w.heap ∧ w1.os = w.os ∧ w1.tape = w.tape ∧ w1.output = w.output) :
    InsRet T k g n (xs.take (i * k) ++ ys ++ xs.drop (i * k)) w (.returned (.slice (some ⟨g,0,none⟩) (n + 1) c)) ((w1.setCells g ((i + 1) * k) (xs.drop (i * k))).setCells g (i * k) ys) := by
  obtain ⟨cs,hb,h1,h2⟩ := h.blk
  have hb1 : Whole w1 g T cs := by unfold Whole at hb ⊢; rw [hw.1]; exact hb
  obtain ⟨cs1,hb2,hl1⟩ := whole_setCells (xs.drop (i * k)) ((i + 1) * k) w1 cs hb1
  obtain ⟨cs2,hb3,hl2⟩ := whole_setCells ys (i * k) _ cs1 hb2
  have hik : i * k ≤ n * k := Nat.mul_le_mul_right k hi
  have hck : (n + 1) * k ≤ c * k := Nat.mul_le_mul_right k hc
  rw [Nat.add_mul] at hck
  have e1 : (i + 1) * k = i * k + ys.length := by rw [Nat.add_mul,hy]
  rw [e1] at hl1
  have hm := row_mid (o := i * k) (by omega) h2 hl1 hl2 (by omega)
  have hk1 : Keep (fun b => b = g) w w1 := ⟨hw.2.1,hw.2.2.1,hw.2.2.2,by rw [hw.1]; exact Nat.le_refl _,fun j _ _ => by rw [hw.1]⟩
  refine ⟨g,c,rfl,Row.of hb3 (by rw [hl2.size,hl1.size]; exact h1) h.cap ?_ hm,keep_setCells _ _ _ _ (keep_setCells _ _ _ _ hk1 (.inl rfl)) (.inl rfl),.inl rfl⟩
  simp only [List.length_append,List.length_take,List.length_drop]
  omega
end Go.Proofs.YtneammhkgmkkfaaGreatDoor.tr
namespace Go.Proofs.YtneammhkgmkkfaaGreatDoor.tr
open Go.RowKit Go.Proofs.YtneammhkgmkkfaaGreatDoor.er
set_option linter.unusedVariables false
set_option linter.unusedSimpArgs false
theorem ins_new {T : TypeId} {k g n i G H : Nat} {xs ys : List Value} {w W1 : World} {R : Array Value} (hW : Whole W1 H T R) (hH : w.heap.size ≤ H) (hb : Below w.heap.size w W1) (hs : R.size = G * k) (hn : xs.length = n * k) (hy : ys.length = 1 * k) (hi : i ≤ n) (hG : n + 1 ≤ G) (hGm : G ≤ maxLen)
    (hf : ∀ j,j < i * k → R[j]? = xs[j]?) (W2 W3 : World) (h2 : W2 = (W1.setCells H (i * k) ys).drew) (h3 : W3 = W2.setCells H ((i + 1) * k) (xs.drop (i * k))) :
    InsRet T k g n (xs.take (i * k) ++ ys ++ xs.drop (i * k)) w (.returned (.slice (some ⟨H,0,none⟩) (n + 1) G)) W3 := by
  subst h2 h3
  obtain ⟨R1,hb1,hl1⟩ := whole_setCells ys (i * k) W1 R hW
  have hb1' : Whole (W1.setCells H (i * k) ys).drew H T R1 := hb1
  obtain ⟨R2,hb2,hl2⟩ := whole_setCells (xs.drop (i * k)) ((i + 1) * k) _ R1 hb1'
  have hik : i * k ≤ n * k := Nat.mul_le_mul_right k hi
  have hGk : (n + 1) * k ≤ G * k := Nat.mul_le_mul_right k hG
  rw [Nat.add_mul] at hGk
  have e1 : (i + 1) * k = i * k + ys.length := by rw [Nat.add_mul,hy]
  rw [e1] at hl2
  have hkp : Keep (fun b => b = g) w W1 := ⟨hb.os,hb.tape,hb.output,hb.size,fun j hj _ => hb.block j hj⟩
  refine ⟨H,G,rfl,Row.of hb2 (by rw [hl2.size,hl1.size,hs]; exact Nat.le_refl _) hGm ?_ ?_,keep_setCells _ _ _ _ (Keep.drew (keep_setCells _ _ _ _ hkp (.inr hH))) (.inr hH),.inr hH⟩
  · simp only [List.length_append,List.length_take,List.length_drop]; omega
  · intro j hj
    have hto : (xs.take (i * k)).length = i * k := by rw [List.length_take]; omega
    have hdl : (xs.drop (i * k)).length = xs.length - i * k := List.length_drop
    by_cases a : j < i * k
    · rw [hl2.front j (by omega),hl1.front j a,hf j a,List.append_assoc,List.getElem?_append_left (by omega),List.getElem?_take_of_lt a]
    · by_cases b : j < i * k + ys.length
      · obtain ⟨d,rfl⟩ : ∃ d,j = i * k + d := ⟨j - i * k,by omega⟩
        rw [hl2.front _ (by omega),hl1.mid d (by omega) (by omega),List.append_assoc,List.getElem?_append_right (by omega),hto,List.getElem?_append_left (by omega)]
        congr 1; omega
      · obtain ⟨d,rfl⟩ : ∃ d,j = i * k + ys.length + d := ⟨j - (i * k + ys.length),by omega⟩
        have hd : d < (xs.drop (i * k)).length := by simp at hj; omega
        rw [hl2.mid d hd (by rw [hl1.size]; omega),List.getElem?_append_right (by rw [List.length_append,hto]; omega)]
        congr 1
        rw [List.length_append,hto]; omega
theorem ins_end {T : TypeId} {k g n G H : Nat} {xs ys : List Value} {w W1 : World} {R : Array Value} (hW : Whole W1 H T R) (hH : w.heap.size ≤ H) (hb : Below w.heap.size w W1) (hs : R.size = G * k) (hn : xs.length = n * k) (hy : ys.length = 1 * k) (hG : n + 1 ≤ G) (hGm : G ≤ maxLen)
    (hf : ∀ j,j < (xs ++ ys).length → R[j]? = (xs ++ ys)[j]?) :
    InsRet T k g n (xs.take (n * k) ++ ys ++ xs.drop (n * k)) w (.returned (.slice (some ⟨H,0,none⟩) (n + 1) G)) W1 := by
  rw [List.take_of_length_le (by omega),List.drop_of_length_le (by omega),List.append_nil]
  have hGk : (n + 1) * k ≤ G * k := Nat.mul_le_mul_right k hG
  rw [Nat.add_mul] at hGk
  exact ⟨H,G,rfl,Row.of hW (by omega) hGm (by rw [List.length_append]; omega) hf,⟨hb.os,hb.tape,hb.output,hb.size,fun j hj _ => hb.block j hj⟩,.inr hH⟩
theorem wh_shape {w : World} {g : Nat} {t : TypeId} {cs : Array Value} (h : Whole w g t cs) : w.shape? g = some (t,cs.size) := by
  unfold Whole at h
  simp [World.shape?,h]
set_option maxHeartbeats 4000000 in
set_option maxRecDepth 100000 in
theorem insShiftE (n c g i vb : Nat) (xs ys : List Value) (w : World) (h : Row w g c 4 59 xs) (hn : xs.length = n * 4) (hi : i < n) (hm : n ≤ 1000) (hroom : n + 1 ≤ c) (hv : Whole w vb 59 ys.toArray) (hy : ys.length = 1 * 4) (hne : vb ≠ g) (h1x : ∀ u ∈ xs,u.oneCell' = true) (h1y : ∀ u ∈ ys,u.oneCell' = true) :
    Calls Tryz.prog 128 #[.slice (some ⟨g,0,none⟩) n c,.int .i64 i,.slice (some ⟨vb,0,none⟩) 1 1] w (InsRet 59 4 g n (xs.take (i * 4) ++ ys ++ xs.drop (i * 4)) w) := by
  obtain ⟨i0,hi0,hz0,hz1,hz2⟩ := info_parts infoE
  have hsE : ∀ w,(sizeOf 59).run Tryz.prog w = .ok 4 w := fun w => by simp [sizeOf,typeInfo,hi0,hz1]
  have hcm := h.cap
  unfold maxLen at hcm
  have hgs : ∃ tB kB,w.shape? g = some (tB,kB) ∧ kB ≠ 0 := by
    obtain ⟨cs,hb,h1,h2⟩ := h.blk
    exact ⟨_,_,wh_shape hb,by have := Nat.mul_le_mul_right 4 hroom; omega⟩
  obtain ⟨tB,kB,hsb,hkB⟩ := hgs
  have hov : ∀ lb cb,(callFunc 151 #[.slice (some ⟨vb,0,none⟩) 1 1,.slice (some ⟨g,(i + 1) * 4,none⟩) lb cb]).run Tryz.prog w = .ok (.value (.bool false)) w := fun lb cb => by
    rw [run_callFunc_extern Tryz.func151 (by kernel_rfl) (by kernel_rfl) (by kernel_rfl) (e := Extern.SlicesOverlaps.overlaps #[71,71] #[4]) (by kernel_rfl),
      Lib.run_overlaps_apart w 71 4 59 Tryz.underlying71 4 hsE ⟨vb,0,none⟩ ⟨g,(i + 1) * 4,none⟩ 1 1 lb cb hne _ _ _ _ (wh_shape hv) hsb hkB (hv.fz 0) (hv.fz _)]
    rfl
  have hvs : ∀ j v,ys[j]? = some v → w.cell? ⟨vb,0 + j,none⟩ = some v := fun j v hj => by rw [Nat.zero_add,hv.cell]; simpa using hj
  have hck : (n + 1) * 4 ≤ c * 4 := Nat.mul_le_mul_right 4 hroom
  have hrm : ∀ j,j < (n + 1) * 4 → (w.cell? ⟨g,j,none⟩).isSome = true := fun j hj => h.room (by omega)
  have hdl : (xs.drop (i * 4)).length = (n - i) * 4 := by rw [List.length_drop,hn,Nat.sub_mul]
  have hik : (n - i) * 4 = n * 4 - i * 4 := Nat.sub_mul _ _ _
  have hik2 : (i + 1) * 4 = i * 4 + 4 := Nat.succ_mul _ _
  have hik3 : (n + 1) * 4 = n * 4 + 4 := Nat.succ_mul _ _
  have hik4 : i * 4 + 4 ≤ n * 4 := by rw [← Nat.succ_mul]; exact Nat.mul_le_mul_right 4 hi
  have hcp1 : ∀ ty dc sc,(Builtin.copy_ #[71,71] ty #[.slice (some ⟨g,(i + 1) * 4,none⟩) (n - i) dc,.slice (some ⟨g,i * 4,none⟩) (n + 1 - i) sc]).run Tryz.prog w.drew = .ok (goInt ((n - i : Nat) : Int)) (w.drew.setCells g ((i + 1) * 4) (xs.drop (i * 4))) := fun ty dc sc =>
    run_copyK w.drew _ _ ty 59 i0 4 g ((i + 1) * 4) (n - i) dc ⟨g,i * 4,none⟩ (n + 1 - i) sc (n - i) (xs.drop (i * 4)) Tryz.underlying71 hi0 hz1 (by simp only [Nat.min_def]; split <;> omega) hdl
      (fun j v hj => by rw [Addr.add_lit]; rw [List.getElem?_drop] at hj; have := h.cell hj; (try rw [Nat.mul_one] at this); exact this)
      (fun j hj => hrm _ (by omega)) (fun j _ => h.fz _) (fun v hv => h1x v (List.mem_of_mem_drop hv))
  obtain ⟨W1,hW1⟩ : ∃ W1,W1 = w.drew.setCells g ((i + 1) * 4) (xs.drop (i * 4)) := ⟨_,rfl⟩
  have hsp1 : ∀ k,k < (n + 1) * 4 → (W1.cell? ⟨g,k,none⟩).isSome = true := fun q hq => by
    rw [hW1]
    by_cases hin : (i + 1) * 4 ≤ q ∧ q < (i + 1) * 4 + (xs.drop (i * 4)).length
    · have := World.cell?_setCells_in g (xs.drop (i * 4)) ((i + 1) * 4) w.drew (fun j hj => hrm _ (by omega)) (q - ((i + 1) * 4)) (by omega)
      rw [show (i + 1) * 4 + (q - ((i + 1) * 4)) = q by omega] at this
      rw [this]; rfl
    · rw [World.cell?_setCells_out g _ _ w.drew ⟨g,q,none⟩ (fun _ _ => by show q < (i + 1) * 4 ∨ (i + 1) * 4 + _ ≤ q; omega)]
      exact hrm q hq
  have hcp2 : ∀ (W : World),(∀ x,W.cell? x = W1.cell? x) → (∀ x,W.frozen? x = W1.frozen? x) → ∀ ty dc,(Builtin.copy_ #[71,71] ty #[.slice (some ⟨g,i * 4,none⟩) (n + 1 - i) dc,.slice (some ⟨vb,0,none⟩) 1 1]).run Tryz.prog W = .ok (goInt 1) (W.setCells g (i * 4) ys) := fun W hWc hWf ty dc =>
    run_copyK W _ _ ty 59 i0 4 g (i * 4) (n + 1 - i) dc ⟨vb,0,none⟩ 1 1 1 ys Tryz.underlying71 hi0 hz1 (by simp only [Nat.min_def]; split <;> omega) hy
      (fun j v hj => by
        rw [Addr.add_lit,hWc,hW1,World.cell?_setCells_out g _ _ _ _ (fun h _ => absurd h hne)]
        exact hvs j v hj)
      (fun j hj => by rw [hWc]; exact hsp1 _ (by omega)) (fun j hj => by rw [hWf,hW1,World.frozen?_setCells]; exact h.fz _) h1y
  have HFIN : Hid (InsRet 59 4 g n (xs.take (i * 4) ++ ys ++ xs.drop (i * 4)) w (.returned (.slice (some ⟨g,0,none⟩) (n + 1) c)) (W1.setCells g (i * 4) ys)) := by
    rw [hW1]
    have := ins_place (i := i) (w1 := w.drew) h hn hy (by omega) hroom ⟨rfl,rfl,rfl,rfl⟩
    (try simp only [Nat.mul_one] at this); (try simp only [Nat.mul_one])
    exact this
  obtain ⟨L,hL⟩ : ∃ L,xs.take (i * 4) ++ ys ++ xs.drop (i * 4) = L := ⟨_,rfl⟩
  rw [hL] at HFIN ⊢
  rw [← hW1] at hcp1
  have HCP1 := Lib.hid hcp1
  have HCP2 := Lib.hid (hcp2 W1 (fun _ => rfl) (fun _ => rfl))
  have hz2 : ¬ ((i : Int) = (n : Int)) := by omega
  have hb1 : (0 : Int) ≤ (i : Int) + 1 := by omega
  have hw1 : IntKind.i64.wrap ((i : Int) + 1) = (i : Int) + 1 := by rw [IntKind.wrap_i64]; omega
  have hin : i ≤ n := by omega
  have htn : ((i : Int) + 1).toNat = i + 1 := by omega
  have hb2 : ¬ (c = i + 1) := by omega
  have hb3 : (i : Int) ≤ (n : Int) + 1 := by omega
  have hb4 : ¬ (c = i) := by omega
  have hb5 : (n : Int) + 1 ≤ (c : Int) := by omega
  clear hL h hn hv hy h1x h1y hcp1 hcp2 hsp1 hW1 hdl hik hik2 hik3 hik4 hrm hck hvs hsb hkB hi0 hz0 hz1 hz2 hsE
  go_enter Tryz.func128,Tryz.ntmps128
  go_wp2_with (simp only [hov])
  clear hov
  go_region_law (refine step_copyK rfl (.tmp 73) (.tmp 76) 71 71 rfl (.slice (some ⟨g,(i + 1) * 4,none⟩) (n - i) (c - (i + 1))) (.slice (some ⟨g,i * 4,none⟩) (n + 1 - i) (c - i)) (by simp [Act.eval,Act.put]) (by simp [Act.eval,Act.put]) (HCP1.out 3 (c - (i + 1)) (c - i)) ?_)
  have hcpx := HCP2.out 3 (c - i)
  go_wp2_with fail
  go_ret
  exact HFIN.out
set_option maxHeartbeats 4000000 in
set_option maxRecDepth 100000 in
theorem insShiftN (n c g i vb : Nat) (xs ys : List Value) (w : World) (h : Row w g c 1 62 xs) (hn : xs.length = n * 1) (hi : i < n) (hm : n ≤ 1000) (hroom : n + 1 ≤ c) (hv : Whole w vb 62 ys.toArray) (hy : ys.length = 1 * 1) (hne : vb ≠ g) (h1x : ∀ u ∈ xs,u.oneCell' = true) (h1y : ∀ u ∈ ys,u.oneCell' = true) :
    Calls Tryz.prog 130 #[.slice (some ⟨g,0,none⟩) n c,.int .i64 i,.slice (some ⟨vb,0,none⟩) 1 1] w (InsRet 62 1 g n (xs.take (i * 1) ++ ys ++ xs.drop (i * 1)) w) := by
  obtain ⟨i0,hi0,hz0,hz1,hz2⟩ := info_parts infoN
  have hsE : ∀ w,(sizeOf 62).run Tryz.prog w = .ok 1 w := fun w => by simp [sizeOf,typeInfo,hi0,hz1]
  have hcm := h.cap
  unfold maxLen at hcm
  have hgs : ∃ tB kB,w.shape? g = some (tB,kB) ∧ kB ≠ 0 := by
    obtain ⟨cs,hb,h1,h2⟩ := h.blk
    exact ⟨_,_,wh_shape hb,by have := Nat.mul_le_mul_right 1 hroom; omega⟩
  obtain ⟨tB,kB,hsb,hkB⟩ := hgs
  have hov : ∀ lb cb,(callFunc 154 #[.slice (some ⟨vb,0,none⟩) 1 1,.slice (some ⟨g,i + 1,none⟩) lb cb]).run Tryz.prog w = .ok (.value (.bool false)) w := fun lb cb => by
    rw [run_callFunc_extern Tryz.func154 (by kernel_rfl) (by kernel_rfl) (by kernel_rfl) (e := Extern.SlicesOverlaps.overlaps #[75,75] #[4]) (by kernel_rfl),
      Lib.run_overlaps_apart w 75 4 62 Tryz.underlying75 1 hsE ⟨vb,0,none⟩ ⟨g,i + 1,none⟩ 1 1 lb cb hne _ _ _ _ (wh_shape hv) hsb hkB (hv.fz 0) (hv.fz _)]
    rfl
  have hvs : ∀ j v,ys[j]? = some v → w.cell? ⟨vb,0 + j,none⟩ = some v := fun j v hj => by rw [Nat.zero_add,hv.cell]; simpa using hj
  have hck : (n + 1) * 1 ≤ c * 1 := Nat.mul_le_mul_right 1 hroom
  have hrm : ∀ j,j < (n + 1) * 1 → (w.cell? ⟨g,j,none⟩).isSome = true := fun j hj => h.room (by omega)
  have hdl : (xs.drop (i * 1)).length = (n - i) * 1 := by rw [List.length_drop,hn,Nat.sub_mul]
  have hik : (n - i) * 1 = n * 1 - i * 1 := Nat.sub_mul _ _ _
  have hik2 : (i + 1) * 1 = i * 1 + 1 := Nat.succ_mul _ _
  have hik3 : (n + 1) * 1 = n * 1 + 1 := Nat.succ_mul _ _
  have hik4 : i * 1 + 1 ≤ n * 1 := by rw [← Nat.succ_mul]; exact Nat.mul_le_mul_right 1 hi
  have hcp1 : ∀ ty dc sc,(Builtin.copy_ #[75,75] ty #[.slice (some ⟨g,i + 1,none⟩) (n - i) dc,.slice (some ⟨g,i,none⟩) (n + 1 - i) sc]).run Tryz.prog w.drew = .ok (goInt ((n - i : Nat) : Int)) (w.drew.setCells g (i + 1) (xs.drop (i * 1))) := fun ty dc sc =>
    run_copyK w.drew _ _ ty 62 i0 1 g (i + 1) (n - i) dc ⟨g,i,none⟩ (n + 1 - i) sc (n - i) (xs.drop (i * 1)) Tryz.underlying75 hi0 hz1 (by simp only [Nat.min_def]; split <;> omega) hdl
      (fun j v hj => by rw [Addr.add_lit]; rw [List.getElem?_drop] at hj; have := h.cell hj; (try rw [Nat.mul_one] at this); exact this)
      (fun j hj => hrm _ (by omega)) (fun j _ => h.fz _) (fun v hv => h1x v (List.mem_of_mem_drop hv))
  obtain ⟨W1,hW1⟩ : ∃ W1,W1 = w.drew.setCells g (i + 1) (xs.drop (i * 1)) := ⟨_,rfl⟩
  have hsp1 : ∀ k,k < (n + 1) * 1 → (W1.cell? ⟨g,k,none⟩).isSome = true := fun q hq => by
    rw [hW1]
    by_cases hin : i + 1 ≤ q ∧ q < i + 1 + (xs.drop (i * 1)).length
    · have := World.cell?_setCells_in g (xs.drop (i * 1)) (i + 1) w.drew (fun j hj => hrm _ (by omega)) (q - (i + 1)) (by omega)
      rw [show i + 1 + (q - (i + 1)) = q by omega] at this
      rw [this]; rfl
    · rw [World.cell?_setCells_out g _ _ w.drew ⟨g,q,none⟩ (fun _ _ => by show q < i + 1 ∨ i + 1 + _ ≤ q; omega)]
      exact hrm q hq
  have hcp2 : ∀ (W : World),(∀ x,W.cell? x = W1.cell? x) → (∀ x,W.frozen? x = W1.frozen? x) → ∀ ty dc,(Builtin.copy_ #[75,75] ty #[.slice (some ⟨g,i,none⟩) (n + 1 - i) dc,.slice (some ⟨vb,0,none⟩) 1 1]).run Tryz.prog W = .ok (goInt 1) (W.setCells g (i) ys) := fun W hWc hWf ty dc =>
    run_copyK W _ _ ty 62 i0 1 g (i) (n + 1 - i) dc ⟨vb,0,none⟩ 1 1 1 ys Tryz.underlying75 hi0 hz1 (by simp only [Nat.min_def]; split <;> omega) hy
      (fun j v hj => by
        rw [Addr.add_lit,hWc,hW1,World.cell?_setCells_out g _ _ _ _ (fun h _ => absurd h hne)]
        exact hvs j v hj)
      (fun j hj => by rw [hWc]; exact hsp1 _ (by omega)) (fun j hj => by rw [hWf,hW1,World.frozen?_setCells]; exact h.fz _) h1y
  have HFIN : Hid (InsRet 62 1 g n (xs.take (i * 1) ++ ys ++ xs.drop (i * 1)) w (.returned (.slice (some ⟨g,0,none⟩) (n + 1) c)) (W1.setCells g (i) ys)) := by
    rw [hW1]
    have := ins_place (i := i) (w1 := w.drew) h hn hy (by omega) hroom ⟨rfl,rfl,rfl,rfl⟩
    (try simp only [Nat.mul_one] at this); (try simp only [Nat.mul_one])
    exact this
  obtain ⟨L,hL⟩ : ∃ L,xs.take (i * 1) ++ ys ++ xs.drop (i * 1) = L := ⟨_,rfl⟩
  rw [hL] at HFIN ⊢
  rw [← hW1] at hcp1
  have HCP1 := Lib.hid hcp1
  have HCP2 := Lib.hid (hcp2 W1 (fun _ => rfl) (fun _ => rfl))
  have hz2 : ¬ ((i : Int) = (n : Int)) := by omega
  have hb1 : (0 : Int) ≤ (i : Int) + 1 := by omega
  have hw1 : IntKind.i64.wrap ((i : Int) + 1) = (i : Int) + 1 := by rw [IntKind.wrap_i64]; omega
  have hin : i ≤ n := by omega
  have htn : ((i : Int) + 1).toNat = i + 1 := by omega
  have hb2 : ¬ (c = i + 1) := by omega
  have hb3 : (i : Int) ≤ (n : Int) + 1 := by omega
  have hb4 : ¬ (c = i) := by omega
  have hb5 : (n : Int) + 1 ≤ (c : Int) := by omega
  clear hL h hn hv hy h1x h1y hcp1 hcp2 hsp1 hW1 hdl hik hik2 hik3 hik4 hrm hck hvs hsb hkB hi0 hz0 hz1 hz2 hsE
  go_enter Tryz.func130,Tryz.ntmps130
  go_wp2_with (simp only [hov])
  clear hov
  go_region_law (refine step_copyK rfl (.tmp 73) (.tmp 76) 75 75 rfl (.slice (some ⟨g,i + 1,none⟩) (n - i) (c - (i + 1))) (.slice (some ⟨g,i,none⟩) (n + 1 - i) (c - i)) (by simp [Act.eval,Act.put]) (by simp [Act.eval,Act.put]) (HCP1.out 3 (c - (i + 1)) (c - i)) ?_)
  have hcpx := HCP2.out 3 (c - i)
  go_wp2_with fail
  go_ret
  exact HFIN.out
set_option maxHeartbeats 4000000 in
set_option maxRecDepth 100000 in
theorem insEndE (n c g vb : Nat) (xs ys : List Value) (w : World) (h : Row w g c 4 59 xs) (hn : xs.length = n * 4) (hm : n ≤ 1000) (hv : Whole w vb 59 ys.toArray) (hy : ys.length = 1 * 4) (h1x : ∀ u ∈ xs,u.oneCell' = true) (h1y : ∀ u ∈ ys,u.oneCell' = true) :
    Calls Tryz.prog 128 #[.slice (some ⟨g,0,none⟩) n c,.int .i64 n,.slice (some ⟨vb,0,none⟩) 1 1] w (InsRet 59 4 g n (xs.take (n * 4) ++ ys ++ xs.drop (n * 4)) w) := by
  obtain ⟨i0,hi0,hz0,hz1,hz2⟩ := info_parts infoE
  have hcm := h.cap
  have hvs : ∀ j v,ys[j]? = some v → w.cell? ((⟨vb,0,none⟩ : Addr).add j) = some v := fun j v hj => by rw [Addr.add_lit,Nat.zero_add,hv.cell]; simpa using hj
  obtain ⟨L,hL⟩ : ∃ L,xs.take (n * 4) ++ ys ++ xs.drop (n * 4) = L := ⟨_,rfl⟩
  have hnc : n ≤ c := by have := h.fit; omega
  have HR : Hid (∀ ty,∃ v' w',(Builtin.append_ #[71,71] ty #[.slice (some ⟨g,0,none⟩) n c,.slice (some ⟨vb,0,none⟩) 1 1]).run Tryz.prog w = .ok v' w' ∧ InsRet 59 4 g n L w (.returned v') w' ∧ ∃ A' c',v' = .slice A' (n + 1) c') := by
    intro ty
    by_cases hroom : n + 1 ≤ c
    · have hck : (n + 1) * 4 ≤ c * 4 := Nat.mul_le_mul_right 4 hroom
      have hik3 : (n + 1) * 4 = n * 4 + 4 := Nat.succ_mul _ _
      refine ⟨_,_,run_append_room_cells w (ty := ty) 71 59 i0 Tryz.underlying71 hi0 g 0 n c ⟨vb,0,none⟩ 1 1 ys (by rw [hz1]; exact hy) hvs h1y hroom (fun j hj => ?_) (fun j hj => h.fz _),?_,_,_,rfl⟩
      · rw [Nat.zero_add,hz1]; exact h.room (by omega)
      · have := ins_place (i := n) (w1 := w) h hn hy (Nat.le_refl _) hroom ⟨rfl,rfl,rfl,rfl⟩
        rw [hL] at this
        rw [List.drop_of_length_le (by omega)] at this
        rw [Nat.zero_add,hz1]
        exact this
    · have hold : (Builtin.firstCells i0.size n (.slice (some ⟨g,0,none⟩) n c)).run Tryz.prog w.drew = .ok xs.toArray w.drew :=
        run_firstCells_some w.drew i0.size n ⟨g,0,none⟩ n c xs (by rw [hz1]; exact hn) (fun j v hj => by rw [Addr.add_lit,Nat.zero_add]; exact h.cell hj)
      have hsrc : Src Tryz.prog i0.size 71 (.slice (some ⟨vb,0,none⟩) 1 1) 1 ys w := Src.ofSlice w Tryz.underlying71 ⟨vb,0,none⟩ 1 1 ys (by rw [hz1]; exact hy) hvs h1y
      refine ⟨_,_,run_append_grow_src (ty := ty) w 71 71 59 i0 _ Tryz.underlying71 hi0 hz0 (some ⟨g,0,none⟩) n c xs hold _ 1 ys hsrc (by omega) (by omega) (by rw [hz2]; exact growslice_fits (by omega) (by omega)),?_,_,_,rfl⟩
      have hge := grownCap_ge w (n + 1) c 59
      have hle := grownCap_le_maxLen w (n + 1) c 59 (by unfold maxLen; omega)
      have := ins_end (k := 4) (g := g) (n := n) (xs := xs) (ys := ys) (w := w) (G := grownCap w (n + 1) c 59) (Whole.new w.drew 59 ((xs ++ ys).toArray ++ Builtin.zeroCells (Value.cells (.agg #[.int .i64 0,.int .i64 0,.int .i64 0,.int .i64 0])) (grownCap w (n + 1) c 59 - (n + 1)))) (Nat.le_refl _) ((Below.drew (Below.refl _ _)).alloc (Nat.le_refl _) _) (by
        rw [Array.size_append,size_zeroCells]
        show (xs ++ ys).toArray.size + _ * 4 = _
        rw [List.size_toArray,List.length_append,hn,hy,Nat.sub_mul]
        have := Nat.mul_le_mul_right 4 hge
        have e := Nat.succ_mul n 4
        omega) hn hy hge hle (fun j hj => by rw [Array.getElem?_append_left (by simpa using hj)]; simp)
      rw [hL] at this
      exact this
  obtain ⟨v',w',hrun,hret,A',c',rfl⟩ := HR.out 71
  have HRUN := Lib.hid hrun
  have HRET := Lib.hid hret
  rw [hL]
  unfold maxLen at hcm
  have hz2' : ((n : Int) == (n : Int)) = true := by simp
  clear hL h hn hv hy h1x h1y hvs hrun hret HR hi0 hz0 hz1 hz2
  go_enter Tryz.func128,Tryz.ntmps128
  go_wp2_with (at_builtin; refine Lib.wpList_append_run _ rfl _ _ _ _ rfl _ _ rfl rfl _ _ HRUN.out ?_)
  all_goals (go_ret; exact HRET.out)
set_option maxHeartbeats 4000000 in
set_option maxRecDepth 100000 in
theorem insGrowE (n c g i vb : Nat) (xs ys : List Value) (w : World) (h : Row w g c 4 59 xs) (hn : xs.length = n * 4) (hi : i < n) (hm : n ≤ 1000) (hroom : c < n + 1) (hv : Whole w vb 59 ys.toArray) (hy : ys.length = 1 * 4) (h1x : ∀ u ∈ xs,u.oneCell' = true) (h1y : ∀ u ∈ ys,u.oneCell' = true) :
    Calls Tryz.prog 128 #[.slice (some ⟨g,0,none⟩) n c,.int .i64 i,.slice (some ⟨vb,0,none⟩) 1 1] w (InsRet 59 4 g n (xs.take (i * 4) ++ ys ++ xs.drop (i * 4)) w) := by
  obtain ⟨i0,hi0,hz0,hz1,hz2⟩ := info_parts infoE
  have hcm := h.cap
  unfold maxLen at hcm
  have hnc : n ≤ c := by have := h.fit; omega
  have hgl := h.lt
  have hvl := hv.lt
  have hik : i * 4 + (n - i) * 4 = n * 4 := by rw [← Nat.add_mul]; congr 1; omega
  have hik1 : (i + 1) * 4 = i * 4 + 4 := Nat.succ_mul _ _
  have hn1 : (n + 1) * 4 = n * 4 + 4 := Nat.succ_mul _ _
  have hold : (Builtin.firstCells i0.size i (.slice (some ⟨g,0,none⟩) i c)).run Tryz.prog w.drew = .ok (xs.take (i * 4)).toArray w.drew :=
    run_firstCells_some w.drew i0.size i ⟨g,0,none⟩ i c (xs.take (i * 4)) (by rw [List.length_take,hz1]; omega) (fun j v hj => by
      rw [Addr.add_lit,Nat.zero_add]
      rw [List.getElem?_take] at hj
      split at hj
      · exact h.cell hj
      · cases hj)
  have hkk : (n : Int) + 1 - (i : Int) = ((n + 1 - i : Nat) : Int) := by omega
  have hrz : ∀ ty,(Builtin.append_ #[71,3] ty #[.slice (some ⟨g,0,none⟩) i c,.int .i64 ((n : Int) + 1 - (i : Int))]).run Tryz.prog w =
      .ok (.slice (some ⟨w.heap.size,0,none⟩) (n + 1) (grownCap w (n + 1) c 59)) (w.drew.alloc (.cells ((xs.take (i * 4)).toArray ++ Builtin.zeroCells (Value.cells (.agg #[.int .i64 0,.int .i64 0,.int .i64 0,.int .i64 0])) (n + 1 - i) ++ Builtin.zeroCells (Value.cells (.agg #[.int .i64 0,.int .i64 0,.int .i64 0,.int .i64 0])) (grownCap w (n + 1) c 59 - (n + 1))) 59)) := fun ty => by
    have hh := Lib.run_append_grow_zeros w 71 3 ty 59 i0 _ .i64 .i64 Tryz.underlying71 Tryz.underlying3 hi0 hz0 (some ⟨g,0,none⟩) i c (xs.take (i * 4)) hold (n + 1 - i) (by omega) (by rw [hz1]; omega) (by omega) (by omega) (by rw [hz2]; omega) (by rw [hz2]; exact growslice_fits (by omega) (by omega))
    rw [show i + (n + 1 - i) = n + 1 by omega] at hh
    rw [hkk]
    exact hh
  have hge := grownCap_ge w (n + 1) c 59
  have hle := grownCap_le_maxLen w (n + 1) c 59 (by unfold maxLen; omega)
  obtain ⟨G,hG⟩ : ∃ G,grownCap w (n + 1) c 59 = G := ⟨_,rfl⟩
  rw [hG] at hrz hge hle
  obtain ⟨R,hR⟩ : ∃ R : Array Value,(xs.take (i * 4)).toArray ++ Builtin.zeroCells (Value.cells (.agg #[.int .i64 0,.int .i64 0,.int .i64 0,.int .i64 0])) (n + 1 - i) ++ Builtin.zeroCells (Value.cells (.agg #[.int .i64 0,.int .i64 0,.int .i64 0,.int .i64 0])) (G - (n + 1)) = R := ⟨_,rfl⟩
  rw [hR] at hrz
  have hRs : R.size = G * 4 := by
    rw [← hR,Array.size_append,Array.size_append,size_zeroCells,size_zeroCells]
    show (xs.take (i * 4)).toArray.size + (n + 1 - i) * 4 + (G - (n + 1)) * 4 = _
    rw [List.size_toArray,List.length_take,hn,Nat.min_eq_left (by omega),← Nat.add_mul,← Nat.add_mul]
    congr 1; omega
  have hRf : ∀ j,j < i * 4 → R[j]? = xs[j]? := fun j hj => by
    rw [← hR,Array.append_assoc,Array.getElem?_append_left (by rw [List.size_toArray,List.length_take]; omega),List.getElem?_toArray,List.getElem?_take_of_lt hj]
  obtain ⟨W1,hW1⟩ : ∃ W1,w.drew.alloc (.cells R 59) = W1 := ⟨_,rfl⟩
  have hWN : Whole W1 w.heap.size 59 R := by rw [← hW1]; exact Whole.new w.drew 59 R
  have hBW : Below w.heap.size w W1 := by rw [← hW1]; exact (Below.drew (Below.refl _ _)).alloc (Nat.le_refl _) _
  obtain ⟨L,hL⟩ : ∃ L,xs.take (i * 4) ++ ys ++ xs.drop (i * 4) = L := ⟨_,rfl⟩
  have hGk : (n + 1) * 4 ≤ G * 4 := Nat.mul_le_mul_right 4 hge
  have hdl : (xs.drop (i * 4)).length = (n - i) * 4 := by rw [List.length_drop,hn,Nat.sub_mul]
  -- the first copy: what comes
  have hcp1 : ∀ ty dc,(Builtin.copy_ #[71,71] ty #[.slice (some ⟨w.heap.size,i * 4,none⟩) (n + 1 - i) dc,.slice (some ⟨vb,0,none⟩) 1 1]).run Tryz.prog W1 = .ok (goInt ((1 : Nat) : Int)) (W1.setCells w.heap.size (i * 4) ys) := fun ty dc =>
    run_copyK W1 _ _ ty 59 i0 4 w.heap.size (i * 4) (n + 1 - i) dc ⟨vb,0,none⟩ 1 1 1 ys Tryz.underlying71 hi0 hz1 (by simp only [Nat.min_def]; split <;> omega) hy
      (fun j v hj => by rw [Addr.add_lit,Nat.zero_add,(hv.below hBW hvl).cell]; simpa using hj)
      (fun j hj => by rw [hWN.cell]; simp [hRs]; omega) (fun j hj => hWN.fz _) h1y
  obtain ⟨R1,hWN1,hl1⟩ := whole_setCells ys (i * 4) W1 R hWN
  obtain ⟨W2,hW2⟩ : ∃ W2,(W1.setCells w.heap.size (i * 4) ys).drew = W2 := ⟨_,rfl⟩
  have hWN2 : Whole W2 w.heap.size 59 R1 := by rw [← hW2]; exact hWN1
  have hB2 : Below w.heap.size w W2 := by
    rw [← hW2]
    have hk := keep_setCells (G := fun _ => False) (g := w.heap.size) ys (i * 4) w W1 (Keep.below hBW) (.inr (Nat.le_refl _))
    exact Below.drew ⟨hk.os,hk.tape,hk.output,hk.size,fun j hj => hk.block j hj (fun hf => hf)⟩
  have hrow2 : ∀ j u,xs[j]? = some u → W2.cell? ⟨g,j,none⟩ = some u := fun j u hj => (h.below hB2).cell hj
  have hcp2 : ∀ ty dc sc,(Builtin.copy_ #[71,71] ty #[.slice (some ⟨w.heap.size,(i + 1) * 4,none⟩) (n - i) dc,.slice (some ⟨g,i * 4,none⟩) (n - i) sc]).run Tryz.prog W2 = .ok (goInt ((n - i : Nat) : Int)) (W2.setCells w.heap.size ((i + 1) * 4) (xs.drop (i * 4))) := fun ty dc sc =>
    run_copyK W2 _ _ ty 59 i0 4 w.heap.size ((i + 1) * 4) (n - i) dc ⟨g,i * 4,none⟩ (n - i) sc (n - i) (xs.drop (i * 4)) Tryz.underlying71 hi0 hz1 (by simp [Nat.min_def]) hdl
      (fun j v hj => by rw [Addr.add_lit]; rw [List.getElem?_drop] at hj; have := hrow2 _ _ hj; (try rw [Nat.mul_one] at this); exact this)
      (fun j hj => by rw [hWN2.cell]; simp [hl1.size,hRs]; omega) (fun j hj => hWN2.fz _) (fun v hv => h1x v (List.mem_of_mem_drop hv))
  have HFIN : Hid (InsRet 59 4 g n L w (.returned (.slice (some ⟨w.heap.size,0,none⟩) (n + 1) G)) (W2.setCells w.heap.size ((i + 1) * 4) (xs.drop (i * 4)))) := by
    have := ins_new (k := 4) (g := g) (n := n) (i := i) (xs := xs) (ys := ys) hWN (Nat.le_refl _) hBW hRs hn hy (by omega) hge hle hRf W2 _ (by (try rw [Nat.mul_one]); exact hW2.symm) rfl
    rw [hL] at this
    (try simp only [Nat.mul_one] at this); (try simp only [Nat.mul_one])
    exact this
  subst hW2
  rw [hW1] at hrz
  have HRZ := Lib.hid (hrz 71)
  have HCP1 := Lib.hid hcp1
  have HCP2 := Lib.hid hcp2
  rw [hL]
  have hgi : ¬ (G = i) := by omega
  have hgi1 : ¬ (G = i + 1) := by omega
  have hci : ¬ (c = i) := by omega
  have hz3 : (c : Int) < (n : Int) + 1 := by omega
  have hz2' : ¬ ((i : Int) = (n : Int)) := by omega
  have hw1 : IntKind.i64.wrap ((i : Int) + 1) = (i : Int) + 1 := by rw [IntKind.wrap_i64]; omega
  have hb1 : (0 : Int) ≤ (i : Int) + 1 := by omega
  have hin : i ≤ n := by omega
  have htn : ((i : Int) + 1).toNat = i + 1 := by omega
  have hb3 : (i : Int) ≤ (n : Int) := by omega
  have hGm : G ≤ 9223372036854775807 := by unfold maxLen at hle; omega
  clear hrow2 hB2 hWN2 hl1 hWN1 hdl hGk hL hBW hWN hW1 hRf hRs hR hle hge hG hrz hkk hold hik hik1 hn1 hcp1 hcp2 h hn hv hy h1x h1y hi0 hz0 hz1 hz2 hgl hvl
  go_enter Tryz.func128,Tryz.ntmps128
  have hcpx := HCP1.out 3 (G - i)
  go_wp2_with (at_builtin; refine Lib.wpList_append_run _ rfl _ _ _ _ rfl _ _ rfl rfl _ _ HRZ.out ?_)
  clear hcpx
  go_region_law (refine step_copyK rfl (.tmp 50) (.tmp 53) 71 71 rfl (.slice (some ⟨w.heap.size,(i + 1) * 4,none⟩) (n - i) (G - (i + 1))) (.slice (some ⟨g,i * 4,none⟩) (n - i) (c - i)) (by simp [Act.eval,Act.put]) (by simp [Act.eval,Act.put]) (HCP2.out 3 (G - (i + 1)) (c - i)) ?_)
  go_wp2_with fail
  go_ret
  first | exact HFIN.out | (simp only [Nat.mul_one] at HFIN; exact HFIN.out)
theorem insertE (n c g i vb : Nat) (xs ys : List Value) (w : World) (h : Row w g c 4 59 xs) (hn : xs.length = n * 4) (hi : i ≤ n) (hm : n ≤ 1000) (hv : Whole w vb 59 ys.toArray) (hy : ys.length = 1 * 4) (hne : vb ≠ g) (h1x : ∀ u ∈ xs,u.oneCell' = true) (h1y : ∀ u ∈ ys,u.oneCell' = true) :
    Calls Tryz.prog 128 #[.slice (some ⟨g,0,none⟩) n c,.int .i64 i,.slice (some ⟨vb,0,none⟩) 1 1] w (InsRet 59 4 g n (xs.take (i * 4) ++ ys ++ xs.drop (i * 4)) w) := by
  by_cases h1 : i = n
  · subst h1
    exact insEndE i c g vb xs ys w h hn hm hv hy h1x h1y
  · by_cases h2 : n + 1 ≤ c
    · exact insShiftE n c g i vb xs ys w h hn (by omega) hm h2 hv hy hne h1x h1y
    · exact insGrowE n c g i vb xs ys w h hn (by omega) hm (by omega) hv hy h1x h1y
set_option maxHeartbeats 4000000 in
set_option maxRecDepth 100000 in
theorem insEndN (n c g vb : Nat) (xs ys : List Value) (w : World) (h : Row w g c 1 62 xs) (hn : xs.length = n * 1) (hm : n ≤ 1000) (hv : Whole w vb 62 ys.toArray) (hy : ys.length = 1 * 1) (h1x : ∀ u ∈ xs,u.oneCell' = true) (h1y : ∀ u ∈ ys,u.oneCell' = true) :
    Calls Tryz.prog 130 #[.slice (some ⟨g,0,none⟩) n c,.int .i64 n,.slice (some ⟨vb,0,none⟩) 1 1] w (InsRet 62 1 g n (xs.take (n * 1) ++ ys ++ xs.drop (n * 1)) w) := by
  obtain ⟨i0,hi0,hz0,hz1,hz2⟩ := info_parts infoN
  have hcm := h.cap
  have hvs : ∀ j v,ys[j]? = some v → w.cell? ((⟨vb,0,none⟩ : Addr).add j) = some v := fun j v hj => by rw [Addr.add_lit,Nat.zero_add,hv.cell]; simpa using hj
  obtain ⟨L,hL⟩ : ∃ L,xs.take (n * 1) ++ ys ++ xs.drop (n * 1) = L := ⟨_,rfl⟩
  have hnc : n ≤ c := by have := h.fit; omega
  have HR : Hid (∀ ty,∃ v' w',(Builtin.append_ #[75,75] ty #[.slice (some ⟨g,0,none⟩) n c,.slice (some ⟨vb,0,none⟩) 1 1]).run Tryz.prog w = .ok v' w' ∧ InsRet 62 1 g n L w (.returned v') w' ∧ ∃ A' c',v' = .slice A' (n + 1) c') := by
    intro ty
    by_cases hroom : n + 1 ≤ c
    · have hck : (n + 1) * 1 ≤ c * 1 := Nat.mul_le_mul_right 1 hroom
      have hik3 : (n + 1) * 1 = n * 1 + 1 := Nat.succ_mul _ _
      refine ⟨_,_,run_append_room_cells w (ty := ty) 75 62 i0 Tryz.underlying75 hi0 g 0 n c ⟨vb,0,none⟩ 1 1 ys (by rw [hz1]; exact hy) hvs h1y hroom (fun j hj => ?_) (fun j hj => h.fz _),?_,_,_,rfl⟩
      · rw [Nat.zero_add,hz1]; exact h.room (by omega)
      · have := ins_place (i := n) (w1 := w) h hn hy (Nat.le_refl _) hroom ⟨rfl,rfl,rfl,rfl⟩
        rw [hL] at this
        rw [List.drop_of_length_le (by omega)] at this
        rw [Nat.zero_add,hz1]
        exact this
    · have hold : (Builtin.firstCells i0.size n (.slice (some ⟨g,0,none⟩) n c)).run Tryz.prog w.drew = .ok xs.toArray w.drew :=
        run_firstCells_some w.drew i0.size n ⟨g,0,none⟩ n c xs (by rw [hz1]; exact hn) (fun j v hj => by rw [Addr.add_lit,Nat.zero_add]; exact h.cell hj)
      have hsrc : Src Tryz.prog i0.size 75 (.slice (some ⟨vb,0,none⟩) 1 1) 1 ys w := Src.ofSlice w Tryz.underlying75 ⟨vb,0,none⟩ 1 1 ys (by rw [hz1]; exact hy) hvs h1y
      refine ⟨_,_,run_append_grow_src (ty := ty) w 75 75 62 i0 _ Tryz.underlying75 hi0 hz0 (some ⟨g,0,none⟩) n c xs hold _ 1 ys hsrc (by omega) (by omega) (by rw [hz2]; exact growslice_fits (by omega) (by omega)),?_,_,_,rfl⟩
      have hge := grownCap_ge w (n + 1) c 62
      have hle := grownCap_le_maxLen w (n + 1) c 62 (by unfold maxLen; omega)
      have := ins_end (k := 1) (g := g) (n := n) (xs := xs) (ys := ys) (w := w) (G := grownCap w (n + 1) c 62) (Whole.new w.drew 62 ((xs ++ ys).toArray ++ Builtin.zeroCells (Value.cells .nilIface) (grownCap w (n + 1) c 62 - (n + 1)))) (Nat.le_refl _) ((Below.drew (Below.refl _ _)).alloc (Nat.le_refl _) _) (by
        rw [Array.size_append,size_zeroCells]
        show (xs ++ ys).toArray.size + _ * 1 = _
        rw [List.size_toArray,List.length_append,hn,hy,Nat.sub_mul]
        have := Nat.mul_le_mul_right 1 hge
        have e := Nat.succ_mul n 1
        omega) hn hy hge hle (fun j hj => by rw [Array.getElem?_append_left (by simpa using hj)]; simp)
      rw [hL] at this
      exact this
  obtain ⟨v',w',hrun,hret,A',c',rfl⟩ := HR.out 75
  have HRUN := Lib.hid hrun
  have HRET := Lib.hid hret
  rw [hL]
  unfold maxLen at hcm
  have hz2' : ((n : Int) == (n : Int)) = true := by simp
  clear hL h hn hv hy h1x h1y hvs hrun hret HR hi0 hz0 hz1 hz2
  go_enter Tryz.func130,Tryz.ntmps130
  go_wp2_with (at_builtin; refine Lib.wpList_append_run _ rfl _ _ _ _ rfl _ _ rfl rfl _ _ HRUN.out ?_)
  all_goals (go_ret; exact HRET.out)
set_option maxHeartbeats 4000000 in
set_option maxRecDepth 100000 in
theorem insGrowN (n c g i vb : Nat) (xs ys : List Value) (w : World) (h : Row w g c 1 62 xs) (hn : xs.length = n * 1) (hi : i < n) (hm : n ≤ 1000) (hroom : c < n + 1) (hv : Whole w vb 62 ys.toArray) (hy : ys.length = 1 * 1) (h1x : ∀ u ∈ xs,u.oneCell' = true) (h1y : ∀ u ∈ ys,u.oneCell' = true) :
    Calls Tryz.prog 130 #[.slice (some ⟨g,0,none⟩) n c,.int .i64 i,.slice (some ⟨vb,0,none⟩) 1 1] w (InsRet 62 1 g n (xs.take (i * 1) ++ ys ++ xs.drop (i * 1)) w) := by
  obtain ⟨i0,hi0,hz0,hz1,hz2⟩ := info_parts infoN
  have hcm := h.cap
  unfold maxLen at hcm
  have hnc : n ≤ c := by have := h.fit; omega
  have hgl := h.lt
  have hvl := hv.lt
  have hik : i * 1 + (n - i) * 1 = n * 1 := by rw [← Nat.add_mul]; congr 1; omega
  have hik1 : (i + 1) * 1 = i * 1 + 1 := Nat.succ_mul _ _
  have hn1 : (n + 1) * 1 = n * 1 + 1 := Nat.succ_mul _ _
  have hold : (Builtin.firstCells i0.size i (.slice (some ⟨g,0,none⟩) i c)).run Tryz.prog w.drew = .ok (xs.take (i * 1)).toArray w.drew :=
    run_firstCells_some w.drew i0.size i ⟨g,0,none⟩ i c (xs.take (i * 1)) (by rw [List.length_take,hz1]; omega) (fun j v hj => by
      rw [Addr.add_lit,Nat.zero_add]
      rw [List.getElem?_take] at hj
      split at hj
      · exact h.cell hj
      · cases hj)
  have hkk : (n : Int) + 1 - (i : Int) = ((n + 1 - i : Nat) : Int) := by omega
  have hrz : ∀ ty,(Builtin.append_ #[75,3] ty #[.slice (some ⟨g,0,none⟩) i c,.int .i64 ((n : Int) + 1 - (i : Int))]).run Tryz.prog w =
      .ok (.slice (some ⟨w.heap.size,0,none⟩) (n + 1) (grownCap w (n + 1) c 62)) (w.drew.alloc (.cells ((xs.take (i * 1)).toArray ++ Builtin.zeroCells (Value.cells .nilIface) (n + 1 - i) ++ Builtin.zeroCells (Value.cells .nilIface) (grownCap w (n + 1) c 62 - (n + 1))) 62)) := fun ty => by
    have hh := Lib.run_append_grow_zeros w 75 3 ty 62 i0 _ .i64 .i64 Tryz.underlying75 Tryz.underlying3 hi0 hz0 (some ⟨g,0,none⟩) i c (xs.take (i * 1)) hold (n + 1 - i) (by omega) (by rw [hz1]; omega) (by omega) (by omega) (by rw [hz2]; omega) (by rw [hz2]; exact growslice_fits (by omega) (by omega))
    rw [show i + (n + 1 - i) = n + 1 by omega] at hh
    rw [hkk]
    exact hh
  have hge := grownCap_ge w (n + 1) c 62
  have hle := grownCap_le_maxLen w (n + 1) c 62 (by unfold maxLen; omega)
  obtain ⟨G,hG⟩ : ∃ G,grownCap w (n + 1) c 62 = G := ⟨_,rfl⟩
  rw [hG] at hrz hge hle
  obtain ⟨R,hR⟩ : ∃ R : Array Value,(xs.take (i * 1)).toArray ++ Builtin.zeroCells (Value.cells .nilIface) (n + 1 - i) ++ Builtin.zeroCells (Value.cells .nilIface) (G - (n + 1)) = R := ⟨_,rfl⟩
  rw [hR] at hrz
  have hRs : R.size = G * 1 := by
    rw [← hR,Array.size_append,Array.size_append,size_zeroCells,size_zeroCells]
    show (xs.take (i * 1)).toArray.size + (n + 1 - i) * 1 + (G - (n + 1)) * 1 = _
    rw [List.size_toArray,List.length_take,hn,Nat.min_eq_left (by omega),← Nat.add_mul,← Nat.add_mul]
    congr 1; omega
  have hRf : ∀ j,j < i * 1 → R[j]? = xs[j]? := fun j hj => by
    rw [← hR,Array.append_assoc,Array.getElem?_append_left (by rw [List.size_toArray,List.length_take]; omega),List.getElem?_toArray,List.getElem?_take_of_lt hj]
  obtain ⟨W1,hW1⟩ : ∃ W1,w.drew.alloc (.cells R 62) = W1 := ⟨_,rfl⟩
  have hWN : Whole W1 w.heap.size 62 R := by rw [← hW1]; exact Whole.new w.drew 62 R
  have hBW : Below w.heap.size w W1 := by rw [← hW1]; exact (Below.drew (Below.refl _ _)).alloc (Nat.le_refl _) _
  obtain ⟨L,hL⟩ : ∃ L,xs.take (i * 1) ++ ys ++ xs.drop (i * 1) = L := ⟨_,rfl⟩
  have hGk : (n + 1) * 1 ≤ G * 1 := Nat.mul_le_mul_right 1 hge
  have hdl : (xs.drop (i * 1)).length = (n - i) * 1 := by rw [List.length_drop,hn,Nat.sub_mul]
  -- the first copy: what comes
  have hcp1 : ∀ ty dc,(Builtin.copy_ #[75,75] ty #[.slice (some ⟨w.heap.size,i,none⟩) (n + 1 - i) dc,.slice (some ⟨vb,0,none⟩) 1 1]).run Tryz.prog W1 = .ok (goInt ((1 : Nat) : Int)) (W1.setCells w.heap.size (i) ys) := fun ty dc =>
    run_copyK W1 _ _ ty 62 i0 1 w.heap.size (i) (n + 1 - i) dc ⟨vb,0,none⟩ 1 1 1 ys Tryz.underlying75 hi0 hz1 (by simp only [Nat.min_def]; split <;> omega) hy
      (fun j v hj => by rw [Addr.add_lit,Nat.zero_add,(hv.below hBW hvl).cell]; simpa using hj)
      (fun j hj => by rw [hWN.cell]; simp [hRs]; omega) (fun j hj => hWN.fz _) h1y
  obtain ⟨R1,hWN1,hl1⟩ := whole_setCells ys (i) W1 R hWN
  obtain ⟨W2,hW2⟩ : ∃ W2,(W1.setCells w.heap.size (i) ys).drew = W2 := ⟨_,rfl⟩
  have hWN2 : Whole W2 w.heap.size 62 R1 := by rw [← hW2]; exact hWN1
  have hB2 : Below w.heap.size w W2 := by
    rw [← hW2]
    have hk := keep_setCells (G := fun _ => False) (g := w.heap.size) ys (i) w W1 (Keep.below hBW) (.inr (Nat.le_refl _))
    exact Below.drew ⟨hk.os,hk.tape,hk.output,hk.size,fun j hj => hk.block j hj (fun hf => hf)⟩
  have hrow2 : ∀ j u,xs[j]? = some u → W2.cell? ⟨g,j,none⟩ = some u := fun j u hj => (h.below hB2).cell hj
  have hcp2 : ∀ ty dc sc,(Builtin.copy_ #[75,75] ty #[.slice (some ⟨w.heap.size,i + 1,none⟩) (n - i) dc,.slice (some ⟨g,i,none⟩) (n - i) sc]).run Tryz.prog W2 = .ok (goInt ((n - i : Nat) : Int)) (W2.setCells w.heap.size (i + 1) (xs.drop (i * 1))) := fun ty dc sc =>
    run_copyK W2 _ _ ty 62 i0 1 w.heap.size (i + 1) (n - i) dc ⟨g,i,none⟩ (n - i) sc (n - i) (xs.drop (i * 1)) Tryz.underlying75 hi0 hz1 (by simp [Nat.min_def]) hdl
      (fun j v hj => by rw [Addr.add_lit]; rw [List.getElem?_drop] at hj; have := hrow2 _ _ hj; (try rw [Nat.mul_one] at this); exact this)
      (fun j hj => by rw [hWN2.cell]; simp [hl1.size,hRs]; omega) (fun j hj => hWN2.fz _) (fun v hv => h1x v (List.mem_of_mem_drop hv))
  have HFIN : Hid (InsRet 62 1 g n L w (.returned (.slice (some ⟨w.heap.size,0,none⟩) (n + 1) G)) (W2.setCells w.heap.size (i + 1) (xs.drop (i * 1)))) := by
    have := ins_new (k := 1) (g := g) (n := n) (i := i) (xs := xs) (ys := ys) hWN (Nat.le_refl _) hBW hRs hn hy (by omega) hge hle hRf W2 _ (by (try rw [Nat.mul_one]); exact hW2.symm) rfl
    rw [hL] at this
    (try simp only [Nat.mul_one] at this); (try simp only [Nat.mul_one])
    exact this
  subst hW2
  rw [hW1] at hrz
  have HRZ := Lib.hid (hrz 75)
  have HCP1 := Lib.hid hcp1
  have HCP2 := Lib.hid hcp2
  rw [hL]
  have hgi : ¬ (G = i) := by omega
  have hgi1 : ¬ (G = i + 1) := by omega
  have hci : ¬ (c = i) := by omega
  have hz3 : (c : Int) < (n : Int) + 1 := by omega
  have hz2' : ¬ ((i : Int) = (n : Int)) := by omega
  have hw1 : IntKind.i64.wrap ((i : Int) + 1) = (i : Int) + 1 := by rw [IntKind.wrap_i64]; omega
  have hb1 : (0 : Int) ≤ (i : Int) + 1 := by omega
  have hin : i ≤ n := by omega
  have htn : ((i : Int) + 1).toNat = i + 1 := by omega
  have hb3 : (i : Int) ≤ (n : Int) := by omega
  have hGm : G ≤ 9223372036854775807 := by unfold maxLen at hle; omega
  clear hrow2 hB2 hWN2 hl1 hWN1 hdl hGk hL hBW hWN hW1 hRf hRs hR hle hge hG hrz hkk hold hik hik1 hn1 hcp1 hcp2 h hn hv hy h1x h1y hi0 hz0 hz1 hz2 hgl hvl
  go_enter Tryz.func130,Tryz.ntmps130
  have hcpx := HCP1.out 3 (G - i)
  go_wp2_with (at_builtin; refine Lib.wpList_append_run _ rfl _ _ _ _ rfl _ _ rfl rfl _ _ HRZ.out ?_)
  clear hcpx
  go_region_law (refine step_copyK rfl (.tmp 50) (.tmp 53) 75 75 rfl (.slice (some ⟨w.heap.size,i + 1,none⟩) (n - i) (G - (i + 1))) (.slice (some ⟨g,i,none⟩) (n - i) (c - i)) (by simp [Act.eval,Act.put]) (by simp [Act.eval,Act.put]) (HCP2.out 3 (G - (i + 1)) (c - i)) ?_)
  go_wp2_with fail
  go_ret
  first | exact HFIN.out | (simp only [Nat.mul_one] at HFIN; exact HFIN.out)
theorem insertN (n c g i vb : Nat) (xs ys : List Value) (w : World) (h : Row w g c 1 62 xs) (hn : xs.length = n * 1) (hi : i ≤ n) (hm : n ≤ 1000) (hv : Whole w vb 62 ys.toArray) (hy : ys.length = 1 * 1) (hne : vb ≠ g) (h1x : ∀ u ∈ xs,u.oneCell' = true) (h1y : ∀ u ∈ ys,u.oneCell' = true) :
    Calls Tryz.prog 130 #[.slice (some ⟨g,0,none⟩) n c,.int .i64 i,.slice (some ⟨vb,0,none⟩) 1 1] w (InsRet 62 1 g n (xs.take (i * 1) ++ ys ++ xs.drop (i * 1)) w) := by
  by_cases h1 : i = n
  · subst h1
    exact insEndN i c g vb xs ys w h hn hm hv hy h1x h1y
  · by_cases h2 : n + 1 ≤ c
    · exact insShiftN n c g i vb xs ys w h hn (by omega) hm h2 hv hy hne h1x h1y
    · exact insGrowN n c g i vb xs ys w h hn (by omega) hm (by omega) hv hy h1x h1y
end Go.Proofs.YtneammhkgmkkfaaGreatDoor.tr
