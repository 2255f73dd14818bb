/- A part of the proof. -/
import Derived.Test.YtneammhkgmkkfaaGreatDoorPTqB
namespace Go.Proofs.YtneammhkgmkkfaaGreatDoor.tr
open Go.RowKit Go.Proofs.YtneammhkgmkkfaaGreatDoor.er
set_option linter.unusedVariables false
set_option linter.unusedSimpArgs false
theorem own_le {w : World} {B B' k n : Nat} {e : TypeId} {v : Value} {xs : List Value} (h : w.ownsRow B' e k v n xs) (hB : B ≤ B') : w.ownsRow B e k v n xs := by
  obtain ⟨h1,h2⟩ := h
  refine ⟨h1,?_⟩
  rcases h2 with h2 | ⟨g,cap,cur,a1,a2,a3⟩
  · exact .inl h2
  · exact .inr ⟨g,cap,cur,a1,Nat.le_trans hB a2,a3⟩
set_option maxHeartbeats 4000000 in
set_option maxRecDepth 100000 in
theorem readLeaf_any (s : ByteArray) (w : World) (hs : s.size ≤ 1000000) : Calls Tryz.prog 43 #[.string s] w (RdE s w) := by
  have HX := Lib.hid (extW_any w)
  have HR := Lib.hid (fun gw w1 h => eRead s gw w1 h hs)
  go_enter Tryz.func43,Tryz.ntmps43
  go_wp2_with fail
  with_reducible refine HX.out.mono ?_
  rintro e w1 ⟨rfl,hw,hb⟩
  have HB := Lib.hid hb
  have HE := Lib.hid (HR.out w.heap.size w1 (eWs w1 _ ⟨0,0,0,0⟩ (hw _)))
  clear hw hb
  go_wp2_with fail
  with_reducible refine HE.out.mono ?_
  rintro e w2 (⟨A,c,rfl,h1,h2,h3,h4⟩ | ⟨rfl,h1,h2⟩)
  · have HQ : Hid (RdE s w (.returned (.tuple #[.slice A (extsD s).length c,.int .i64 0])) w2) := .inl ⟨A,c,rfl,h1,h2,own_le h3 HB.out.size,HB.out.trans (h4.mono HB.out.size)⟩
    clear h1 h2 h3 h4
    go_wp2_with fail
    refine bodyPost_ret (v := .tuple #[.slice A (extsD s).length c,.int .i64 0]) (by simp [results,Tryz.results43,go_sem]) rfl HQ.out
  · have HQ : Hid (RdE s w (.returned (.tuple #[.slice none 0 0,.int .i64 3])) w2) := .inr ⟨rfl,h1,HB.out.trans (h2.mono HB.out.size)⟩
    clear h1 h2
    go_wp2_with fail
    refine bodyPost_ret (v := .tuple #[.slice none 0 0,.int .i64 3]) (by simp [results,Tryz.results43,go_sem]) rfl HQ.out
set_option maxHeartbeats 4000000 in
set_option maxRecDepth 100000 in
theorem readInner_any (s : ByteArray) (w : World) (hs : s.size ≤ 1000000) : Calls Tryz.prog 45 #[.string s] w (RdK s w) := by
  have HX := Lib.hid (kidW_any w)
  have HR := Lib.hid (fun gw w1 h => kRead s gw w1 h hs)
  go_enter Tryz.func45,Tryz.ntmps45
  go_wp2_with fail
  with_reducible refine HX.out.mono ?_
  rintro e w1 ⟨rfl,hw,hb⟩
  have HB := Lib.hid hb
  have HE := Lib.hid (HR.out w.heap.size w1 (kWs w1 _ ⟨0,0⟩ (hw _)))
  clear hw hb
  go_wp2_with fail
  with_reducible refine HE.out.mono ?_
  rintro e w2 (⟨A,c,rfl,h1,h2,h3,h4⟩ | ⟨rfl,h1,h2⟩)
  · have HQ : Hid (RdK s w (.returned (.tuple #[.slice A (kidsD s).length c,.int .i64 0])) w2) := .inl ⟨A,c,rfl,h1,h2,own_le h3 HB.out.size,HB.out.trans (h4.mono HB.out.size)⟩
    clear h1 h2 h3 h4
    go_wp2_with fail
    refine bodyPost_ret (v := .tuple #[.slice A (kidsD s).length c,.int .i64 0]) (by simp [results,Tryz.results45,go_sem]) rfl HQ.out
  · have HQ : Hid (RdK s w (.returned (.tuple #[.slice none 0 0,.int .i64 3])) w2) := .inr ⟨rfl,h1,HB.out.trans (h2.mono HB.out.size)⟩
    clear h1 h2
    go_wp2_with fail
    refine bodyPost_ret (v := .tuple #[.slice none 0 0,.int .i64 3]) (by simp [results,Tryz.results45,go_sem]) rfl HQ.out
def errV (c : Int) : Value := .iface 35 (.int .i64 c)
def ErrAt (w : World) (v : Value) : Prop := ∃ b op pg c,v = .iface 88 (.pointer (some ⟨b,0,none⟩)) ∧ Whole w b 91 #[.string op,.int .i64 pg,errV c] ∧ (c = 3 ∨ c = 4)
theorem ErrAt.below {w w' : World} {v : Value} (h : ErrAt w v) (hb : Below w.heap.size w w') : ErrAt w' v := by
  obtain ⟨b,op,pg,c,h1,h2,h3⟩ := h
  exact ⟨b,op,pg,c,h1,h2.keep (Keep.below (F := fun _ => False) hb) (fun h => h),h3⟩
set_option maxHeartbeats 4000000 in
set_option maxRecDepth 100000 in
theorem wrap_any (op : ByteArray) (pg c : Int) (w : World) : Calls Tryz.prog 22 #[.string op,.int .i64 pg,.iface 35 (.int .i64 c)] w fun x w' => x = .returned (.iface 88 (.pointer (some ⟨w.heap.size,0,none⟩))) ∧ w' = w.alloc (.cells #[.string op,.int .i64 pg,errV c] 91) := by
  unfold errV
  go_enter Tryz.func22,Tryz.ntmps22
  go_wp2_with fail
  go_ret
  exact ⟨rfl,rfl⟩
theorem wrap_err {op : ByteArray} {pg c : Int} {w : World} (hc : c = 3 ∨ c = 4) : ErrAt (w.alloc (.cells #[.string op,.int .i64 pg,errV c] 91)) (.iface 88 (.pointer (some ⟨w.heap.size,0,none⟩))) ∧ Below w.heap.size w (w.alloc (.cells #[.string op,.int .i64 pg,errV c] 91)) :=
  ⟨⟨_,op,pg,c,rfl,Whole.new w _ _,hc⟩,(Below.refl _ _).alloc (Nat.le_refl _) _⟩
theorem wrapErr_any (op : ByteArray) (pg c : Int) (hc : c = 3 ∨ c = 4) (w : World) : Calls Tryz.prog 22 #[.string op,.int .i64 pg,.iface 35 (.int .i64 c)] w fun x w' => ∃ y,x = .returned (.iface 88 y) ∧ ErrAt w' (.iface 88 y) ∧ Below w.heap.size w w' := by
  refine (wrap_any op pg c w).mono ?_
  rintro x w' ⟨rfl,rfl⟩
  exact ⟨_,rfl,wrap_err hc⟩
def getB (L : Bk) (pg : Int) : Option (Int × ByteArray) := if pg < 0 then none else L[pg.toNat]?
def GetRet (o : Option (Int × ByteArray)) (w : World) (x : Ending) (w' : World) : Prop :=
  x = .returned (match o with | some p => .tuple #[.int .i64 p.1,.string p.2,.nilIface] | none => .tuple #[.int .i64 0,.string ⟨#[]⟩,.iface 35 (.int .i64 4)]) ∧ Below w.heap.size w w'
def BkR (w : World) (v : Value) (L : Bk) : Prop := ∃ A c,v = .slice A L.length c ∧ (0 < L.length → ∃ g o,A = some ⟨g,o,none⟩ ∧ ∀ (j : Nat) (p : Int × ByteArray),L[j]? = some p → w.cell? ⟨g,o + j * 2,none⟩ = some (.int .i64 p.1) ∧ w.cell? ⟨g,o + j * 2 + 1,none⟩ = some (.string p.2))
theorem BkR.below {w w' : World} {v : Value} {L : Bk} (h : BkR w v L) (hb : Below w.heap.size w w') : BkR w' v L := by
  obtain ⟨A,c,rfl,h2⟩ := h
  refine ⟨A,c,rfl,fun h0 => ?_⟩
  obtain ⟨g,o,rfl,h3⟩ := h2 h0
  exact ⟨g,o,rfl,fun j p hj => ⟨below_c hb (h3 j p hj).1,below_c hb (h3 j p hj).2⟩⟩
def BkV (w : World) (bb : Nat) (L : Bk) : Prop := ∃ v,Whole w bb 28 #[v] ∧ BkR w v L
theorem BkV.below {w w' : World} {bb : Nat} {L : Bk} (h : BkV w bb L) (hb : Below w.heap.size w w') : BkV w' bb L := by
  obtain ⟨v,h1,h2⟩ := h
  exact ⟨v,h1.keep (Keep.below (F := fun _ => False) hb) (fun h => h),h2.below hb⟩
set_option maxHeartbeats 4000000 in
set_option maxRecDepth 100000 in
theorem get_any (w : World) (G : Nat → Prop) (bb : Nat) (L : Bk) (pg : Int) (h : BkV w bb L) (hp : -9223372036854775808 ≤ pg ∧ pg ≤ 9223372036854775807) :
    Calls Tryz.prog 7 #[.pointer (some ⟨bb,0,none⟩),.int .i64 pg] w (GetRet (getB L pg) w) := by
  obtain ⟨v,a1,A,c,rfl,a2⟩ := h
  have co := a1.cell 0
  simp at co
  obtain ⟨n,hn⟩ : ∃ n,L.length = n := ⟨_,rfl⟩
  rw [hn] at a2 co
  by_cases h0 : pg < 0
  · have he : getB L pg = none := by unfold getB; rw [if_pos h0]
    rw [he]
    clear a1 a2 hn he
    go_enter Tryz.func7,Tryz.ntmps7
    go_wp2_with fail
    refine bodyPost_ret (v := .tuple #[.int .i64 0,.string ⟨#[]⟩,.iface 35 (.int .i64 4)]) (by simp [results,Tryz.results7,go_sem]) rfl ⟨rfl,Below.refl _ _⟩
  · by_cases h1 : (n : Int) ≤ pg
    · have he : getB L pg = none := by unfold getB; rw [if_neg h0]; exact List.getElem?_eq_none (by omega)
      rw [he]
      clear a1 a2 hn he
      go_enter Tryz.func7,Tryz.ntmps7
      go_wp2_with fail
      refine bodyPost_ret (v := .tuple #[.int .i64 0,.string ⟨#[]⟩,.iface 35 (.int .i64 4)]) (by simp [results,Tryz.results7,go_sem]) rfl ⟨rfl,Below.refl _ _⟩
    · obtain ⟨i,rfl⟩ : ∃ i : Nat,pg = i := ⟨pg.toNat,by omega⟩
      have hi : i < n := by omega
      obtain ⟨p,hpp⟩ : ∃ p,L[i]? = some p := ⟨_,List.getElem?_eq_getElem (by omega)⟩
      have he : getB L i = some p := by unfold getB; rw [if_neg h0]; simpa using hpp
      rw [he]
      obtain ⟨g,o,rfl,hc⟩ := a2 (by omega)
      obtain ⟨c0,c1⟩ := hc i p hpp
      obtain ⟨kd,s⟩ := p
      simp only at c0 c1
      have hii : (i : Int) < (n : Int) := by omega
      have HK : Hid (∀ w',Below w.heap.size w w' → (w'.cell? ⟨bb,0,none⟩ = some (.slice (some ⟨g,o,none⟩) n c) ∧ w'.cell? ⟨g,o + i * 2,none⟩ = some (.int .i64 kd) ∧ w'.cell? ⟨g,o + i * 2 + 1,none⟩ = some (.string s))) := fun w' hb => ⟨below_c hb co,below_c hb c0,below_c hb c1⟩
      clear a1 a2 hn he hc hpp
      go_enter Tryz.func7,Tryz.ntmps7
      go_wp2_with fail
      go_region_held3 (fun w' => (w'.cell? ⟨bb,0,none⟩ = some (.slice (some ⟨g,o,none⟩) n c) ∧ w'.cell? ⟨g,o + i * 2,none⟩ = some (.int .i64 kd) ∧ w'.cell? ⟨g,o + i * 2 + 1,none⟩ = some (.string s))) (exact HK.out _ (by repeat (first | with_reducible exact Below.refl _ _ | refine Below.drew ?_))) (fail)
      go_wp2_with fail
      refine bodyPost_ret (v := .tuple #[.int .i64 kd,.string s,.nilIface]) (by simp [results,Tryz.results7,go_sem]) rfl ⟨rfl,by repeat (first | with_reducible exact Below.refl _ _ | refine Below.drew ?_)⟩
def smallB (pg top n least : Int) : Bool := (decide (pg ≠ top) && decide (n < 4)) || decide (n < least)
set_option maxHeartbeats 4000000 in
set_option maxRecDepth 100000 in
theorem small_any (r : Nat) (pg top n least : Int) (w : World) (h : w.cell? ⟨r,1,none⟩ = some (.int .i64 top)) :
    Calls Tryz.prog 44 #[.pointer (some ⟨r,0,none⟩),.int .i64 pg,.int .i64 n,.int .i64 least] w fun x w' => x = .returned (.bool (smallB pg top n least)) ∧ w = w' := by
  unfold smallB
  by_cases h1 : pg = top
  · subst h1
    by_cases h3 : n < least
    · go_enter Tryz.func44,Tryz.ntmps44
      go_wp2_with fail
      go_ret
      exact ⟨by simp [h3],rfl⟩
    · go_enter Tryz.func44,Tryz.ntmps44
      go_wp2_with fail
      go_ret
      exact ⟨by simp [h3],rfl⟩
  · by_cases h2 : n < 4
    · go_enter Tryz.func44,Tryz.ntmps44
      go_wp2_with fail
      go_ret
      exact ⟨by simp [h1,h2],rfl⟩
    · by_cases h3 : n < least
      · go_enter Tryz.func44,Tryz.ntmps44
        go_wp2_with fail
        go_ret
        exact ⟨by simp [h1,h2,h3],rfl⟩
      · go_enter Tryz.func44,Tryz.ntmps44
        go_wp2_with fail
        go_ret
        exact ⟨by simp [h1,h2,h3],rfl⟩
end Go.Proofs.YtneammhkgmkkfaaGreatDoor.tr
