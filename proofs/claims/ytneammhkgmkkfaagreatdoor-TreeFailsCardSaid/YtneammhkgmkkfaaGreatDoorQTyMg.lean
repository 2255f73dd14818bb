/- A part of the proof. -/
import Derived.Test.YtneammhkgmkkfaaGreatDoorQTyV
namespace Go.Proofs.YtneammhkgmkkfaaGreatDoor.tr
open Go.RowKit Go.Proofs.YtneammhkgmkkfaaGreatDoor.er
set_option linter.unusedVariables false
set_option linter.unusedSimpArgs false
def TrAt (w : World) (F : List Nat) (p : Nat) : Tree → Prop
  | .no => F = [p] ∧ Whole w p 69 #[.nilIface]
  | .top h n => ∃ F' v,F = p :: F' ∧ Whole w p 69 #[v] ∧ NdIn w F' v n ∧ p ∉ F'
def TrPost (w : World) (F : List Nat) (p : Nat) (T' : Tree) (w' : World) : Prop := ∃ F',TrAt w' F' p T' ∧ Mv (fun k => k ∈ F) w (fun k => k ∈ F') w'
theorem TrAt.keep {G : Nat → Prop} {w w' : World} {F : List Nat} {p : Nat} {T : Tree} (h : TrAt w F p T) (hk : Keep G w w') (hG : ∀ k ∈ F,¬ G k) : TrAt w' F p T := by
  cases T with
  | no => exact ⟨h.1,h.2.keep hk (hG p (by rw [h.1]; simp))⟩
  | top hh n =>
    obtain ⟨F',v,rfl,h2,h3,h4⟩ := h
    exact ⟨F',v,rfl,h2.keep hk (hG p (by simp)),⟨h3.at_.keep hk (fun k hkm => hG k (by simp [hkm])),h3.nd⟩,h4⟩
theorem TrAt.lt {w : World} {F : List Nat} {p : Nat} {T : Tree} (h : TrAt w F p T) : ∀ k ∈ F,k < w.heap.size := by
  cases T with
  | no => intro k hk; rw [h.1] at hk; rw [List.mem_singleton.1 hk]; exact h.2.lt
  | top hh n =>
    obtain ⟨F',v,rfl,h2,h3,h4⟩ := h
    intro k hk
    rcases List.mem_cons.1 hk with rfl | hk
    · exact h2.lt
    · exact h3.at_.lt k hk
theorem tr_new {w w5 w6 : World} {F : List Nat} {p : Nat} {v : Value} {F' : List Nat} {h : Nat} {n : Nd h} {v' : Value} (hp : Whole w5 p 69 #[v]) (hn : NdIn w5 F' v' n) (hpn : p ∉ F') (hmv : Mv (fun k => k ∈ F) w (fun k => k ∈ p :: F') w5) (hw : w6 = w5.setCell ⟨p,0,none⟩ v') : TrPost w F p (.top h n) w6 := by
  subst hw
  have hk : Keep (fun k => k = p) w5 (w5.setCell ⟨p,0,none⟩ v') := Keep.set1 w5 p 0 v'
  refine ⟨p :: F',⟨F',v',rfl,?_,⟨hn.at_.keep hk (fun k hkm e => hpn (e ▸ hkm)),hn.nd⟩,hpn⟩,⟨hmv.keep.trans (hk.mono (G := fun k => k ∈ p :: F') (fun k _ e => by have e' : k = p := e; rw [e']; exact List.mem_cons_self)) hmv.sub,hmv.sub⟩⟩
  have := hp.set 0 v'
  simpa using this
set_option maxHeartbeats 4000000 in
set_option maxRecDepth 100000 in
theorem put_no (w : World) (F : List Nat) (p : Nat) (e : Ext) (ht : TrAt w F p .no) : Calls Tryz.prog 72 #[.pointer (some ⟨p,0,none⟩),e.val] w fun x w' => x = .returned (.tuple #[]) ∧ TrPost w F p (Tree.no.put e) w' := by
  obtain ⟨rfl,hp⟩ := ht
  have hpl := hp.lt
  have c0 := hp.cell 0
  have z0 := hp.fz 0
  simp at c0
  have hHR : Hid (Tree.no.put e = .top 0 (mkL (-1) [e])) := rfl
  rw [hHR.out]
  obtain ⟨f,en,k,t⟩ := e
  have hpb : p ≠ w.heap.size := by omega
  have hpb1 : p ≠ w.heap.size + 1 := by omega
  have hpb2 : p ≠ w.heap.size + 1 + 1 := by omega
  have hpb3 : p ≠ w.heap.size + 2 := by omega
  have HEND : Hid (∀ w5 o,w5 = ((w.alloc o).alloc (.cells #[.int .i64 f,.int .i64 en,.int .i64 k,.int .i64 t] 59)).alloc (.cells #[.int .i64 (-1),.slice (some ⟨w.heap.size + 1,0,none⟩) 1 1] 119) → TrPost w [p] p (.top 0 (mkL (-1) [⟨f,en,k,t⟩])) (w5.setCell ⟨p,0,none⟩ (.iface 117 (.pointer (some ⟨w.heap.size + 2,0,none⟩))))) := by
    intro w5 o h5
    have k1 : Keep (fun _ => False) w w5 := by rw [h5]; exact (((Keep.refl _ _).alloc _).alloc _).alloc _
    have b1 : Whole w5 (w.heap.size + 1) 59 #[.int .i64 f,.int .i64 en,.int .i64 k,.int .i64 t] := by
      rw [h5]
      exact (Whole.new' (w.alloc o) _ _ (w.heap.size + 1) (by simp)).alloc _
    have b2 : Whole w5 (w.heap.size + 2) 119 #[.int .i64 (-1),.slice (some ⟨w.heap.size + 1,0,none⟩) 1 1] := by
      rw [h5]
      exact Whole.new' _ _ _ (w.heap.size + 2) (by simp)
    have hrow : Row w5 (w.heap.size + 1) 1 4 59 (extCells [⟨f,en,k,t⟩]) := Row.of b1 (by simp) (by unfold maxLen; omega) (by simp [extCells_len]) (fun j hj => by simp [extCells,Ext.cells])
    have hn : NdIn w5 [w.heap.size + 2,w.heap.size + 1] (ptrV 0 (w.heap.size + 2)) (mkL (-1) [⟨f,en,k,t⟩]) := ⟨leaf_at (c := 1) ⟨b2,hrow⟩,by simp⟩
    refine tr_new (v' := .iface 117 (.pointer (some ⟨w.heap.size + 2,0,none⟩))) (hp.keep k1 (fun h => h)) hn (by simp; omega) ⟨k1.mono (fun _ _ h => h.elim),fun x hx => ?_⟩ rfl
    simp only [List.mem_cons,List.not_mem_nil,or_false] at hx ⊢
    rcases hx with rfl | rfl | rfl
    · exact .inl rfl
    · exact .inr (by omega)
    · exact .inr (by omega)
  have qa1 : ∀ o,(w.alloc o).cell? ⟨p,0,none⟩ = some .nilIface := fun o => (hp.alloc o).cell 0
  have qa3 : ∀ o o2 o3,(((w.alloc o).alloc o2).alloc o3).cell? ⟨p,0,none⟩ = some .nilIface := fun o o2 o3 => (((hp.alloc o).alloc o2).alloc o3).cell 0
  have qf3 : ∀ o o2 o3,(((w.alloc o).alloc o2).alloc o3).frozen? ⟨p,0,none⟩ = false := fun o o2 o3 => (((hp.alloc o).alloc o2).alloc o3).fz 0
  clear hp hHR hpl c0 z0
  show Calls Tryz.prog 72 #[.pointer (some ⟨p,0,none⟩),.agg #[.int .i64 f,.int .i64 en,.int .i64 k,.int .i64 t]] w _
  go_enter Tryz.func72,Tryz.ntmps72
  go_wp2_with fail
  exact bodyPost_ret (v := .tuple #[]) (by simp [results,Tryz.results72,go_sem]) rfl ⟨rfl,HEND.out _ _ rfl⟩
set_option maxHeartbeats 4000000 in
set_option maxRecDepth 100000 in
theorem put_top (w : World) (F : List Nat) (p : Nat) (h : Nat) (n : Nd h) (e : Ext) (ht : TrAt w F p (.top h n)) (hok : (Tree.top h n).Ok) (ho : ∀ x ∈ flat n,oneB x = true) (hi : Inc (flat n)) (he : oneB e = true) :
    Calls Tryz.prog 72 #[.pointer (some ⟨p,0,none⟩),e.val] w fun x w' => x = .returned (.tuple #[]) ∧ TrPost w F p ((Tree.top h n).put e) w' := by
  obtain ⟨F',v,rfl,hp,hn,hpn⟩ := ht
  obtain ⟨q1,q2,q3,q4⟩ := hok.parts
  have hpl := hp.lt
  obtain ⟨kb,kF,f1,f2⟩ := hn.at_.form
  obtain ⟨f,en,k,t⟩ := e
  have hA : ∀ o,Keep (fun _ => False) w (w.alloc o) := fun o => Keep.alloc (Keep.refl _ _) _
  have hbox := Whole.new w 59 #[.int .i64 f,.int .i64 en,.int .i64 k,.int .i64 t]
  obtain ⟨w1,hw1⟩ : ∃ w1,w.alloc (.cells #[.int .i64 f,.int .i64 en,.int .i64 k,.int .i64 t] 59) = w1 := ⟨_,rfl⟩
  have hk1 : Keep (fun _ => False) w w1 := by rw [← hw1]; exact hA _
  rw [hw1] at hbox
  have hp1 : Whole w1 p 69 #[v] := hp.keep hk1 (fun h => h)
  have c0 : w1.cell? ⟨p,0,none⟩ = some (.iface (ndT h) (.pointer (some ⟨kb,0,none⟩))) := by rw [← f2]; exact hp1.cell 0
  obtain ⟨⟨y0,y1,y2,y3⟩,_⟩ : (w1.cell? ⟨w.heap.size,0,none⟩ = some (.int .i64 f) ∧ w1.cell? ⟨w.heap.size,1,none⟩ = some (.int .i64 en) ∧ w1.cell? ⟨w.heap.size,2,none⟩ = some (.int .i64 k) ∧ w1.cell? ⟨w.heap.size,3,none⟩ = some (.int .i64 t)) ∧ True := ⟨⟨hbox.cell 0,hbox.cell 1,hbox.cell 2,hbox.cell 3⟩,trivial⟩
  have hn1 : NdIn w1.drew F' v n := ⟨hn.at_.keep (Keep.drew hk1) (fun _ _ h => h),hn.nd⟩
  have hc := ins_any h w1.drew F' v n ⟨f,en,k,t⟩ hn1 q1 q3 q4 ho hi he
  rw [f2] at hc
  simp only [Ext.val] at hc
  have hbl : p < w1.heap.size := hp1.lt
  have hpw : w.heap.size ∉ F' := fun hm => by have := hn.at_.lt _ hm; omega
  have hwp : w.heap.size ≠ p := by omega
  have HCE : Hid (∀ w5,Keep (fun k => k ∈ F') w1.drew w5 → w5.cell? ⟨p,0,none⟩ = some (.iface (ndT h) (.pointer (some ⟨kb,0,none⟩))) ∧ w5.frozen? ⟨p,0,none⟩ = false ∧ w5.cell? ⟨w.heap.size,0,none⟩ = some (.int .i64 f) ∧ w5.cell? ⟨w.heap.size,1,none⟩ = some (.int .i64 en) ∧ w5.cell? ⟨w.heap.size,2,none⟩ = some (.int .i64 k) ∧ w5.cell? ⟨w.heap.size,3,none⟩ = some (.int .i64 t)) := by
    intro w5 hk5
    have v1 := Whole.keep (w := w1.drew) hp1 hk5 hpn
    have v2 := Whole.keep (w := w1.drew) hbox hk5 hpw
    exact ⟨by rw [← f2]; exact v1.cell 0,v1.fz 0,v2.cell 0,v2.cell 1,v2.cell 2,v2.cell 3⟩
  have hm1 : ∀ {G : Nat → Prop} {w5 : World},Mv (fun k => k ∈ F') w1.drew G w5 → Mv (fun k => k ∈ p :: F') w (fun k => k = p ∨ G k) w5 := by
    intro G w5 hm
    refine ⟨⟨hm.keep.os.trans hk1.os,hm.keep.tape.trans hk1.tape,hm.keep.output.trans hk1.output,Nat.le_trans hk1.size hm.keep.size,fun j hj hnj => ?_⟩,fun j hj => ?_⟩
    · exact (hm.keep.block j (Nat.lt_of_lt_of_le hj hk1.size) (fun h => hnj (List.mem_cons_of_mem _ h))).trans (hk1.block j hj (fun h => h))
    · rcases hj with rfl | hj
      · exact .inl List.mem_cons_self
      · rcases hm.sub j hj with h | h
        · exact .inl (List.mem_cons_of_mem _ h)
        · exact .inr (Nat.le_trans hk1.size h)
  cases hs : (insN n ⟨f,en,k,t⟩).2 with
  | none =>
    have hHR : Hid ((Tree.top h n).put ⟨f,en,k,t⟩ = .top h (insN n ⟨f,en,k,t⟩).1) := put_none hs
    rw [hHR.out]
    rw [hs] at hc
    obtain ⟨X,hX⟩ : ∃ X,(insN n ⟨f,en,k,t⟩).1 = X := ⟨_,rfl⟩
    rw [hX] at hc ⊢
    have HINS : Hid (Calls Tryz.prog 102 #[.iface (ndT h) (.pointer (some ⟨kb,0,none⟩)),.agg #[.int .i64 f,.int .i64 en,.int .i64 k,.int .i64 t]] w1.drew fun x w5 => x = .returned .nilIface ∧ (w5.cell? ⟨p,0,none⟩ = some (.iface (ndT h) (.pointer (some ⟨kb,0,none⟩))) ∧ w5.cell? ⟨w.heap.size,0,none⟩ = some (.int .i64 f) ∧ w5.cell? ⟨w.heap.size,1,none⟩ = some (.int .i64 en) ∧ w5.cell? ⟨w.heap.size,2,none⟩ = some (.int .i64 k) ∧ w5.cell? ⟨w.heap.size,3,none⟩ = some (.int .i64 t)) ∧ TrPost w (p :: F') p (.top h X) w5) := by
      refine hc.mono ?_
      rintro x w5 ⟨rfl,G,g1,g2⟩
      obtain ⟨a1,a2,a3⟩ := HCE.out w5 g2.keep
      have hpG : p ∉ G := fun hm => (g2.sub p hm).elim hpn (fun h => by have h' : w1.heap.size ≤ p := h; omega)
      refine ⟨rfl,⟨a1,a3⟩,p :: G,⟨G,_,rfl,Whole.keep (w := w1.drew) hp1 g2.keep hpn,by rw [f2]; exact g1,hpG⟩,?_⟩
      have := hm1 g2
      exact ⟨this.keep,fun j hj => this.sub j (List.mem_cons.1 hj)⟩
    clear hX hHR hc hs hm1 HCE hwp hpw hbl hn1 hp1 hbox hk1 hA f1 f2 hpl q1 q2 q3 q4 hn hp hpn hok ho hi he
    show Calls Tryz.prog 72 #[.pointer (some ⟨p,0,none⟩),.agg #[.int .i64 f,.int .i64 en,.int .i64 k,.int .i64 t]] w _
    go_enter Tryz.func72,Tryz.ntmps72
    go_wp2_with fail
    go_region_held3 (fun w' => w'.cell? ⟨p,0,none⟩ = some (.iface (ndT h) (.pointer (some ⟨kb,0,none⟩))) ∧ w'.cell? ⟨w.heap.size,0,none⟩ = some (.int .i64 f) ∧ w'.cell? ⟨w.heap.size,1,none⟩ = some (.int .i64 en) ∧ w'.cell? ⟨w.heap.size,2,none⟩ = some (.int .i64 k) ∧ w'.cell? ⟨w.heap.size,3,none⟩ = some (.int .i64 t)) (first | with_reducible exact SH5.out | exact ⟨c0,y0,y1,y2,y3⟩) ((go_at_call 102; (with_reducible refine HINS.out.mono ?_); rintro e w5 ⟨rfl,hc5,hp5⟩; have SH5 := Lib.hid hc5; have HP5 := Lib.hid hp5; clear hc5 hp5))
    obtain ⟨z0,z1,z2,z3,z4⟩ := SH5.out
    clear c0 y0 y1 y2 y3
    go_wp2_with fail
    go_end0
    exact ⟨rfl,HP5.out⟩
  | some s =>
    have hHR : Hid ((Tree.top h n).put ⟨f,en,k,t⟩ = .top (h + 1) (mkI (-1) [(insN n ⟨f,en,k,t⟩).1,s])) := put_some hs
    rw [hHR.out]
    rw [hs] at hc
    obtain ⟨X,hX⟩ : ∃ X,(insN n ⟨f,en,k,t⟩).1 = X := ⟨_,rfl⟩
    rw [hX] at hc ⊢
    have HINS : Hid (Calls Tryz.prog 102 #[.iface (ndT h) (.pointer (some ⟨kb,0,none⟩)),.agg #[.int .i64 f,.int .i64 en,.int .i64 k,.int .i64 t]] w1.drew fun x w5 => ∃ rb,x = .returned (.iface (ndT h) (.pointer (some ⟨rb,0,none⟩))) ∧ (w5.cell? ⟨p,0,none⟩ = some (.iface (ndT h) (.pointer (some ⟨kb,0,none⟩))) ∧ w5.cell? ⟨w.heap.size,0,none⟩ = some (.int .i64 f) ∧ w5.cell? ⟨w.heap.size,1,none⟩ = some (.int .i64 en) ∧ w5.cell? ⟨w.heap.size,2,none⟩ = some (.int .i64 k) ∧ w5.cell? ⟨w.heap.size,3,none⟩ = some (.int .i64 t)) ∧
        ((∀ o o2,((w5.alloc o).alloc o2).cell? ⟨p,0,none⟩ = some (.iface (ndT h) (.pointer (some ⟨kb,0,none⟩)))) ∧ ∀ o o2,((w5.alloc o).alloc o2).frozen? ⟨p,0,none⟩ = false) ∧
        TrPost w (p :: F') p (.top (h + 1) (mkI (-1) [X,s])) (((w5.alloc (.cells #[.iface (ndT h) (.pointer (some ⟨kb,0,none⟩)),.iface (ndT h) (.pointer (some ⟨rb,0,none⟩))] 62)).alloc (.cells #[.int .i64 (-1),.slice (some ⟨w5.heap.size,0,none⟩) 2 2] 97)).setCell ⟨p,0,none⟩ (.iface 94 (.pointer (some ⟨w5.heap.size + 1,0,none⟩))))) := by
      refine hc.mono ?_
      rintro x w5 ⟨rb,G1,G2,rfl,g1,g2,g3,g4⟩
      obtain ⟨a1,a2,a3⟩ := HCE.out w5 g4.keep
      have hp5 : Whole w5 p 69 #[v] := Whole.keep (w := w1.drew) hp1 g4.keep hpn
      have hp5l := hp5.lt
      refine ⟨rb,rfl,⟨a1,a3⟩,⟨fun o o2 => by rw [← f2]; exact ((hp5.alloc o).alloc o2).cell 0,fun o o2 => ((hp5.alloc o).alloc o2).fz 0⟩,?_⟩
      obtain ⟨w7,hw7⟩ : ∃ w7,(w5.alloc (.cells #[.iface (ndT h) (.pointer (some ⟨kb,0,none⟩)),.iface (ndT h) (.pointer (some ⟨rb,0,none⟩))] 62)).alloc (.cells #[.int .i64 (-1),.slice (some ⟨w5.heap.size,0,none⟩) 2 2] 97) = w7 := ⟨_,rfl⟩
      rw [hw7]
      have hk7 : Keep (fun _ => False) w5 w7 := by rw [← hw7]; exact ((Keep.refl _ _).alloc _).alloc _
      have b1 : Whole w7 w5.heap.size 62 #[.iface (ndT h) (.pointer (some ⟨kb,0,none⟩)),.iface (ndT h) (.pointer (some ⟨rb,0,none⟩))] := by rw [← hw7]; exact (Whole.new w5 _ _).alloc _
      have b2 : Whole w7 (w5.heap.size + 1) 97 #[.int .i64 (-1),.slice (some ⟨w5.heap.size,0,none⟩) 2 2] := by rw [← hw7]; exact Whole.new' _ _ _ _ (by simp)
      have hG1 : ∀ j ∈ G1,j < w5.heap.size := g1.at_.lt
      have hG2 : ∀ j ∈ G2,j < w5.heap.size := g2.at_.lt
      have hF : dsF [(G1,v,X),(G2,ptrV h rb,s)] = G1 ++ G2 := by simp [dsF]
      have hpG1 : p ∉ G1 := fun hm => (g4.sub p (.inl hm)).elim hpn (fun h => by have h' : w1.heap.size ≤ p := h; omega)
      have hpG2 : p ∉ G2 := fun hm => (g4.sub p (.inr hm)).elim hpn (fun h => by have h' : w1.heap.size ≤ p := h; omega)
      have hin : InAt w7 (w5.heap.size + 1) w5.heap.size 2 (-1) [(G1,v,X),(G2,ptrV h rb,s)] := by
        refine ⟨b2,Row.of b1 (by simp) (by unfold maxLen; omega) (by simp) (fun j hj => by simp [f2,ptrV]),fun d hd => ?_⟩
        simp only [List.mem_cons,List.not_mem_nil,or_false] at hd
        rcases hd with rfl | rfl
        · show NdAt w7 G1 v X
          rw [f2]; exact g1.at_.keep hk7 (fun _ _ h => h)
        · exact g2.at_.keep hk7 (fun _ _ h => h)
      have hnd : ((w5.heap.size + 1) :: w5.heap.size :: dsF [(G1,v,X),(G2,ptrV h rb,s)]).Nodup := by
        rw [hF]
        refine List.nodup_cons.2 ⟨fun hm => ?_,List.nodup_cons.2 ⟨fun hm => ?_,List.nodup_append.2 ⟨g1.nd,g2.nd,fun x hx y hy e => g3 x hx (e ▸ hy)⟩⟩⟩
        · rcases List.mem_cons.1 hm with e | hm
          · omega
          · rcases List.mem_append.1 hm with hm | hm
            · have := hG1 _ hm; omega
            · have := hG2 _ hm; omega
        · rcases List.mem_append.1 hm with hm | hm
          · have := hG1 _ hm; omega
          · have := hG2 _ hm; omega
      have hsz := g4.keep.size
      have hk1s := hk1.size
      have hsz' : w1.heap.size ≤ w5.heap.size := hsz
      refine tr_new (hp5.keep hk7 (fun h => h)) ⟨inner_at hin,hnd⟩ (fun hm => ?_) ?_ rfl
      · rw [hF] at hm
        rcases List.mem_cons.1 hm with e | hm
        · omega
        · rcases List.mem_cons.1 hm with e | hm
          · omega
          · exact (List.mem_append.1 hm).elim hpG1 hpG2
      · have hm5 := hm1 g4
        refine ⟨hm5.keep.trans hk7 (fun _ h => h.elim),fun j hj => ?_⟩
        rw [hF] at hj
        rcases List.mem_cons.1 hj with rfl | hj
        · exact .inl List.mem_cons_self
        · rcases List.mem_cons.1 hj with rfl | hj
          · exact .inr (by omega)
          · rcases List.mem_cons.1 hj with rfl | hj
            · exact .inr (by omega)
            · exact hm5.sub j (.inr (List.mem_append.1 hj))
    clear hX hHR hc hs hm1 HCE hwp hpw hbl hn1 hp1 hbox hk1 hA f1 f2 hpl q1 q2 q3 q4 hn hp hpn hok ho hi he
    show Calls Tryz.prog 72 #[.pointer (some ⟨p,0,none⟩),.agg #[.int .i64 f,.int .i64 en,.int .i64 k,.int .i64 t]] w _
    go_enter Tryz.func72,Tryz.ntmps72
    go_wp2_with fail
    go_region_held3 (fun w' => w'.cell? ⟨p,0,none⟩ = some (.iface (ndT h) (.pointer (some ⟨kb,0,none⟩))) ∧ w'.cell? ⟨w.heap.size,0,none⟩ = some (.int .i64 f) ∧ w'.cell? ⟨w.heap.size,1,none⟩ = some (.int .i64 en) ∧ w'.cell? ⟨w.heap.size,2,none⟩ = some (.int .i64 k) ∧ w'.cell? ⟨w.heap.size,3,none⟩ = some (.int .i64 t)) (first | with_reducible exact SH5.out | exact ⟨c0,y0,y1,y2,y3⟩) ((go_at_call 102; (with_reducible refine HINS.out.mono ?_); rintro e w5 ⟨rb,rfl,hc5,⟨ha5,hf5⟩,hp5⟩; have SH5 := Lib.hid hc5; have HP5 := Lib.hid hp5; clear hc5 hp5))
    obtain ⟨z0,z1,z2,z3,z4⟩ := SH5.out
    clear c0 y0 y1 y2 y3
    go_wp2_with fail
    go_end0
    exact ⟨rfl,HP5.out⟩
theorem put_any (w : World) (F : List Nat) (p : Nat) (T : Tree) (e : Ext) (ht : TrAt w F p T) (hok : T.Ok) (ho : ∀ x ∈ T.flat,oneB x = true) (hi : Inc T.flat) (he : oneB e = true) :
    Calls Tryz.prog 72 #[.pointer (some ⟨p,0,none⟩),e.val] w fun x w' => x = .returned (.tuple #[]) ∧ TrPost w F p (T.put e) w' := by
  cases T with
  | no => exact put_no w F p e ht
  | top h n => exact put_top w F p h n e ht hok ho hi he
end Go.Proofs.YtneammhkgmkkfaaGreatDoor.tr
namespace Go.Proofs.YtneammhkgmkkfaaGreatDoor.tr
open Go.RowKit Go.Proofs.YtneammhkgmkkfaaGreatDoor.er
set_option linter.unusedVariables false
set_option linter.unusedSimpArgs false
set_option maxHeartbeats 4000000 in
set_option maxRecDepth 100000 in
theorem take_leaf (w : World) (F : List Nat) (p : Nat) (n : Nd 0) (s : Int) (ht : TrAt w F p (.top 0 n)) (hok : (Tree.top 0 n).Ok) (hi : Inc (flat n)) :
    Calls Tryz.prog 71 #[.pointer (some ⟨p,0,none⟩),.int .i64 s] w fun x w' => x = .returned (.tuple #[]) ∧ TrPost w F p ((Tree.top 0 n).take s) w' := by
  obtain ⟨F',v,rfl,hp,hn,hpn⟩ := ht
  obtain ⟨q1,q2,q3,q4⟩ := hok.parts
  obtain ⟨kb,kF,f1,f2⟩ := hn.at_.form
  have hc := rem_any 0 w F' v n s hn q1 q2 q3 q4 hi
  have c0 : w.cell? ⟨p,0,none⟩ = some (.iface 117 (.pointer (some ⟨kb,0,none⟩))) := by have := hp.cell 0; rw [f2] at this; exact this
  obtain ⟨X,hX⟩ : ∃ X,remN n s = X := ⟨_,rfl⟩
  have hTK : Hid ((Tree.top 0 n).take s = if X.l = [] then .no else .top 0 X) := by show (Tree.low (remN n s)) = _; rw [hX]; rfl
  rw [hTK.out]
  rw [hX] at hc
  have hRM : Hid (Calls Tryz.prog 101 #[.iface 117 (.pointer (some ⟨kb,0,none⟩)),.int .i64 s] w fun x w5 => x = .returned (.tuple #[]) ∧ (w5.cell? ⟨p,0,none⟩ = some (.iface 117 (.pointer (some ⟨kb,0,none⟩))) ∧ w5.frozen? ⟨p,0,none⟩ = false) ∧ (∃ g c,w5.cell? ⟨kb,1,none⟩ = some (.slice (some ⟨g,0,none⟩) X.l.length c)) ∧
      TrPost w (p :: F') p (.top 0 X) w5 ∧ TrPost w (p :: F') p .no (w5.setCell ⟨p,0,none⟩ .nilIface)) := by
    rw [f2] at hc
    refine hc.mono ?_
    rintro x w5 ⟨rfl,G,g1,g2⟩
    have hp5 := hp.keep g2.keep hpn
    have c5 := hp5.cell 0
    rw [f2] at c5
    obtain ⟨b',g',c',e1,e2,e3⟩ := leaf_open g1.at_
    have hb' : kb = b' := ptr_inj e2
    subst hb'
    have hpG : p ∉ G := fun hm => (g2.sub p hm).elim hpn (fun h => by have := hp.lt; omega)
    have hmv : Mv (fun k => k ∈ p :: F') w (fun k => k ∈ p :: G) w5 := ⟨g2.keep.mono (fun k _ h => List.mem_cons_of_mem _ h),fun k hk => by
      rcases List.mem_cons.1 hk with rfl | hk
      · exact .inl List.mem_cons_self
      · exact (g2.sub k hk).imp (fun h => List.mem_cons_of_mem _ h) (fun h => h)⟩
    refine ⟨rfl,⟨c5,hp5.fz 0⟩,⟨g',c',e3.1.cell 1⟩,⟨p :: G,⟨G,_,rfl,hp5,by rw [f2]; exact g1,hpG⟩,hmv⟩,[p],⟨rfl,?_⟩,⟨?_,fun k hk => by rw [List.mem_singleton.1 hk]; exact .inl List.mem_cons_self⟩⟩
    · have := hp5.set 0 .nilIface
      simpa using this
    · exact hmv.keep.setCell (p := ⟨p,0,none⟩) (.inl List.mem_cons_self) _
  have hta := ta_ll
  by_cases hl : X.l = []
  · rw [if_pos hl]
    rw [hl] at hRM
    clear hl hTK hX hc f1 f2 q1 q2 q3 q4 hn hp hpn hok hi
    go_enter Tryz.func71,Tryz.ntmps71
    go_wp2_with fail
    with_reducible refine hRM.out.mono ?_
    rintro e w5 ⟨rfl,⟨z0,z1⟩,⟨g,c,z2⟩,hp5,hn5⟩
    have HP5 := Lib.hid hn5
    clear hp5 hn5 c0
    simp only [List.length_nil] at z2
    go_wp2_with fail
    go_end0
    exact ⟨rfl,HP5.out⟩
  · rw [if_neg hl]
    obtain ⟨m,hm⟩ : ∃ m,X.l.length = m + 1 := ⟨X.l.length - 1,by have := List.length_pos_iff.2 hl; omega⟩
    rw [hm] at hRM
    have hm1 : ¬ ((m : Int) + 1 = 0) := by omega
    clear hm hl hTK hX hc f1 f2 q1 q2 q3 q4 hn hp hpn hok hi
    go_enter Tryz.func71,Tryz.ntmps71
    go_wp2_with fail
    with_reducible refine hRM.out.mono ?_
    rintro e w5 ⟨rfl,⟨z0,z1⟩,⟨g,c,z2⟩,hp5,hn5⟩
    have HP5 := Lib.hid hp5
    clear hp5 hn5 c0
    go_wp2_with fail
    go_end0
    exact ⟨rfl,HP5.out⟩
set_option maxHeartbeats 4000000 in
set_option maxRecDepth 100000 in
theorem take_inner (w : World) (F : List Nat) (p h : Nat) (n : Nd (h + 1)) (s : Int) (ht : TrAt w F p (.top (h + 1) n)) (hok : (Tree.top (h + 1) n).Ok) (hi : Inc (flat n)) :
    Calls Tryz.prog 71 #[.pointer (some ⟨p,0,none⟩),.int .i64 s] w fun x w' => x = .returned (.tuple #[]) ∧ TrPost w F p ((Tree.top (h + 1) n).take s) w' := by
  obtain ⟨F',v,rfl,hp,hn,hpn⟩ := ht
  obtain ⟨q1,q2,q3,q4⟩ := hok.parts
  obtain ⟨kb,kF,f1,f2⟩ := hn.at_.form
  have hc := rem_any (h + 1) w F' v n s hn q1 q2 q3 q4 hi
  have hro := rem_ok n s q1 q2 q3 hi
  have c0 : w.cell? ⟨p,0,none⟩ = some (.iface 94 (.pointer (some ⟨kb,0,none⟩))) := by have := hp.cell 0; rw [f2] at this; exact this
  obtain ⟨X,hX⟩ : ∃ X,remN n s = X := ⟨_,rfl⟩
  have hTK : Hid ((Tree.top (h + 1) n).take s = match X.ks with | [k] => .top h k | _ => .top (h + 1) X) := by show (Tree.low (remN n s)) = _; rw [hX]; rfl
  rw [hTK.out]
  rw [hX] at hc hro
  have hXs : 1 ≤ X.ks.length := by have h1 : n.size ≤ X.size + 1 := hro.lo; have h2 : 2 ≤ n.ks.length := q2; have h3 : n.size = n.ks.length := rfl; have h4 : X.size = X.ks.length := rfl; omega
  have hmid : ∀ w5 G,NdIn w5 G v X → Mv (fun k => k ∈ F') w (fun k => k ∈ G) w5 → (w5.cell? ⟨p,0,none⟩ = some (.iface 94 (.pointer (some ⟨kb,0,none⟩))) ∧ w5.frozen? ⟨p,0,none⟩ = false) ∧ TrPost w (p :: F') p (.top (h + 1) X) w5 ∧
      ∃ g c,w5.cell? ⟨kb,1,none⟩ = some (.slice (some ⟨g,0,none⟩) X.ks.length c) ∧ ∀ k,X.ks = [k] → ∃ cb,w5.cell? ⟨g,0,none⟩ = some (.iface (ndT h) (.pointer (some ⟨cb,0,none⟩))) ∧ TrPost w (p :: F') p (.top h k) (w5.setCell ⟨p,0,none⟩ (.iface (ndT h) (.pointer (some ⟨cb,0,none⟩)))) := by
    intro w5 G g1 g2
    have hp5 := hp.keep g2.keep hpn
    have c5 := hp5.cell 0
    rw [f2] at c5
    have hpG : p ∉ G := fun hm => (g2.sub p hm).elim hpn (fun h => by have := hp.lt; omega)
    have hmv : Mv (fun k => k ∈ p :: F') w (fun k => k ∈ p :: G) w5 := ⟨g2.keep.mono (fun k _ h => List.mem_cons_of_mem _ h),fun k hk => by
      rcases List.mem_cons.1 hk with rfl | hk
      · exact .inl List.mem_cons_self
      · exact (g2.sub k hk).imp (fun h => List.mem_cons_of_mem _ h) (fun h => h)⟩
    obtain ⟨b',g',c',ds,e1,e2,e3,e4⟩ := inner_open g1.at_
    have hb' : kb = b' := by rw [f2] at e2; exact ptr_inj e2
    subst hb'
    have hlen : X.ks.length = ds.length := by rw [e4,List.length_map]
    refine ⟨⟨c5,hp5.fz 0⟩,⟨p :: G,⟨G,_,rfl,hp5,g1,hpG⟩,hmv⟩,g',c',by rw [hlen]; exact e3.1.cell 1,fun k hk => ?_⟩
    rw [hk] at e4
    match ds,e4,e1,e3 with
    | [d],e4,e1,e3 =>
      simp at e4
      obtain ⟨cb,cF,d1,d2⟩ := (e3.2.2 d (by simp)).form
      have hdG : ∀ j ∈ d.1,j ∈ G := fun j hj => by rw [e1]; simp [dsF,hj]
      have hnd : d.1.Nodup := by
        have := g1.nd
        rw [e1] at this
        have := (List.nodup_cons.1 (List.nodup_cons.1 this).2).2
        simpa [dsF] using this
      refine ⟨cb,by rw [← d2]; exact e3.2.1.cell (by simp),?_⟩
      rw [← d2,e4]
      have hg := tr_new (w := w) (F := p :: F') hp5 (⟨e3.2.2 d (by simp),hnd⟩ : NdIn w5 d.1 d.2.1 d.2.2) (fun hm => hpG (hdG _ hm)) ⟨hmv.keep,fun j hj => hmv.sub j (by
        rcases List.mem_cons.1 hj with rfl | hj
        · exact List.mem_cons_self
        · exact List.mem_cons_of_mem _ (hdG j hj))⟩ rfl
      exact hg
    | [],e4,_,_ => simp at e4
    | _ :: _ :: _,e4,_,_ => simp at e4
  rw [f2] at hc
  have hc' : Hid (Calls Tryz.prog 101 #[.iface 94 (.pointer (some ⟨kb,0,none⟩)),.int .i64 s] w fun x w5 => x = .returned (.tuple #[]) ∧ ((w5.cell? ⟨p,0,none⟩ = some (.iface 94 (.pointer (some ⟨kb,0,none⟩))) ∧ w5.frozen? ⟨p,0,none⟩ = false) ∧ TrPost w (p :: F') p (.top (h + 1) X) w5 ∧
      ∃ g c,w5.cell? ⟨kb,1,none⟩ = some (.slice (some ⟨g,0,none⟩) X.ks.length c) ∧ ∀ k,X.ks = [k] → ∃ cb,w5.cell? ⟨g,0,none⟩ = some (.iface (ndT h) (.pointer (some ⟨cb,0,none⟩))) ∧ TrPost w (p :: F') p (.top h k) (w5.setCell ⟨p,0,none⟩ (.iface (ndT h) (.pointer (some ⟨cb,0,none⟩)))))) := by
    refine hc.mono ?_
    rintro x w5 ⟨rfl,G,g1,g2⟩
    exact ⟨rfl,hmid w5 G (by rw [f2]; exact g1) g2⟩
  have hta := ta_ii
  have htb := ta_il
  by_cases hl : ∃ k,X.ks = [k]
  · obtain ⟨k,hk⟩ := hl
    rw [hk] at hc' ⊢
    clear hk hmid hXs hTK hX hc hro f1 f2 q1 q2 q3 q4 hn hp hpn hok hi
    go_enter Tryz.func71,Tryz.ntmps71
    go_wp2_with fail
    with_reducible refine hc'.out.mono ?_
    rintro e w5 ⟨rfl,⟨z0,z1⟩,hp5,g,c,z2,hkk⟩
    obtain ⟨cb,z3,hq⟩ := hkk k rfl
    have HP5 := Lib.hid hq
    simp only [List.length_cons,List.length_nil] at z2
    clear hp5 hkk hq c0
    go_wp2_with fail
    go_end0
    exact ⟨rfl,HP5.out⟩
  · have hTT : Hid ((match X.ks with | [k] => Tree.top h k | _ => .top (h + 1) X) = .top (h + 1) X) := by
      show _ = _
      split
      · rename_i k hk; exact absurd ⟨k,hk⟩ hl
      · rfl
    rw [hTT.out]
    obtain ⟨m,hm⟩ : ∃ m,X.ks.length = m + 2 := ⟨X.ks.length - 2,by
      have : X.ks.length ≠ 1 := fun e => by
        match hh : X.ks,e with
        | [k],_ => exact hl ⟨k,hh⟩
      omega⟩
    rw [hm] at hc'
    have hm1 : ¬ ((m : Int) + 2 = 1) := by omega
    have hm2 : ((m : Int) + 2 == 1) = false := beq_eq_false_iff_ne.2 (by omega)
    clear hTT hl hm hmid hXs hTK hX hc hro f1 f2 q1 q2 q3 q4 hn hp hpn hok hi
    go_enter Tryz.func71,Tryz.ntmps71
    go_wp2_with fail
    with_reducible refine hc'.out.mono ?_
    rintro e w5 ⟨rfl,⟨z0,z1⟩,hp5,g,c,z2,hkk⟩
    have HP5 := Lib.hid hp5
    clear hp5 hkk c0
    go_wp2_with fail
    go_end0
    exact ⟨rfl,HP5.out⟩
theorem take_any (w : World) (F : List Nat) (p : Nat) (T : Tree) (s : Int) (ht : TrAt w F p T) (hok : T.Ok) (hne : T.flat ≠ []) (hi : Inc T.flat) :
    Calls Tryz.prog 71 #[.pointer (some ⟨p,0,none⟩),.int .i64 s] w fun x w' => x = .returned (.tuple #[]) ∧ TrPost w F p (T.take s) w' := by
  cases T with
  | no => exact absurd rfl hne
  | top h n =>
    cases h with
    | zero => exact take_leaf w F p n s ht hok hi
    | succ h => exact take_inner w F p h n s ht hok hi
end Go.Proofs.YtneammhkgmkkfaaGreatDoor.tr
