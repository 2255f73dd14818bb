/- A part of the proof. -/
import Derived.Test.YtneammhkgmkkfaaGreatPTzMg
namespace Go.Proofs.YtneammhkgmkkfaaGreat.tr
open Go.RowKit Go.Proofs.YtneammhkgmkkfaaGreat.er
set_option linter.unusedVariables false
set_option linter.unusedSimpArgs false
set_option maxHeartbeats 4000000 in
set_option maxRecDepth 100000 in
theorem refs_any (l : List Ext) (v : Value) (w : World) (h : ExtsAt w v l) (hl : l.length ≤ 16777216) :
    Calls Tryz.prog 28 #[v] w fun x w' => ∃ A m c,x = .returned (.slice A m c) ∧ w'.ownsRow w.heap.size 49 4 (.slice A m c) l.length (extCells l) ∧ Below w.heap.size w w' := by
  obtain ⟨A,c,rfl,hc⟩ := h
  have HC := Lib.hid hc
  obtain ⟨n,hn⟩ : ∃ n,l.length = n := ⟨_,rfl⟩
  have HN := Lib.hid hn
  rw [hn] at hl
  rw [hn]
  obtain ⟨i0,hi0,hz0,hz1,hz2⟩ := info_parts infoR
  have HI0 := Lib.hid hi0
  have HZ0 := Lib.hid hz0
  have HZ1 := Lib.hid hz1
  have HZ2 := Lib.hid hz2
  clear hc hn hi0 hz0 hz1 hz2
  go_enter Tryz.func28,Tryz.ntmps28
  go_wp2_with fail
  go_loopw [3,4] (fun nv i wr => ∃ (j : Nat) (B : Option Addr) (d : Nat),j ≤ n ∧ i = .int .i64 j ∧ nv = .slice B j d ∧ Hid (wr.ownsRow w.heap.size 49 4 (.slice B j d) j (extCells (l.take j))) ∧ Hid (Below w.heap.size w wr)) (fun _ i _ => n - (intOf i).toNat)
  case atStart => exact ⟨0,none,0,Nat.zero_le _,rfl,rfl,⟨rfl,.inl ⟨rfl,rfl⟩⟩,Below.refl _ _⟩
  case round =>
    obtain ⟨j,B,d,hj,rfl,rfl,HO,HB⟩ := hrel
    by_cases hlt : j < n
    · have hji : (j : Int) < (n : Int) := by omega
      have hj0 : (0 : Int) ≤ (j : Int) := by omega
      have hln := HN.out
      obtain ⟨g,o,rfl,hcc⟩ := HC.out (by omega)
      obtain ⟨e',hx'⟩ : ∃ e',l[j]? = some e' := ⟨l[j]'(by omega),List.getElem?_eq_getElem (by omega)⟩
      obtain ⟨c0,c1,c2,c3⟩ := (hcc j e' hx').below HB.out
      have HTC := Lib.hid (take_cells hx')
      obtain ⟨f',n',k',t'⟩ := e'
      simp only at c0 c1 c2 c3 HTC
      have HOA := Lib.hid (HO.out.alloc (.cells #[.int .i64 f',.int .i64 n',.int .i64 k',.int .i64 t'] 49))
      have HNW : Hid (∀ (j' : Nat) (u : Value),([.int .i64 f',.int .i64 n',.int .i64 k',.int .i64 t'] : List Value)[j']? = some u → (wr.alloc (.cells #[.int .i64 f',.int .i64 n',.int .i64 k',.int .i64 t'] 49)).cell? ((⟨wr.heap.size,0,none⟩ : Addr).add j') = some u) := World.news_of_block (by simpa using heap_alloc_new wr (.cells #[.int .i64 f',.int .i64 n',.int .i64 k',.int .i64 t'] 49))
      have hone : ∀ u ∈ ([.int .i64 f',.int .i64 n',.int .i64 k',.int .i64 t'] : List Value),u.oneCell' = true := by simp [Value.oneCell']
      have HONE := Lib.hid hone
      have hszr := HB.out.size
      have HSZ2 : Hid (w.heap.size ≤ (wr.alloc (.cells #[.int .i64 f',.int .i64 n',.int .i64 k',.int .i64 t'] 49)).heap.size) := by show _ ≤ _; simp only [World.size_alloc]; omega
      have HSZ3 := Lib.hid hszr
      clear hone hcc hx' hln hszr
      go_wp2_with (at_builtin; go_must (refine wpList_append_own _ rfl (.tmp 11) (.tmp 16) 24 rfl w.heap.size 49 i0 _ 4 32 Tryz.underlying24 HI0.out HZ0.out HZ1.out HZ2.out rfl (by omega) (.slice B j d) j (extCells (l.take j)) rfl HOA.out ⟨wr.heap.size,0,none⟩ 1 1 [.int .i64 f',.int .i64 n',.int .i64 k',.int .i64 t'] rfl rfl HNW.out HONE.out (by simp only [maxLen]; omega) (by omega) HSZ2.out ?_; intro v2 w6 hown6 hg6 _; have HO6 := Lib.hid hown6; have HB6 := Lib.hid (below_append HO.out hg6 HSZ3.out); obtain ⟨A2,c2',e2⟩ := own_slice hown6; subst e2; clear hown6 hg6))
      have hmeas : n - (intOf (.int .i64 ((j : Int) + 1))).toNat < n - (intOf (.int .i64 (j : Int))).toNat := by simp [intOf]; omega
      refine ⟨⟨j + 1,A2,c2',?_,?_,rfl,?_,?_⟩,hmeas⟩
      · omega
      · go_num
      · rw [HTC.out]; with_reducible exact HO6
      · exact HB.out.trans HB6.out
    · obtain rfl : j = n := by omega
      have hfull : l.take j = l := by rw [← HN.out]; exact List.take_length
      rw [hfull] at HO
      clear hfull
      go_wp2_with fail
      go_ret
      exact ⟨_,_,_,rfl,HO.out,HB.out⟩
theorem eqIn_ref (d : Nat) (f n k t : Int) (w : World) : (Op.equalIn (d + 2) 49 (.agg #[.int .i64 f,.int .i64 n,.int .i64 k,.int .i64 t]) (.agg #[.int .i64 f,.int .i64 n,.int .i64 k,.int .i64 t])).run Tryz.prog w = .ok true w := by
  rw [run_equalIn_agg w (d + 1) 49 _ _ (by kernel_rfl) (by kernel_rfl)]
  simp only [Program.fieldsOf,Tryz.underlying49]
  go_simp
theorem neq_ref (f n k t : Int) (w : World) : (binOp .neq 49 (.agg #[.int .i64 f,.int .i64 n,.int .i64 k,.int .i64 t]) (.agg #[.int .i64 f,.int .i64 n,.int .i64 k,.int .i64 t])).run Tryz.prog w = .ok (.bool false) w := by
  have h := eqIn_ref 9998 f n k t w
  simp [binOp,Op.equal,Op.maxDepth,h]
theorem gt_ref : Tryz.prog.eqGuardType Tryz.prog.depth 49 = false := by kernel_rfl
set_option maxHeartbeats 4000000 in
set_option maxRecDepth 100000 in
theorem sameExts_any (l : List Ext) (v v' : Value) (w : World) (h : ExtsAt w v l) (h' : ExtsAt w v' l) (hl : l.length ≤ 16777216) :
    Calls Tryz.prog 27 #[v,v'] w fun x w' => x = .returned (.bool true) ∧ Below w.heap.size w w' := by
  obtain ⟨A,c,rfl,hc⟩ := h
  obtain ⟨A',c',rfl,hc'⟩ := h'
  have HC := Lib.hid hc
  have HC' := Lib.hid hc'
  obtain ⟨n,hn⟩ : ∃ n,l.length = n := ⟨_,rfl⟩
  have HN := Lib.hid hn
  rw [hn] at hl
  rw [hn]
  have hgt := gt_ref
  clear hc hc' hn
  go_enter Tryz.func27,Tryz.ntmps27
  go_wp2_with fail
  go_loopw [5] (fun i wr => ∃ (j : Nat),j ≤ n ∧ i = .int .i64 j ∧ Hid (Below w.heap.size w wr)) (fun i _ => n - (intOf i).toNat)
  case atStart => exact ⟨0,Nat.zero_le _,rfl,Below.refl _ _⟩
  case round =>
    obtain ⟨j,hj,rfl,HB⟩ := hrel
    by_cases hlt : j < n
    · have hji : (j : Int) < (n : Int) := by omega
      have hj0 : (0 : Int) ≤ (j : Int) := by omega
      have hln := HN.out
      obtain ⟨g,o,rfl,hcc⟩ := HC.out (by omega)
      obtain ⟨g',o',rfl,hcc'⟩ := HC'.out (by omega)
      obtain ⟨e',hx'⟩ : ∃ e',l[j]? = some e' := ⟨l[j]'(by omega),List.getElem?_eq_getElem (by omega)⟩
      obtain ⟨c0,c1,c2,c3⟩ := (hcc j e' hx').below HB.out
      obtain ⟨d0,d1,d2,d3⟩ := (hcc' j e' hx').below HB.out
      obtain ⟨f',n',k',t'⟩ := e'
      simp only at c0 c1 c2 c3 d0 d1 d2 d3
      have heq := neq_ref f' n' k' t'
      clear hcc hcc' hx' hln
      go_wp2_with fail
      go_quiet (fail)
      generalize hwq : World.drewN _ _ = wq
      have HB5 : Hid (Below w.heap.size w wq) := by show Below _ _ _; rw [← hwq]; exact below_drewN HB.out _
      clear hwq c0 c1 c2 c3 d0 d1 d2 d3
      go_wp2_with fail
      go_roundw
      case rel => exact ⟨j + 1,by omega,by go_num,HB5⟩
      case measure => simp [intOf]; omega
    · obtain rfl : j = n := by omega
      go_wp2_with fail
      go_ret
      exact ⟨rfl,HB.out⟩
end Go.Proofs.YtneammhkgmkkfaaGreat.tr
