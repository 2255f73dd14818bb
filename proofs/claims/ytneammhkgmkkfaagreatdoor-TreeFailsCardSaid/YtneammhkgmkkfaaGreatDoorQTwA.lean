/- A part of the proof. -/
import Derived.Test.YtneammhkgmkkfaaGreatDoorQTzMg
namespace Go.Proofs.YtneammhkgmkkfaaGreatDoor.tr
open Go.RowKit Go.Proofs.YtneammhkgmkkfaaGreatDoor.er
set_option linter.unusedVariables false
set_option linter.unusedSimpArgs false
set_option maxHeartbeats 4000000 in
set_option maxRecDepth 100000 in
theorem refs_any (l : List Ext) (v : Value) (w : World) (h : ExtsAt w v l) (hl : l.length ≤ 16777216) :
    Calls Tryz.prog 34 #[v] w fun x w' => ∃ A m c,x = .returned (.slice A m c) ∧ w'.ownsRow w.heap.size 80 4 (.slice A m c) l.length (extCells l) ∧ Below w.heap.size w w' := by
  obtain ⟨A,c,rfl,hc⟩ := h
  have HC := Lib.hid hc
  obtain ⟨n,hn⟩ : ∃ n,l.length = n := ⟨_,rfl⟩
  have HN := Lib.hid hn
  rw [hn] at hl
  rw [hn]
  obtain ⟨i0,hi0,hz0,hz1,hz2⟩ := info_parts infoR
  have HI0 := Lib.hid hi0
  have HZ0 := Lib.hid hz0
  have HZ1 := Lib.hid hz1
  have HZ2 := Lib.hid hz2
  clear hc hn hi0 hz0 hz1 hz2
  go_enter Tryz.func34,Tryz.ntmps34
  go_wp2_with fail
  go_loopw [3,4] (fun nv i wr => ∃ (j : Nat) (B : Option Addr) (d : Nat),j ≤ n ∧ i = .int .i64 j ∧ nv = .slice B j d ∧ Hid (wr.ownsRow w.heap.size 80 4 (.slice B j d) j (extCells (l.take j))) ∧ Hid (Below w.heap.size w wr)) (fun _ i _ => n - (intOf i).toNat)
  case atStart => exact ⟨0,none,0,Nat.zero_le _,rfl,rfl,⟨rfl,.inl ⟨rfl,rfl⟩⟩,Below.refl _ _⟩
  case round =>
    obtain ⟨j,B,d,hj,rfl,rfl,HO,HB⟩ := hrel
    by_cases hlt : j < n
    · have hji : (j : Int) < (n : Int) := by omega
      have hj0 : (0 : Int) ≤ (j : Int) := by omega
      have hln := HN.out
      obtain ⟨g,o,rfl,hcc⟩ := HC.out (by omega)
      obtain ⟨e',hx'⟩ : ∃ e',l[j]? = some e' := ⟨l[j]'(by omega),List.getElem?_eq_getElem (by omega)⟩
      obtain ⟨c0,c1,c2,c3⟩ := (hcc j e' hx').below HB.out
      have HTC := Lib.hid (take_cells hx')
      obtain ⟨f',n',k',t'⟩ := e'
      simp only at c0 c1 c2 c3 HTC
      have HOA := Lib.hid (HO.out.alloc (.cells #[.int .i64 f',.int .i64 n',.int .i64 k',.int .i64 t'] 80))
      have HNW : Hid (∀ (j' : Nat) (u : Value),([.int .i64 f',.int .i64 n',.int .i64 k',.int .i64 t'] : List Value)[j']? = some u → (wr.alloc (.cells #[.int .i64 f',.int .i64 n',.int .i64 k',.int .i64 t'] 80)).cell? ((⟨wr.heap.size,0,none⟩ : Addr).add j') = some u) := World.news_of_block (by simpa using heap_alloc_new wr (.cells #[.int .i64 f',.int .i64 n',.int .i64 k',.int .i64 t'] 80))
      have hone : ∀ u ∈ ([.int .i64 f',.int .i64 n',.int .i64 k',.int .i64 t'] : List Value),u.oneCell' = true := by simp [Value.oneCell']
      have HONE := Lib.hid hone
      have hszr := HB.out.size
      have HSZ2 : Hid (w.heap.size ≤ (wr.alloc (.cells #[.int .i64 f',.int .i64 n',.int .i64 k',.int .i64 t'] 80)).heap.size) := by show _ ≤ _; simp only [World.size_alloc]; omega
      have HSZ3 := Lib.hid hszr
      clear hone hcc hx' hln hszr
      go_wp2_with (at_builtin; go_must (refine wpList_append_own _ rfl (.tmp 11) (.tmp 16) 38 rfl w.heap.size 80 i0 _ 4 32 Tryz.underlying38 HI0.out HZ0.out HZ1.out HZ2.out rfl (by omega) (.slice B j d) j (extCells (l.take j)) rfl HOA.out ⟨wr.heap.size,0,none⟩ 1 1 [.int .i64 f',.int .i64 n',.int .i64 k',.int .i64 t'] rfl rfl HNW.out HONE.out (by simp only [maxLen]; omega) (by omega) HSZ2.out ?_; intro v2 w6 hown6 hg6 _; have HO6 := Lib.hid hown6; have HB6 := Lib.hid (below_append HO.out hg6 HSZ3.out); obtain ⟨A2,c2',e2⟩ := own_slice hown6; subst e2; clear hown6 hg6))
      have hmeas : n - (intOf (.int .i64 ((j : Int) + 1))).toNat < n - (intOf (.int .i64 (j : Int))).toNat := by simp [intOf]; omega
      refine ⟨⟨j + 1,A2,c2',?_,?_,rfl,?_,?_⟩,hmeas⟩
      · omega
      · go_num
      · rw [HTC.out]; with_reducible exact HO6
      · exact HB.out.trans HB6.out
    · obtain rfl : j = n := by omega
      have hfull : l.take j = l := by rw [← HN.out]; exact List.take_length
      rw [hfull] at HO
      clear hfull
      go_wp2_with fail
      go_ret
      exact ⟨_,_,_,rfl,HO.out,HB.out⟩
theorem eqIn_ref (d : Nat) (f n k t : Int) (w : World) : (Op.equalIn (d + 2) 80 (.agg #[.int .i64 f,.int .i64 n,.int .i64 k,.int .i64 t]) (.agg #[.int .i64 f,.int .i64 n,.int .i64 k,.int .i64 t])).run Tryz.prog w = .ok true w := by
  rw [run_equalIn_agg w (d + 1) 80 _ _ (by kernel_rfl) (by kernel_rfl)]
  simp only [Program.fieldsOf,Tryz.underlying80]
  go_simp
theorem neq_ref (f n k t : Int) (w : World) : (binOp .neq 80 (.agg #[.int .i64 f,.int .i64 n,.int .i64 k,.int .i64 t]) (.agg #[.int .i64 f,.int .i64 n,.int .i64 k,.int .i64 t])).run Tryz.prog w = .ok (.bool false) w := by
  have h := eqIn_ref 9998 f n k t w
  simp [binOp,Op.equal,Op.maxDepth,h]
theorem gt_ref : Tryz.prog.eqGuardType Tryz.prog.depth 80 = false := by kernel_rfl
set_option maxHeartbeats 4000000 in
set_option maxRecDepth 100000 in
theorem sameExts_any (l : List Ext) (v v' : Value) (w : World) (h : ExtsAt w v l) (h' : ExtsAt w v' l) (hl : l.length ≤ 16777216) :
    Calls Tryz.prog 33 #[v,v'] w fun x w' => x = .returned (.bool true) ∧ Below w.heap.size w w' := by
  obtain ⟨A,c,rfl,hc⟩ := h
  obtain ⟨A',c',rfl,hc'⟩ := h'
  have HC := Lib.hid hc
  have HC' := Lib.hid hc'
  obtain ⟨n,hn⟩ : ∃ n,l.length = n := ⟨_,rfl⟩
  have HN := Lib.hid hn
  rw [hn] at hl
  rw [hn]
  have hgt := gt_ref
  clear hc hc' hn
  go_enter Tryz.func33,Tryz.ntmps33
  go_wp2_with fail
  go_loopw [5] (fun i wr => ∃ (j : Nat),j ≤ n ∧ i = .int .i64 j ∧ Hid (Below w.heap.size w wr)) (fun i _ => n - (intOf i).toNat)
  case atStart => exact ⟨0,Nat.zero_le _,rfl,Below.refl _ _⟩
  case round =>
    obtain ⟨j,hj,rfl,HB⟩ := hrel
    by_cases hlt : j < n
    · have hji : (j : Int) < (n : Int) := by omega
      have hj0 : (0 : Int) ≤ (j : Int) := by omega
      have hln := HN.out
      obtain ⟨g,o,rfl,hcc⟩ := HC.out (by omega)
      obtain ⟨g',o',rfl,hcc'⟩ := HC'.out (by omega)
      obtain ⟨e',hx'⟩ : ∃ e',l[j]? = some e' := ⟨l[j]'(by omega),List.getElem?_eq_getElem (by omega)⟩
      obtain ⟨c0,c1,c2,c3⟩ := (hcc j e' hx').below HB.out
      obtain ⟨d0,d1,d2,d3⟩ := (hcc' j e' hx').below HB.out
      obtain ⟨f',n',k',t'⟩ := e'
      simp only at c0 c1 c2 c3 d0 d1 d2 d3
      have heq := neq_ref f' n' k' t'
      clear hcc hcc' hx' hln
      go_wp2_with fail
      go_quiet (fail)
      generalize hwq : World.drewN _ _ = wq
      have HB5 : Hid (Below w.heap.size w wq) := by show Below _ _ _; rw [← hwq]; exact below_drewN HB.out _
      clear hwq c0 c1 c2 c3 d0 d1 d2 d3
      go_wp2_with fail
      go_roundw
      case rel => exact ⟨j + 1,by omega,by go_num,HB5⟩
      case measure => simp [intOf]; omega
    · obtain rfl : j = n := by omega
      go_wp2_with fail
      go_ret
      exact ⟨rfl,HB.out⟩
set_option maxHeartbeats 4000000 in
set_option maxRecDepth 100000 in
theorem same_any (w0 w : World) (p m c : Nat) (T : Tree) (A : Option Addr) (h : St w0 w p T (.slice A m c) T.flat) :
    Calls Tryz.prog 13 #[.pointer (some ⟨p,0,none⟩),.slice A m c] w fun x w' => x = .returned (.bool true) ∧ Below w.heap.size w w' := by
  have hlen := (st_cnt h).2.1
  have hex := h.exts
  obtain ⟨_,h2,h3,h4,F,h5,_⟩ := h
  obtain ⟨l,hl⟩ : ∃ l,T.flat = l := ⟨_,rfl⟩
  have hall := all_any w F p T h5 h2 h3
  rw [hl] at hall hlen hex
  have HALL : Hid (Calls Tryz.prog 25 #[.pointer (some ⟨p,0,none⟩)] w fun x w' => ∃ A' m' c',x = .returned (.slice A' m' c') ∧ ExtsAt w' (.slice A' m' c') l ∧ Below w.heap.size w w') := by
    refine hall.mono ?_
    rintro x w' ⟨v',rfl,q1,q2⟩
    obtain ⟨A',c',rfl⟩ := own_slice q1
    exact ⟨A',_,c',rfl,(ExtsAt.own q1).1,q2⟩
  have HREF : Hid (∀ wq v,ExtsAt wq v l → Calls Tryz.prog 34 #[v] wq fun x w' => ∃ A m c,x = .returned (.slice A m c) ∧ ExtsAt w' (.slice A m c) l ∧ Below wq.heap.size wq w') := by
    intro wq v hv
    refine (refs_any l v wq hv hlen).mono ?_
    rintro x w' ⟨A',m',c',rfl,q1,q2⟩
    exact ⟨A',m',c',rfl,(ExtsAt.ownT q1).1,q2⟩
  have HSE : Hid (∀ wq v v',ExtsAt wq v l → ExtsAt wq v' l → Calls Tryz.prog 33 #[v,v'] wq fun x w' => x = .returned (.bool true) ∧ Below wq.heap.size wq w') := fun wq v v' hv hv' => sameExts_any l v v' wq hv hv' hlen
  have HEX := Lib.hid hex
  clear hall hl h2 h3 h4 h5 hex
  go_enter Tryz.func13,Tryz.ntmps13
  go_wp2_with fail
  with_reducible refine HALL.out.mono ?_
  rintro e w5 ⟨A5,m5,c5,rfl,q1,q2⟩
  have HB5 := Lib.hid q2
  have HR := Lib.hid (HREF.out _ _ q1)
  clear q1 q2
  go_wp2_with fail
  with_reducible refine HR.out.mono ?_
  rintro e w6 ⟨A6,m6,c6,rfl,q1,q2⟩
  have HB6 := Lib.hid (bel_tr HB5.out q2)
  have HS := Lib.hid (HSE.out _ _ _ q1 (HEX.out.below HB6.out))
  clear q1 q2
  go_wp2_with fail
  with_reducible refine HS.out.mono ?_
  rintro e w7 ⟨rfl,q2⟩
  have HB7 := Lib.hid (bel_tr HB6.out q2)
  clear q2
  go_wp2_with fail
  go_ret
  exact ⟨rfl,HB7.out⟩
end Go.Proofs.YtneammhkgmkkfaaGreatDoor.tr
