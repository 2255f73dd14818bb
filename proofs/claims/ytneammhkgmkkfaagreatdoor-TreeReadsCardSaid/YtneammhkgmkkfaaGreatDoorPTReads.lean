/- TreeReads returns true for every list of pages, every top and every height; the variable errors.errorType is as the program lays it. -/
import Derived.Test.YtneammhkgmkkfaaGreatDoorPTlK
import Derived.SevenTiedAt
import Derived.Test.YtneammhkgmkkfaaGreatDoorCards
import Derived.Test.YtneammhkgmkkfaaGreatDoorTie
namespace Go.Proofs.YtneammhkgmkkfaaGreatDoor.treeReads
open Go.ChangeShapes Go.WideShapes Go.ChangeAt Go.RowKit Go.Joins Go.Deep
open Go.ChangeMaps (open_string shut_string)
open Go.Proofs.YtneammhkgmkkfaaGreatDoor.er
set_option linter.unusedVariables false
theorem handle_of_laid {W : World} (h : laidMetH Tryz.prog Rows.treeReadsRow.laid W) : LaidT W := by
  have h' : laidMet Tryz.prog [] W ∧ handlesMet Tryz.prog Rows.treeReadsRow.laid W := h
  obtain ⟨name,u,ty,e1,e2,e3,e4,e5⟩ := h'.2 _ (List.mem_singleton.2 rfl)
  have en : name = [101,114,114,111,114] := (Option.some.inj e1).symm
  subst en
  obtain rfl := Option.some.inj (gl_rt.symm.trans e2)
  have hm : ty ∈ (List.range 300).filter fun t => Tryz.prog.rowNamed t [101,114,114,111,114] := List.mem_filter.2 ⟨List.mem_range.2 (by rw [← gl_size]; exact e3),e4⟩
  rw [gl_one] at hm
  obtain rfl := List.mem_singleton.1 hm
  have hh : typeHandle Tryz.prog 31 = .pointer (some ⟨1,31,none⟩) := by kernel_rfl
  rw [hh] at e5
  show W.cell? _ = _
  simpa using World.var?_cell gl_et e5 0
noncomputable def laidWorld (os : Os) : World :=
  let w0 := World.holding Tryz.prog os ⟨#[],#[],[]⟩
  { w0 with heap := w0.heap.modify 0 fun
      | .cells _ t frozen => .cells #[.iface 167 (.agg #[.pointer (some ⟨1,31,none⟩)])] t frozen
      | o => o }
theorem laidWorld_met (os : Os) (args : Array Value) : laidMetH Tryz.prog Rows.treeReadsRow.laid ((laidWorld os).forCall (fun _ _ => 0) ⟨#[],args,[]⟩).memory :=
  laidMetH_of_parts (laidMet_nil _ _) (by kernel_rfl)
set_option maxRecDepth 100000 in
theorem lifted (os : Os) (started : os.Started) (H : Type) (enc : TypeId × Value → H) :
    ReturnsInHanded {} Tryz.checked os 3 .any (fun w args => (Rows.treeReadsSpec.pre enc Tryz.prog Tryz.f3 [] false w args ∧ laidMetH Tryz.prog Rows.treeReadsRow.laid w) ∧ sizedMet enc Tryz.prog Tryz.f3 (OpenSpec.ofChange Rows.treeReadsSpec) false w args)
      (Rows.treeReadsSpec.post enc Tryz.prog Tryz.f3 false true false false) := by
  refine returnsInHanded_of_change_and (C := Tryz.checked) (X := fun w _ => laidMetH Tryz.prog Rows.treeReadsRow.laid w) (fun _ _ _ hh h => h.of_heap hh) own started (by kernel_rfl) Tryz.func3
    (ChangeSpec.witness_at (enc := enc) (C := Tryz.checked) (os := os) (X := fun w _ => laidMetH Tryz.prog Rows.treeReadsRow.laid w) false (laidWorld os) #[.slice none 0 0,.int .i64 0,.int .i64 0] 8 rfl (by kernel_rfl) (by kernel_rfl) (by kernel_rfl) (by kernel_rfl) (by kernel_rfl) (laidWorld_met os _)) ?_
  intro W base args ds gs before hval0 hW _ _ hL _
  have hval : ∀ (j : Nat) t v,Tryz.f3.params[j]? = some t → args[j]? = some v → Value.okWide Tryz.prog W .any base t v := hval0
  have hW' := hW
  obtain ⟨p,q,hA0,hV0,rfl,hfz,hnd⟩ := hW
  have hA : DataW.TrodAll enc Tryz.prog W 0 (fun _ => true) true Tryz.f3.params.toList args.toList ds p := hA0
  have hV : DataW.TrodVars enc Tryz.prog W (fun _ => true) [] gs q := hV0
  rw [Tryz.params3] at hA hval
  obtain ⟨v0,vs0,d0,ds0,p0,q0,hargs,rfl,rfl,h0,r0⟩ := trodAll_cons hA
  obtain ⟨v1,vs1,d1,ds1,p1,q1,rfl,rfl,rfl,h1,r1⟩ := trodAll_cons r0
  obtain ⟨v2,vs2,d2,ds2,p2,q2,rfl,rfl,rfl,h2,r2⟩ := trodAll_cons r1
  obtain ⟨rfl,rfl,rfl⟩ := trodAll_nil r2
  obtain rfl : args = #[v0,v1,v2] := by cases args; simp_all
  have hg := handle_of_laid hL
  obtain ⟨rfl,rfl⟩ : gs = [] ∧ q = [] := by
    cases gs with
    | nil => exact ⟨rfl,hV⟩
    | cons g r => exact absurd hV (by intro h; cases h)
  have k0 := h0
  have lt0 : ∀ x ∈ p0,x.block < W.heap.size := by obtain ⟨m,hm⟩ := k0; exact DataW.trod_lt m _ _ _ hm
  have k1 := h1
  have lt1 : ∀ x ∈ p1,x.block < W.heap.size := by obtain ⟨m,hm⟩ := k1; exact DataW.trod_lt m _ _ _ hm
  have k2 := h2
  have lt2 : ∀ x ∈ p2,x.block < W.heap.size := by obtain ⟨m,hm⟩ := k2; exact DataW.trod_lt m _ _ _ hm
  obtain ⟨A0,len0,cap0,rfl⟩ := okWide_slice Tryz.underlying22 (hval 0 22 v0 rfl rfl)
  obtain ⟨fuel0,hf0⟩ := h0
  obtain ⟨a1,rfl,e1,f1,w1⟩ := open_int Tryz.underlying3 (hval 1 3 v1 rfl rfl) h1
  obtain ⟨a2,rfl,e2,f2,w2⟩ := open_int Tryz.underlying3 (hval 2 3 v2 rfl rfl) h2
  have fin : ∀ (e : Ending) (W' : World),(e = .returned (.bool true) ∧ Below W.heap.size W W') → ∃ v,e = .returned v ∧ Rows.treeReadsSpec.post enc Tryz.prog Tryz.f3 false true false false W #[.slice A0 len0 cap0,.int .i64 a1,.int .i64 a2] v W' := fun e W' ⟨he,bel⟩ => by
    subst he
    exact ⟨_,rfl,_,_,_,[],_,[],hW',trodAll_mk1 (shut_bool Tryz.underlying4 _),(trodAll_cons_mk (Below.trod laidOut (by kernel_rfl) (of_decide_eq_true (by kernel_rfl)) k0 bel lt0) (trodAll_cons_mk (Below.trod laidOut (by kernel_rfl) (of_decide_eq_true (by kernel_rfl)) k1 bel lt1) (trodAll_cons_mk (Below.trod laidOut (by kernel_rfl) (of_decide_eq_true (by kernel_rfl)) k2 bel lt2) trodAll_mk0))),rfl,bel.frame _,fun h => by cases h⟩
  clear hA0 hval0
  have hnodes : ∃ L : Go.Proofs.YtneammhkgmkkfaaGreatDoor.tr.Bk,L.length ≤ 9223372036854775807 ∧ Go.Proofs.YtneammhkgmkkfaaGreatDoor.tr.BkR W (.slice A0 len0 cap0) L := by
    rcases open_slice_fields Tryz.underlying22 Tryz.underlying25 (by kernel_rfl) (by kernel_rfl) hf0 with ⟨hcs,_⟩ | ⟨a,l,c',m,D,Pl,hcs,_,hl,hm,hmm,_,hi⟩
    · simp [Value.cells] at hcs
      obtain ⟨rfl,rfl,rfl⟩ := hcs
      exact ⟨[],by simp,none,0,rfl,fun h => by simp at h⟩
    · simp [Value.cells] at hcs
      obtain ⟨rfl,rfl,rfl⟩ := hcs
      obtain ⟨b,off,spot⟩ := a
      have hml : len0 ≤ m := by rw [hmm]; split <;> omega
      have hlen : len0 ≤ 9223372036854775807 := by unfold maxLen at hm; omega
      rcases Nat.eq_zero_or_pos len0 with hz | hz
      · subst hz
        exact ⟨[],by simp,some ⟨b,off,spot⟩,cap0,rfl,fun h => by simp at h⟩
      · have hspot : spot = none := by
          obtain ⟨ys,n,_,_,_,hfl⟩ := hi 0 (by omega)
          obtain ⟨v0,y0,c0,_,t0⟩ := hfl 0 _ rfl
          exact addr_spot (by simpa using c0)
        subst hspot
        have hx : ∀ i,i < len0 → ∃ s : Int × ByteArray,W.cell? ⟨b,off + i * 2,none⟩ = some (.int .i64 s.1) ∧ W.cell? ⟨b,off + i * 2 + 1,none⟩ = some (.string s.2) := by
          intro i hil
          obtain ⟨ys,n,_,_,_,hfl⟩ := hi i (by omega)
          obtain ⟨v0,y0,c0,_,t0⟩ := hfl 0 _ rfl
          obtain ⟨v1,y1,c1,_,t1⟩ := hfl 1 _ rfl
          obtain ⟨z0,u0,-,_⟩ := DataW.trod_int Tryz.underlying3 t0
          obtain ⟨s,u1,-,_⟩ := DataW.trod_string Tryz.underlying9 t1
          simp at u0 u1
          subst u0 u1
          refine ⟨⟨z0,s⟩,?_,?_⟩
          · have := c0
            rw [addr_add] at this
            simpa using this
          · have := c1
            rw [addr_add] at this
            simpa [Nat.add_assoc] using this
        obtain ⟨ss,hlen',hst⟩ := Go.Proofs.YtneammhkgmkkfaaGreatDoor.er.exists_list _ _ hx
        refine ⟨ss,by omega,some ⟨b,off,none⟩,cap0,by rw [hlen'],fun _ => ⟨b,off,rfl,fun j p hj => ?_⟩⟩
        exact hst j p hj
  obtain ⟨L,hL1,hL2⟩ := hnodes
  have i1 : Go.Proofs.YtneammhkgmkkfaaGreatDoor.tr.I64 a1 := by
    have := w1
    simp [Lit.wf,IntKind.min,IntKind.max,IntKind.signed,IntKind.bits] at this
    unfold Go.Proofs.YtneammhkgmkkfaaGreatDoor.tr.I64
    omega
  have i2 : Go.Proofs.YtneammhkgmkkfaaGreatDoor.tr.I64 a2 := by
    have := w2
    simp [Lit.wf,IntKind.min,IntKind.max,IntKind.signed,IntKind.bits] at this
    unfold Go.Proofs.YtneammhkgmkkfaaGreatDoor.tr.I64
    omega
  exact (Go.Proofs.YtneammhkgmkkfaaGreatDoor.tr.lawReads_any W _ L a1 a2 hL2 hL1 i1 i2 hg).mono fin
theorem over : Rows.TreeReadsSaid :=
  OpenClaim.holds_of_wide 3 Tryz.f3 rfl rfl rfl rfl rfl rfl rfl ⟨rfl,rfl,rfl,rfl,rfl⟩ rfl rfl rfl rfl rfl (by kernel_rfl) Tryz.func3 (by kernel_rfl)
    (of_decide_eq_true (by kernel_rfl)) (by unfold Func.isWrapper; rw [if_neg (of_decide_eq_false (by kernel_rfl))]; exact ⟨rfl,rfl⟩)
    (fun os started H enc _ => lifted os started H enc)
theorem proved : Rows.TreeReadsCardSaid :=
  Claim7.holds_tied_plain_at .later [] [.handle] true (true, "5589e2d3840123bdaf027815cea7a1677c0617f303ff43e270cd034792844cb1") true
    over (fun _ h => by cases h) (by kernel_rfl) (fun _ h => by cases h) treeReads_row_tie rfl ⟨rfl,rfl⟩ (by kernel_rfl) rfl
    (fun f fn hf hfn => by
      obtain rfl : f = 3 := Option.some.inj ((show Tryz.prog.funcNamed "scoria/scorialaw10.TreeReads" = some 3 by kernel_rfl).symm.trans hf) |>.symm
      obtain rfl : fn = Tryz.f3 := (Option.some.inj (Tryz.func3.symm.trans hfn)).symm
      exact ⟨by kernel_rfl,fun j t ht => by
        rw [Tryz.params3] at ht
        have hx : t ∈ [22,3,3] := by
          have := List.mem_of_getElem? (l := [22,3,3]) (i := j) (by simpa using ht)
          exact this
        simp only [List.mem_cons,List.not_mem_nil,or_false] at hx
        rcases hx with rfl | rfl | rfl
        · exact (show Tryz.prog.wantsStandIn 22 = false by kernel_rfl)
        · exact (show Tryz.prog.wantsStandIn 3 = false by kernel_rfl)
        · exact (show Tryz.prog.wantsStandIn 3 = false by kernel_rfl)⟩)
    (by kernel_rfl)
#print axioms proved
end Go.Proofs.YtneammhkgmkkfaaGreatDoor.treeReads
