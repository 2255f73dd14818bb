/- A part of the proof. -/
import Derived.Test.YtneammhkgmkkfaaGreatDoorQTzMc
import Derived.Test.YtneammhkgmkkfaaGreatDoorQTzMd
namespace Go.Proofs.YtneammhkgmkkfaaGreatDoor.tr
open Go.RowKit Go.Proofs.YtneammhkgmkkfaaGreatDoor.er
set_option linter.unusedVariables false
set_option linter.unusedSimpArgs false
def Rung (w : World) (h b : Nat) : Prop := ∃ (F : List Nat) (n : Nd h),NdAt w F (ptrV h b) n ∧ Kw n ∧ 1 ≤ n.size ∧ n.size ≤ 100
theorem rung_step {w : World} {h b : Nat} (hr : Rung w (h + 1) b) : ∃ q c m b2,w.cell? ⟨b,1,none⟩ = some (.slice (some ⟨q,0,none⟩) m c) ∧ 0 < m ∧ m ≤ 100 ∧ w.cell? ⟨q,0,none⟩ = some (ptrV h b2) ∧ Rung w h b2 := by
  obtain ⟨F,n,hn,hk,h1,h2⟩ := hr
  obtain ⟨b',q,c,ds,rfl,hv,hin,ek⟩ := inner_open hn
  obtain rfl : b = b' := by unfold ptrV at hv; simpa using hv
  have hlen : n.ks.length = ds.length := by rw [ek,List.length_map]
  have hsz : n.size = n.ks.length := rfl
  have h0 : 0 < ds.length := by omega
  have hd := List.getElem?_eq_getElem h0
  have hmem := List.getElem_mem h0
  obtain ⟨kb,kF,f1,f2⟩ := (hin.2.2 _ hmem).form
  have hkw : Wf (ds[0]'h0).2.2 := hk.mem (by rw [ek]; exact List.mem_map.2 ⟨_,hmem,rfl⟩)
  refine ⟨q,c,ds.length,kb,by have := hin.1.cell 1; simpa using this,h0,by omega,?_,(ds[0]'h0).1,(ds[0]'h0).2.2,?_,hkw.2,by have := hkw.1; omega,by have := hkw.1; omega⟩
  · have := hin.2.1.cell (j := 0) (v := (ds[0]'h0).2.1) (by rw [List.getElem?_map,hd]; rfl)
    rw [f2] at this
    exact this
  · have := hin.2.2 _ hmem
    rw [f2] at this
    exact this
theorem high_le {T : Tree} (hok : T.Ok) (hc : Chk T.flat) : T.high ≤ 20 := by
  have h1 := tree_high hok
  have h2 := chk_len hc
  by_cases he : T.flat = []
  · have := (h1.1 he).1; omega
  · obtain ⟨_,_,h3,_⟩ := h1.2 he
    rcases h3 with h3 | h3
    · omega
    · refine Decidable.byContradiction fun hn => ?_
      have : 4 ^ 19 ≤ 4 ^ (T.high - 1) := Nat.pow_le_pow_right (by omega) (by omega)
      omega
set_option maxHeartbeats 4000000 in
set_option maxRecDepth 100000 in
theorem height_any (w : World) (F : List Nat) (p : Nat) (T : Tree) (ht : TrAt w F p T) (hok : T.Ok) (hc : Chk T.flat) :
    Calls Tryz.prog 14 #[.pointer (some ⟨p,0,none⟩)] w fun x w' => x = .returned (.int .i64 T.high) ∧ w' = w := by
  have hH := high_le hok hc
  cases T with
  | no =>
    have c0 := ht.2.cell 0
    simp at c0
    clear ht hok hc hH
    go_enter Tryz.func14,Tryz.ntmps14
    go_wp2_with fail
    go_ret
    exact ⟨rfl,rfl⟩
  | top h n =>
    obtain ⟨F',v,rfl,hp,hn,hpn⟩ := ht
    obtain ⟨q1,q2,q3,q4⟩ := hok.parts
    obtain ⟨kb,kF,f1,f2⟩ := hn.at_.form
    have c0 := hp.cell 0
    rw [f2] at c0
    simp at c0
    have hn2 := hn.at_
    rw [f2] at hn2
    have HR := Lib.hid (show Rung w h kb from ⟨_,n,hn2,q1,q3,by omega⟩)
    have hH' : h + 1 ≤ 20 := hH
    have HT : Hid (Tree.high (.top h n) = h + 1) := rfl
    rw [HT.out]
    have HST : Hid (∀ h b,Rung w (h + 1) b → ∃ q c m b2,w.cell? ⟨b,1,none⟩ = some (.slice (some ⟨q,0,none⟩) m c) ∧ 0 < m ∧ m ≤ 100 ∧ w.cell? ⟨q,0,none⟩ = some (ptrV h b2) ∧ Rung w h b2) := fun _ _ h => rung_step h
    have ta1 := ta_li
    have ta2 := ta_ii
    clear hn2 f1 f2 q1 q2 q3 q4 hn hp hpn hok hc hH HT
    obtain ⟨isI,hisI⟩ : ∃ isI : Nat → Bool,isI = fun x => decide (0 < x) := ⟨_,rfl⟩
    obtain ⟨pI,hpI⟩ : ∃ pI : Nat → Nat → Value,pI = fun x b => if 0 < x then .pointer (some ⟨b,0,none⟩) else .pointer none := ⟨_,rfl⟩
    have TA : Hid (∀ x b wq,(Instr.typeAssert (.iface (ndT x) (.pointer (some ⟨b,0,none⟩))) 62 94 true).run Tryz.prog wq = .ok (.tuple #[pI x b,.bool (isI x)]) wq) := by
      intro x b wq
      cases x with
      | zero => subst hisI hpI; exact ta1 _ _
      | succ x => subst hisI hpI; exact ta2 _ _
    have ta := TA.out
    clear ta1 ta2
    have HISI := Lib.hid hisI
    have HPI := Lib.hid hpI
    clear hisI hpI
    go_enter Tryz.func14,Tryz.ntmps14
    go_wp2_with fail
    go_loopw [3,4,5] (fun s3 s4 s5 wr => wr = w ∧ ∃ (x b : Nat),x ≤ h ∧ s3 = .int .i64 ((h - x : Nat) + 1 : Int) ∧ s4 = pI x b ∧ s5 = .bool (isI x) ∧ Hid (Rung w x b)) (fun s3 _ _ _ => h + 1 - (intOf s3).toNat)
    case atStart => exact ⟨rfl,h,kb,Nat.le_refl _,by simp,rfl,rfl,HR⟩
    case round =>
      obtain ⟨rfl,x,b,hx,rfl,rfl,rfl,HRx⟩ := hrel
      cases x with
      | zero =>
        have e1 : isI 0 = false := by rw [HISI.out]; rfl
        rw [e1]
        go_wp2_with fail
        go_ret
        exact ⟨by simp,rfl⟩
      | succ x =>
        have e1 : isI (x + 1) = true := by rw [HISI.out]; simp
        have e2 : pI (x + 1) b = .pointer (some ⟨b,0,none⟩) := by rw [HPI.out]; simp
        rw [e1,e2]
        obtain ⟨q,c,m,b2,z1,z2,z3,z4,z5⟩ := HST.out _ _ HRx.out
        have HR2 := Lib.hid z5
        have hm0 : (0 : Int) < (m : Int) := by omega
        have z4' : wr.cell? ⟨q,0,none⟩ = some (.iface (ndT x) (.pointer (some ⟨b2,0,none⟩))) := z4
        clear z4 z5
        go_wp2_with fail
        go_roundw
        case rel => exact ⟨trivial,x,b2,by omega,by congr 1; omega,rfl,rfl,HR2⟩
        case measure => simp [intOf]; omega
end Go.Proofs.YtneammhkgmkkfaaGreatDoor.tr
namespace Go.Proofs.YtneammhkgmkkfaaGreatDoor.tr
open Go.RowKit Go.Proofs.YtneammhkgmkkfaaGreatDoor.er
set_option linter.unusedVariables false
set_option linter.unusedSimpArgs false
def St (w0 w : World) (p : Nat) (T : Tree) (rv : Value) (l : List Ext) : Prop :=
  Keep (fun _ => False) w0 w ∧ T.Ok ∧ Chk T.flat ∧ Chk l ∧ ∃ F,TrAt w F p T ∧ (∀ k ∈ F,w0.heap.size ≤ k) ∧ (∃ B,RL w B rv l) ∧ ∀ g,rv.ownBlock = some g → g ∉ F
theorem St.below {w0 w wq : World} {p : Nat} {T : Tree} {rv : Value} {l : List Ext} (h : St w0 w p T rv l) (hb : Below w.heap.size w wq) : St w0 wq p T rv l := by
  obtain ⟨h1,h2,h3,h4,F,h5,h6,⟨B,h7⟩,h8⟩ := h
  exact ⟨h1.transBelow hb,h2,h3,h4,F,h5.keep (Keep.below (F := fun _ => False) hb) (fun _ _ h => h),h6,⟨B,h7.below hb⟩,h8⟩
theorem St.exts {w0 w : World} {p : Nat} {T : Tree} {rv : Value} {l : List Ext} (h : St w0 w p T rv l) : ExtsAt w rv l := by
  obtain ⟨h1,h2,h3,h4,F,h5,h6,⟨B,h7⟩,h8⟩ := h
  exact (ExtsAt.ownT h7.own).1
theorem st_over {w0 w wq : World} {p : Nat} {T : Tree} {rv : Value} {l : List Ext} {y : Ext} (h : St w0 w p T rv l) (hb : Below w.heap.size w wq) (hy : oneB y = true) :
    Calls Tryz.prog 20 #[.pointer (some ⟨p,0,none⟩),y.val] wq fun x w' => x = .returned (.int .i64 0) ∧ St w0 w' p (T.over y) rv l ∧ Keep (fun k => k < w.heap.size) wq w' := by
  obtain ⟨t1,t2,t3⟩ := tree_over h.2.1 h.2.2.1 hy
  have hs := h
  obtain ⟨h1,h2,h3,h4,F,h5,h6,⟨B,h7⟩,h8⟩ := hs
  have h5q : TrAt wq F p T := h5.keep (Keep.below (F := fun _ => False) hb) (fun _ _ h => h)
  refine (tover_any wq F p T y h5q h2 h3 hy).mono ?_
  rintro x w' ⟨rfl,hch⟩
  obtain ⟨F',f1,f2⟩ := hch
  have hlt := h5.lt
  have hsz := hb.size
  refine ⟨rfl,⟨(h1.transBelow hb).trans f2.keep (fun k hk => .inr (h6 k hk)),t2,t3,h4,F',f1,fun k hk => ?_,⟨B,?_⟩,fun g hg hgF => ?_⟩,f2.keep.mono (fun k _ hk => hlt k hk)⟩
  · rcases f2.sub k hk with hk | hk
    · exact h6 k hk
    · have := h1.size; omega
  · exact ⟨own_keep (h7.below hb).own f2.keep h8,h7.one⟩
  · rcases f2.sub g hgF with hk | hk
    · exact h8 g hg hk
    · have := ((h7.below hb).own.lt g hg).2; omega
theorem st_cut {w0 w wq : World} {p : Nat} {T : Tree} {rv : Value} {l : List Ext} {fr n : Int} (h : St w0 w p T rv l) (hb : Below w.heap.size w wq) (hy : spanB fr n = true) :
    Calls Tryz.prog 61 #[.pointer (some ⟨p,0,none⟩),.int .i64 fr,.int .i64 n] wq fun x w' => x = .returned (.int .i64 0) ∧ St w0 w' p (T.cut fr n) rv l ∧ Keep (fun k => k < w.heap.size) wq w' := by
  obtain ⟨s1,s2,s3⟩ := span_spec hy
  obtain ⟨t1,t2,t3⟩ := tree_cut h.2.1 h.2.2.1 s1 s2 s3
  have hs := h
  obtain ⟨h1,h2,h3,h4,F,h5,h6,⟨B,h7⟩,h8⟩ := hs
  have h5q : TrAt wq F p T := h5.keep (Keep.below (F := fun _ => False) hb) (fun _ _ h => h)
  refine (tcut_any wq F p T fr n h5q h2 h3 hy).mono ?_
  rintro x w' ⟨rfl,hch⟩
  obtain ⟨F',f1,f2⟩ := hch
  have hlt := h5.lt
  have hsz := hb.size
  refine ⟨rfl,⟨(h1.transBelow hb).trans f2.keep (fun k hk => .inr (h6 k hk)),t2,t3,h4,F',f1,fun k hk => ?_,⟨B,?_⟩,fun g hg hgF => ?_⟩,f2.keep.mono (fun k _ hk => hlt k hk)⟩
  · rcases f2.sub k hk with hk | hk
    · exact h6 k hk
    · have := h1.size; omega
  · exact ⟨own_keep (h7.below hb).own f2.keep h8,h7.one⟩
  · rcases f2.sub g hgF with hk | hk
    · exact h8 g hg hk
    · have := ((h7.below hb).own.lt g hg).2; omega
theorem st_row {w0 w w' : World} {p : Nat} {T : Tree} {rv rv' : Value} {l l' : List Ext} (h : St w0 w p T rv l) (hb : Below w.heap.size w w') (hr : RL w' w.heap.size rv' l') (hc : Chk l') : St w0 w' p T rv' l' := by
  obtain ⟨h1,h2,h3,h4,F,h5,h6,⟨B,h7⟩,h8⟩ := h
  refine ⟨h1.transBelow hb,h2,h3,hc,F,h5.keep (Keep.below (F := fun _ => False) hb) (fun _ _ h => h),h6,⟨_,hr⟩,fun g hg hgF => ?_⟩
  have := h5.lt g hgF
  have := (hr.own.lt g hg).1
  omega
theorem st_rover {w0 w : World} {p : Nat} {T : Tree} {rv : Value} {l : List Ext} {y : Ext} (h : St w0 w p T rv l) (hy : oneB y = true) :
    Calls Tryz.prog 60 #[rv,y.val,.bool false] w fun x w' => ∃ A m c,x = .returned (.slice A m c) ∧ St w0 w' p T (.slice A m c) (overL l y) ∧ Below w.heap.size w w' := by
  obtain ⟨a1,a2,a3,a4⟩ := one_spec hy
  have hcl := h.2.2.2.1
  have := chk_len hcl
  refine (rover_ext l rv y w h.exts this hcl.one (by omega) (by omega) (by omega) hy).mono ?_
  rintro x w' ⟨A,m,c,rfl,h1,h2⟩
  refine ⟨A,m,c,rfl,st_row h h2 ?_ (over_chk hcl hy),h2⟩
  have e : overL l y = (parts l y.end_ 16777216).foldl push (push ((parts l 0 y.fr).foldl push []) y) := by unfold overL tidy; simp [List.foldl_append]
  rw [e]; exact h1
theorem st_rcut {w0 w : World} {p : Nat} {T : Tree} {rv : Value} {l : List Ext} {fr n : Int} (h : St w0 w p T rv l) (hy : spanB fr n = true) :
    Calls Tryz.prog 60 #[rv,(⟨fr,n,0,0⟩ : Ext).val,.bool true] w fun x w' => ∃ A m c,x = .returned (.slice A m c) ∧ St w0 w' p T (.slice A m c) (cutL l fr n) ∧ Below w.heap.size w w' := by
  obtain ⟨s1,s2,s3⟩ := span_spec hy
  have hcl := h.2.2.2.1
  have := chk_len hcl
  refine (rover_cut l rv ⟨fr,n,0,0⟩ w h.exts this hcl.one s1 s2 s3).mono ?_
  rintro x w' ⟨A,m,c,rfl,h1,h2⟩
  refine ⟨A,m,c,rfl,st_row h h2 ?_ (cut_chk hcl s1 s2 s3),h2⟩
  have e : cutL l fr n = (parts l (fr + n) 16777216).foldl push ((parts l 0 fr).foldl push []) := by unfold cutL tidy; simp [List.foldl_append]
  rw [e]; exact h1
end Go.Proofs.YtneammhkgmkkfaaGreatDoor.tr
namespace Go.Proofs.YtneammhkgmkkfaaGreatDoor.tr
open Go.RowKit Go.Proofs.YtneammhkgmkkfaaGreatDoor.er
set_option linter.unusedVariables false
set_option linter.unusedSimpArgs false
structure Act where
  kind : Int
  e : Ext
  fr : Int
  n : Int
def Act.val (a : Act) : Value := .agg #[.int .i64 a.kind,.int .i64 a.e.fr,.int .i64 a.e.n,.int .i64 a.e.kind,.int .i64 a.e.at_,.int .i64 a.fr,.int .i64 a.n]
def Act.tree (a : Act) (T : Tree) : Tree := if a.kind = 0 then (if oneB a.e then T.over a.e else T) else if a.kind = 1 then (if spanB a.fr a.n then T.cut a.fr a.n else T) else T
def Act.list (a : Act) (l : List Ext) : List Ext := if a.kind = 0 then (if oneB a.e then overL l a.e else l) else if a.kind = 1 then (if spanB a.fr a.n then cutL l a.fr a.n else l) else l
def StepRet (w0 w : World) (p : Nat) (T : Tree) (l : List Ext) (x : Ending) (w' : World) : Prop := ∃ A m c,x = .returned (.tuple #[.slice A m c,.bool true]) ∧ St w0 w' p T (.slice A m c) l
def ActW (B : Nat) (wq : World) (k f en ek et fr n : Int) : Prop := Whole wq B 101 #[.int .i64 k,.int .i64 f,.int .i64 en,.int .i64 ek,.int .i64 et,.int .i64 fr,.int .i64 n] ∧ Whole wq (B + 1) 80 #[.int .i64 f,.int .i64 en,.int .i64 ek,.int .i64 et]
theorem ActW.keep {B : Nat} {w wq : World} {k f en ek et fr n : Int} (h : ActW B w k f en ek et fr n) (hk : Keep (fun k => k < B) w wq) : ActW B wq k f en ek et fr n := ⟨h.1.keep hk (by simp),h.2.keep hk (by simp)⟩
theorem ActW.below {B : Nat} {w wq : World} {k f en ek et fr n : Int} (h : ActW B w k f en ek et fr n) (hk : Below w.heap.size w wq) : ActW B wq k f en ek et fr n := h.keep (Keep.below hk)
theorem ActW.cells {B : Nat} {wq : World} {k f en ek et fr n : Int} (h : ActW B wq k f en ek et fr n) :
    (wq.cell? ⟨B,0,none⟩ = some (.int .i64 k) ∧ wq.cell? ⟨B,1,none⟩ = some (.int .i64 f) ∧ wq.cell? ⟨B,2,none⟩ = some (.int .i64 en) ∧ wq.cell? ⟨B,3,none⟩ = some (.int .i64 ek) ∧ wq.cell? ⟨B,4,none⟩ = some (.int .i64 et) ∧ wq.cell? ⟨B,5,none⟩ = some (.int .i64 fr) ∧ wq.cell? ⟨B,6,none⟩ = some (.int .i64 n)) ∧
    (wq.cell? ⟨B + 1,0,none⟩ = some (.int .i64 f) ∧ wq.cell? ⟨B + 1,1,none⟩ = some (.int .i64 en) ∧ wq.cell? ⟨B + 1,2,none⟩ = some (.int .i64 ek) ∧ wq.cell? ⟨B + 1,3,none⟩ = some (.int .i64 et)) :=
  ⟨⟨h.1.cell 0,h.1.cell 1,h.1.cell 2,h.1.cell 3,h.1.cell 4,h.1.cell 5,h.1.cell 6⟩,h.2.cell 0,h.2.cell 1,h.2.cell 2,h.2.cell 3⟩
theorem act_new (w : World) (k f en ek et fr n : Int) : ∃ w3,(w.alloc (.cells #[.int .i64 k,.int .i64 f,.int .i64 en,.int .i64 ek,.int .i64 et,.int .i64 fr,.int .i64 n] 101)).alloc (.cells #[.int .i64 f,.int .i64 en,.int .i64 ek,.int .i64 et] 80) = w3 ∧ ActW w.heap.size w3 k f en ek et fr n ∧ Below w.heap.size w w3 :=
  ⟨_,rfl,⟨(Whole.new _ _ _).alloc _,Whole.new' _ _ _ _ (by simp)⟩,((Below.refl _ _).alloc (Nat.le_refl _) _).alloc (by simp) _⟩
set_option maxHeartbeats 4000000 in
set_option maxRecDepth 100000 in
theorem step_over (w0 w : World) (p : Nat) (T : Tree) (A : Option Addr) (m c : Nat) (l : List Ext) (k f en ek et fr n : Int) (h : St w0 w p T (.slice A m c) l) (hk : k = 0) (hy : oneB ⟨f,en,ek,et⟩ = true) :
    Calls Tryz.prog 35 #[.pointer (some ⟨p,0,none⟩),.slice A m c,(⟨k,⟨f,en,ek,et⟩,fr,n⟩ : Act).val] w (StepRet w0 w p (T.over ⟨f,en,ek,et⟩) (overL l ⟨f,en,ek,et⟩)) := by
  obtain ⟨w3,hw3,ha,hb3⟩ := act_new w k f en ek et fr n
  obtain ⟨⟨c0,c1,c2,c3,c4,c5,c6⟩,d0,d1,d2,d3⟩ := ha.cells
  have HOV : Hid (Calls Tryz.prog 20 #[.pointer (some ⟨p,0,none⟩),.agg #[.int .i64 f,.int .i64 en,.int .i64 ek,.int .i64 et]] w3 fun x w' => x = .returned (.int .i64 0) ∧ St w0 w' p (T.over ⟨f,en,ek,et⟩) (.slice A m c) l ∧ ActW w.heap.size w' k f en ek et fr n) := by
    refine (st_over (y := ⟨f,en,ek,et⟩) h hb3 hy).mono ?_
    rintro x w' ⟨rfl,q1,q2⟩
    exact ⟨rfl,q1,ha.keep q2⟩
  have HON : Hid (∀ wq,Calls Tryz.prog 31 #[.agg #[.int .i64 f,.int .i64 en,.int .i64 ek,.int .i64 et]] wq fun x w' => x = .returned (.bool true) ∧ Below wq.heap.size wq w') := fun wq => by have := rone_any ⟨f,en,ek,et⟩ wq; rw [hy] at this; exact this
  have HRO : Hid (∀ wq,St w0 wq p (T.over ⟨f,en,ek,et⟩) (.slice A m c) l → Calls Tryz.prog 60 #[.slice A m c,.agg #[.int .i64 f,.int .i64 en,.int .i64 ek,.int .i64 et],.bool false] wq fun x w' => ∃ A m c,x = .returned (.slice A m c) ∧ St w0 w' p (T.over ⟨f,en,ek,et⟩) (.slice A m c) (overL l ⟨f,en,ek,et⟩) ∧ Below wq.heap.size wq w') := fun wq hq => st_rover (y := ⟨f,en,ek,et⟩) hq hy
  subst hk
  clear h ha hb3 hy
  show Calls Tryz.prog 35 #[.pointer (some ⟨p,0,none⟩),.slice A m c,.agg #[.int .i64 0,.int .i64 f,.int .i64 en,.int .i64 ek,.int .i64 et,.int .i64 fr,.int .i64 n]] w _
  go_enter Tryz.func35,Tryz.ntmps35
  go_wp2_with fail
  with_reducible refine HOV.out.mono ?_
  rintro e w4 ⟨rfl,hs4,ha4⟩
  have HS4 := Lib.hid hs4
  have HA4 := Lib.hid ha4
  clear hs4 ha4 c0 c1 c2 c3 c4 c5 c6 d0 d1 d2 d3
  obtain ⟨⟨c0,c1,c2,c3,c4,c5,c6⟩,d0,d1,d2,d3⟩ := HA4.out.cells
  go_wp2_with fail
  with_reducible refine (HON.out _).mono ?_
  rintro e w5 ⟨rfl,hb5⟩
  have HS5 := Lib.hid (HS4.out.below hb5)
  have HA5 := Lib.hid (HA4.out.below hb5)
  clear hb5 c0 c1 c2 c3 c4 c5 c6 d0 d1 d2 d3
  obtain ⟨⟨c0,c1,c2,c3,c4,c5,c6⟩,d0,d1,d2,d3⟩ := HA5.out.cells
  go_wp2_with fail
  with_reducible refine (HRO.out _ HS5.out).mono ?_
  rintro e w6 ⟨A',m',c',rfl,hs6,hb6⟩
  have HS6 := Lib.hid hs6
  have HA6 := Lib.hid (HA5.out.below hb6)
  clear hb6 hs6
  go_wp2_with fail
  refine bodyPost_ret (v := .tuple #[.slice A' m' c',.bool true]) (by simp [results,Tryz.results35,go_sem]) rfl ?_
  exact ⟨_,_,_,rfl,HS6.out⟩
set_option maxHeartbeats 4000000 in
set_option maxRecDepth 100000 in
theorem step_overN (w0 w : World) (p : Nat) (T : Tree) (A : Option Addr) (m c : Nat) (l : List Ext) (k f en ek et fr n : Int) (h : St w0 w p T (.slice A m c) l) (hk : k = 0) (hy : oneB ⟨f,en,ek,et⟩ = false) :
    Calls Tryz.prog 35 #[.pointer (some ⟨p,0,none⟩),.slice A m c,(⟨k,⟨f,en,ek,et⟩,fr,n⟩ : Act).val] w (StepRet w0 w p T l) := by
  obtain ⟨w3,hw3,ha,hb3⟩ := act_new w k f en ek et fr n
  obtain ⟨⟨c0,c1,c2,c3,c4,c5,c6⟩,d0,d1,d2,d3⟩ := ha.cells
  have HOV : Hid (Calls Tryz.prog 20 #[.pointer (some ⟨p,0,none⟩),.agg #[.int .i64 f,.int .i64 en,.int .i64 ek,.int .i64 et]] w3 fun x w' => x = .returned (.int .i64 1) ∧ Below w3.heap.size w3 w') := tover_bad w3 p ⟨f,en,ek,et⟩ hy
  have HON : Hid (∀ wq,Calls Tryz.prog 31 #[.agg #[.int .i64 f,.int .i64 en,.int .i64 ek,.int .i64 et]] wq fun x w' => x = .returned (.bool false) ∧ Below wq.heap.size wq w') := fun wq => by have := rone_any ⟨f,en,ek,et⟩ wq; rw [hy] at this; exact this
  have HS := Lib.hid (h.below hb3)
  have HA := Lib.hid ha
  subst hk
  clear h ha hb3 hy
  show Calls Tryz.prog 35 #[.pointer (some ⟨p,0,none⟩),.slice A m c,.agg #[.int .i64 0,.int .i64 f,.int .i64 en,.int .i64 ek,.int .i64 et,.int .i64 fr,.int .i64 n]] w _
  go_enter Tryz.func35,Tryz.ntmps35
  go_wp2_with fail
  with_reducible refine HOV.out.mono ?_
  rintro e w4 ⟨rfl,hb4⟩
  have HS4 := Lib.hid (HS.out.below hb4)
  have HA4 := Lib.hid (HA.out.below hb4)
  clear hb4 c0 c1 c2 c3 c4 c5 c6 d0 d1 d2 d3
  obtain ⟨⟨c0,c1,c2,c3,c4,c5,c6⟩,d0,d1,d2,d3⟩ := HA4.out.cells
  go_wp2_with fail
  with_reducible refine (HON.out _).mono ?_
  rintro e w5 ⟨rfl,hb5⟩
  have HS5 := Lib.hid (HS4.out.below hb5)
  clear hb5
  go_wp2_with fail
  refine bodyPost_ret (v := .tuple #[.slice A m c,.bool true]) (by simp [results,Tryz.results35,go_sem]) rfl ?_
  exact ⟨_,_,_,rfl,HS5.out⟩
set_option maxHeartbeats 4000000 in
set_option maxRecDepth 100000 in
theorem step_cut (w0 w : World) (p : Nat) (T : Tree) (A : Option Addr) (m c : Nat) (l : List Ext) (k f en ek et fr n : Int) (h : St w0 w p T (.slice A m c) l) (hk : k = 1) (hy : spanB fr n = true) :
    Calls Tryz.prog 35 #[.pointer (some ⟨p,0,none⟩),.slice A m c,(⟨k,⟨f,en,ek,et⟩,fr,n⟩ : Act).val] w (StepRet w0 w p (T.cut fr n) (cutL l fr n)) := by
  obtain ⟨w3,hw3,ha,hb3⟩ := act_new w k f en ek et fr n
  obtain ⟨⟨c0,c1,c2,c3,c4,c5,c6⟩,d0,d1,d2,d3⟩ := ha.cells
  have HOV : Hid (Calls Tryz.prog 61 #[.pointer (some ⟨p,0,none⟩),.int .i64 fr,.int .i64 n] w3 fun x w' => x = .returned (.int .i64 0) ∧ St w0 w' p (T.cut fr n) (.slice A m c) l ∧ ActW w.heap.size w' k f en ek et fr n) := by
    refine (st_cut h hb3 hy).mono ?_
    rintro x w' ⟨rfl,q1,q2⟩
    exact ⟨rfl,q1,ha.keep q2⟩
  have HON : Hid (∀ wq,Calls Tryz.prog 59 #[.int .i64 fr,.int .i64 n] wq fun x w' => x = .returned (.bool true) ∧ wq = w') := fun wq => by have := range_any fr n wq; rw [hy] at this; exact this
  have HRO : Hid (∀ wq,St w0 wq p (T.cut fr n) (.slice A m c) l → Calls Tryz.prog 60 #[.slice A m c,.agg #[.int .i64 fr,.int .i64 n,.int .i64 0,.int .i64 0],.bool true] wq fun x w' => ∃ A m c,x = .returned (.slice A m c) ∧ St w0 w' p (T.cut fr n) (.slice A m c) (cutL l fr n) ∧ Below wq.heap.size wq w') := fun wq hq => st_rcut hq hy
  subst hk
  clear h ha hb3 hy
  show Calls Tryz.prog 35 #[.pointer (some ⟨p,0,none⟩),.slice A m c,.agg #[.int .i64 1,.int .i64 f,.int .i64 en,.int .i64 ek,.int .i64 et,.int .i64 fr,.int .i64 n]] w _
  go_enter Tryz.func35,Tryz.ntmps35
  go_wp2_with fail
  with_reducible refine HOV.out.mono ?_
  rintro e w4 ⟨rfl,hs4,ha4⟩
  have HS4 := Lib.hid hs4
  have HA4 := Lib.hid ha4
  clear hs4 ha4 c0 c1 c2 c3 c4 c5 c6 d0 d1 d2 d3
  obtain ⟨⟨c0,c1,c2,c3,c4,c5,c6⟩,d0,d1,d2,d3⟩ := HA4.out.cells
  go_wp2_with fail
  with_reducible refine (HON.out _).mono ?_
  rintro e w5 ⟨rfl,rfl⟩
  go_wp2_with fail
  with_reducible refine (HRO.out _ HS4.out).mono ?_
  rintro e w6 ⟨A',m',c',rfl,hs6,hb6⟩
  have HS6 := Lib.hid hs6
  clear hb6 hs6
  go_wp2_with fail
  refine bodyPost_ret (v := .tuple #[.slice A' m' c',.bool true]) (by simp [results,Tryz.results35,go_sem]) rfl ?_
  exact ⟨_,_,_,rfl,HS6.out⟩
set_option maxHeartbeats 4000000 in
set_option maxRecDepth 100000 in
theorem step_cutN (w0 w : World) (p : Nat) (T : Tree) (A : Option Addr) (m c : Nat) (l : List Ext) (k f en ek et fr n : Int) (h : St w0 w p T (.slice A m c) l) (hk : k = 1) (hy : spanB fr n = false) :
    Calls Tryz.prog 35 #[.pointer (some ⟨p,0,none⟩),.slice A m c,(⟨k,⟨f,en,ek,et⟩,fr,n⟩ : Act).val] w (StepRet w0 w p T l) := by
  obtain ⟨w3,hw3,ha,hb3⟩ := act_new w k f en ek et fr n
  obtain ⟨⟨c0,c1,c2,c3,c4,c5,c6⟩,d0,d1,d2,d3⟩ := ha.cells
  have HOV : Hid (Calls Tryz.prog 61 #[.pointer (some ⟨p,0,none⟩),.int .i64 fr,.int .i64 n] w3 fun x w' => x = .returned (.int .i64 1) ∧ Below w3.heap.size w3 w') := tcut_bad w3 p fr n hy
  have HON : Hid (∀ wq,Calls Tryz.prog 59 #[.int .i64 fr,.int .i64 n] wq fun x w' => x = .returned (.bool false) ∧ wq = w') := fun wq => by have := range_any fr n wq; rw [hy] at this; exact this
  have HS := Lib.hid (h.below hb3)
  have HA := Lib.hid ha
  subst hk
  clear h ha hb3 hy
  show Calls Tryz.prog 35 #[.pointer (some ⟨p,0,none⟩),.slice A m c,.agg #[.int .i64 1,.int .i64 f,.int .i64 en,.int .i64 ek,.int .i64 et,.int .i64 fr,.int .i64 n]] w _
  go_enter Tryz.func35,Tryz.ntmps35
  go_wp2_with fail
  with_reducible refine HOV.out.mono ?_
  rintro e w4 ⟨rfl,hb4⟩
  have HS4 := Lib.hid (HS.out.below hb4)
  have HA4 := Lib.hid (HA.out.below hb4)
  clear hb4 c0 c1 c2 c3 c4 c5 c6 d0 d1 d2 d3
  obtain ⟨⟨c0,c1,c2,c3,c4,c5,c6⟩,d0,d1,d2,d3⟩ := HA4.out.cells
  go_wp2_with fail
  with_reducible refine (HON.out _).mono ?_
  rintro e w5 ⟨rfl,rfl⟩
  go_wp2_with fail
  refine bodyPost_ret (v := .tuple #[.slice A m c,.bool true]) (by simp [results,Tryz.results35,go_sem]) rfl ?_
  exact ⟨_,_,_,rfl,HS4.out⟩
set_option maxHeartbeats 4000000 in
set_option maxRecDepth 100000 in
theorem step_none (w0 w : World) (p : Nat) (T : Tree) (A : Option Addr) (m c : Nat) (l : List Ext) (k f en ek et fr n : Int) (h : St w0 w p T (.slice A m c) l) (hk0 : k ≠ 0) (hk1 : k ≠ 1) :
    Calls Tryz.prog 35 #[.pointer (some ⟨p,0,none⟩),.slice A m c,(⟨k,⟨f,en,ek,et⟩,fr,n⟩ : Act).val] w (StepRet w0 w p T l) := by
  obtain ⟨w3,hw3,ha,hb3⟩ := act_new w k f en ek et fr n
  obtain ⟨⟨c0,c1,c2,c3,c4,c5,c6⟩,d0,d1,d2,d3⟩ := ha.cells
  have HS := Lib.hid (h.below hb3)
  have n0 : (k == 0) = false := by simpa using hk0
  have n1 : (k == 1) = false := by simpa using hk1
  clear h ha hb3 hk0 hk1
  show Calls Tryz.prog 35 #[.pointer (some ⟨p,0,none⟩),.slice A m c,.agg #[.int .i64 k,.int .i64 f,.int .i64 en,.int .i64 ek,.int .i64 et,.int .i64 fr,.int .i64 n]] w _
  go_enter Tryz.func35,Tryz.ntmps35
  go_wp2_with fail
  refine bodyPost_ret (v := .tuple #[.slice A m c,.bool true]) (by simp [results,Tryz.results35,go_sem]) rfl ?_
  exact ⟨_,_,_,rfl,HS.out⟩
theorem step_any (w0 w : World) (p : Nat) (T : Tree) (A : Option Addr) (m c : Nat) (l : List Ext) (a : Act) (h : St w0 w p T (.slice A m c) l) :
    Calls Tryz.prog 35 #[.pointer (some ⟨p,0,none⟩),.slice A m c,a.val] w (StepRet w0 w p (a.tree T) (a.list l)) := by
  obtain ⟨k,⟨f,en,ek,et⟩,fr,n⟩ := a
  unfold Act.tree Act.list
  by_cases h0 : k = 0
  · cases hy : oneB ⟨f,en,ek,et⟩
    · simpa [h0,hy] using step_overN w0 w p T A m c l k f en ek et fr n h h0 hy
    · simpa [h0,hy] using step_over w0 w p T A m c l k f en ek et fr n h h0 hy
  · by_cases h1 : k = 1
    · cases hy : spanB fr n
      · simpa [h1,hy] using step_cutN w0 w p T A m c l k f en ek et fr n h h1 hy
      · simpa [h1,hy] using step_cut w0 w p T A m c l k f en ek et fr n h h1 hy
    · simpa [h0,h1] using step_none w0 w p T A m c l k f en ek et fr n h h0 h1
end Go.Proofs.YtneammhkgmkkfaaGreatDoor.tr
namespace Go.Proofs.YtneammhkgmkkfaaGreatDoor.tr
open Go.RowKit Go.Proofs.YtneammhkgmkkfaaGreatDoor.er
set_option linter.unusedVariables false
set_option linter.unusedSimpArgs false
theorem st_new (w : World) : St w (w.alloc (.cells #[.nilIface] 69)) w.heap.size .no (.slice none 0 0) [] :=
  ⟨(Keep.refl _ _).alloc _,trivial,chk_nil,chk_nil,[w.heap.size],⟨rfl,Whole.new _ _ _⟩,by simp,⟨0,RL.nil _ _⟩,by simp [Value.ownBlock]⟩
set_option maxHeartbeats 4000000 in
set_option maxRecDepth 100000 in
theorem new_any (w : World) : Calls Tryz.prog 19 #[] w fun x w' => x = .returned (.pointer (some ⟨w.heap.size,0,none⟩)) ∧ w' = w.alloc (.cells #[.nilIface] 69) := by
  go_enter Tryz.func19,Tryz.ntmps19
  go_wp2_with fail
  go_ret
  exact ⟨rfl,rfl⟩
theorem act_flat {T : Tree} (a : Act) (ho : T.Ok) (hc : Chk T.flat) : (a.tree T).flat = a.list T.flat := by
  unfold Act.tree Act.list
  split
  · split
    · rename_i h; exact (tree_over ho hc h).1
    · rfl
  · split
    · split
      · rename_i h
        obtain ⟨s1,s2,s3⟩ := span_spec h
        exact (tree_cut ho hc s1 s2 s3).1
      · rfl
    · rfl
def ActAt (w : World) (g o : Nat) (a : Act) : Prop := w.cell? ⟨g,o,none⟩ = some (.int .i64 a.kind) ∧ w.cell? ⟨g,o + 1,none⟩ = some (.int .i64 a.e.fr) ∧ w.cell? ⟨g,o + 2,none⟩ = some (.int .i64 a.e.n) ∧ w.cell? ⟨g,o + 3,none⟩ = some (.int .i64 a.e.kind) ∧ w.cell? ⟨g,o + 4,none⟩ = some (.int .i64 a.e.at_) ∧ w.cell? ⟨g,o + 5,none⟩ = some (.int .i64 a.fr) ∧ w.cell? ⟨g,o + 6,none⟩ = some (.int .i64 a.n)
def ActsAt (w : World) (v : Value) (l : List Act) : Prop := ∃ A c,v = .slice A l.length c ∧ l.length ≤ 9223372036854775807 ∧ (0 < l.length → ∃ g o,A = some ⟨g,o,none⟩ ∧ ∀ (j : Nat) (a : Act),l[j]? = some a → ActAt w g (o + j * 7) a)
end Go.Proofs.YtneammhkgmkkfaaGreatDoor.tr
namespace Go.Proofs.YtneammhkgmkkfaaGreatDoor.tr
open Go.RowKit Go.Proofs.YtneammhkgmkkfaaGreatDoor.er
set_option linter.unusedVariables false
set_option linter.unusedSimpArgs false
set_option maxHeartbeats 4000000 in
set_option maxRecDepth 100000 in
theorem len64_0 (w : World) : Calls Tryz.prog 122 #[.int .u64 0] w fun x w' => x = .returned (.int .i64 0) ∧ w' = w := by
  go_enter Tryz.func122,Tryz.ntmps122
  go_wp2_with fail
  go_ret
  exact ⟨by first | kernel_rfl | decide,rfl⟩
set_option maxHeartbeats 4000000 in
set_option maxRecDepth 100000 in
theorem len_0 (w : World) : Calls Tryz.prog 97 #[.int .u64 0] w fun x w' => x = .returned (.int .i64 0) ∧ w' = w := by
  have H := Lib.hid (len64_0 w)
  go_enter Tryz.func97,Tryz.ntmps97
  go_wp2_with fail
  with_reducible refine H.out.mono ?_
  rintro e w5 ⟨rfl,rfl⟩
  go_wp2_with fail
  go_ret
  exact ⟨rfl,rfl⟩
set_option maxHeartbeats 4000000 in
set_option maxRecDepth 100000 in
theorem ins_0 (w : World) : Calls Tryz.prog 112 #[.slice none 0 0,.int .i64 0,.int .i64 0] w fun x w' => x = .returned (.tuple #[]) ∧ w' = w := by
  go_enter Tryz.func112,Tryz.ntmps112
  go_wp2_with fail
  go_loopw [6,7] (fun s6 s7 wr => wr = w ∧ s6 = .int .i64 1) (fun _ _ _ => 0)
  case atStart => exact ⟨rfl,rfl⟩
  case round =>
    obtain ⟨rfl,rfl⟩ := hrel
    go_wp2_with fail
    go_end0
    exact ⟨rfl,rfl⟩
set_option maxHeartbeats 4000000 in
set_option maxRecDepth 100000 in
theorem pdq_0 (w : World) : Calls Tryz.prog 96 #[.slice none 0 0,.int .i64 0,.int .i64 0,.int .i64 0] w fun x w' => x = .returned (.tuple #[]) ∧ w' = w := by
  have H := Lib.hid (ins_0 w)
  go_enter Tryz.func96,Tryz.ntmps96
  go_wp2_with fail
  go_loopw [1,2,3,8,9,10] (fun s1 s2 s3 s8 s9 s10 wr => wr = w ∧ s1 = .int .i64 0 ∧ s2 = .int .i64 0 ∧ s3 = .int .i64 0) (fun _ _ _ _ _ _ _ => 0)
  case atStart => exact ⟨rfl,rfl,rfl,rfl⟩
  case round =>
    obtain ⟨rfl,rfl,rfl,rfl⟩ := hrel
    go_wp2_with fail
    with_reducible refine H.out.mono ?_
    rintro e w5 ⟨rfl,rfl⟩
    go_wp2_with fail
    refine bodyPost_ret (v := .tuple #[]) (by simp [results,Tryz.results96,go_sem]) rfl ⟨rfl,rfl⟩
set_option maxHeartbeats 4000000 in
set_option maxRecDepth 100000 in
theorem sort_0 (w : World) : Calls Tryz.prog 64 #[.slice none 0 0] w fun x w' => x = .returned (.tuple #[]) ∧ w' = w := by
  have H1 := Lib.hid (len_0 w)
  have H2 := Lib.hid (pdq_0 w)
  go_enter Tryz.func64,Tryz.ntmps64
  go_wp2_with fail
  with_reducible refine H1.out.mono ?_
  rintro e w5 ⟨rfl,rfl⟩
  go_wp2_with fail
  with_reducible refine H2.out.mono ?_
  rintro e w5 ⟨rfl,rfl⟩
  go_wp2_with fail
  go_end0
  exact ⟨rfl,rfl⟩
end Go.Proofs.YtneammhkgmkkfaaGreatDoor.tr
namespace Go.Proofs.YtneammhkgmkkfaaGreatDoor.tr
open Go.RowKit Go.Proofs.YtneammhkgmkkfaaGreatDoor.er
set_option linter.unusedVariables false
set_option linter.unusedSimpArgs false
set_option maxHeartbeats 4000000 in
set_option maxRecDepth 100000 in
theorem pages_fresh (w : World) (F : List Nat) (p : Nat) (T : Tree) (ht : TrAt w F p T) (hok : T.Ok) (hN : T.cnt ≤ 16777216) (hf : ∀ a ∈ T.ats,a = -1) :
    Calls Tryz.prog 37 #[.pointer (some ⟨p,0,none⟩)] w fun x w' => x = .returned (.slice none 0 0) ∧ Below w.heap.size w w' := by
  have HNN : Hid (Calls Tryz.prog 27 #[.pointer (some ⟨p,0,none⟩)] w fun x w' => ∃ A m c,x = .returned (.slice A m c) ∧ m ≤ 16777216 ∧ Below w.heap.size w w' ∧ (0 < m → ∃ g,A = some ⟨g,0,none⟩ ∧ ∀ i,i < m → ∃ h b,w'.cell? ⟨g,i,none⟩ = some (.iface (ndT h) (.pointer (some ⟨b,0,none⟩))) ∧ w'.cell? ⟨b,0,none⟩ = some (.int .i64 (-1)))) := by
    refine (nodes_any w F p T ht hok hN).mono ?_
    rintro x w' ⟨v',L,rfl,h1,h2,h3⟩
    obtain ⟨A,c,rfl⟩ := own_slice h1
    refine ⟨A,_,c,rfl,by rw [h2.len,tats_len]; exact hN,h3,fun h0 => ?_⟩
    obtain ⟨g,rfl,_,_,_,hc,_⟩ := own_cell h1 h0
    refine ⟨g,rfl,fun i hi => ?_⟩
    have hx := List.getElem?_eq_getElem hi
    have hi2 : i < T.ats.length := by rw [← h2.len]; exact hi
    have ha := List.getElem?_eq_getElem hi2
    obtain ⟨q1,q2,q3⟩ := h2.at_ i _ _ hx ha
    rw [hf _ (List.getElem_mem hi2)] at q1
    refine ⟨(L[i]'hi).1,(L[i]'hi).2,?_,below_c h3 q1⟩
    exact hc i _ (by rw [List.getElem?_map,hx]; rfl)
  have HSO := Lib.hid (fun wq => sort_0 wq)
  have hme := fun h b w => meWh (.pointer (some ⟨b,0,none⟩)) w h
  have hen := fun h b w => enWh #[.pointer (some ⟨b,0,none⟩)] w h
  have HWH := Lib.hid (fun wq b h => where_any wq b h)
  clear ht hok hN hf
  go_enter Tryz.func37,Tryz.ntmps37
  go_wp2_with fail
  with_reducible refine HNN.out.mono ?_
  rintro e w1 ⟨A,m,c,rfl,hm,hb1,hcc⟩
  have HB1 := Lib.hid hb1
  have HCC := Lib.hid hcc
  have hmi : (m : Int) ≤ 16777216 := by omega
  clear hb1 hcc
  go_wp2_with fail
  go_loopw [3,5,9] (fun s3 s5 s9 wr => wr = w1 ∧ s3 = .slice none 0 0 ∧ ∃ j : Nat,j ≤ m ∧ s9 = .int .i64 j) (fun _ _ s9 _ => m - (intOf s9).toNat)
  case atStart => exact ⟨rfl,rfl,0,Nat.zero_le _,rfl⟩
  case round =>
    obtain ⟨rfl,rfl,j,hj,rfl⟩ := hrel
    by_cases hlt : j < m
    · have hji : (j : Int) < (m : Int) := by omega
      obtain ⟨g,rfl,hc⟩ := HCC.out (by omega)
      obtain ⟨h,b,c1,c2⟩ := hc j hlt
      clear hc
      go_wp2_with fail
      refine (HWH.out _ b h).mono ?_
      rintro e w5 ⟨rfl,rfl⟩
      go_wp2_with fail
      go_roundw
      case rel => exact ⟨trivial,rfl,j + 1,by omega,by go_num⟩
      case measure => simp [intOf]; omega
    · obtain rfl : j = m := by omega
      go_wp2_with fail
      with_reducible refine (HSO.out _).mono ?_
      rintro e w5 ⟨rfl,rfl⟩
      go_wp2_with fail
      go_ret
      exact ⟨rfl,HB1.out⟩
set_option maxHeartbeats 4000000 in
set_option maxRecDepth 100000 in
theorem fresh_fresh (w : World) (F : List Nat) (p : Nat) (T : Tree) (ht : TrAt w F p T) (hok : T.Ok) (hN : T.cnt ≤ 16777216) (hf : ∀ a ∈ T.ats,a = -1) :
    Calls Tryz.prog 18 #[.pointer (some ⟨p,0,none⟩)] w fun x w' => x = .returned (.int .i64 T.cnt) ∧ Below w.heap.size w w' := by
  have HN := Lib.hid (Nodes_any w F p T ht hok hN)
  have HP : Hid (∀ wq,Below w.heap.size w wq → Calls Tryz.prog 37 #[.pointer (some ⟨p,0,none⟩)] wq fun x w' => x = .returned (.slice none 0 0) ∧ Below wq.heap.size wq w') := fun wq hb => pages_fresh wq F p T (ht.keep (Keep.below (F := fun _ => False) hb) (fun _ _ h => h)) hok hN hf
  obtain ⟨C,hC⟩ : ∃ C,T.cnt = C := ⟨_,rfl⟩
  rw [hC] at HN hN ⊢
  clear ht hok hf hC
  go_enter Tryz.func18,Tryz.ntmps18
  go_wp2_with fail
  with_reducible refine HN.out.mono ?_
  rintro e w5 ⟨rfl,hb5⟩
  have HB5 := Lib.hid hb5
  clear hb5
  go_wp2_with fail
  with_reducible refine (HP.out _ HB5.out).mono ?_
  rintro e w6 ⟨rfl,hb6⟩
  have HB6 := Lib.hid (bel_tr HB5.out hb6)
  clear hb6
  go_wp2_with fail
  go_ret
  exact ⟨by go_num,HB6.out⟩
end Go.Proofs.YtneammhkgmkkfaaGreatDoor.tr
namespace Go.Proofs.YtneammhkgmkkfaaGreatDoor.tr
open Go.RowKit Go.Proofs.YtneammhkgmkkfaaGreatDoor.er
set_option linter.unusedVariables false
set_option linter.unusedSimpArgs false
def runT (i : Nat) : Tree := (List.range i).foldl (fun (T : Tree) (j : Nat) => T.over ⟨2 * j,1,1,0⟩) .no
theorem runT_succ (i : Nat) : runT (i + 1) = (runT i).over ⟨2 * i,1,1,0⟩ := by unfold runT; rw [List.range_succ,List.foldl_append]; rfl
theorem run9 : (runT 9).high = 2 ∧ (runT 9).ats = [-1,-1,-1] ∧ sumN (runT 9).flat = 9 := ⟨by kernel_rfl,by kernel_rfl,by kernel_rfl⟩
theorem one9 : ∀ {i : Nat},i < 9 → oneB ⟨2 * (i : Int),1,1,0⟩ = true := by decide
set_option maxHeartbeats 4000000 in
set_option maxRecDepth 100000 in
theorem awake_any (w : World) : Calls Tryz.prog 5 #[] w fun x w' => x = .returned (.bool true) ∧ Below w.heap.size w w' := by
  have HNEW := Lib.hid (new_any w)
  have HST0 := Lib.hid (st_new w)
  have HOV : Hid (∀ wr p (j : Nat),j < 9 → St w wr p (runT j) (.slice none 0 0) [] → Calls Tryz.prog 20 #[.pointer (some ⟨p,0,none⟩),.agg #[.int .i64 (2 * j),.int .i64 1,.int .i64 1,.int .i64 0]] wr fun x w' => x = .returned (.int .i64 0) ∧ St w w' p (runT (j + 1)) (.slice none 0 0) []) := by
    intro wr p j hj hs
    refine (st_over (y := ⟨2 * j,1,1,0⟩) hs (Below.refl _ _) (one9 hj)).mono ?_
    rintro x w' ⟨rfl,q1,_⟩
    exact ⟨rfl,by rw [runT_succ]; exact q1⟩
  have HEND : Hid (∀ wr p,St w wr p (runT 9) (.slice none 0 0) [] → ∀ wq,Below wr.heap.size wr wq → (Calls Tryz.prog 14 #[.pointer (some ⟨p,0,none⟩)] wq fun x w' => x = .returned (.int .i64 2) ∧ w' = wq) ∧ (Calls Tryz.prog 9 #[.pointer (some ⟨p,0,none⟩)] wq fun x w' => x = .returned (.int .i64 3) ∧ Below wq.heap.size wq w') ∧ (Calls Tryz.prog 21 #[.pointer (some ⟨p,0,none⟩)] wq fun x w' => x = .returned (.int .i64 9) ∧ Below wq.heap.size wq w') ∧ (Calls Tryz.prog 18 #[.pointer (some ⟨p,0,none⟩)] wq fun x w' => x = .returned (.int .i64 3) ∧ Below wq.heap.size wq w')) := by
    intro wr p hs wq hb
    obtain ⟨h1,h2,h3,h4,F,h5,h6,⟨B,h7⟩,h8⟩ := hs.below hb
    obtain ⟨r1,r2,r3⟩ := run9
    have rc : (runT 9).cnt = 3 := by rw [← tats_len,r2]; rfl
    refine ⟨?_,?_,?_,?_⟩
    · have := height_any wq F p _ h5 h2 h3; rw [r1] at this; exact this
    · have := Nodes_any wq F p _ h5 h2 (by rw [rc]; omega); rw [rc] at this; exact this
    · have := tcount_any wq F p _ h5 h2 h3; rw [r3] at this; exact this
    · have := fresh_fresh wq F p _ h5 h2 (by rw [rc]; omega) (by rw [r2]; simp); rw [rc] at this; exact this
  have HFIN : Hid (∀ wr p,St w wr p (runT 9) (.slice none 0 0) [] → ∀ wq,Below wr.heap.size wr wq → Below w.heap.size w wq) := fun wr p hs wq hb => (hs.below hb).1.toBelow (Nat.le_refl _) (fun _ h => h.elim)
  go_enter Tryz.func5,Tryz.ntmps5
  go_wp2_with fail
  with_reducible refine HNEW.out.mono ?_
  rintro e w1 ⟨rfl,rfl⟩
  go_wp2_with fail
  obtain ⟨w1,hw1⟩ : ∃ w1,w.alloc (.cells #[.nilIface] 69) = w1 := ⟨_,rfl⟩
  have HS1 : Hid (St w w1 w.heap.size (runT 0) (.slice none 0 0) []) := by show St _ _ _ _ _ _; rw [← hw1]; exact HST0.out
  rw [hw1]
  clear hw1 HST0 HNEW
  obtain ⟨p,hp⟩ : ∃ p,w.heap.size = p := ⟨_,rfl⟩
  rw [hp] at HS1 ⊢
  clear hp
  go_loopw [2] (fun s2 wr => ∃ (j : Nat),j ≤ 9 ∧ s2 = .int .i64 j ∧ Hid (St w wr p (runT j) (.slice none 0 0) [])) (fun s2 _ => 9 - (intOf s2).toNat)
  case atStart => exact ⟨0,by omega,rfl,HS1⟩
  case round =>
    obtain ⟨j,hj,rfl,HS⟩ := hrel
    by_cases hlt : j < 9
    · have hji : (j : Int) < 9 := by omega
      have HC := Lib.hid (HOV.out _ _ j hlt HS.out)
      go_wp2_with fail
      with_reducible refine HC.out.mono ?_
      rintro e w5 ⟨rfl,hs5⟩
      have HS5 := Lib.hid hs5
      clear hs5
      go_wp2_with fail
      go_roundw
      case rel => exact ⟨j + 1,by omega,by go_num,HS5⟩
      case measure => simp [intOf]; omega
    · obtain rfl : j = 9 := by omega
      have HE := Lib.hid (HEND.out _ _ HS.out)
      have HF := Lib.hid (HFIN.out _ _ HS.out)
      clear HEND HFIN
      go_wp2_with fail
      with_reducible refine (HE.out _ (Below.refl _ _)).1.mono ?_
      rintro e w5 ⟨rfl,rfl⟩
      go_wp2_with fail
      with_reducible refine (HE.out _ (Below.refl _ _)).2.1.mono ?_
      rintro e w6 ⟨rfl,hb6⟩
      have HB6 := Lib.hid hb6
      clear hb6
      go_wp2_with fail
      with_reducible refine (HE.out _ HB6.out).2.2.1.mono ?_
      rintro e w7 ⟨rfl,hb7⟩
      have HB7 := Lib.hid (bel_tr HB6.out hb7)
      clear hb7
      go_wp2_with fail
      with_reducible refine (HE.out _ HB7.out).2.2.2.mono ?_
      rintro e w8 ⟨rfl,hb8⟩
      have HB8 := Lib.hid (bel_tr HB7.out hb8)
      clear hb8
      go_wp2_with fail
      go_ret
      exact ⟨rfl,HF.out _ HB8.out⟩
end Go.Proofs.YtneammhkgmkkfaaGreatDoor.tr
namespace Go.Proofs.YtneammhkgmkkfaaGreatDoor.tr
open Go.RowKit Go.Proofs.YtneammhkgmkkfaaGreatDoor.er
set_option linter.unusedVariables false
set_option linter.unusedSimpArgs false
theorem st_len {w0 w : World} {p m c : Nat} {T : Tree} {A : Option Addr} {l : List Ext} (h : St w0 w p T (.slice A m c) l) : m = l.length := by
  obtain ⟨A',c',e,_⟩ := h.exts
  simp at e
  exact e.2.1
theorem st_cnt {w0 w : World} {p : Nat} {T : Tree} {v : Value} {l : List Ext} (h : St w0 w p T v l) : T.cnt ≤ 16777216 ∧ T.flat.length ≤ 16777216 ∧ T.high ≤ 20 := by
  have h1 := chk_len h.2.2.1
  have h2 := high_le h.2.1 h.2.2.1
  have h3 := tree_high h.2.1
  refine ⟨?_,h1,h2⟩
  by_cases he : T.flat = []
  · have := (h3.1 he).2; omega
  · have := (h3.2 he).2.2.2; omega
def Pl (j : Nat) : Int := 2 * 4 ^ (j - 1)
end Go.Proofs.YtneammhkgmkkfaaGreatDoor.tr
