/- A part of the proof. -/
import Derived.Test.YtneammhkgmkkfaaGreatDoorQTxE
import Derived.Test.YtneammhkgmkkfaaGreatDoorQTxG
import Derived.Test.YtneammhkgmkkfaaGreatDoorQTxMa
import Derived.Test.YtneammhkgmkkfaaGreatDoorQTyMa
namespace Go.Proofs.YtneammhkgmkkfaaGreatDoor.tr
open Go.RowKit Go.Proofs.YtneammhkgmkkfaaGreatDoor.er
set_option linter.unusedVariables false
set_option linter.unusedSimpArgs false
set_option maxHeartbeats 4000000 in
set_option maxRecDepth 100000 in
theorem rtog_any (a b : Ext) (w : World) (ha : oneB a = true) (hb : oneB b = true) : Calls Tryz.prog 32 #[a.val,b.val] w fun x w' => x = .returned (.bool (rTog a b)) ∧ Below w.heap.size w w' := by
  obtain ⟨a1,a2,a3,a4⟩ := one_spec ha
  obtain ⟨b1,b2,b3,b4⟩ := one_spec hb
  obtain ⟨f,n,k,t⟩ := a
  obtain ⟨f',n',k',t'⟩ := b
  simp only at a1 a2 a3 a4 b1 b2 b3 b4
  have HB1 := Lib.hid (((Below.refl w.heap.size w).alloc (Nat.le_refl _) (.cells #[.int .i64 f,.int .i64 n,.int .i64 k,.int .i64 t] 80)).alloc (by simp) (.cells #[.int .i64 f',.int .i64 n',.int .i64 k',.int .i64 t'] 80))
  have hw1 : wrap64 (f + n) = f + n := by unfold wrap64; omega
  have hw2 : wrap64 (t + n) = t + n := by unfold wrap64; omega
  have HR : Hid (rTog ⟨f,n,k,t⟩ ⟨f',n',k',t'⟩ = (decide (f' = f + n) && decide (k = k') && (decide (k = 1) || decide (t' = t + n)))) := rfl
  show Calls Tryz.prog 32 #[.agg #[.int .i64 f,.int .i64 n,.int .i64 k,.int .i64 t],.agg #[.int .i64 f',.int .i64 n',.int .i64 k',.int .i64 t']] w _
  clear ha hb a4 b4
  by_cases h1 : f' = f + n
  · have h1' : (f' == f + n) = true := by simpa using h1
    have h1n : (f' != f + n) = false := by simpa using h1
    by_cases h2 : k = k'
    · have h2' : (k == k') = true := by simpa using h2
      have h2n : (k != k') = false := by simpa using h2
      by_cases h3 : k = 1
      · have h3' : (k == 1) = true := by simpa using h3
        have HRR : Hid (rTog ⟨f,n,k,t⟩ ⟨f',n',k',t'⟩ = true) := by show _ = _; rw [HR.out]; simp [h1,h2,h3]; omega
        clear h1 h2 h3
        go_enter Tryz.func32,Tryz.ntmps32
        go_wp2_with fail
        go_ret
        exact ⟨by rw [HRR.out]; rfl,HB1.out⟩
      · have h3' : (k == 1) = false := by simpa using h3
        have HRR : Hid (rTog ⟨f,n,k,t⟩ ⟨f',n',k',t'⟩ = (t' == t + n)) := by
          show _ = _
          have h4 : ¬ k' = 1 := by omega
          rw [HR.out,h2,h1]
          simp [h4]
          rfl
        clear h1 h2 h3
        go_enter Tryz.func32,Tryz.ntmps32
        go_wp2_with fail
        go_ret
        exact ⟨by rw [HRR.out]; rfl,HB1.out⟩
    · have h2' : (k == k') = false := by simpa using h2
      have h2n : (k != k') = true := by simpa using h2
      have HRR : Hid (rTog ⟨f,n,k,t⟩ ⟨f',n',k',t'⟩ = false) := by show _ = _; rw [HR.out]; simp [h2]
      clear h1 h2
      go_enter Tryz.func32,Tryz.ntmps32
      go_wp2_with fail
      go_ret
      exact ⟨by rw [HRR.out]; rfl,HB1.out⟩
  · have h1' : (f' == f + n) = false := by simpa using h1
    have h1n : (f' != f + n) = true := by simpa using h1
    have HRR : Hid (rTog ⟨f,n,k,t⟩ ⟨f',n',k',t'⟩ = false) := by show _ = _; rw [HR.out]; simp [h1]
    clear h1
    go_enter Tryz.func32,Tryz.ntmps32
    go_wp2_with fail
    go_ret
    exact ⟨by rw [HRR.out]; rfl,HB1.out⟩
set_option maxHeartbeats 4000000 in
set_option maxRecDepth 100000 in
theorem joined_any (a b : Ext) (w : World) (ha : oneB a = true) (hb : oneB b = true) : Calls Tryz.prog 138 #[a.val,b.val] w fun x w' => (∃ c0 c1 c2 c3 : Int,x = .returned (.tuple #[.agg #[.int .i64 c0,.int .i64 c1,.int .i64 c2,.int .i64 c3],.bool (rTog a b)])) ∧ Below w.heap.size w w' := by
  have HO1 : Hid (∀ wq,Calls Tryz.prog 31 #[a.val] wq fun x w' => x = .returned (.bool true) ∧ Below wq.heap.size wq w') := fun wq => by have := rone_any a wq; rw [ha] at this; exact this
  have HO2 : Hid (∀ wq,Calls Tryz.prog 31 #[b.val] wq fun x w' => x = .returned (.bool true) ∧ Below wq.heap.size wq w') := fun wq => by have := rone_any b wq; rw [hb] at this; exact this
  have HTG := Lib.hid (fun wq => rtog_any a b wq ha hb)
  obtain ⟨a1,a2,a3,a4⟩ := one_spec ha
  obtain ⟨b1,b2,b3,b4⟩ := one_spec hb
  obtain ⟨f,n,k,t⟩ := a
  obtain ⟨f',n',k',t'⟩ := b
  simp only at a1 a2 a3 a4 b1 b2 b3 b4
  simp only [Ext.val] at HO1 HO2 HTG
  have hw1 : wrap64 (n + n') = n + n' := by unfold wrap64; omega
  obtain ⟨w3,hw3⟩ : ∃ w3,((w.alloc (.cells #[.int .i64 f,.int .i64 n,.int .i64 k,.int .i64 t] 80)).alloc (.cells #[.int .i64 f',.int .i64 n',.int .i64 k',.int .i64 t'] 80)).alloc (.cells #[.int .i64 0,.int .i64 0,.int .i64 0,.int .i64 0] 80) = w3 := ⟨_,rfl⟩
  have HB3 : Hid (Below w.heap.size w w3) := by show Below _ _ _; rw [← hw3]; exact ((((Below.refl w.heap.size w).alloc (Nat.le_refl _) _).alloc (by simp) _).alloc (by simp <;> omega) _)
  have hx : Whole w3 w.heap.size 80 #[.int .i64 f,.int .i64 n,.int .i64 k,.int .i64 t] := by rw [← hw3]; exact ((Whole.new w _ _).alloc _).alloc _
  have hy : Whole w3 (w.heap.size + 1) 80 #[.int .i64 f',.int .i64 n',.int .i64 k',.int .i64 t'] := by rw [← hw3]; exact (Whole.new' _ _ _ _ (by simp)).alloc _
  have hz : Whole w3 (w.heap.size + 2) 80 #[.int .i64 0,.int .i64 0,.int .i64 0,.int .i64 0] := by rw [← hw3]; exact Whole.new' _ _ _ _ (by simp)
  have HXX : Hid (∀ wq,Below w3.heap.size w3 wq → (wq.cell? ⟨w.heap.size,0,none⟩ = some (.int .i64 f) ∧ wq.cell? ⟨w.heap.size,1,none⟩ = some (.int .i64 n) ∧ wq.cell? ⟨w.heap.size,2,none⟩ = some (.int .i64 k) ∧ wq.cell? ⟨w.heap.size,3,none⟩ = some (.int .i64 t)) ∧ (wq.cell? ⟨w.heap.size + 1,0,none⟩ = some (.int .i64 f') ∧ wq.cell? ⟨w.heap.size + 1,1,none⟩ = some (.int .i64 n') ∧ wq.cell? ⟨w.heap.size + 1,2,none⟩ = some (.int .i64 k') ∧ wq.cell? ⟨w.heap.size + 1,3,none⟩ = some (.int .i64 t')) ∧ Whole wq (w.heap.size + 2) 80 #[.int .i64 0,.int .i64 0,.int .i64 0,.int .i64 0] ∧ Below w.heap.size w wq) := fun wq hbq => ⟨(tmp4 (hx.below hbq hx.lt)).1,(tmp4 (hy.below hbq hy.lt)).1,hz.below hbq hz.lt,bel_tr HB3.out hbq⟩
  obtain ⟨RT,hRT⟩ : ∃ RT,rTog ⟨f,n,k,t⟩ ⟨f',n',k',t'⟩ = RT := ⟨_,rfl⟩
  rw [hRT] at HTG ⊢
  have hs3 : w3.heap.size = w.heap.size + 3 := by rw [← hw3]; simp
  obtain ⟨⟨x0,x1,x2,x3⟩,⟨y0,y1,y2,y3⟩,_⟩ := HXX.out w3 (Below.refl _ _)
  have HS3 := Lib.hid hs3
  clear hs3 hRT a4 b4 ha hb hx hy hz
  show Calls Tryz.prog 138 #[.agg #[.int .i64 f,.int .i64 n,.int .i64 k,.int .i64 t],.agg #[.int .i64 f',.int .i64 n',.int .i64 k',.int .i64 t']] w _
  go_enter Tryz.func138,Tryz.ntmps138
  go_wp2_with fail
  with_reducible refine (HO1.out _).mono ?_
  rintro e w4 ⟨rfl,hb4⟩
  have HB4 := Lib.hid hb4
  clear x0 x1 x2 x3 y0 y1 y2 y3
  obtain ⟨⟨x0,x1,x2,x3⟩,⟨y0,y1,y2,y3⟩,_⟩ := HXX.out _ hb4
  clear hb4
  go_wp2_with fail
  with_reducible refine (HO2.out _).mono ?_
  rintro e w5 ⟨rfl,hb5⟩
  have HB5 := Lib.hid (bel_tr HB4.out hb5)
  clear x0 x1 x2 x3 y0 y1 y2 y3 hb5
  obtain ⟨⟨x0,x1,x2,x3⟩,⟨y0,y1,y2,y3⟩,_⟩ := HXX.out _ HB5.out
  go_wp2_with fail
  with_reducible refine (HTG.out _).mono ?_
  rintro e w6 ⟨rfl,hb6⟩
  have HB6 := Lib.hid (bel_tr HB5.out hb6)
  clear x0 x1 x2 x3 y0 y1 y2 y3 hb6
  obtain ⟨⟨x0,x1,x2,x3⟩,⟨y0,y1,y2,y3⟩,hz6,hbw⟩ := HXX.out _ HB6.out
  have HZ6 := Lib.hid hz6
  have HBW := Lib.hid hbw
  have hs6 : w.heap.size + 3 ≤ w6.heap.size := by have := HB6.out.size; rw [HS3.out] at this; exact this
  obtain ⟨⟨z0,z1,z2,z3⟩,z4,z5,z6,z7⟩ := tmp4 hz6
  clear hz6 hbw
  cases RT
  · go_wp2_with fail
    obtain ⟨⟨r0,r1,r2,r3⟩,_⟩ := tmp4 (Whole.set4 HZ6.out (.int .i64 0) (.int .i64 0) (.int .i64 0) (.int .i64 0))
    refine bodyPost_ret (v := .tuple #[.agg #[.int .i64 0,.int .i64 0,.int .i64 0,.int .i64 0],.bool false]) (by simp [results,Tryz.results138,go_sem,r0,r1,r2,r3]) rfl ⟨⟨_,_,_,_,rfl⟩,?_⟩
    repeat (first | with_reducible exact HBW.out | refine Below.setCell ?_ (by first | omega | (simp <;> omega)) _)
  · go_wp2_with fail
    obtain ⟨⟨r0,r1,r2,r3⟩,_⟩ := tmp4 (Whole.set4 HZ6.out (.int .i64 f) (.int .i64 (n + n')) (.int .i64 k) (.int .i64 t))
    refine bodyPost_ret (v := .tuple #[.agg #[.int .i64 f,.int .i64 (n + n'),.int .i64 k,.int .i64 t],.bool true]) (by simp [results,Tryz.results138,go_sem,r0,r1,r2,r3]) rfl ⟨⟨_,_,_,_,rfl⟩,?_⟩
    repeat (first | with_reducible exact HBW.out | refine Below.setCell ?_ (by first | omega | (simp <;> omega)) _)
set_option maxHeartbeats 4000000 in
set_option maxRecDepth 100000 in
theorem rtog2_any (a b : Ext) (w : World) (ha : oneB a = true) (hb : oneB b = true) : Calls Tryz.prog 110 #[a.val,b.val] w fun x w' => x = .returned (.bool (tog a b)) ∧ Below w.heap.size w w' := by
  have HJ := Lib.hid (fun wq => joined_any a b wq ha hb)
  have hrt := rTog_eq ha hb
  obtain ⟨f,n,k,t⟩ := a
  obtain ⟨f',n',k',t'⟩ := b
  simp only [Ext.val] at HJ
  rw [hrt] at HJ
  obtain ⟨RT,hRT⟩ : ∃ RT,tog ⟨f,n,k,t⟩ ⟨f',n',k',t'⟩ = RT := ⟨_,rfl⟩
  rw [hRT] at HJ ⊢
  have HB2 := Lib.hid (((Below.refl w.heap.size w).alloc (Nat.le_refl _) (.cells #[.int .i64 f,.int .i64 n,.int .i64 k,.int .i64 t] 80)).alloc (by simp) (.cells #[.int .i64 f',.int .i64 n',.int .i64 k',.int .i64 t'] 80))
  clear hRT hrt ha hb
  show Calls Tryz.prog 110 #[.agg #[.int .i64 f,.int .i64 n,.int .i64 k,.int .i64 t],.agg #[.int .i64 f',.int .i64 n',.int .i64 k',.int .i64 t']] w _
  go_enter Tryz.func110,Tryz.ntmps110
  go_wp2_with fail
  with_reducible refine (HJ.out _).mono ?_
  rintro e w4 ⟨⟨c0,c1,c2,c3,rfl⟩,hb4⟩
  have HB4 := Lib.hid (bel_tr HB2.out hb4)
  clear hb4
  go_wp2_with fail
  go_ret
  exact ⟨rfl,HB4.out.alloc HB4.out.size _⟩
end Go.Proofs.YtneammhkgmkkfaaGreatDoor.tr
namespace Go.Proofs.YtneammhkgmkkfaaGreatDoor.tr
open Go.RowKit Go.Proofs.YtneammhkgmkkfaaGreatDoor.er
set_option linter.unusedVariables false
set_option linter.unusedSimpArgs false
theorem infoR : (Tryz.prog.info? 80).map (fun i => (i.zero,i.size,i.bytes)) = some (some (.agg #[.int .i64 0,.int .i64 0,.int .i64 0,.int .i64 0]),4,32) := by kernel_rfl
theorem ExtsAt.ownT {w : World} {B n : Nat} {T : TypeId} {v : Value} {l : List Ext} (h : w.ownsRow B T 4 v n (extCells l)) : ExtsAt w v l ∧ l.length = n := SlAt.exts (SlAt.own h)
set_option maxHeartbeats 4000000 in
set_option maxRecDepth 100000 in
theorem rput_none (l : List Ext) (v : Value) (e : Ext) (w : World) (he : e.n < 1) : Calls Tryz.prog 89 #[v,e.val] w fun x w' => x = .returned v ∧ Below w.heap.size w w' := by
  obtain ⟨f,n,k,t⟩ := e
  simp only at he
  have HB : Hid (Below w.heap.size w (w.alloc (.cells #[.int .i64 f,.int .i64 n,.int .i64 k,.int .i64 t] 80))) := (Below.refl _ _).alloc (Nat.le_refl _) _
  show Calls Tryz.prog 89 #[v,.agg #[.int .i64 f,.int .i64 n,.int .i64 k,.int .i64 t]] w _
  go_enter Tryz.func89,Tryz.ntmps89
  go_wp2_with fail
  go_ret
  exact ⟨rfl,HB.out⟩
theorem take_cells {l : List Ext} {j : Nat} {e : Ext} (h : l[j]? = some e) : extCells (l.take (j + 1)) = extCells (l.take j) ++ [.int .i64 e.fr,.int .i64 e.n,.int .i64 e.kind,.int .i64 e.at_] := by
  obtain ⟨hj,rfl⟩ := List.getElem?_eq_some_iff.1 h
  rw [List.take_succ_eq_append_getElem hj,extCells_snoc]
def PutRet (l : List Ext) (w : World) (x : Ending) (w' : World) : Prop := ∃ v',x = .returned v' ∧ w'.ownsRow w.heap.size 80 4 v' l.length (extCells l) ∧ Below w.heap.size w w'
set_option maxHeartbeats 8000000 in
set_option maxRecDepth 100000 in
theorem rput_any (l : List Ext) (v : Value) (e : Ext) (w : World) (h : ExtsAt w v l) (hl : l.length ≤ 50000000) (h1 : ∀ x ∈ l,oneB x = true) (he : oneB e = true) :
    Calls Tryz.prog 89 #[v,e.val] w (PutRet (push l e) w) := by
  obtain ⟨A,c,rfl,hc⟩ := h
  obtain ⟨s1,s2,s3,s4⟩ := one_spec he
  have HC := Lib.hid hc
  obtain ⟨n,hn⟩ : ∃ n,l.length = n := ⟨_,rfl⟩
  have HN := Lib.hid hn
  rw [hn] at hl
  rw [hn]
  obtain ⟨i0,hi0,hz0,hz1,hz2⟩ := info_parts infoR
  have HI0 := Lib.hid hi0
  have HZ0 := Lib.hid hz0
  have HZ1 := Lib.hid hz1
  have HZ2 := Lib.hid hz2
  have HTG := Lib.hid (fun (a : Ext) (wq : World) (ha : oneB a = true) => rtog2_any a e wq ha he)
  have HOA1 := Lib.hid h1
  have HOE := Lib.hid he
  have HPU : Hid (∀ o a,l = o ++ [a] → push l e = if tog a e = true then o ++ [{ a with n := a.n + e.n }] else l ++ [e]) := fun o a hh => by rw [hh,push_snoc]
  have HPN : Hid (l = [] → push l e = [e]) := fun hh => by rw [hh]; rfl
  obtain ⟨P,hP⟩ : ∃ P,push l e = P := ⟨_,rfl⟩
  rw [hP] at HPU HPN
  rw [hP]
  obtain ⟨f,en,k,t⟩ := e
  simp only at s1 s2 s3 HPU
  simp only [Ext.val] at HTG
  obtain ⟨w1,hw1⟩ : ∃ w1,w.alloc (.cells #[.int .i64 f,.int .i64 en,.int .i64 k,.int .i64 t] 80) = w1 := ⟨_,rfl⟩
  have HB1 : Hid (Below w.heap.size w w1) := by show Below _ _ _; rw [← hw1]; exact (Below.refl _ _).alloc (Nat.le_refl _) _
  have hx : Whole w1 w.heap.size 80 #[.int .i64 f,.int .i64 en,.int .i64 k,.int .i64 t] := by rw [← hw1]; exact Whole.new _ _ _
  have hs1 : w1.heap.size = w.heap.size + 1 := by rw [← hw1]; simp
  have HXX : Hid (∀ wq,Below (w.heap.size + 1) w1 wq → (wq.cell? ⟨w.heap.size,0,none⟩ = some (.int .i64 f) ∧ wq.cell? ⟨w.heap.size,1,none⟩ = some (.int .i64 en) ∧ wq.cell? ⟨w.heap.size,2,none⟩ = some (.int .i64 k) ∧ wq.cell? ⟨w.heap.size,3,none⟩ = some (.int .i64 t)) ∧ Below w.heap.size w wq ∧ w.heap.size + 1 ≤ wq.heap.size) := fun wq hbq => ⟨(tmp4 (hx.below hbq (by omega))).1,HB1.out.trans (hbq.mono (by omega)),by have := hbq.size; omega⟩
  obtain ⟨x0,x1,x2,x3⟩ := (HXX.out w1 (Below.refl _ _)).1
  have HS1 := Lib.hid hs1
  have s2' : ¬ en < 1 := by omega
  clear hs1 hx hP s4 he h1 hc hn hi0 hz0 hz1 hz2
  show Calls Tryz.prog 89 #[.slice A n c,.agg #[.int .i64 f,.int .i64 en,.int .i64 k,.int .i64 t]] w _
  go_enter Tryz.func89,Tryz.ntmps89
  go_wp2_with fail
  go_loopw [5,6] (fun nv i wr => ∃ (j : Nat) (B : Option Addr) (d : Nat),j ≤ n ∧ i = .int .i64 j ∧ nv = .slice B j d ∧ Hid (wr.ownsRow (w.heap.size + 1) 80 4 (.slice B j d) j (extCells (l.take j))) ∧ Hid (Below (w.heap.size + 1) w1 wr)) (fun _ i _ => n - (intOf i).toNat)
  case atStart => exact ⟨0,none,0,Nat.zero_le _,rfl,rfl,⟨rfl,.inl ⟨rfl,rfl⟩⟩,Below.refl _ _⟩
  case round =>
    obtain ⟨j,B,d,hj,rfl,rfl,HO,HB⟩ := hrel
    obtain ⟨⟨y0,y1,y2,y3⟩,hbw,hszr⟩ := HXX.out wr HB.out
    have HBW := Lib.hid hbw
    clear x0 x1 x2 x3 hbw
    by_cases hlt : j < n
    · have hji : (j : Int) < (n : Int) := by omega
      have hj0 : (0 : Int) ≤ (j : Int) := by omega
      have hln := HN.out
      obtain ⟨g,o,rfl,hcc⟩ := HC.out (by omega)
      obtain ⟨e',hx'⟩ : ∃ e',l[j]? = some e' := ⟨l[j]'(by omega),List.getElem?_eq_getElem (by omega)⟩
      obtain ⟨c0,c1,c2,c3⟩ := (hcc j e' hx').below HBW.out
      have HTC := Lib.hid (take_cells hx')
      obtain ⟨f',n',k',t'⟩ := e'
      simp only at c0 c1 c2 c3 HTC
      have HOA := Lib.hid (HO.out.alloc (.cells #[.int .i64 f',.int .i64 n',.int .i64 k',.int .i64 t'] 80))
      have HNW : Hid (∀ (j' : Nat) (u : Value),([.int .i64 f',.int .i64 n',.int .i64 k',.int .i64 t'] : List Value)[j']? = some u → (wr.alloc (.cells #[.int .i64 f',.int .i64 n',.int .i64 k',.int .i64 t'] 80)).cell? ((⟨wr.heap.size,0,none⟩ : Addr).add j') = some u) := World.news_of_block (by simpa using heap_alloc_new wr (.cells #[.int .i64 f',.int .i64 n',.int .i64 k',.int .i64 t'] 80))
      have hone : ∀ u ∈ ([.int .i64 f',.int .i64 n',.int .i64 k',.int .i64 t'] : List Value),u.oneCell' = true := by simp [Value.oneCell']
      have HONE := Lib.hid hone
      have HSZ2 : Hid (w.heap.size + 1 ≤ (wr.alloc (.cells #[.int .i64 f',.int .i64 n',.int .i64 k',.int .i64 t'] 80)).heap.size) := by show _ ≤ _; simp only [World.size_alloc]; omega
      have HSZ3 := Lib.hid hszr
      clear hone hcc hx' hln hszr
      go_wp2_with (at_builtin; go_must (refine wpList_append_own _ rfl (.tmp 18) (.tmp 23) 38 rfl (w.heap.size + 1) 80 i0 _ 4 32 Tryz.underlying38 HI0.out HZ0.out HZ1.out HZ2.out rfl (by omega) (.slice B j d) j (extCells (l.take j)) rfl HOA.out ⟨wr.heap.size,0,none⟩ 1 1 [.int .i64 f',.int .i64 n',.int .i64 k',.int .i64 t'] rfl rfl HNW.out HONE.out (by simp only [maxLen]; omega) (by omega) HSZ2.out ?_; intro v2 w6 hown6 hg6 _; have HO6 := Lib.hid hown6; have HB6 := Lib.hid (below_append HO.out hg6 HSZ3.out); obtain ⟨A2,c2',e2⟩ := own_slice hown6; subst e2; clear hown6 hg6))
      have hmeas : n - (intOf (.int .i64 ((j : Int) + 1))).toNat < n - (intOf (.int .i64 (j : Int))).toNat := by simp [intOf]; omega
      refine ⟨⟨j + 1,A2,c2',?_,?_,rfl,?_,?_⟩,hmeas⟩
      · omega
      · go_num
      · rw [HTC.out]; with_reducible exact HO6
      · exact HB.out.trans HB6.out
    · obtain rfl : j = n := by omega
      have hfull : l.take j = l := by rw [← HN.out]; exact List.take_length
      rw [hfull] at HO
      clear hfull
      have HSZ3 := Lib.hid hszr
      have HNW : Hid (∀ wq : World,∀ (j' : Nat) (u : Value),([.int .i64 f,.int .i64 en,.int .i64 k,.int .i64 t] : List Value)[j']? = some u → (wq.alloc (.cells #[.int .i64 f,.int .i64 en,.int .i64 k,.int .i64 t] 80)).cell? ((⟨wq.heap.size,0,none⟩ : Addr).add j') = some u) := fun wq => World.news_of_block (by simpa using heap_alloc_new wq (.cells #[.int .i64 f,.int .i64 en,.int .i64 k,.int .i64 t] 80))
      have hone : ∀ u ∈ ([.int .i64 f,.int .i64 en,.int .i64 k,.int .i64 t] : List Value),u.oneCell' = true := by simp [Value.oneCell']
      have HONE := Lib.hid hone
      clear hone
      rcases List.eq_nil_or_concat l with hT | ⟨o',a,hT⟩
      · obtain rfl : j = 0 := by rw [← HN.out,hT]; rfl
        have HPP : Hid (P = [⟨f,en,k,t⟩]) := HPN.out hT
        have HOC : Hid (extCells l = []) := by show _ = _; rw [hT]; rfl
        clear hT
        have hgd : decide ((0 : Int) ≤ -1) = false := by decide
        go_wp2_with fail
        go_quiet (fail)
        generalize hwq : World.drewN _ _ = wq
        have HBA : Hid (Below (w.heap.size + 1) w1 wq) := by show Below _ _ _; rw [← hwq]; exact below_drewN HB.out _
        have HO5 : Hid (wq.ownsRow (w.heap.size + 1) 80 4 (.slice B 0 d) 0 (extCells l)) := own_below HO.out (by rw [← hwq]; exact below_drewN (Below.refl _ _) _)
        clear hwq y0 y1 y2 y3
        obtain ⟨⟨y0,y1,y2,y3⟩,hbw,hsq⟩ := HXX.out wq HBA.out
        have HBW5 := Lib.hid hbw
        have HOA := Lib.hid (HO5.out.alloc (.cells #[.int .i64 f,.int .i64 en,.int .i64 k,.int .i64 t] 80))
        have HSZ2 : Hid (w.heap.size + 1 ≤ (wq.alloc (.cells #[.int .i64 f,.int .i64 en,.int .i64 k,.int .i64 t] 80)).heap.size) := by show _ ≤ _; simp only [World.size_alloc]; omega
        have HSQ := Lib.hid hsq
        clear hbw hsq
        go_wp2_with (at_builtin; go_must (refine wpList_append_own _ rfl (.tmp 51) (.tmp 53) 38 rfl (w.heap.size + 1) 80 i0 _ 4 32 Tryz.underlying38 HI0.out HZ0.out HZ1.out HZ2.out rfl (by omega) (.slice B 0 d) 0 (extCells l) rfl HOA.out ⟨wq.heap.size,0,none⟩ 1 1 [.int .i64 f,.int .i64 en,.int .i64 k,.int .i64 t] rfl rfl (HNW.out wq) HONE.out (by simp only [maxLen]; omega) (by omega) HSZ2.out ?_; intro v2 w6 hown6 hg6 _; have HO6 := Lib.hid hown6; have HB6 := Lib.hid (below_append HO5.out hg6 HSQ.out); obtain ⟨A2,c2',e2⟩ := own_slice hown6; subst e2; clear hown6 hg6))
        go_ret
        refine ⟨_,rfl,?_,(HXX.out _ (HBA.out.trans HB6.out)).2.1⟩
        rw [HPP.out]
        have := HO6.out
        rw [HOC.out] at this
        exact own_base this (by omega)
      · rw [List.concat_eq_append] at hT
        obtain ⟨m',hm'⟩ : ∃ m',o'.length = m' := ⟨_,rfl⟩
        obtain rfl : j = m' + 1 := by rw [← HN.out,hT,← hm']; simp
        have HT := Lib.hid hT
        have HM' := Lib.hid hm'
        have hOw := HO.out
        obtain ⟨g2,rfl,hg2b,hg2,hmc,hgc,hgf⟩ := own_cell hOw (by omega)
        have hat : (o' ++ [a])[m']? = some a := by rw [← hm']; simp
        obtain ⟨z0,z1,z2,z3⟩ := extCells_at _ _ _ hat
        rw [← hT] at z0 z1 z2 z3
        have v0 := hgc _ _ z0
        have v1 := hgc _ _ z1
        have v2 := hgc _ _ z2
        have v3 := hgc _ _ z3
        have hA1 : oneB a = true := HOA1.out a (by rw [hT]; simp)
        have HA1 := Lib.hid hA1
        have HTA := Lib.hid (fun wq => HTG.out a wq hA1)
        have HPP := Lib.hid (HPU.out o' a hT)
        obtain ⟨f',n',k',t'⟩ := a
        simp only [Ext.val] at HTA
        simp only at v0 v1 v2 v3 HPP
        have SA : Hid ((wr.cell? ⟨g2,m' * 4,none⟩ = some (.int .i64 f') ∧ wr.cell? ⟨g2,m' * 4 + 1,none⟩ = some (.int .i64 n') ∧ wr.cell? ⟨g2,m' * 4 + 2,none⟩ = some (.int .i64 k') ∧ wr.cell? ⟨g2,m' * 4 + 3,none⟩ = some (.int .i64 t')) ∧ (wr.cell? ⟨w.heap.size,0,none⟩ = some (.int .i64 f) ∧ wr.cell? ⟨w.heap.size,1,none⟩ = some (.int .i64 en) ∧ wr.cell? ⟨w.heap.size,2,none⟩ = some (.int .i64 k) ∧ wr.cell? ⟨w.heap.size,3,none⟩ = some (.int .i64 t))) := ⟨⟨v0,v1,v2,v3⟩,y0,y1,y2,y3⟩
        have HKA : Hid (∀ w',Below wr.heap.size wr w' → (w'.cell? ⟨g2,m' * 4,none⟩ = some (.int .i64 f') ∧ w'.cell? ⟨g2,m' * 4 + 1,none⟩ = some (.int .i64 n') ∧ w'.cell? ⟨g2,m' * 4 + 2,none⟩ = some (.int .i64 k') ∧ w'.cell? ⟨g2,m' * 4 + 3,none⟩ = some (.int .i64 t')) ∧ (w'.cell? ⟨w.heap.size,0,none⟩ = some (.int .i64 f) ∧ w'.cell? ⟨w.heap.size,1,none⟩ = some (.int .i64 en) ∧ w'.cell? ⟨w.heap.size,2,none⟩ = some (.int .i64 k) ∧ w'.cell? ⟨w.heap.size,3,none⟩ = some (.int .i64 t))) := fun w' hb => ⟨⟨below_c hb SA.out.1.1,below_c hb SA.out.1.2.1,below_c hb SA.out.1.2.2.1,below_c hb SA.out.1.2.2.2⟩,below_c hb SA.out.2.1,below_c hb SA.out.2.2.1,below_c hb SA.out.2.2.2.1,below_c hb SA.out.2.2.2.2⟩
        have hmi1 : (0 : Int) ≤ (m' : Int) := by omega
        have hmi2 : (m' : Int) < (m' : Int) + 1 := by omega
        clear hT hm' hOw hgc hat z0 z1 z2 z3 hA1
        go_wp2_with fail
        go_region_held3 (fun w' => (w'.cell? ⟨g2,m' * 4,none⟩ = some (.int .i64 f') ∧ w'.cell? ⟨g2,m' * 4 + 1,none⟩ = some (.int .i64 n') ∧ w'.cell? ⟨g2,m' * 4 + 2,none⟩ = some (.int .i64 k') ∧ w'.cell? ⟨g2,m' * 4 + 3,none⟩ = some (.int .i64 t')) ∧ (w'.cell? ⟨w.heap.size,0,none⟩ = some (.int .i64 f) ∧ w'.cell? ⟨w.heap.size,1,none⟩ = some (.int .i64 en) ∧ w'.cell? ⟨w.heap.size,2,none⟩ = some (.int .i64 k) ∧ w'.cell? ⟨w.heap.size,3,none⟩ = some (.int .i64 t))) (first | with_reducible exact SA.out | exact HKA.out _ (by repeat (first | with_reducible exact HB5.out | with_reducible exact Below.refl _ _ | refine Below.drew ?_))) ((go_at_call 110; (with_reducible refine (HTA.out _).mono ?_); rintro e w5 ⟨rfl,hb5⟩; have HB5 : Hid (Below wr.heap.size wr w5) := Below.trans (Below.drew (Below.refl _ _)) hb5; clear hb5))
        have HBX : Hid (Below (w.heap.size + 1) w1 w5) := HB.out.trans (HB5.out.mono HSZ3.out)
        have HO5 : Hid (w5.ownsRow (w.heap.size + 1) 80 4 (.slice (some ⟨g2,0,none⟩) (m' + 1) d) (m' + 1) (extCells l)) := own_below HO.out HB5.out
        obtain ⟨⟨p0,p1,p2,p3⟩,⟨q0,q1,q2,q3⟩⟩ := HKA.out _ HB5.out
        have hpf : w5.frozen? ⟨g2,m' * 4 + 1,none⟩ = false := HO5.out.frozenAt _
        have HSZ5 : Hid (w.heap.size + 1 ≤ w5.heap.size) := (HXX.out w5 HBX.out).2.2
        have HBW5 : Hid (Below w.heap.size w w5) := (HXX.out w5 HBX.out).2.1
        clear v0 v1 v2 v3 y0 y1 y2 y3
        cases htg : tog ⟨f',n',k',t'⟩ ⟨f,en,k,t⟩
        · have HPQ : Hid (P = l ++ [⟨f,en,k,t⟩]) := by show _ = _; rw [HPP.out,htg,if_neg (by simp)]
          clear htg
          have HOA := Lib.hid (HO5.out.alloc (.cells #[.int .i64 f,.int .i64 en,.int .i64 k,.int .i64 t] 80))
          have HSZ2 : Hid (w.heap.size + 1 ≤ (w5.alloc (.cells #[.int .i64 f,.int .i64 en,.int .i64 k,.int .i64 t] 80)).heap.size) := by show _ ≤ _; have := HSZ5.out; simp only [World.size_alloc]; omega
          go_wp2_with (at_builtin; go_must (refine wpList_append_own _ rfl (.tmp 51) (.tmp 53) 38 rfl (w.heap.size + 1) 80 i0 _ 4 32 Tryz.underlying38 HI0.out HZ0.out HZ1.out HZ2.out rfl (by omega) (.slice (some ⟨g2,0,none⟩) (m' + 1) d) (m' + 1) (extCells l) rfl HOA.out ⟨w5.heap.size,0,none⟩ 1 1 [.int .i64 f,.int .i64 en,.int .i64 k,.int .i64 t] rfl rfl (HNW.out w5) HONE.out (by simp only [maxLen]; omega) (by omega) HSZ2.out ?_; intro v2 w6 hown6 hg6 _; have HO6 := Lib.hid hown6; have HB6 := Lib.hid (below_append HO5.out hg6 HSZ5.out); obtain ⟨A2,c2',e2⟩ := own_slice hown6; subst e2; clear hown6 hg6))
          go_ret
          refine ⟨_,rfl,?_,(HXX.out _ (HBX.out.trans HB6.out)).2.1⟩
          rw [HPQ.out,extCells_snoc,List.length_append,HN.out]
          exact own_base HO6.out (by omega)
        · have hone := one_spec (one_join HA1.out HOE.out htg)
          have hw : wrap64 (n' + en) = n' + en := by have := hone.1; have := hone.2.1; have := hone.2.2.1; have := (one_spec HA1.out).1; simp only at *; unfold wrap64; omega
          clear hone
          have HPQ : Hid (extCells P = (extCells l).set (m' * 4 + 1) (.int .i64 (n' + en)) ∧ P.length = m' + 1) := by
            show _ ∧ _
            rw [HPP.out,htg,if_pos rfl,HT.out,← HM'.out,extCells_set]
            exact ⟨rfl,by simp⟩
          clear htg
          go_wp2_with fail
          go_region
          go_wp2_with fail
          go_ret
          refine ⟨_,rfl,?_,?_⟩
          · rw [HPQ.out.1,HPQ.out.2]; exact own_base (HO5.out.stored (m' * 4 + 1) (.int .i64 (n' + en))).1.drew (by omega)
          · exact (HBW5.out.setCell (p := ⟨g2,m' * 4 + 1,none⟩) (by show w.heap.size ≤ g2; omega) _).drew
end Go.Proofs.YtneammhkgmkkfaaGreatDoor.tr
namespace Go.Proofs.YtneammhkgmkkfaaGreatDoor.tr
open Go.RowKit Go.Proofs.YtneammhkgmkkfaaGreatDoor.er
set_option linter.unusedVariables false
set_option linter.unusedSimpArgs false
def pp (o : List Ext) (p : Option Ext) : List Ext := match p with | none => o | some y => push o y
theorem parts_len2 (l : List Ext) (a b : Int) : (parts l a b).length ≤ l.length := List.length_filterMap_le _ _
theorem rPart_some {x y : Ext} {a b : Int} (h : partOf x a b = some y) : rPart x a b = y := by
  unfold partOf at h
  split at h
  · cases h
  · injection h
theorem rPart_no {x : Ext} {a b : Int} (h : partOf x a b = none) : (rPart x a b).n < 1 := by
  unfold partOf at h
  split at h
  · rename_i hh
    show min x.end_ b - max x.fr a < 1
    omega
  · cases h
theorem parts_snoc {l : List Ext} {a b : Int} {j : Nat} {x : Ext} (h : l[j]? = some x) (o : List Ext) : (parts (l.take (j + 1)) a b).foldl push o = pp ((parts (l.take j) a b).foldl push o) (partOf x a b) := by
  obtain ⟨hj,rfl⟩ := List.getElem?_eq_some_iff.1 h
  rw [List.take_succ_eq_append_getElem hj,parts_append,List.foldl_append]
  unfold parts pp
  cases hp : partOf l[j] a b <;> simp [hp]
theorem fold_len : ∀ (l o : List Ext),(l.foldl push o).length ≤ o.length + l.length
  | [],o => by simp
  | e :: l,o => by
    have h1 := fold_len l (push o e)
    have h2 := len_push o e
    simp only [List.foldl_cons,List.length_cons]
    omega
structure RL (w : World) (B : Nat) (v : Value) (l : List Ext) : Prop where
  own : w.ownsRow B 80 4 v l.length (extCells l)
  one : ∀ x ∈ l,oneB x = true
theorem RL.below {w w' : World} {B : Nat} {v : Value} {l : List Ext} (h : RL w B v l) (hb : Below w.heap.size w w') : RL w' B v l := ⟨own_below h.own hb,h.one⟩
theorem RL.nil (w : World) (B : Nat) : RL w B (.slice none 0 0) [] := ⟨⟨rfl,.inl ⟨rfl,rfl⟩⟩,by simp⟩
theorem rput_step (w : World) (B : Nat) (v : Value) (o : List Ext) (x : Ext) (a b : Int) (h : RL w B v o) (hB : B ≤ w.heap.size) (hl : o.length ≤ 50000000) (hx : oneB x = true) (ha : 0 ≤ a) (hb : b ≤ 16777216) :
    Calls Tryz.prog 89 #[v,(rPart x a b).val] w fun e w' => ∃ A m c,e = .returned (.slice A m c) ∧ RL w' B (.slice A m c) (pp o (partOf x a b)) ∧ Below w.heap.size w w' := by
  cases hp : partOf x a b with
  | none =>
    obtain ⟨A,c,rfl⟩ := own_slice h.own
    refine (rput_none o _ _ w (rPart_no hp)).mono ?_
    rintro e w' ⟨rfl,hbe⟩
    exact ⟨_,_,_,rfl,h.below hbe,hbe⟩
  | some y =>
    rw [rPart_some hp]
    have hy := (part_spec hp hx ha hb).1
    refine (rput_any o v y w (ExtsAt.ownT h.own).1 hl h.one hy).mono ?_
    rintro e w' ⟨v',rfl,h1,h2⟩
    obtain ⟨A,c,rfl⟩ := own_slice h1
    exact ⟨_,_,_,rfl,⟨own_base h1 hB,push_one h.one hy⟩,h2⟩
theorem rput_own (w : World) (B : Nat) (v : Value) (o : List Ext) (y : Ext) (h : RL w B v o) (hB : B ≤ w.heap.size) (hl : o.length ≤ 50000000) (hy : oneB y = true) :
    Calls Tryz.prog 89 #[v,y.val] w fun e w' => ∃ A m c,e = .returned (.slice A m c) ∧ RL w' B (.slice A m c) (push o y) ∧ Below w.heap.size w w' := by
  refine (rput_any o v y w (ExtsAt.ownT h.own).1 hl h.one hy).mono ?_
  rintro e w' ⟨v',rfl,h1,h2⟩
  obtain ⟨A,c,rfl⟩ := own_slice h1
  exact ⟨_,_,_,rfl,⟨own_base h1 hB,push_one h.one hy⟩,h2⟩
set_option maxHeartbeats 8000000 in
set_option maxRecDepth 100000 in
theorem rover_cut (l : List Ext) (v : Value) (e : Ext) (w : World) (h : ExtsAt w v l) (hl : l.length ≤ 16777216) (h1 : ∀ x ∈ l,oneB x = true) (e1 : 0 ≤ e.fr) (e2 : 0 ≤ e.n) (e3 : e.fr + e.n ≤ 16777216) :
    Calls Tryz.prog 60 #[v,e.val,.bool true] w fun x w' => ∃ A m c,x = .returned (.slice A m c) ∧ RL w' w.heap.size (.slice A m c) ((parts l e.end_ 16777216).foldl push ((parts l 0 e.fr).foldl push [])) ∧ Below w.heap.size w w' := by
  obtain ⟨A,c,rfl,hc⟩ := h
  have HC := Lib.hid hc
  obtain ⟨n,hn⟩ : ∃ n,l.length = n := ⟨_,rfl⟩
  have HN := Lib.hid hn
  rw [hn] at hl
  rw [hn]
  have HO1 := Lib.hid h1
  obtain ⟨f,en,k,t⟩ := e
  simp only at e1 e2 e3
  have hend : (⟨f,en,k,t⟩ : Ext).end_ = f + en := rfl
  rw [hend]
  obtain ⟨w1,hw1⟩ : ∃ w1,w.alloc (.cells #[.int .i64 f,.int .i64 en,.int .i64 k,.int .i64 t] 80) = w1 := ⟨_,rfl⟩
  have HB1 : Hid (Below w.heap.size w w1) := by show Below _ _ _; rw [← hw1]; exact (Below.refl _ _).alloc (Nat.le_refl _) _
  have hx : Whole w1 w.heap.size 80 #[.int .i64 f,.int .i64 en,.int .i64 k,.int .i64 t] := by rw [← hw1]; exact Whole.new _ _ _
  have hs1 : w1.heap.size = w.heap.size + 1 := by rw [← hw1]; simp
  have HXX : Hid (∀ wq,Below (w.heap.size + 1) w1 wq → (wq.cell? ⟨w.heap.size,0,none⟩ = some (.int .i64 f) ∧ wq.cell? ⟨w.heap.size,1,none⟩ = some (.int .i64 en) ∧ wq.cell? ⟨w.heap.size,2,none⟩ = some (.int .i64 k) ∧ wq.cell? ⟨w.heap.size,3,none⟩ = some (.int .i64 t)) ∧ Below w.heap.size w wq ∧ w.heap.size + 1 ≤ wq.heap.size) := fun wq hbq => ⟨(tmp4 (hx.below hbq (by omega))).1,HB1.out.trans (hbq.mono (by omega)),by have := hbq.size; omega⟩
  have hwz : wrap64 (f + en) = f + en := by unfold wrap64; omega
  have hwk : IntKind.i64.wrap (f + en) = f + en := by rw [IntKind.wrap_i64]; omega
  clear hend hs1 hx h1 hc hn
  show Calls Tryz.prog 60 #[.slice A n c,.agg #[.int .i64 f,.int .i64 en,.int .i64 k,.int .i64 t],.bool true] w _
  go_enter Tryz.func60,Tryz.ntmps60
  go_wp2_with fail
  go_loopw [7,8] (fun nv i wr => ∃ (j : Nat) (A7 : Option Addr) (m7 c7 : Nat),j ≤ n ∧ i = .int .i64 j ∧ nv = .slice A7 m7 c7 ∧ Hid (RL wr w.heap.size (.slice A7 m7 c7) ((parts (l.take j) 0 f).foldl push [])) ∧ Hid (Below (w.heap.size + 1) w1 wr)) (fun _ i _ => n - (intOf i).toNat)
  case atStart => exact ⟨0,none,0,0,Nat.zero_le _,rfl,rfl,RL.nil _ _,Below.refl _ _⟩
  case round =>
    obtain ⟨j,A7,m7,c7,hj,rfl,rfl,HO,HB⟩ := hrel
    obtain ⟨⟨y0,y1,y2,y3⟩,hbw,hszr⟩ := HXX.out wr HB.out
    have HBW := Lib.hid hbw
    have HSZ := Lib.hid hszr
    clear hbw hszr
    by_cases hlt : j < n
    · have hji : (j : Int) < (n : Int) := by omega
      have hj0 : (0 : Int) ≤ (j : Int) := by omega
      have hln := HN.out
      obtain ⟨g,o,rfl,hcc⟩ := HC.out (by omega)
      obtain ⟨x,hx'⟩ : ∃ x,l[j]? = some x := ⟨l[j]'(by omega),List.getElem?_eq_getElem (by omega)⟩
      obtain ⟨c0,c1,c2,c3⟩ := (hcc j x hx').below HBW.out
      have hx1 : oneB x = true := HO1.out x (List.mem_of_getElem? hx')
      have HTK := Lib.hid (parts_snoc (a := 0) (b := f) hx' [])
      have HLE : Hid (((parts (l.take j) 0 f).foldl push []).length ≤ 50000000) := by show _ ≤ _; have h1 := fold_len (parts (l.take j) 0 f) []; have h2 := parts_len2 (l.take j) 0 f; have h3 : (l.take j).length ≤ j := by { rw [List.length_take]; omega }; simp only [List.length_nil] at h1; omega
      have HPT : Hid (∀ wq,Calls Tryz.prog 90 #[x.val,.int .i64 0,.int .i64 f] wq fun q w' => q = .returned (rPart x 0 f).val ∧ Below wq.heap.size wq w') := fun wq => rpart_any x 0 f wq hx1 (by omega) (by omega) (by omega) (by omega)
      have HPU : Hid (∀ wq,Below wr.heap.size wr wq → Calls Tryz.prog 89 #[.slice A7 m7 c7,(rPart x 0 f).val] wq fun q w' => ∃ A m c,q = .returned (.slice A m c) ∧ RL w' w.heap.size (.slice A m c) ((parts (l.take (j + 1)) 0 f).foldl push []) ∧ Below wq.heap.size wq w') := fun wq hb => by rw [HTK.out]; exact rput_step wq w.heap.size _ _ x 0 f (HO.out.below hb) (by have := hb.size; have := HSZ.out; omega) HLE.out hx1 (by omega) (by omega)
      obtain ⟨f',n',k',t'⟩ := x
      simp only at c0 c1 c2 c3
      have SA : Hid ((wr.cell? ⟨g,o + j * 4,none⟩ = some (.int .i64 f') ∧ wr.cell? ⟨g,o + j * 4 + 1,none⟩ = some (.int .i64 n') ∧ wr.cell? ⟨g,o + j * 4 + 2,none⟩ = some (.int .i64 k') ∧ wr.cell? ⟨g,o + j * 4 + 3,none⟩ = some (.int .i64 t')) ∧ (wr.cell? ⟨w.heap.size,0,none⟩ = some (.int .i64 f) ∧ wr.cell? ⟨w.heap.size,1,none⟩ = some (.int .i64 en) ∧ wr.cell? ⟨w.heap.size,2,none⟩ = some (.int .i64 k) ∧ wr.cell? ⟨w.heap.size,3,none⟩ = some (.int .i64 t))) := ⟨⟨c0,c1,c2,c3⟩,y0,y1,y2,y3⟩
      have HKA : Hid (∀ w',Below wr.heap.size wr w' → (w'.cell? ⟨g,o + j * 4,none⟩ = some (.int .i64 f') ∧ w'.cell? ⟨g,o + j * 4 + 1,none⟩ = some (.int .i64 n') ∧ w'.cell? ⟨g,o + j * 4 + 2,none⟩ = some (.int .i64 k') ∧ w'.cell? ⟨g,o + j * 4 + 3,none⟩ = some (.int .i64 t')) ∧ (w'.cell? ⟨w.heap.size,0,none⟩ = some (.int .i64 f) ∧ w'.cell? ⟨w.heap.size,1,none⟩ = some (.int .i64 en) ∧ w'.cell? ⟨w.heap.size,2,none⟩ = some (.int .i64 k) ∧ w'.cell? ⟨w.heap.size,3,none⟩ = some (.int .i64 t))) := fun w' hb => ⟨⟨below_c hb SA.out.1.1,below_c hb SA.out.1.2.1,below_c hb SA.out.1.2.2.1,below_c hb SA.out.1.2.2.2⟩,below_c hb SA.out.2.1,below_c hb SA.out.2.2.1,below_c hb SA.out.2.2.2.1,below_c hb SA.out.2.2.2.2⟩
      simp only [Ext.val] at HPT HPU
      clear hcc hx' hln hx1
      go_wp2_with fail
      go_region_held3 (fun w' => (w'.cell? ⟨g,o + j * 4,none⟩ = some (.int .i64 f') ∧ w'.cell? ⟨g,o + j * 4 + 1,none⟩ = some (.int .i64 n') ∧ w'.cell? ⟨g,o + j * 4 + 2,none⟩ = some (.int .i64 k') ∧ w'.cell? ⟨g,o + j * 4 + 3,none⟩ = some (.int .i64 t')) ∧ (w'.cell? ⟨w.heap.size,0,none⟩ = some (.int .i64 f) ∧ w'.cell? ⟨w.heap.size,1,none⟩ = some (.int .i64 en) ∧ w'.cell? ⟨w.heap.size,2,none⟩ = some (.int .i64 k) ∧ w'.cell? ⟨w.heap.size,3,none⟩ = some (.int .i64 t))) (first | with_reducible exact SA.out | with_reducible exact HKA.out _ HB6.out | with_reducible exact HKA.out _ HB5.out | exact HKA.out _ (Below.drew (Below.refl _ _))) ((first | (go_at_call 90; (with_reducible refine (HPT.out _).mono ?_); rintro q w5 ⟨rfl,hb5⟩; have HB5 : Hid (Below wr.heap.size wr w5) := Below.trans (Below.drew (Below.refl _ _)) hb5; clear hb5) | (go_at_call 89; (with_reducible refine (HPU.out _ HB5.out).mono ?_); rintro q w6 ⟨A6,m6,c6,rfl,hr6,hb6⟩; have HR6 := Lib.hid hr6; have HB6 : Hid (Below wr.heap.size wr w6) := bel_tr HB5.out hb6; clear hr6 hb6)))
      have HBN : Hid (Below (w.heap.size + 1) w1 w6) := HB.out.trans (HB6.out.mono HSZ.out)
      clear y0 y1 y2 y3 c0 c1 c2 c3
      go_wp2_with fail
      have hmeas : n - (intOf (.int .i64 ((j : Int) + 1))).toNat < n - (intOf (.int .i64 (j : Int))).toNat := by simp [intOf]; omega
      refine ⟨⟨j + 1,A6,m6,c6,?_,?_,rfl,?_,?_⟩,hmeas⟩
      · omega
      · go_num
      · with_reducible exact HR6
      · with_reducible exact HBN
    · obtain rfl : n = j := by omega
      have hfull : l.take n = l := by rw [← HN.out]; exact List.take_length
      rw [hfull] at HO
      obtain ⟨wo,hwo⟩ : ∃ wo,wo = wr := ⟨_,rfl⟩
      subst hwo
      go_wp2_with fail
      have HO2 := HO
      have HB2 := HB
      obtain ⟨MID,hMID⟩ : ∃ MID,(parts l 0 f).foldl push [] = MID := ⟨_,rfl⟩
      have HML : Hid (MID.length ≤ 20000000) := by show _ ≤ _; rw [← hMID]; have h1 := fold_len (parts l 0 f) []; have h2 := parts_len2 l 0 f; have h4 := HN.out; simp only [List.length_nil] at h1; omega
      rw [hMID] at HO2
      clear hfull
      go_loopw [7,9] (fun nv i wr => ∃ (j : Nat) (A7 : Option Addr) (m7 c7 : Nat),j ≤ n ∧ i = .int .i64 j ∧ nv = .slice A7 m7 c7 ∧ Hid (RL wr w.heap.size (.slice A7 m7 c7) ((parts (l.take j) (f + en) 16777216).foldl push MID)) ∧ Hid (Below (w.heap.size + 1) w1 wr)) (fun _ i _ => n - (intOf i).toNat)
      case atStart => exact ⟨0,_,_,_,Nat.zero_le _,rfl,rfl,by show RL _ _ _ _; simpa [parts] using HO2.out,HB2.out⟩
      case round =>
        obtain ⟨j,A7,m7,c7,hj,rfl,rfl,HO,HB⟩ := hrel
        obtain ⟨⟨y0,y1,y2,y3⟩,hbw,hszr⟩ := HXX.out wr HB.out
        have HBW := Lib.hid hbw
        have HSZ := Lib.hid hszr
        clear hbw hszr
        by_cases hlt : j < n
        · have hji : (j : Int) < (n : Int) := by omega
          have hj0 : (0 : Int) ≤ (j : Int) := by omega
          have hln := HN.out
          obtain ⟨g,o,rfl,hcc⟩ := HC.out (by omega)
          obtain ⟨x,hx'⟩ : ∃ x,l[j]? = some x := ⟨l[j]'(by omega),List.getElem?_eq_getElem (by omega)⟩
          obtain ⟨c0,c1,c2,c3⟩ := (hcc j x hx').below HBW.out
          have hx1 : oneB x = true := HO1.out x (List.mem_of_getElem? hx')
          have HTK := Lib.hid (parts_snoc (a := f + en) (b := 16777216) hx' MID)
          have HLE : Hid (((parts (l.take j) (f + en) 16777216).foldl push MID).length ≤ 50000000) := by show _ ≤ _; have h1 := fold_len (parts (l.take j) (f + en) 16777216) MID; have h2 := parts_len2 (l.take j) (f + en) 16777216; have h3 : (l.take j).length ≤ j := by { rw [List.length_take]; omega }; have h5 := HML.out; omega
          have HPT : Hid (∀ wq,Calls Tryz.prog 90 #[x.val,.int .i64 (f + en),.int .i64 16777216] wq fun q w' => q = .returned (rPart x (f + en) 16777216).val ∧ Below wq.heap.size wq w') := fun wq => rpart_any x (f + en) 16777216 wq hx1 (by omega) (by omega) (by omega) (by omega)
          have HPU : Hid (∀ wq,Below wr.heap.size wr wq → Calls Tryz.prog 89 #[.slice A7 m7 c7,(rPart x (f + en) 16777216).val] wq fun q w' => ∃ A m c,q = .returned (.slice A m c) ∧ RL w' w.heap.size (.slice A m c) ((parts (l.take (j + 1)) (f + en) 16777216).foldl push MID) ∧ Below wq.heap.size wq w') := fun wq hb => by rw [HTK.out]; exact rput_step wq w.heap.size _ _ x (f + en) 16777216 (HO.out.below hb) (by have := hb.size; have := HSZ.out; omega) HLE.out hx1 (by omega) (by omega)
          obtain ⟨f',n',k',t'⟩ := x
          simp only at c0 c1 c2 c3
          have SA : Hid ((wr.cell? ⟨g,o + j * 4,none⟩ = some (.int .i64 f') ∧ wr.cell? ⟨g,o + j * 4 + 1,none⟩ = some (.int .i64 n') ∧ wr.cell? ⟨g,o + j * 4 + 2,none⟩ = some (.int .i64 k') ∧ wr.cell? ⟨g,o + j * 4 + 3,none⟩ = some (.int .i64 t')) ∧ (wr.cell? ⟨w.heap.size,0,none⟩ = some (.int .i64 f) ∧ wr.cell? ⟨w.heap.size,1,none⟩ = some (.int .i64 en) ∧ wr.cell? ⟨w.heap.size,2,none⟩ = some (.int .i64 k) ∧ wr.cell? ⟨w.heap.size,3,none⟩ = some (.int .i64 t))) := ⟨⟨c0,c1,c2,c3⟩,y0,y1,y2,y3⟩
          have HKA : Hid (∀ w',Below wr.heap.size wr w' → (w'.cell? ⟨g,o + j * 4,none⟩ = some (.int .i64 f') ∧ w'.cell? ⟨g,o + j * 4 + 1,none⟩ = some (.int .i64 n') ∧ w'.cell? ⟨g,o + j * 4 + 2,none⟩ = some (.int .i64 k') ∧ w'.cell? ⟨g,o + j * 4 + 3,none⟩ = some (.int .i64 t')) ∧ (w'.cell? ⟨w.heap.size,0,none⟩ = some (.int .i64 f) ∧ w'.cell? ⟨w.heap.size,1,none⟩ = some (.int .i64 en) ∧ w'.cell? ⟨w.heap.size,2,none⟩ = some (.int .i64 k) ∧ w'.cell? ⟨w.heap.size,3,none⟩ = some (.int .i64 t))) := fun w' hb => ⟨⟨below_c hb SA.out.1.1,below_c hb SA.out.1.2.1,below_c hb SA.out.1.2.2.1,below_c hb SA.out.1.2.2.2⟩,below_c hb SA.out.2.1,below_c hb SA.out.2.2.1,below_c hb SA.out.2.2.2.1,below_c hb SA.out.2.2.2.2⟩
          simp only [Ext.val] at HPT HPU
          clear hcc hx' hln hx1
          go_wp2_with fail
          go_region_held3 (fun w' => (w'.cell? ⟨g,o + j * 4,none⟩ = some (.int .i64 f') ∧ w'.cell? ⟨g,o + j * 4 + 1,none⟩ = some (.int .i64 n') ∧ w'.cell? ⟨g,o + j * 4 + 2,none⟩ = some (.int .i64 k') ∧ w'.cell? ⟨g,o + j * 4 + 3,none⟩ = some (.int .i64 t')) ∧ (w'.cell? ⟨w.heap.size,0,none⟩ = some (.int .i64 f) ∧ w'.cell? ⟨w.heap.size,1,none⟩ = some (.int .i64 en) ∧ w'.cell? ⟨w.heap.size,2,none⟩ = some (.int .i64 k) ∧ w'.cell? ⟨w.heap.size,3,none⟩ = some (.int .i64 t))) (first | with_reducible exact SA.out | with_reducible exact HKA.out _ HB6.out | with_reducible exact HKA.out _ HB5.out | exact HKA.out _ (Below.drew (Below.refl _ _))) ((first | (go_at_call 90; (with_reducible refine (HPT.out _).mono ?_); rintro q w5 ⟨rfl,hb5⟩; have HB5 : Hid (Below wr.heap.size wr w5) := Below.trans (Below.drew (Below.refl _ _)) hb5; clear hb5) | (go_at_call 89; (with_reducible refine (HPU.out _ HB5.out).mono ?_); rintro q w6 ⟨A6,m6,c6,rfl,hr6,hb6⟩; have HR6 := Lib.hid hr6; have HB6 : Hid (Below wr.heap.size wr w6) := bel_tr HB5.out hb6; clear hr6 hb6)))
          have HBN : Hid (Below (w.heap.size + 1) w1 w6) := HB.out.trans (HB6.out.mono HSZ.out)
          clear y0 y1 y2 y3 c0 c1 c2 c3
          go_wp2_with fail
          have hmeas : n - (intOf (.int .i64 ((j : Int) + 1))).toNat < n - (intOf (.int .i64 (j : Int))).toNat := by simp [intOf]; omega
          refine ⟨⟨j + 1,A6,m6,c6,?_,?_,rfl,?_,?_⟩,hmeas⟩
          · omega
          · go_num
          · with_reducible exact HR6
          · with_reducible exact HBN
        · obtain rfl : n = j := by omega
          have hfull : l.take n = l := by rw [← HN.out]; exact List.take_length
          rw [hfull] at HO
          go_wp2_with fail
          go_ret
          exact ⟨_,_,_,rfl,by show RL _ _ _ _; rw [hMID]; exact HO.out,HBW.out⟩
set_option maxHeartbeats 8000000 in
set_option maxRecDepth 100000 in
theorem rover_ext (l : List Ext) (v : Value) (e : Ext) (w : World) (h : ExtsAt w v l) (hl : l.length ≤ 16777216) (h1 : ∀ x ∈ l,oneB x = true) (e1 : 0 ≤ e.fr) (e2 : 0 ≤ e.n) (e3 : e.fr + e.n ≤ 16777216) (he : oneB e = true) :
    Calls Tryz.prog 60 #[v,e.val,.bool false] w fun x w' => ∃ A m c,x = .returned (.slice A m c) ∧ RL w' w.heap.size (.slice A m c) ((parts l e.end_ 16777216).foldl push (push ((parts l 0 e.fr).foldl push []) e)) ∧ Below w.heap.size w w' := by
  obtain ⟨A,c,rfl,hc⟩ := h
  have HC := Lib.hid hc
  obtain ⟨n,hn⟩ : ∃ n,l.length = n := ⟨_,rfl⟩
  have HN := Lib.hid hn
  rw [hn] at hl
  rw [hn]
  have HO1 := Lib.hid h1
  have HPE : Hid (∀ (wq : World) (v : Value) (o : List Ext),RL wq w.heap.size v o → w.heap.size ≤ wq.heap.size → o.length ≤ 50000000 → Calls Tryz.prog 89 #[v,e.val] wq fun q w' => ∃ A m c,q = .returned (.slice A m c) ∧ RL w' w.heap.size (.slice A m c) (push o e) ∧ Below wq.heap.size wq w') := fun wq v o hr hs hl => rput_own wq w.heap.size v o e hr hs hl he
  obtain ⟨f,en,k,t⟩ := e
  simp only at e1 e2 e3
  have hend : (⟨f,en,k,t⟩ : Ext).end_ = f + en := rfl
  rw [hend]
  obtain ⟨w1,hw1⟩ : ∃ w1,w.alloc (.cells #[.int .i64 f,.int .i64 en,.int .i64 k,.int .i64 t] 80) = w1 := ⟨_,rfl⟩
  have HB1 : Hid (Below w.heap.size w w1) := by show Below _ _ _; rw [← hw1]; exact (Below.refl _ _).alloc (Nat.le_refl _) _
  have hx : Whole w1 w.heap.size 80 #[.int .i64 f,.int .i64 en,.int .i64 k,.int .i64 t] := by rw [← hw1]; exact Whole.new _ _ _
  have hs1 : w1.heap.size = w.heap.size + 1 := by rw [← hw1]; simp
  have HXX : Hid (∀ wq,Below (w.heap.size + 1) w1 wq → (wq.cell? ⟨w.heap.size,0,none⟩ = some (.int .i64 f) ∧ wq.cell? ⟨w.heap.size,1,none⟩ = some (.int .i64 en) ∧ wq.cell? ⟨w.heap.size,2,none⟩ = some (.int .i64 k) ∧ wq.cell? ⟨w.heap.size,3,none⟩ = some (.int .i64 t)) ∧ Below w.heap.size w wq ∧ w.heap.size + 1 ≤ wq.heap.size) := fun wq hbq => ⟨(tmp4 (hx.below hbq (by omega))).1,HB1.out.trans (hbq.mono (by omega)),by have := hbq.size; omega⟩
  have hwz : wrap64 (f + en) = f + en := by unfold wrap64; omega
  have hwk : IntKind.i64.wrap (f + en) = f + en := by rw [IntKind.wrap_i64]; omega
  simp only [Ext.val] at HPE
  clear hend hs1 hx h1 hc hn
  show Calls Tryz.prog 60 #[.slice A n c,.agg #[.int .i64 f,.int .i64 en,.int .i64 k,.int .i64 t],.bool false] w _
  go_enter Tryz.func60,Tryz.ntmps60
  go_wp2_with fail
  go_loopw [7,8] (fun nv i wr => ∃ (j : Nat) (A7 : Option Addr) (m7 c7 : Nat),j ≤ n ∧ i = .int .i64 j ∧ nv = .slice A7 m7 c7 ∧ Hid (RL wr w.heap.size (.slice A7 m7 c7) ((parts (l.take j) 0 f).foldl push [])) ∧ Hid (Below (w.heap.size + 1) w1 wr)) (fun _ i _ => n - (intOf i).toNat)
  case atStart => exact ⟨0,none,0,0,Nat.zero_le _,rfl,rfl,RL.nil _ _,Below.refl _ _⟩
  case round =>
    obtain ⟨j,A7,m7,c7,hj,rfl,rfl,HO,HB⟩ := hrel
    obtain ⟨⟨y0,y1,y2,y3⟩,hbw,hszr⟩ := HXX.out wr HB.out
    have HBW := Lib.hid hbw
    have HSZ := Lib.hid hszr
    clear hbw hszr
    by_cases hlt : j < n
    · have hji : (j : Int) < (n : Int) := by omega
      have hj0 : (0 : Int) ≤ (j : Int) := by omega
      have hln := HN.out
      obtain ⟨g,o,rfl,hcc⟩ := HC.out (by omega)
      obtain ⟨x,hx'⟩ : ∃ x,l[j]? = some x := ⟨l[j]'(by omega),List.getElem?_eq_getElem (by omega)⟩
      obtain ⟨c0,c1,c2,c3⟩ := (hcc j x hx').below HBW.out
      have hx1 : oneB x = true := HO1.out x (List.mem_of_getElem? hx')
      have HTK := Lib.hid (parts_snoc (a := 0) (b := f) hx' [])
      have HLE : Hid (((parts (l.take j) 0 f).foldl push []).length ≤ 50000000) := by show _ ≤ _; have h1 := fold_len (parts (l.take j) 0 f) []; have h2 := parts_len2 (l.take j) 0 f; have h3 : (l.take j).length ≤ j := by { rw [List.length_take]; omega }; simp only [List.length_nil] at h1; omega
      have HPT : Hid (∀ wq,Calls Tryz.prog 90 #[x.val,.int .i64 0,.int .i64 f] wq fun q w' => q = .returned (rPart x 0 f).val ∧ Below wq.heap.size wq w') := fun wq => rpart_any x 0 f wq hx1 (by omega) (by omega) (by omega) (by omega)
      have HPU : Hid (∀ wq,Below wr.heap.size wr wq → Calls Tryz.prog 89 #[.slice A7 m7 c7,(rPart x 0 f).val] wq fun q w' => ∃ A m c,q = .returned (.slice A m c) ∧ RL w' w.heap.size (.slice A m c) ((parts (l.take (j + 1)) 0 f).foldl push []) ∧ Below wq.heap.size wq w') := fun wq hb => by rw [HTK.out]; exact rput_step wq w.heap.size _ _ x 0 f (HO.out.below hb) (by have := hb.size; have := HSZ.out; omega) HLE.out hx1 (by omega) (by omega)
      obtain ⟨f',n',k',t'⟩ := x
      simp only at c0 c1 c2 c3
      have SA : Hid ((wr.cell? ⟨g,o + j * 4,none⟩ = some (.int .i64 f') ∧ wr.cell? ⟨g,o + j * 4 + 1,none⟩ = some (.int .i64 n') ∧ wr.cell? ⟨g,o + j * 4 + 2,none⟩ = some (.int .i64 k') ∧ wr.cell? ⟨g,o + j * 4 + 3,none⟩ = some (.int .i64 t')) ∧ (wr.cell? ⟨w.heap.size,0,none⟩ = some (.int .i64 f) ∧ wr.cell? ⟨w.heap.size,1,none⟩ = some (.int .i64 en) ∧ wr.cell? ⟨w.heap.size,2,none⟩ = some (.int .i64 k) ∧ wr.cell? ⟨w.heap.size,3,none⟩ = some (.int .i64 t))) := ⟨⟨c0,c1,c2,c3⟩,y0,y1,y2,y3⟩
      have HKA : Hid (∀ w',Below wr.heap.size wr w' → (w'.cell? ⟨g,o + j * 4,none⟩ = some (.int .i64 f') ∧ w'.cell? ⟨g,o + j * 4 + 1,none⟩ = some (.int .i64 n') ∧ w'.cell? ⟨g,o + j * 4 + 2,none⟩ = some (.int .i64 k') ∧ w'.cell? ⟨g,o + j * 4 + 3,none⟩ = some (.int .i64 t')) ∧ (w'.cell? ⟨w.heap.size,0,none⟩ = some (.int .i64 f) ∧ w'.cell? ⟨w.heap.size,1,none⟩ = some (.int .i64 en) ∧ w'.cell? ⟨w.heap.size,2,none⟩ = some (.int .i64 k) ∧ w'.cell? ⟨w.heap.size,3,none⟩ = some (.int .i64 t))) := fun w' hb => ⟨⟨below_c hb SA.out.1.1,below_c hb SA.out.1.2.1,below_c hb SA.out.1.2.2.1,below_c hb SA.out.1.2.2.2⟩,below_c hb SA.out.2.1,below_c hb SA.out.2.2.1,below_c hb SA.out.2.2.2.1,below_c hb SA.out.2.2.2.2⟩
      simp only [Ext.val] at HPT HPU
      clear hcc hx' hln hx1
      go_wp2_with fail
      go_region_held3 (fun w' => (w'.cell? ⟨g,o + j * 4,none⟩ = some (.int .i64 f') ∧ w'.cell? ⟨g,o + j * 4 + 1,none⟩ = some (.int .i64 n') ∧ w'.cell? ⟨g,o + j * 4 + 2,none⟩ = some (.int .i64 k') ∧ w'.cell? ⟨g,o + j * 4 + 3,none⟩ = some (.int .i64 t')) ∧ (w'.cell? ⟨w.heap.size,0,none⟩ = some (.int .i64 f) ∧ w'.cell? ⟨w.heap.size,1,none⟩ = some (.int .i64 en) ∧ w'.cell? ⟨w.heap.size,2,none⟩ = some (.int .i64 k) ∧ w'.cell? ⟨w.heap.size,3,none⟩ = some (.int .i64 t))) (first | with_reducible exact SA.out | with_reducible exact HKA.out _ HB6.out | with_reducible exact HKA.out _ HB5.out | exact HKA.out _ (Below.drew (Below.refl _ _))) ((first | (go_at_call 90; (with_reducible refine (HPT.out _).mono ?_); rintro q w5 ⟨rfl,hb5⟩; have HB5 : Hid (Below wr.heap.size wr w5) := Below.trans (Below.drew (Below.refl _ _)) hb5; clear hb5) | (go_at_call 89; (with_reducible refine (HPU.out _ HB5.out).mono ?_); rintro q w6 ⟨A6,m6,c6,rfl,hr6,hb6⟩; have HR6 := Lib.hid hr6; have HB6 : Hid (Below wr.heap.size wr w6) := bel_tr HB5.out hb6; clear hr6 hb6)))
      have HBN : Hid (Below (w.heap.size + 1) w1 w6) := HB.out.trans (HB6.out.mono HSZ.out)
      clear y0 y1 y2 y3 c0 c1 c2 c3
      go_wp2_with fail
      have hmeas : n - (intOf (.int .i64 ((j : Int) + 1))).toNat < n - (intOf (.int .i64 (j : Int))).toNat := by simp [intOf]; omega
      refine ⟨⟨j + 1,A6,m6,c6,?_,?_,rfl,?_,?_⟩,hmeas⟩
      · omega
      · go_num
      · with_reducible exact HR6
      · with_reducible exact HBN
    · obtain rfl : n = j := by omega
      have hfull : l.take n = l := by rw [← HN.out]; exact List.take_length
      rw [hfull] at HO
      obtain ⟨wo,hwo⟩ : ∃ wo,wo = wr := ⟨_,rfl⟩
      subst hwo
      have HLL : Hid (((parts l 0 f).foldl push []).length ≤ 50000000) := by show _ ≤ _; have h1 := fold_len (parts l 0 f) []; have h2 := parts_len2 l 0 f; have h4 := HN.out; simp only [List.length_nil] at h1; omega
      go_wp2_with fail
      with_reducible refine (HPE.out _ _ _ HO.out (by have := HSZ.out; omega) HLL.out).mono ?_
      rintro q w5 ⟨A5,m5,c5,rfl,hr5,hb5⟩
      have HO2 := Lib.hid hr5
      have HB2 : Hid (Below (w.heap.size + 1) w1 w5) := HB.out.trans (hb5.mono HSZ.out)
      clear hr5 hb5 y0 y1 y2 y3
      go_wp2_with fail
      obtain ⟨MID,hMID⟩ : ∃ MID,push ((parts l 0 f).foldl push []) ⟨f,en,k,t⟩ = MID := ⟨_,rfl⟩
      have HML : Hid (MID.length ≤ 20000000) := by show _ ≤ _; rw [← hMID]; have h1 := fold_len (parts l 0 f) []; have h2 := parts_len2 l 0 f; have h4 := HN.out; have h3 := len_push ((parts l 0 f).foldl push []) ⟨f,en,k,t⟩; simp only [List.length_nil] at h1; omega
      rw [hMID] at HO2
      clear hfull
      go_loopw [7,9] (fun nv i wr => ∃ (j : Nat) (A7 : Option Addr) (m7 c7 : Nat),j ≤ n ∧ i = .int .i64 j ∧ nv = .slice A7 m7 c7 ∧ Hid (RL wr w.heap.size (.slice A7 m7 c7) ((parts (l.take j) (f + en) 16777216).foldl push MID)) ∧ Hid (Below (w.heap.size + 1) w1 wr)) (fun _ i _ => n - (intOf i).toNat)
      case atStart => exact ⟨0,_,_,_,Nat.zero_le _,rfl,rfl,by show RL _ _ _ _; simpa [parts] using HO2.out,HB2.out⟩
      case round =>
        obtain ⟨j,A7,m7,c7,hj,rfl,rfl,HO,HB⟩ := hrel
        obtain ⟨⟨y0,y1,y2,y3⟩,hbw,hszr⟩ := HXX.out wr HB.out
        have HBW := Lib.hid hbw
        have HSZ := Lib.hid hszr
        clear hbw hszr
        by_cases hlt : j < n
        · have hji : (j : Int) < (n : Int) := by omega
          have hj0 : (0 : Int) ≤ (j : Int) := by omega
          have hln := HN.out
          obtain ⟨g,o,rfl,hcc⟩ := HC.out (by omega)
          obtain ⟨x,hx'⟩ : ∃ x,l[j]? = some x := ⟨l[j]'(by omega),List.getElem?_eq_getElem (by omega)⟩
          obtain ⟨c0,c1,c2,c3⟩ := (hcc j x hx').below HBW.out
          have hx1 : oneB x = true := HO1.out x (List.mem_of_getElem? hx')
          have HTK := Lib.hid (parts_snoc (a := f + en) (b := 16777216) hx' MID)
          have HLE : Hid (((parts (l.take j) (f + en) 16777216).foldl push MID).length ≤ 50000000) := by show _ ≤ _; have h1 := fold_len (parts (l.take j) (f + en) 16777216) MID; have h2 := parts_len2 (l.take j) (f + en) 16777216; have h3 : (l.take j).length ≤ j := by { rw [List.length_take]; omega }; have h5 := HML.out; omega
          have HPT : Hid (∀ wq,Calls Tryz.prog 90 #[x.val,.int .i64 (f + en),.int .i64 16777216] wq fun q w' => q = .returned (rPart x (f + en) 16777216).val ∧ Below wq.heap.size wq w') := fun wq => rpart_any x (f + en) 16777216 wq hx1 (by omega) (by omega) (by omega) (by omega)
          have HPU : Hid (∀ wq,Below wr.heap.size wr wq → Calls Tryz.prog 89 #[.slice A7 m7 c7,(rPart x (f + en) 16777216).val] wq fun q w' => ∃ A m c,q = .returned (.slice A m c) ∧ RL w' w.heap.size (.slice A m c) ((parts (l.take (j + 1)) (f + en) 16777216).foldl push MID) ∧ Below wq.heap.size wq w') := fun wq hb => by rw [HTK.out]; exact rput_step wq w.heap.size _ _ x (f + en) 16777216 (HO.out.below hb) (by have := hb.size; have := HSZ.out; omega) HLE.out hx1 (by omega) (by omega)
          obtain ⟨f',n',k',t'⟩ := x
          simp only at c0 c1 c2 c3
          have SA : Hid ((wr.cell? ⟨g,o + j * 4,none⟩ = some (.int .i64 f') ∧ wr.cell? ⟨g,o + j * 4 + 1,none⟩ = some (.int .i64 n') ∧ wr.cell? ⟨g,o + j * 4 + 2,none⟩ = some (.int .i64 k') ∧ wr.cell? ⟨g,o + j * 4 + 3,none⟩ = some (.int .i64 t')) ∧ (wr.cell? ⟨w.heap.size,0,none⟩ = some (.int .i64 f) ∧ wr.cell? ⟨w.heap.size,1,none⟩ = some (.int .i64 en) ∧ wr.cell? ⟨w.heap.size,2,none⟩ = some (.int .i64 k) ∧ wr.cell? ⟨w.heap.size,3,none⟩ = some (.int .i64 t))) := ⟨⟨c0,c1,c2,c3⟩,y0,y1,y2,y3⟩
          have HKA : Hid (∀ w',Below wr.heap.size wr w' → (w'.cell? ⟨g,o + j * 4,none⟩ = some (.int .i64 f') ∧ w'.cell? ⟨g,o + j * 4 + 1,none⟩ = some (.int .i64 n') ∧ w'.cell? ⟨g,o + j * 4 + 2,none⟩ = some (.int .i64 k') ∧ w'.cell? ⟨g,o + j * 4 + 3,none⟩ = some (.int .i64 t')) ∧ (w'.cell? ⟨w.heap.size,0,none⟩ = some (.int .i64 f) ∧ w'.cell? ⟨w.heap.size,1,none⟩ = some (.int .i64 en) ∧ w'.cell? ⟨w.heap.size,2,none⟩ = some (.int .i64 k) ∧ w'.cell? ⟨w.heap.size,3,none⟩ = some (.int .i64 t))) := fun w' hb => ⟨⟨below_c hb SA.out.1.1,below_c hb SA.out.1.2.1,below_c hb SA.out.1.2.2.1,below_c hb SA.out.1.2.2.2⟩,below_c hb SA.out.2.1,below_c hb SA.out.2.2.1,below_c hb SA.out.2.2.2.1,below_c hb SA.out.2.2.2.2⟩
          simp only [Ext.val] at HPT HPU
          clear hcc hx' hln hx1
          go_wp2_with fail
          go_region_held3 (fun w' => (w'.cell? ⟨g,o + j * 4,none⟩ = some (.int .i64 f') ∧ w'.cell? ⟨g,o + j * 4 + 1,none⟩ = some (.int .i64 n') ∧ w'.cell? ⟨g,o + j * 4 + 2,none⟩ = some (.int .i64 k') ∧ w'.cell? ⟨g,o + j * 4 + 3,none⟩ = some (.int .i64 t')) ∧ (w'.cell? ⟨w.heap.size,0,none⟩ = some (.int .i64 f) ∧ w'.cell? ⟨w.heap.size,1,none⟩ = some (.int .i64 en) ∧ w'.cell? ⟨w.heap.size,2,none⟩ = some (.int .i64 k) ∧ w'.cell? ⟨w.heap.size,3,none⟩ = some (.int .i64 t))) (first | with_reducible exact SA.out | with_reducible exact HKA.out _ HB6.out | with_reducible exact HKA.out _ HB5.out | exact HKA.out _ (Below.drew (Below.refl _ _))) ((first | (go_at_call 90; (with_reducible refine (HPT.out _).mono ?_); rintro q w5 ⟨rfl,hb5⟩; have HB5 : Hid (Below wr.heap.size wr w5) := Below.trans (Below.drew (Below.refl _ _)) hb5; clear hb5) | (go_at_call 89; (with_reducible refine (HPU.out _ HB5.out).mono ?_); rintro q w6 ⟨A6,m6,c6,rfl,hr6,hb6⟩; have HR6 := Lib.hid hr6; have HB6 : Hid (Below wr.heap.size wr w6) := bel_tr HB5.out hb6; clear hr6 hb6)))
          have HBN : Hid (Below (w.heap.size + 1) w1 w6) := HB.out.trans (HB6.out.mono HSZ.out)
          clear y0 y1 y2 y3 c0 c1 c2 c3
          go_wp2_with fail
          have hmeas : n - (intOf (.int .i64 ((j : Int) + 1))).toNat < n - (intOf (.int .i64 (j : Int))).toNat := by simp [intOf]; omega
          refine ⟨⟨j + 1,A6,m6,c6,?_,?_,rfl,?_,?_⟩,hmeas⟩
          · omega
          · go_num
          · with_reducible exact HR6
          · with_reducible exact HBN
        · obtain rfl : n = j := by omega
          have hfull : l.take n = l := by rw [← HN.out]; exact List.take_length
          rw [hfull] at HO
          go_wp2_with fail
          go_ret
          exact ⟨_,_,_,rfl,by show RL _ _ _ _; rw [hMID]; exact HO.out,HBW.out⟩
end Go.Proofs.YtneammhkgmkkfaaGreatDoor.tr
