/- A part of the proof. -/
import Derived.Test.YtneammhkgmkkfaaGreatDoorQFlT
import Derived.Deep.AppendLies
namespace Go.Proofs.YtneammhkgmkkfaaGreatDoor.er
open Go.RowKit Go.Extern.Stop Go.Stop Go.Extern
set_option linter.unusedVariables false
set_option linter.unusedSimpArgs false
theorem stepInfoL : (Tryz.prog.info? 54).map (fun i => (i.zero,i.size,i.bytes)) = some (some (.agg #[.string ByteArray.empty,.int .i64 0]),2,24) := by kernel_rfl
def stepsV (l : List (ByteArray × Int)) : List Value := l.flatMap fun s => [.string s.1,.int .i64 s.2]
theorem stepsV_snoc (l : List (ByteArray × Int)) (s : ByteArray × Int) : stepsV (l ++ [s]) = stepsV l ++ [.string s.1,.int .i64 s.2] := by simp [stepsV]
theorem ErrAt.len {w : World} : ∀ {bs : List Nat} {l : List (ByteArray × Int)} {c : Int} {v : Value},ErrAt w bs l c v → bs.length = l.length
  | [],[],_,_,_ => rfl
  | b :: bs,s :: l,c,v,⟨_,x,_,h3⟩ => by simp [ErrAt.len h3]
  | [],_ :: _,_,_,h => h.elim
  | _ :: _,[],_,_,h => h.elim
set_option maxHeartbeats 4000000 in
set_option maxRecDepth 100000 in
theorem trail_at (bs : List Nat) (l : List (ByteArray × Int)) (c : Int) (v : Value) (w : World) (herr : ErrAt w bs l c v) (hg : LaidT w) (hl : l.length ≤ 1000) :
    Calls Tryz.prog 12 #[v] w fun e w' => ∃ s,e = .returned s ∧ w'.ownsRow w.heap.size 54 2 s l.length (stepsV l) ∧ Below w.heap.size w w' := by
  obtain ⟨i0,hi0,hz0,hz1,hz2⟩ := info_parts stepInfoL
  have HI0 := Lib.hid hi0
  have HZ0 := Lib.hid hz0
  have HZ1 := Lib.hid hz1
  have HZ2 := Lib.hid hz2
  have ER := Lib.hid herr
  have HG := Lib.hid hg
  have hlt0 := hg.lt
  clear herr hg hi0 hz0 hz1 hz2
  go_enter Tryz.func12,Tryz.ntmps12
  go_wp2_with fail
  go_loopg [0,3] l.length (fun k s o wr => ∃ (D : List (ByteArray × Int)) (bs' : List Nat) (l' : List (ByteArray × Int)) (A : Option Addr) (cp : Nat),Hid (D ++ l' = l) ∧ l'.length = k ∧ o = .slice A D.length cp ∧ Hid (ErrAt w bs' l' c s) ∧ (∃ old,wr.cell? ⟨w.heap.size,0,none⟩ = some old) ∧ wr.frozen? ⟨w.heap.size,0,none⟩ = false ∧ w.heap.size < wr.heap.size ∧ Hid (Below w.heap.size w wr) ∧ Hid (wr.ownsRow (w.heap.size + 1) 54 2 (.slice A D.length cp) D.length (stepsV D)))
  case atStart => exact ⟨[],bs,l,none,0,rfl,rfl,rfl,ER.out,⟨_,by simp; rfl⟩,by simp,by simp,(Below.refl _ _).alloc (Nat.le_refl _) _,⟨rfl,.inl ⟨rfl,rfl⟩⟩⟩
  case round =>
    obtain ⟨D,bs',l',A,cp,HD,hk,rfl,HE,⟨old,hold⟩,hfz,hsz,HB,HO⟩ := hrel
    have HGr := Lib.hid (HG.out.below HB.out hlt0)
    have hEr := HE.out.keep (F := fun k => k = w.heap.size ∨ w.heap.size ≤ k) (w := w) (w' := wr) ⟨HB.out.os,HB.out.tape,HB.out.output,HB.out.size,fun k hk hF => HB.out.block k hk⟩ (fun b hb h => by have := HE.out.lt b hb; omega)
    have HEr := Lib.hid hEr
    have HOLD := Lib.hid hold
    have HFZ := Lib.hid hfz
    obtain ⟨tx,y,hxy⟩ := hEr.iface
    subst hxy
    have hdl : D.length + l'.length = l.length := by rw [← HD.out,List.length_append]
    have hDl : D.length ≤ 1000 := by omega
    obtain ⟨m,hm⟩ : ∃ m,D.length = m := ⟨_,rfl⟩
    rw [hm] at HO hDl
    have HM := Lib.hid hm
    cases bs' with
    | nil =>
      have HL0 : Hid (l' = []) := by
        have := hEr.len
        show _ = _
        cases l' with
        | nil => rfl
        | cons _ _ => simp at this
      clear hEr hold hfz hm hdl
      rw [HM.out]
      go_wp2_with (go_at_call 26; refine (As_P [] l' c _ _ w.heap.size old HEr.out HOLD.out HFZ.out HGr.out).mono ?_; rintro e w' ⟨rfl,hb⟩; have HB2 := Lib.hid hb; clear hb)
      go_ret
      have hfin : D = l := by have := HD.out; rw [HL0.out,List.append_nil] at this; exact this
      refine ⟨_,rfl,?_,HB.out.trans (HB2.out.mono HB.out.size)⟩
      rw [← hfin,HM.out]
      exact own_base (own_below HO.out HB2.out) (by omega)
    | cons b bs'' =>
      cases l' with
      | nil => have := hEr.len; simp at this
      | cons s l'' =>
        have hE1 := HE.out
        obtain ⟨hv0,x,hwh,hx⟩ := hE1
        obtain ⟨op,at_⟩ := s
        simp only at hwh
        obtain ⟨tz,yz,hz⟩ := hx.iface
        subst hz
        have HX := Lib.hid hx
        have hbw := hwh.lt
        have HWH : Hid (∀ w',wr.grownBy w' (some w.heap.size) → w'.cell? ⟨b,0,none⟩ = some (.string op) ∧ w'.cell? ⟨b,1,none⟩ = some (.int .i64 at_) ∧ w'.cell? ⟨b,2,none⟩ = some (.iface tz yz)) := fun w' hq => by
          have h1 : Whole wr b 91 #[.string op,.int .i64 at_,.iface tz yz] := hwh.below HB.out hbw
          have h2 := h1.grown hq (fun e => by injection e with e; omega)
          exact ⟨h2.cell 0,h2.cell 1,h2.cell 2⟩
        have OWK : Hid (∀ w' : World,wr.grownBy w' (some w.heap.size) → w'.ownsRow (w.heap.size + 1) 54 2 (.slice A m cp) m (stepsV D)) := fun w' hq => HO.out.kept hq (by
          cases ho : (Value.slice A m cp).ownBlock with
          | none => exact .inl rfl
          | some g => exact .inr (fun e => by injection e with e; have := (HO.out.lt g ho).1; omega))
        have NB2 : Hid (∀ w' : World,w'.ownsRow (w.heap.size + 1) 54 2 (.slice A m cp) m (stepsV D) → ∀ k,k ≤ w.heap.size → some k ≠ (Value.slice A m cp).ownBlock) := fun w' ho k hk e => by
          have := (ho.lt k e.symm).1
          omega
        have HK : Hid (l''.length < gk) := by show _ < _; simp at hk; omega
        clear hEr hold hfz hm hdl hk hwh hx
        rw [HM.out]
        go_wp2_with (first | (go_at_call 26; refine (As_P (b :: bs'') ((op,at_) :: l'') c _ _ w.heap.size old HEr.out HOLD.out HFZ.out HGr.out).mono ?_; rintro e w1 ⟨rfl,⟨hc,hcf⟩,hq2⟩; have HCF := Lib.hid hcf; clear hcf; have HQ2 := Lib.hid hq2; have hcb := HWH.out _ hq2; obtain ⟨cb0,cb1,cb2⟩ := hcb; have how := Lib.hid (OWK.out _ hq2); have hs1 := hq2.size; clear hq2) | (at_builtin; go_must (refine wpList_append_own _ rfl (.tmp 16) (.tmp 21) 43 rfl (w.heap.size + 1) 54 i0 _ 2 24 Tryz.underlying43 HI0.out HZ0.out HZ1.out HZ2.out rfl (by omega) (.slice A m cp) m (stepsV D) rfl (how.out.alloc _) ⟨w1.heap.size,0,none⟩ 1 1 [.string op,.int .i64 at_] rfl rfl (World.news_of_block (by simpa using heap_alloc_new w1 (.cells #[.string op,.int .i64 at_] 54))) (by simp [Value.oneCell']) (by simp only [maxLen]; omega) (by omega) (by simp; omega) ?_; intro v2 w2 hown2 hg2 _; have nb2 := NB2.out w1 how.out; have hlt1 : w.heap.size < w1.heap.size := (by omega); have d0 := hg2.cell (a := ⟨w.heap.size,0,none⟩) (v := .pointer (some ⟨b,0,none⟩)) (by rw [World.cell?_alloc_lt _ _ _ (by simpa using hlt1)]; exact hc) (nb2 _ (Nat.le_refl _)); have d1 := hg2.cell (a := ⟨b,2,none⟩) (v := .iface tz yz) (by rw [World.cell?_alloc_lt _ _ _ (by simp; omega)]; exact cb2) (nb2 _ (by simp; omega)); have HO2 := Lib.hid hown2; have HG2 := Lib.hid hg2; clear hown2 hg2 nb2 hc cb0 cb1 cb2)))
        obtain ⟨A2,c2,e2⟩ := own_slice HO2.out
        subst e2
        go_roundg l''.length
        case measure => exact HK.out
        case rel =>
          have hb12 : Below (w.heap.size + 1) (w1.alloc (.cells #[.string op,.int .i64 at_] 54)) w2 :=
            ⟨HG2.out.os,HG2.out.tape,HG2.out.output,HG2.out.size,fun j hj => HG2.out.block j (by simp; omega) (NB2.out w1 how.out j (by omega))⟩
          have hbr1 : Below w.heap.size wr w1 := below_of_only HQ2.out (Nat.le_refl _) HB.out.size
          have hbw2 : Below w.heap.size w w2 := (HB.out.trans hbr1).trans (((Below.refl _ _).alloc (by omega) _).trans (hb12.mono (by omega)))
          refine ⟨D ++ [(op,at_)],bs'',l'',A2,c2,?_,rfl,?_,HX.out,⟨_,d0⟩,?_,?_,hbw2,?_⟩
          · show D ++ [(op,at_)] ++ l'' = l
            rw [← HD.out,List.append_assoc]
            rfl
          · rw [List.length_append,HM.out]; rfl
          · have e1 : w1.frozen? ⟨w.heap.size,0,none⟩ = false := HCF.out
            rw [hb12.frozen (p := ⟨w.heap.size,0,none⟩) (by simp),World.frozen?_alloc_old _ _ _ (by simp; omega)]
            exact e1
          · have := hb12.size
            simp at this
            omega
          · show w2.ownsRow _ _ _ _ _ _
            rw [List.length_append,HM.out,stepsV_snoc]
            exact HO2.out
end Go.Proofs.YtneammhkgmkkfaaGreatDoor.er
