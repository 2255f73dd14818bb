/- A part of the proof. -/
import Derived.Test.YtneammhkgmkkfaaGreatDoorQTnC
import Derived.Test.YtneammhkgmkkfaaGreatDoorQTuB
namespace Go.Proofs.YtneammhkgmkkfaaGreatDoor.tr
open Go.RowKit Go.Proofs.YtneammhkgmkkfaaGreatDoor.er
set_option linter.unusedVariables false
set_option linter.unusedSimpArgs false
theorem st_next {w0 w3 w' : World} {p : Nat} {T' : Tree} {rv : Value} {F : List Nat} {G : Nat → Prop} (k0 : Keep (fun _ => False) w0 w3) (hF : ∀ k ∈ F,w0.heap.size ≤ k) (row : ∃ B,RL w3 B rv T'.flat) (hrv : ∀ g,rv.ownBlock = some g → g ∉ F) (hG : ∀ k,G k → w3.heap.size ≤ k) (k1 : Keep (fun k => k ∈ F ∨ G k) w3 w') (ht : TrAt w' F p T') (ok : T'.Ok) (hc : Chk T'.flat) : St w0 w' p T' rv T'.flat := by
  obtain ⟨B,hB⟩ := row
  refine ⟨k0.trans k1 (fun k hk => ?_),ok,hc,hc,F,ht,hF,⟨B,own_keep hB.own k1 (fun g hg hk => ?_),hB.one⟩,hrv⟩
  · rcases hk with hk | hk
    · exact .inr (hF k hk)
    · exact .inr (Nat.le_trans k0.size (hG k hk))
  · rcases hk with hk | hk
    · exact hrv g hg hk
    · have := (hB.own.lt g hg).2
      have := hG g hk
      omega
def putF (bb : Nat) : Value := .func (.func 17) #[.pointer (some ⟨bb,0,none⟩)] #[]
theorem newl_all : ∀ (xs : List Int) (ps : List Pg) (bs : List Int),xs.length = ps.length → xs.length = bs.length → (∀ a ∈ xs,a = -1) → (newl xs ps bs).length = xs.length := fun xs ps bs h1 h2 ha => by
  rw [newl_len xs ps bs h1 h2,List.filter_eq_self.2 (fun a h => by simpa using ha a h)]
theorem fail_one {w0 w3 w4 : World} {p h bb at_ : Nat} {n : Nd h} {rv : Value} {G : Nat → Prop} {L : Bk} (hst : St w0 w3 p (.top h n) rv (flat n)) (hn : nfs n = []) (hb : Below w3.heap.size w3 w4) (hbk : BkAt w4 G bb L) (hG : ∀ k,G k → w3.heap.size ≤ k) (hL : L.length + at_ = 2000) (hat : at_ < cntN n) (hc : cntN n ≤ 1000) :
    Calls Tryz.prog 16 #[.pointer (some ⟨p,0,none⟩),putF bb] w4 fun x w' => ∃ (n' : Nd h) (b : Nat) (fk : Int) (G' : Nat → Prop) (B : Bk),x = .returned (.tuple #[.int .i64 (-1),.iface 88 (.pointer (some ⟨b,0,none⟩))]) ∧ Whole w' b 91 #[.string wrOp,.int .i64 fk,.iface 35 (.int .i64 2)] ∧
      St w0 w' p (.top h n') rv (flat n') ∧ strip n' = strip n ∧ frN n' + at_ = cntN n ∧ (nfs n').Nodup ∧ (∀ a ∈ nfs n',(L.length : Int) ≤ a ∧ a < 2000) ∧ BkAt w' G' bb B ∧ B.length = 2000 := by
  obtain ⟨s1,s2,s3,s4,F,s5,s6,s7,s8⟩ := hst
  have hfr : frN n = cntN n := fresh_all (T := .top h n) hn
  have hlt := s5.lt
  have hall : ats n = List.replicate (cntN n) (-1) := all_fresh (T := .top h n) hn
  have hdis : ∀ k ∈ F,¬ G k := fun k hk hg => by have := hlt k hk; have := hG k hg; omega
  have hkF := Keep.below (F := fun k => k ∈ F ∨ G k) hb
  refine (write_gen w4 F p h n G L (bk_snk bb L (nfs n) (frN n) (by omega) (by rw [hn]; simp)) (s5.keep (Keep.below (F := fun _ => False) hb) (fun _ _ h => h)) s2 s3 hbk hdis (by rw [hn]; exact List.nodup_nil) (by rw [hn]; simp) (by omega)).mono ?_
  rintro x w' (⟨n',s,G',rfl,q1,q2,q3,q4,q5⟩ | ⟨n',j,s,s',G',b,fk,et,ex,w9,rfl,r1,⟨rfl,r2,r2b⟩,r3,q1,r4,q2,q3,q4,q5⟩)
  · exfalso
    obtain ⟨l1,l2⟩ := q1.lens
    obtain ⟨e1,e2,e3⟩ := bk_run q1.run
    have hlen := newl_all ((ats n).take (ats n).length) ((pgs n').take (ats n).length) ((ats n').take (ats n).length) (by simp; omega) (by simp; omega) (fun a ha => by rw [hall] at ha; exact List.eq_of_mem_replicate (List.mem_of_mem_take ha))
    have hal := ats_len n
    have hsl := congrArg List.length e1
    rw [List.length_append,List.length_map,hlen,List.length_take,Nat.min_self,hal] at hsl
    have := e2 (fun e => by rw [e] at hlen; simp at hlen; omega)
    omega
  · injection r2b with r2b r2c
    subst r2b r2c
    obtain ⟨l1,l2⟩ := q1.lens
    obtain ⟨e1,e2,e3⟩ := bk_run q1.run
    have hjl := (List.getElem?_eq_some_iff.1 r4).1
    have hlen := newl_all ((ats n).take j) ((pgs n').take j) ((ats n').take j) (by simp; omega) (by simp; omega) (fun a ha => by rw [hall] at ha; exact List.eq_of_mem_replicate (List.mem_of_mem_take ha))
    have hsl := congrArg List.length e1
    rw [List.length_append,List.length_map,hlen,List.length_take] at hsl
    have hj2 : s'.length ≤ 2000 := by
      by_cases e : newl ((ats n).take j) ((pgs n').take j) ((ats n').take j) = []
      · rw [e] at hlen
        simp at hlen
        omega
      · exact e2 e
    have hfr2 := wrs_fr q1
    rw [hlen,List.length_take] at hfr2
    have hfl : flat n' = flat n := flat_strip q1.strip
    refine ⟨n',b,fk,G',s',rfl,r1,?_,q1.strip,by omega,q1.nd,fun a ha => ?_,q3,by omega⟩
    · exact st_next (T' := .top h n') s1 s6 (by obtain ⟨B,hB⟩ := s7; exact ⟨B,by show RL _ _ _ (flat n'); rw [hfl]; exact hB⟩) s8 hG (hkF.trans q5 (fun k hk => .inl hk)) q2 (ok_strip q1.strip s2) (by show Chk (flat n'); rw [hfl]; exact s3)
    · rcases q1.rng a ha with hm | hm
      · rw [hn] at hm; simp at hm
      · have := e3 a hm
        rw [hlen,List.length_take] at this
        omega
theorem then_two {w0 w3 w4 : World} {p h bb : Nat} {n : Nd h} {rv : Value} {G : Nat → Prop} (hst : St w0 w3 p (.top h n) rv (flat n)) (hnd : (nfs n).Nodup) (hr : ∀ a ∈ nfs n,1000 ≤ a ∧ a < 2000) (hb : Below w3.heap.size w3 w4) (hbk : BkAt w4 G bb []) (hG : ∀ k,G k → w3.heap.size ≤ k) (hc : cntN n ≤ 1000) :
    Calls Tryz.prog 16 #[.pointer (some ⟨p,0,none⟩),putF bb] w4 fun x w' => ∃ (n' : Nd h) (a : Int) (G' : Nat → Prop) (B : Bk),x = .returned (.tuple #[.int .i64 a,.nilIface]) ∧ St w0 w' p (.top h n') rv (flat n') ∧ strip n' = strip n ∧ frN n' = 0 ∧ BkAt w' G' bb B ∧ B.length = frN n := by
  obtain ⟨s1,s2,s3,s4,F,s5,s6,s7,s8⟩ := hst
  have hlt := s5.lt
  have hdis : ∀ k ∈ F,¬ G k := fun k hk hg => by have := hlt k hk; have := hG k hg; omega
  have hkF := Keep.below (F := fun k => k ∈ F ∨ G k) hb
  have hfc : frN n ≤ cntN n := fr_le (.top h n)
  refine (write_gen w4 F p h n G [] (bk_snk bb [] (nfs n) (frN n) (by simp) (fun a ha hx => by have := hr a ha; simp at hx; omega)) (s5.keep (Keep.below (F := fun _ => False) hb) (fun _ _ h => h)) s2 s3 hbk hdis hnd (fun a ha => by have := hr a ha; omega) (by omega)).mono ?_
  rintro x w' (⟨n',s,G',rfl,q1,q2,q3,q4,q5⟩ | ⟨n',j,s,s',G',b,fk,et,ex,w9,rfl,r1,⟨rfl,r2,r2b⟩,r3,q1,r4,q2,q3,q4,q5⟩)
  · obtain ⟨l1,l2⟩ := q1.lens
    obtain ⟨e1,e2,e3⟩ := bk_run q1.run
    have hfr2 := wrs_fr q1
    have hsl := congrArg List.length e1
    rw [List.length_append,List.length_map,List.length_nil] at hsl
    have hfl : flat n' = flat n := flat_strip q1.strip
    have hz : frN n' = 0 := by
      unfold frN
      rw [List.length_eq_zero_iff,List.filter_eq_nil_iff]
      intro a ha
      obtain ⟨i,hi,rfl⟩ := List.mem_iff_getElem.1 ha
      have := q1.low i _ (by omega) (List.getElem?_eq_getElem hi)
      simpa using this
    refine ⟨n',n'.at_,G',s,rfl,?_,q1.strip,hz,q3,by omega⟩
    exact st_next (T' := .top h n') s1 s6 (by obtain ⟨B,hB⟩ := s7; exact ⟨B,by show RL _ _ _ (flat n'); rw [hfl]; exact hB⟩) s8 hG (hkF.trans q5 (fun k hk => .inl hk)) q2 (ok_strip q1.strip s2) (by show Chk (flat n'); rw [hfl]; exact s3)
  · exfalso
    obtain ⟨e1,e2,e3⟩ := bk_run q1.run
    have hfr2 := wrs_fr q1
    have hsl := congrArg List.length e1
    rw [List.length_append,List.length_map,List.length_nil] at hsl
    omega
end Go.Proofs.YtneammhkgmkkfaaGreatDoor.tr
