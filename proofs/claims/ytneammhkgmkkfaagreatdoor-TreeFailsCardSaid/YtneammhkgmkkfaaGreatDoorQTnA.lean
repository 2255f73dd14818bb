/- A part of the proof. -/
import Derived.Test.YtneammhkgmkkfaaGreatDoorQTsMg
namespace Go.Proofs.YtneammhkgmkkfaaGreatDoor.tr
open Go.RowKit Go.Proofs.YtneammhkgmkkfaaGreatDoor.er
set_option linter.unusedVariables false
set_option linter.unusedSimpArgs false
def newl : List Int → List Pg → List Int → List (Pg × Int)
  | a :: xs,p :: ps,b :: bs => (if a = -1 then [(p,b)] else []) ++ newl xs ps bs
  | _,_,_ => []
theorem newl_snoc : ∀ (xs : List Int) (ps : List Pg) (bs : List Int) (a : Int) (p : Pg) (b : Int),xs.length = ps.length → xs.length = bs.length → newl (xs ++ [a]) (ps ++ [p]) (bs ++ [b]) = newl xs ps bs ++ if a = -1 then [(p,b)] else []
  | [],[],[],a,p,b,_,_ => by simp [newl]
  | x :: xs,q :: ps,y :: bs,a,p,b,h1,h2 => by
    have ih := newl_snoc xs ps bs a p b (by simpa using h1) (by simpa using h2)
    simp only [List.cons_append,newl,ih,List.append_assoc]
  | [],[],_ :: _,_,_,_,_,h => by simp at h
  | [],_ :: _,_,_,_,_,h,_ => by simp at h
  | _ :: _,[],_,_,_,_,h,_ => by simp at h
  | _ :: _,_ :: _,[],_,_,_,_,h => by simp at h
theorem newl_len : ∀ (xs : List Int) (ps : List Pg) (bs : List Int),xs.length = ps.length → xs.length = bs.length → (newl xs ps bs).length = (xs.filter fun a => decide (a = -1)).length
  | [],[],[],_,_ => rfl
  | x :: xs,q :: ps,y :: bs,h1,h2 => by
    have ih := newl_len xs ps bs (by simpa using h1) (by simpa using h2)
    unfold newl
    rw [List.length_append,ih,List.filter_cons]
    by_cases e : x = -1 <;> simp [e]
    omega
  | [],[],_ :: _,_,h => by simp at h
  | [],_ :: _,_,h,_ => by simp at h
  | _ :: _,[],_,h,_ => by simp at h
  | _ :: _,_ :: _,[],_,h => by simp at h
def Run {σ : Type} (step : σ → Pg → Int → σ → Prop) : σ → List (Pg × Int) → σ → Prop
  | s,[],t => t = s
  | s,x :: l,t => ∃ u,step s x.1 x.2 u ∧ Run step u l t
theorem run_snoc {σ : Type} {step : σ → Pg → Int → σ → Prop} : ∀ {l : List (Pg × Int)} {s t u : σ} {p : Pg} {a : Int},Run step s l t → step t p a u → Run step s (l ++ [(p,a)]) u
  | [],s,t,u,p,a,h,h2 => by
    obtain rfl : t = s := h
    exact ⟨u,h2,rfl⟩
  | x :: l,s,t,u,p,a,⟨v,h1,h3⟩,h2 => ⟨v,h1,run_snoc h3 h2⟩
structure WrS {σ : Type} (step : σ → Pg → Int → σ → Prop) {h : Nat} (n : Nd h) (s0 : σ) (j : Nat) (n' : Nd h) (s : σ) : Prop where
  strip : strip n' = strip n
  low : ∀ (i : Nat) (a : Int),i < j → (ats n')[i]? = some a → a ≠ -1
  hi : ∀ (i : Nat),j ≤ i → (ats n')[i]? = (ats n)[i]?
  old : ∀ (i : Nat) (a : Int),(ats n)[i]? = some a → a ≠ -1 → (ats n')[i]? = some a
  run : Run step s0 (newl ((ats n).take j) ((pgs n').take j) ((ats n').take j)) s
  pos : ∀ x ∈ newl ((ats n).take j) ((pgs n').take j) ((ats n').take j),0 ≤ x.2 ∧ x.2 < 2048
  nd : (nfs n').Nodup
  rng : ∀ a ∈ nfs n',a ∈ nfs n ∨ a ∈ (newl ((ats n).take j) ((pgs n').take j) ((ats n').take j)).map (·.2)
section
variable {σ : Type} {step : σ → Pg → Int → σ → Prop}
theorem WrS.start {h : Nat} {n : Nd h} {s0 : σ} (hn : (nfs n).Nodup) : WrS step n s0 0 n s0 :=
  ⟨rfl,fun i a hi => by omega,fun i _ => rfl,fun i a h _ => h,rfl,fun x hx => by simp [newl] at hx,hn,fun a ha => .inl ha⟩
theorem WrS.lens {h : Nat} {n n' : Nd h} {s0 s : σ} {j : Nat} (hs : WrS step n s0 j n' s) : (ats n).length = (pgs n').length ∧ (ats n).length = (ats n').length := by
  rw [ats_len,pgs_len,ats_len,← strip_cnt n',hs.strip,strip_cnt]
  exact ⟨rfl,rfl⟩
theorem WrS.skip {h : Nat} {n n' : Nd h} {s0 s : σ} {j : Nat} {a : Int} (hs : WrS step n s0 j n' s) (ha : (ats n)[j]? = some a) (hne : a ≠ -1) : WrS step n s0 (j + 1) n' s := by
  obtain ⟨l1,l2⟩ := hs.lens
  have hj := (List.getElem?_eq_some_iff.1 ha).1
  obtain ⟨p,hp⟩ : ∃ p,(pgs n')[j]? = some p := ⟨_,List.getElem?_eq_getElem (by omega)⟩
  obtain ⟨b0,hb0⟩ : ∃ b,(ats n')[j]? = some b := ⟨_,List.getElem?_eq_getElem (by omega)⟩
  have e : newl ((ats n).take (j + 1)) ((pgs n').take (j + 1)) ((ats n').take (j + 1)) = newl ((ats n).take j) ((pgs n').take j) ((ats n').take j) := by
    rw [List.take_add_one,List.take_add_one,List.take_add_one,ha,hp,hb0]
    show newl (_ ++ [a]) (_ ++ [p]) (_ ++ [b0]) = _
    rw [newl_snoc _ _ _ _ _ _ (by simp; omega) (by simp; omega),if_neg hne,List.append_nil]
  refine ⟨hs.strip,fun i b hi hb => ?_,fun i hi => hs.hi i (by omega),hs.old,by rw [e]; exact hs.run,by rw [e]; exact hs.pos,hs.nd,by rw [e]; exact hs.rng⟩
  by_cases e : i < j
  · exact hs.low i b e hb
  · obtain rfl : i = j := by omega
    rw [hs.hi i (Nat.le_refl _),ha] at hb
    injection hb with hb
    rw [← hb]; exact hne
theorem WrS.put {h : Nat} {n n' n'' : Nd h} {s0 s s' : σ} {j : Nat} {pg : Pg} {a : Int} (hs : WrS step n s0 j n' s) (ha : (ats n)[j]? = some (-1)) (h1 : tr.strip n'' = tr.strip n') (h2 : ats n'' = (ats n').set j a) (h3 : ∀ i,i ≤ j → (pgs n'')[i]? = (pgs n')[i]?) (h4 : (pgs n')[j]? = some pg)
    (hst : step s pg a s') (hp : 0 ≤ a ∧ a < 2048) (hx : a ∉ nfs n) (hy : a ∉ (newl ((ats n).take j) ((pgs n').take j) ((ats n').take j)).map (·.2)) : WrS step n s0 (j + 1) n'' s' := by
  obtain ⟨l1,l2⟩ := hs.lens
  have haj : (ats n')[j]? = some (-1) := by rw [hs.hi j (Nat.le_refl _)]; exact ha
  have hjl := (List.getElem?_eq_some_iff.1 haj).1
  have hself : (ats n'')[j]? = some a := by rw [h2,List.getElem?_set_self hjl]
  have hoth : ∀ i,i ≠ j → (ats n'')[i]? = (ats n')[i]? := fun i hi => by rw [h2,List.getElem?_set_ne (fun e => hi e.symm)]
  have t1 : (ats n'').take j = (ats n').take j := by
    apply List.ext_getElem?
    intro i
    rw [List.getElem?_take,List.getElem?_take]
    split
    · rw [hoth i (by omega)]
    · rfl
  have t2 : (pgs n'').take j = (pgs n').take j := by
    apply List.ext_getElem?
    intro i
    rw [List.getElem?_take,List.getElem?_take]
    split
    · rw [h3 i (by omega)]
    · rfl
  have e : newl ((ats n).take (j + 1)) ((pgs n'').take (j + 1)) ((ats n'').take (j + 1)) = newl ((ats n).take j) ((pgs n').take j) ((ats n').take j) ++ [(pg,a)] := by
    rw [List.take_add_one,List.take_add_one,List.take_add_one,ha,h3 j (Nat.le_refl _),h4,hself,t1,t2]
    show newl (_ ++ [-1]) (_ ++ [pg]) (_ ++ [a]) = _
    rw [newl_snoc _ _ _ _ _ _ (by simp; omega) (by simp; omega),if_pos rfl]
  have hne : a ≠ -1 := by omega
  obtain ⟨P,Q,e1,e2,e3⟩ := set_fresh (a := a) haj hne
  have nf1 : nfs n' = (P.filter fun a => decide (a ≠ -1)) ++ Q.filter fun a => decide (a ≠ -1) := by
    unfold nfs; rw [e1,List.filter_append,List.filter_cons]; simp
  have nf2 : nfs n'' = (P.filter fun a => decide (a ≠ -1)) ++ a :: Q.filter fun a => decide (a ≠ -1) := by
    unfold nfs; rw [h2,e3,List.filter_append,List.filter_cons]
    have : decide (a ≠ -1) = true := by simp; omega
    rw [if_pos this]
  refine ⟨h1.trans hs.strip,fun i b hi hb => ?_,fun i hi => ?_,fun i b hb hne => ?_,by rw [e]; exact run_snoc hs.run hst,fun x hx => ?_,?_,fun b hm => ?_⟩
  · by_cases e : i = j
    · subst e
      rw [hself] at hb
      injection hb with hb
      omega
    · rw [hoth i e] at hb
      exact hs.low i b (by omega) hb
  · rw [hoth i (by omega)]
    exact hs.hi i (by omega)
  · have e : i ≠ j := fun e => by
      rw [e,ha] at hb
      injection hb with hb
      exact hne hb.symm
    rw [hoth i e]
    exact hs.old i b hb hne
  · rw [e] at hx
    rcases List.mem_append.1 hx with hx | hx
    · exact hs.pos x hx
    · simp at hx; rw [hx]; exact hp
  · rw [nf2]
    refine (List.perm_middle.nodup_iff).2 (List.nodup_cons.2 ⟨fun hm => ?_,by rw [← nf1]; exact hs.nd⟩)
    rcases hs.rng _ (by rw [nf1]; exact hm) with h | h
    · exact hx h
    · exact hy h
  · rw [e,List.map_append]
    rw [nf2] at hm
    rcases List.mem_append.1 hm with hm | hm
    · exact (hs.rng b (by rw [nf1]; exact List.mem_append_left _ hm)).imp_right (List.mem_append_left _)
    · rcases List.mem_cons.1 hm with rfl | hm
      · exact .inr (List.mem_append_right _ (by simp))
      · exact (hs.rng b (by rw [nf1]; exact List.mem_append_right _ hm)).imp_right (List.mem_append_left _)
theorem wrs_page {h : Nat} {n n' : Nd h} {s0 s : σ} {j : Nat} (hs : WrS step n s0 j n' s) (hr : ∀ a ∈ nfs n,0 ≤ a ∧ a < 2048) {h2 : Nat} {m : Nd h2} (hk : Kw m) (h1 : 1 ≤ m.size) (h8 : m.size ≤ 8) (hb : Big m) (hc : Chk (flat m)) {A R : List Int} (he : ats n' = A ++ ats m ++ R) (hl : A.length + (ats m).length = j + 1) : PgOk m := by
  cases h2 with
  | zero => exact ⟨hc,h1,h8⟩
  | succ h2 =>
    have hlow : ∀ a ∈ m.ks.flatMap ats,a ≠ -1 := by
      intro a ha
      obtain ⟨i,hi,rfl⟩ := List.mem_iff_getElem.1 ha
      have hml : (ats m).length = (m.ks.flatMap ats).length + 1 := by rw [ats_in]; simp
      refine hs.low (A.length + i) _ (by omega) ?_
      rw [he,ats_in,List.append_assoc,List.getElem?_append_right (by omega),show A.length + i - A.length = i by omega,List.append_assoc,List.getElem?_append_left hi]
      exact List.getElem?_eq_getElem hi
    have hsub : (m.ks.map Nd.at_).Sublist (nfs n') := by
      have s1 := kids_sub m.ks
      have s2 : (m.ks.flatMap ats).Sublist (ats n') := by
        rw [he,ats_in]
        exact ((List.sublist_append_left _ _).trans (List.sublist_append_right A _)).trans (List.sublist_append_left _ R)
      have s3 := (s1.trans s2).filter (fun a => decide (a ≠ -1))
      rw [List.filter_eq_self.2 (fun a ha => by have := hlow a (s1.subset ha); simpa using this)] at s3
      exact s3
    refine ⟨hk,hb,h8,kids_ok hk hc (fun a ha => ?_) (hs.nd.sublist hsub)⟩
    rcases hs.rng a (hsub.subset ha) with h | h
    · exact hr a h
    · obtain ⟨x,hx,rfl⟩ := List.mem_map.1 h
      exact hs.pos x hx
end
structure Snk {σ : Type} (g : Nat) (la lb : Array Value) (step : σ → Pg → Int → σ → Prop) (bad : σ → σ → Value → World → Prop) (at_ : σ → (Nat → Prop) → World → Prop) (X : List Int) (M : Nat) (s0 : σ) : Prop where
  eg : ∀ args w,(callFunc g args).run Tryz.prog w = .ok (.enter g args) w
  keep : ∀ {s G w Y w'},at_ s G w → Keep Y w w' → (∀ k,G k → ¬ Y k) → at_ s G w'
  lt : ∀ {s G w},at_ s G w → ∀ k,G k → k < w.heap.size
  put : ∀ l s G w (h : Nat) (m : Nd h),Run step s0 l s → l.length < M → PgOk m → Kw m → 1 ≤ m.size → Chk (flat m) → at_ s G w → Calls Tryz.prog g (la ++ (#[.int .i64 (pgKind (pgN m)),.int .i64 (firstN m),.string (pgStr (pgN m))] ++ lb)) w fun x w' =>
    (∃ a s' G',x = .returned (.tuple #[.int .i64 a,.nilIface]) ∧ step s (pgN m) a s' ∧ (0 ≤ a ∧ a < 2048) ∧ a ∉ X ∧ a ∉ l.map (·.2) ∧ at_ s' G' w' ∧ Mv G w G' w') ∨
    (∃ y et ex s' G',x = .returned (.tuple #[y,.iface et ex]) ∧ bad s s' (.iface et ex) w' ∧ at_ s' G' w' ∧ Mv G w G' w')
section
variable {σ : Type} {g : Nat} {la lb : Array Value} {step : σ → Pg → Int → σ → Prop} {bad : σ → σ → Value → World → Prop} {at_ : σ → (Nat → Prop) → World → Prop}
def WrV (step : σ → Pg → Int → σ → Prop) (at_ : σ → (Nat → Prop) → World → Prop) (w1 : World) (F : List Nat) (v : Value) {h : Nat} (n : Nd h) (Lst : List (Nat × Nat)) (G : Nat → Prop) (s0 : σ) (j : Nat) (wr : World) : Prop :=
  ∃ n' s G',WrS step n s0 j n' s ∧ Ord wr F v n' Lst ∧ at_ s G' wr ∧ (∀ k,G' k → G k ∨ w1.heap.size ≤ k) ∧ Keep (fun k => k ∈ F ∨ G k) w1 wr
structure WrK (w1 : World) (F : List Nat) {h : Nat} (n : Nd h) (G : Nat → Prop) : Prop where
  nd : F.Nodup
  lt : ∀ k ∈ F,k < w1.heap.size
  dis : ∀ k ∈ F,¬ G k
  kw : Kw n
  big : Big n
  lo : 1 ≤ n.size
  hi : n.size ≤ 8
  chk : Chk (flat n)
  rg : ∀ a ∈ nfs n,0 ≤ a ∧ a < 2048
def WrFail (step : σ → Pg → Int → σ → Prop) (bad : σ → σ → Value → World → Prop) (at_ : σ → (Nat → Prop) → World → Prop) (w1 : World) (F : List Nat) (v : Value) {h : Nat} (n : Nd h) (Lst : List (Nat × Nat)) (G : Nat → Prop) (s0 : σ) (j : Nat) (ev : Value) (w9 : World) : Prop :=
  ∃ n' s s' G',WrS step n s0 j n' s ∧ (ats n)[j]? = some (-1) ∧ bad s s' ev w9 ∧ Ord w9 F v n' Lst ∧ at_ s' G' w9 ∧ (∀ k,G' k → G k ∨ w1.heap.size ≤ k) ∧ Keep (fun k => k ∈ F ∨ G k) w1 w9
def WrNx (g : Nat) (la lb : Array Value) (step : σ → Pg → Int → σ → Prop) (bad : σ → σ → Value → World → Prop) (at_ : σ → (Nat → Prop) → World → Prop) (w1 : World) (F : List Nat) (v : Value) {h : Nat} (n : Nd h) (Lst : List (Nat × Nat)) (G : Nat → Prop) (s0 : σ) (j : Nat) (wr : World) (x : Nat × Nat) : Prop :=
  ∃ (pk fk : Int) (ps : ByteArray),(∀ wq,Below wr.heap.size wr wq → Calls Tryz.prog 36 #[ptrV x.1 x.2] wq fun y w' => y = .returned (.tuple #[.int .i64 pk,.string ps]) ∧ Below wq.heap.size wq w') ∧
    (∀ wq,Below wr.heap.size wr wq → Calls Tryz.prog (fiF x.1) #[.pointer (some ⟨x.2,0,none⟩)] wq fun e w' => e = .returned (.int .i64 fk) ∧ wq = w') ∧
    (∀ wq,Below wr.heap.size wr wq → Calls Tryz.prog g (la ++ (#[.int .i64 pk,.int .i64 fk,.string ps] ++ lb)) wq fun e w9 =>
      (∃ a,e = .returned (.tuple #[.int .i64 a,.nilIface]) ∧ (w9.cell? ⟨x.2,0,none⟩ = some (.int .i64 (-1)) ∧ w9.frozen? ⟨x.2,0,none⟩ = false) ∧ WrV step at_ w1 F v n Lst G s0 (j + 1) (w9.setCell ⟨x.2,0,none⟩ (.int .i64 a))) ∨
      (∃ y et ex,e = .returned (.tuple #[y,.iface et ex]) ∧ WrFail step bad at_ w1 F v n Lst G s0 j (.iface et ex) w9 ∧ Calls Tryz.prog (fiF x.1) #[.pointer (some ⟨x.2,0,none⟩)] w9 fun e w' => e = .returned (.int .i64 fk) ∧ w9 = w'))
theorem wrs_round {w1 wr : World} {F : List Nat} {v : Value} {h : Nat} {n : Nd h} {Lst : List (Nat × Nat)} {G : Nat → Prop} {s0 : σ} {j : Nat} (hk : Snk g la lb step bad at_ (nfs n) (frN n) s0) (hc : WrK w1 F n G) (hw : WrV step at_ w1 F v n Lst G s0 j wr) {x : Nat × Nat} (hx : Lst[j]? = some x) :
    ∃ a : Int,(wr.cell? ⟨x.2,0,none⟩ = some (.int .i64 a) ∧ wr.frozen? ⟨x.2,0,none⟩ = false) ∧ (a ≠ -1 → WrV step at_ w1 F v n Lst G s0 (j + 1) wr) ∧ (a = -1 → WrNx g la lb step bad at_ w1 F v n Lst G s0 j wr x) := by
  obtain ⟨n',s,G',h1,h2,h3,h4,h5⟩ := hw
  have hst := h1.strip
  have hkw : Kw n' := by rw [← strip_kw,hst,strip_kw]; exact hc.kw
  have hsz : n'.size = n.size := by rw [← strip_size,hst,strip_size]
  have hfl : flat n' = flat n := by rw [← strip_flat,hst,strip_flat]
  have hbig : Big n' := by
    have hb := hc.big
    clear h1 h2 h5 hx hst hkw hfl hk
    cases h with
    | zero => trivial
    | succ h => exact (show 2 ≤ n'.size by rw [hsz]; exact hb)
  obtain ⟨F',m,m1,m2,m3,m4,m5,m6,m7,A,R,m8,m9⟩ := Ord.get h2 j x hx
  obtain ⟨k1,k2,k3⟩ := m6 hkw
  obtain ⟨s1,s2⟩ := k2 (by rw [hsz]; exact hc.lo) (by rw [hsz]; exact hc.hi)
  have hcm : Chk (flat m) := m7 (by rw [hfl]; exact hc.chk)
  have haj : (ats n)[j]? = some m.at_ := by rw [← h1.hi j (Nat.le_refl _)]; exact m5
  refine ⟨m.at_,at_cell m1,fun hne => ⟨n',s,G',h1.skip haj hne,h2,h3,h4,h5⟩,fun he => ?_⟩
  rw [he] at haj
  have hlm : (newl ((ats n).take j) ((pgs n').take j) ((ats n').take j)).length < frN n := by
    obtain ⟨l1,l2⟩ := h1.lens
    rw [newl_len _ _ _ (by simp; omega) (by simp; omega)]
    exact fr_count _ _ haj
  have hpg : PgOk m := wrs_page h1 hc.rg k1 s1 s2 (k3 hbig) hcm m8 m9
  have hxF : x.2 ∈ F := (Ord.set h2 hc.nd j x hx 0).1
  have hxG' : ¬ G' x.2 := fun hg => by
    rcases h4 _ hg with hg | hg
    · exact hc.dis _ hxF hg
    · have := hc.lt _ hxF; omega
  have hFG : ∀ k ∈ F,¬ G' k := fun k hk hg => by
    rcases h4 _ hg with hg | hg
    · exact hc.dis _ hk hg
    · have := hc.lt _ hk; omega
  refine ⟨pgKind (pgN m),firstN m,pgStr (pgN m),fun wq hb => ?_,fun wq hb => ?_,fun wq hb => ?_⟩
  · exact body_any wq x.2 F' m (m1.keep (Keep.below (F := fun _ => False) hb) (fun _ _ h => h)) hpg
  · exact first_any wq x.1 x.2 F' m (m1.keep (Keep.below (F := fun _ => False) hb) (fun _ _ h => h)) k1 s1
  · refine (hk.put _ s G' wq _ m h1.run hlm hpg k1 s1 hcm (hk.keep h3 (Keep.below (F := fun _ => False) hb) (fun _ _ h => h))).mono ?_
    have hsub : ∀ (G'' : Nat → Prop) w9,Mv G' wq G'' w9 → (∀ k,G'' k → G k ∨ w1.heap.size ≤ k) ∧ Keep (fun k => k ∈ F ∨ G k) w1 w9 := fun G'' w9 g2 => by
      refine ⟨fun k hk => ?_,(h5.transBelow hb).trans g2.keep (fun k hk => ?_)⟩
      · rcases g2.sub _ hk with hk | hk
        · exact h4 k hk
        · right; have := h5.size; have := hb.size; omega
      · rcases h4 _ hk with hk | hk
        · exact .inl (.inr hk)
        · exact .inr hk
    rintro e w9 (⟨a,s',G'',rfl,q1,q2,q3,q4,g1,g2⟩ | ⟨y,et,ex,s',G'',rfl,q1,g1,g2⟩)
    · have o9 : Ord w9 F v n' Lst := (h2.keep (Keep.below (F := fun _ => False) hb) (fun _ _ h => h)).keep g2.keep hFG
      have c9 := at_cell ((m1.keep (Keep.below (F := fun _ => False) hb) (fun _ _ h => h)).keep g2.keep (fun k hk => hFG k (m2 k hk)))
      rw [he] at c9
      obtain ⟨_,n'',e1,e2,e3,e4⟩ := Ord.set o9 hc.nd j x hx a
      obtain ⟨u1,u2⟩ := hsub G'' w9 g2
      refine .inl ⟨a,rfl,c9,n'',s',G'',h1.put haj e2 e3 e4 m3 q1 q2 q3 q4,e1,hk.keep g1 (Keep.set1 w9 x.2 0 _) (fun k hk e5 => ?_),u1,Keep.setCell (p := ⟨x.2,0,none⟩) u2 (.inl (.inl hxF)) _⟩
      have e6 : k = x.2 := e5
      rw [e6] at hk
      rcases g2.sub _ hk with hk | hk
      · exact hxG' hk
      · have := hc.lt _ hxF; have := h5.size; have := hb.size; omega
    · have o9 : Ord w9 F v n' Lst := (h2.keep (Keep.below (F := fun _ => False) hb) (fun _ _ h => h)).keep g2.keep hFG
      have m9 := (m1.keep (Keep.below (F := fun _ => False) hb) (fun _ _ h => h)).keep g2.keep (fun k hk => hFG k (m2 k hk))
      obtain ⟨u1,u2⟩ := hsub G'' w9 g2
      exact .inr ⟨y,et,ex,rfl,⟨n',s,s',G'',h1,haj,q1,o9,g1,u1,u2⟩,first_any w9 x.1 x.2 F' m m9 k1 s1⟩
end
end Go.Proofs.YtneammhkgmkkfaaGreatDoor.tr
