/- A part of the proof. -/
import Derived.Test.YtneammhkgmkkfaaGreatDoorQTzMg
namespace Go.Proofs.YtneammhkgmkkfaaGreatDoor.tr
open Go.RowKit Go.Proofs.YtneammhkgmkkfaaGreatDoor.er
set_option linter.unusedVariables false
set_option linter.unusedSimpArgs false
structure Kid where
  key : Int
  at_ : Int
  deriving DecidableEq
inductive Pg where
  | leaf (l : List Ext)
  | inner (l : List Kid)
def kidsN {h : Nat} (n : Nd (h + 1)) : List Kid := n.ks.map fun k => ⟨firstN k,k.at_⟩
def pgN : {h : Nat} → Nd h → Pg
  | 0,n => .leaf n.l
  | _ + 1,n => .inner (kidsN n)
def pgs : {h : Nat} → Nd h → List Pg
  | 0,n => [pgN n]
  | _ + 1,n => n.ks.flatMap pgs ++ [pgN n]
def fsts : {h : Nat} → Nd h → List Int
  | 0,n => [firstN n]
  | _ + 1,n => n.ks.flatMap fsts ++ [firstN n]
def strip : {h : Nat} → Nd h → Nd h
  | 0,n => mkL 0 n.l
  | _ + 1,n => mkI 0 (n.ks.map strip)
theorem strip_flat : ∀ {h : Nat} (n : Nd h),flat (strip n) = flat n
  | 0,n => rfl
  | h + 1,n => by
    show (n.ks.map strip).flatMap flat = n.ks.flatMap flat
    rw [List.flatMap_map]
    exact congrArg (fun f => n.ks.flatMap f) (funext fun k => strip_flat k)
theorem strip_size : ∀ {h : Nat} (n : Nd h),(strip n).size = n.size
  | 0,n => rfl
  | h + 1,n => by show (n.ks.map strip).length = n.ks.length; rw [List.length_map]
theorem strip_kw : ∀ {h : Nat} (n : Nd h),Kw (strip n) ↔ Kw n
  | 0,n => Iff.rfl
  | h + 1,n => by
    show (∀ k ∈ n.ks.map strip,(4 ≤ k.size ∧ k.size ≤ 8) ∧ Kw k) ↔ ∀ k ∈ n.ks,(4 ≤ k.size ∧ k.size ≤ 8) ∧ Kw k
    simp only [List.forall_mem_map,strip_size,strip_kw]
theorem strip_cnt : ∀ {h : Nat} (n : Nd h),cntN (strip n) = cntN n
  | 0,n => rfl
  | h + 1,n => by
    show 1 + ((n.ks.map strip).map cntN).sum = 1 + (n.ks.map cntN).sum
    rw [List.map_map]
    have : cntN ∘ (strip : Nd h → Nd h) = cntN := funext fun k => strip_cnt k
    rw [this]
theorem pgs_len : ∀ {h : Nat} (n : Nd h),(pgs n).length = cntN n
  | 0,n => rfl
  | h + 1,n => by
    have : (n.ks.flatMap pgs).length = (n.ks.map cntN).sum := by
      rw [List.length_flatMap]
      congr 1
      exact List.map_congr_left (fun k _ => pgs_len k)
    show (n.ks.flatMap pgs ++ [pgN n]).length = 1 + (n.ks.map cntN).sum
    rw [List.length_append,this]
    simp; omega
theorem flat_at {α β : Type} (f : α → List β) : ∀ (l : List α) (i : Nat) (x : β),(l.flatMap f)[i]? = some x → ∃ P e Q i',l = P ++ e :: Q ∧ i = (P.flatMap f).length + i' ∧ (f e)[i']? = some x
  | [],i,x,h => by simp at h
  | e :: l,i,x,h => by
    rw [List.flatMap_cons] at h
    by_cases hi : i < (f e).length
    · rw [List.getElem?_append_left hi] at h
      exact ⟨[],e,l,i,rfl,by simp,h⟩
    · rw [List.getElem?_append_right (by omega)] at h
      obtain ⟨P,e',Q,i',rfl,h2,h3⟩ := flat_at f l _ x h
      exact ⟨e :: P,e',Q,i',rfl,by rw [List.flatMap_cons,List.length_append]; omega,h3⟩
def Ord (w : World) : {h : Nat} → List Nat → Value → Nd h → List (Nat × Nat) → Prop
  | 0,F,v,n,L => ∃ b g c,F = [b,g] ∧ v = ptrV 0 b ∧ LfAt w b g c (Nd.at_ n) (Nd.l n) ∧ L = [(0,b)]
  | h + 1,F,v,n,L => ∃ b g c,∃ es : List (Kd h × List (Nat × Nat)),F = b :: g :: dsF (es.map fun e => e.1) ∧ v = ptrV (h + 1) b ∧ Whole w b 97 #[.int .i64 (Nd.at_ n),.slice (some ⟨g,0,none⟩) es.length c] ∧ Row w g c 1 62 (es.map fun e => e.1.2.1) ∧ Nd.ks n = es.map (fun e => e.1.2.2) ∧ (∀ e ∈ es,Ord w e.1.1 e.1.2.1 e.1.2.2 e.2) ∧ L = es.flatMap (fun e => e.2) ++ [(h + 1,b)]
theorem Ord.at_ {w : World} : ∀ {h : Nat} {F : List Nat} {v : Value} {n : Nd h} {L : List (Nat × Nat)},Ord w F v n L → NdAt w F v n
  | 0,F,v,n,L,⟨b,g,c,h1,h2,h3,_⟩ => ⟨b,g,c,h1,h2,h3.1,h3.2⟩
  | h + 1,F,v,n,L,⟨b,g,c,es,h1,h2,h3,h4,h5,h6,_⟩ => by
    refine ⟨b,g,c,es.map (fun e : Kd h × List (Nat × Nat) => e.1),h1,h2,?_,?_,?_,?_⟩
    · rw [h5,List.length_map]; exact h3
    · rw [h5,List.map_map]; rfl
    · rw [List.map_map]; exact h4
    · intro d hd
      obtain ⟨e,he,rfl⟩ := List.mem_map.1 hd
      exact (h6 e he).at_
theorem Ord.len {w : World} : ∀ {h : Nat} {F : List Nat} {v : Value} {n : Nd h} {L : List (Nat × Nat)},Ord w F v n L → L.length = cntN n
  | 0,F,v,n,L,⟨b,g,c,h1,h2,h3,h4⟩ => by rw [h4]; rfl
  | h + 1,F,v,n,L,⟨b,g,c,es,h1,h2,h3,h4,h5,h6,h7⟩ => by
    show L.length = 1 + (n.ks.map cntN).sum
    rw [h7,h5,List.map_map,List.length_append,List.length_flatMap]
    have : es.map (fun e => e.2.length) = es.map (cntN ∘ fun e => e.1.2.2) := List.map_congr_left fun e he => (h6 e he).len
    rw [this]
    simp; omega
theorem Ord.keep {G : Nat → Prop} {w w' : World} (hk : Keep G w w') : ∀ {h : Nat} {F : List Nat} {v : Value} {n : Nd h} {L : List (Nat × Nat)},Ord w F v n L → (∀ k ∈ F,¬ G k) → Ord w' F v n L
  | 0,F,v,n,L,⟨b,g,c,h1,h2,h3,h4⟩,hF => by
    subst h1
    exact ⟨b,g,c,rfl,h2,h3.keep hk (hF b (by simp)) (hF g (by simp)),h4⟩
  | h + 1,F,v,n,L,⟨b,g,c,es,h1,h2,h3,h4,h5,h6,h7⟩,hF => by
    subst h1
    refine ⟨b,g,c,es,rfl,h2,h3.keep hk (hF b (by simp)),h4.keep hk (hF g (by simp)),h5,fun e he => Ord.keep hk (h6 e he) (fun k hm => hF k ?_),h7⟩
    exact List.mem_cons_of_mem _ (List.mem_cons_of_mem _ (mem_dsF (List.mem_map.2 ⟨e,he,rfl⟩) hm))
theorem flat_len {α β γ : Type} {f : α → List β} {g : α → List γ} {l : List α} (h : ∀ e ∈ l,(f e).length = (g e).length) : (l.flatMap f).length = (l.flatMap g).length := by
  rw [List.length_flatMap,List.length_flatMap]
  congr 1
  exact List.map_congr_left h
theorem set_app {α : Type} (A B C : List α) (i : Nat) (a : α) (h : i < B.length) : (A ++ B ++ C).set (A.length + i) a = A ++ B.set i a ++ C := by
  rw [List.append_assoc,List.set_append_right _ _ (by omega),show A.length + i - A.length = i by omega,List.set_append_left _ _ h,List.append_assoc]
theorem pre_eq {α : Type} (A B B' C C' : List α) (i' j : Nat) (hl : B'.length = B.length) (hi : i' < B.length) (h : ∀ t,t ≤ i' → B'[t]? = B[t]?) (hj : j ≤ A.length + i') : (A ++ (B' ++ C'))[j]? = (A ++ (B ++ C))[j]? := by
  by_cases hjP : j < A.length
  · rw [List.getElem?_append_left hjP,List.getElem?_append_left hjP]
  · have hA : A.length ≤ j := by omega
    rw [List.getElem?_append_right hA,List.getElem?_append_right hA,List.getElem?_append_left (show j - A.length < B'.length by omega),List.getElem?_append_left (show j - A.length < B.length by omega)]
    exact h _ (by omega)
theorem Ord.set : ∀ {h : Nat} {w : World} {F : List Nat} {v : Value} {n : Nd h} {L : List (Nat × Nat)},Ord w F v n L → F.Nodup → ∀ (i : Nat) (x : Nat × Nat),L[i]? = some x → ∀ a : Int,
    x.2 ∈ F ∧ ∃ n' : Nd h,Ord (w.setCell ⟨x.2,0,none⟩ (.int .i64 a)) F v n' L ∧ strip n' = strip n ∧ ats n' = (ats n).set i a ∧ ∀ j,j ≤ i → (pgs n')[j]? = (pgs n)[j]?
  | 0,w,F,v,n,L,⟨b,g,c,h1,h2,h3,h4⟩,hnd,i,x,hx,a => by
    subst h1 h4
    match i,hx with
    | 0,hx =>
      simp at hx
      subst hx
      refine ⟨by simp,mkL a n.l,⟨b,g,c,rfl,h2,⟨?_,?_⟩,rfl⟩,rfl,rfl,fun j _ => rfl⟩
      · have := h3.1.set 0 (.int .i64 a)
        exact (by simpa using this : Whole (w.setCell ⟨b,0,none⟩ (.int .i64 a)) b 119 #[.int .i64 a,.slice (some ⟨g,0,none⟩) n.l.length c])
      · exact h3.2.keep (Keep.set1 w b 0 _) (by simp at hnd; exact fun e => hnd e.symm)
    | i + 1,hx => simp at hx
  | h + 1,w,F,v,n,L,⟨b,g,c,es,h1,h2,h3,h4,h5,h6,h7⟩,hnd,i,x,hx,a => by
    subst h1 h7
    have hnb : b ≠ g ∧ b ∉ dsF (es.map fun e => e.1) ∧ g ∉ dsF (es.map fun e => e.1) ∧ (dsF (es.map fun e => e.1)).Nodup := by
      simp only [List.nodup_cons,List.mem_cons,not_or] at hnd
      exact ⟨hnd.1.1,hnd.1.2,hnd.2.1,hnd.2.2⟩
    obtain ⟨n1,n2,n3,n4⟩ := hnb
    have eats : ats n = es.flatMap (fun e => ats e.1.2.2) ++ [n.at_] := by
      show n.ks.flatMap ats ++ [n.at_] = _
      rw [h5,List.flatMap_map]
    have epgs : pgs n = es.flatMap (fun e => pgs e.1.2.2) ++ [pgN n] := by
      show n.ks.flatMap pgs ++ [pgN n] = _
      rw [h5,List.flatMap_map]
    have la : ∀ {l : List (Kd h × List (Nat × Nat))},(∀ e ∈ l,e ∈ es) → (l.flatMap fun e => e.2).length = (l.flatMap fun e => ats e.1.2.2).length := fun hl => flat_len fun e he => by rw [(h6 e (hl e he)).len,ats_len]
    have lp : ∀ {l : List (Kd h × List (Nat × Nat))},(∀ e ∈ l,e ∈ es) → (l.flatMap fun e => e.2).length = (l.flatMap fun e => pgs e.1.2.2).length := fun hl => flat_len fun e he => by rw [(h6 e (hl e he)).len,pgs_len]
    by_cases hi : i < (es.flatMap fun e => e.2).length
    · rw [List.getElem?_append_left hi] at hx
      obtain ⟨P,e,Q,i',rfl,rfl,h8⟩ := flat_at _ _ _ _ hx
      have hmem : e ∈ P ++ e :: Q := by simp
      have hP : ∀ q ∈ P,q ∈ P ++ e :: Q := fun q hq => by simp [hq]
      have hQ : ∀ q ∈ Q,q ∈ P ++ e :: Q := fun q hq => by simp [hq]
      rw [List.map_append,List.map_cons,dsF_append,dsF_cons] at n2 n3 n4
      have m4 := List.nodup_append.1 n4
      have m5 := List.nodup_append.1 m4.2.1
      obtain ⟨x1,k',x2,x3,x4,x5⟩ := Ord.set (h6 e hmem) m5.1 i' x h8 a
      have hk1 : Keep (fun k => k = x.2) w (w.setCell ⟨x.2,0,none⟩ (.int .i64 a)) := Keep.set1 w x.2 0 _
      have xb : x.2 ≠ b := fun e' => n2 (by rw [← e']; simp [x1])
      have xg : x.2 ≠ g := fun e' => n3 (by rw [← e']; simp [x1])
      refine ⟨by
        rw [List.map_append,List.map_cons,dsF_append,dsF_cons]
        simp [x1],mkI n.at_ ((P ++ ((e.1.1,e.1.2.1,k'),e.2) :: Q).map fun e => e.1.2.2),⟨b,g,c,P ++ ((e.1.1,e.1.2.1,k'),e.2) :: Q,?_,h2,?_,?_,rfl,?_,?_⟩,?_,?_,?_⟩
      · simp [dsF]
      · have := h3.keep hk1 (fun e' => xb e'.symm)
        have e1 : (P ++ ((e.1.1,e.1.2.1,k'),e.2) :: Q).length = (P ++ e :: Q).length := by simp
        rw [e1]
        exact this
      · have := h4.keep hk1 (fun e' => xg e'.symm)
        simpa using this
      · intro q hq
        rcases List.mem_append.1 hq with hq | hq
        · refine (h6 q (hP q hq)).keep hk1 (fun k hk e' => ?_)
          have e2 : k = x.2 := e'
          exact m4.2.2 k (mem_dsF (List.mem_map.2 ⟨q,hq,rfl⟩) hk) k (by rw [e2]; simp [x1]) rfl
        · rcases List.mem_cons.1 hq with rfl | hq
          · exact x2
          · refine (h6 q (hQ q hq)).keep hk1 (fun k hk e' => ?_)
            have e2 : k = x.2 := e'
            exact m5.2.2 k (by rw [e2]; exact x1) k (mem_dsF (List.mem_map.2 ⟨q,hq,rfl⟩) hk) rfl
      · simp
      · show mkI 0 (((P ++ ((e.1.1,e.1.2.1,k'),e.2) :: Q).map fun e => e.1.2.2).map strip) = mkI 0 (n.ks.map strip)
        rw [h5]
        simp [x3]
      · rw [eats]
        show ((P ++ ((e.1.1,e.1.2.1,k'),e.2) :: Q).map fun e => e.1.2.2).flatMap ats ++ [n.at_] = _
        rw [List.flatMap_map]
        simp only [List.flatMap_append,List.flatMap_cons]
        rw [x4,la hP]
        have hl : i' < (ats e.1.2.2).length := by
          rw [ats_len,← (h6 e hmem).len]
          exact (List.getElem?_eq_some_iff.1 h8).1
        have := set_app (P.flatMap fun e => ats e.1.2.2) (ats e.1.2.2) (Q.flatMap (fun e => ats e.1.2.2) ++ [n.at_]) i' a hl
        simp only [List.append_assoc] at this ⊢
        exact this.symm
      · intro j hj
        rw [epgs]
        show (((P ++ ((e.1.1,e.1.2.1,k'),e.2) :: Q).map fun e => e.1.2.2).flatMap pgs ++ [pgN (mkI n.at_ ((P ++ ((e.1.1,e.1.2.1,k'),e.2) :: Q).map fun e => e.1.2.2))])[j]? = _
        rw [List.flatMap_map]
        simp only [List.flatMap_append,List.flatMap_cons,List.append_assoc]
        have hl : i' < (pgs e.1.2.2).length := by
          rw [pgs_len,← (h6 e hmem).len]
          exact (List.getElem?_eq_some_iff.1 h8).1
        have hl' : (pgs k').length = (pgs e.1.2.2).length := by rw [pgs_len,pgs_len,← strip_cnt k',x3,strip_cnt]
        rw [lp hP] at hj
        exact pre_eq _ _ _ _ _ i' j hl' hl x5 hj
    · rw [List.getElem?_append_right (by omega)] at hx
      have hi0 : i - (es.flatMap fun e => e.2).length = 0 := by
        cases hq : i - (es.flatMap fun e => e.2).length with
        | zero => rfl
        | succ q => rw [hq] at hx; simp at hx
      rw [hi0] at hx
      simp at hx
      subst hx
      have hie : i = (es.flatMap fun e => e.2).length := by omega
      have hk1 : Keep (fun k => k = b) w (w.setCell ⟨b,0,none⟩ (.int .i64 a)) := Keep.set1 w b 0 _
      refine ⟨by simp,mkI a n.ks,⟨b,g,c,es,rfl,h2,?_,h4.keep hk1 (fun e => n1 e.symm),h5,?_,rfl⟩,rfl,?_,?_⟩
      · have := h3.set 0 (.int .i64 a)
        exact (by simpa using this : Whole (w.setCell ⟨b,0,none⟩ (.int .i64 a)) b 97 #[.int .i64 a,.slice (some ⟨g,0,none⟩) es.length c])
      · intro e he
        refine (h6 e he).keep hk1 (fun k hk e' => ?_)
        have e2 : k = b := e'
        rw [e2] at hk
        exact n2 (mem_dsF (List.mem_map.2 ⟨e,he,rfl⟩) hk)
      · rw [eats,hie,la (fun e he => he)]
        show n.ks.flatMap ats ++ [a] = _
        rw [h5,List.flatMap_map,List.set_append_right _ _ (by omega)]
        simp
      · intro j hj
        rfl
theorem Ord.get : ∀ {h : Nat} {w : World} {F : List Nat} {v : Value} {n : Nd h} {L : List (Nat × Nat)},Ord w F v n L → ∀ (i : Nat) (x : Nat × Nat),L[i]? = some x →
    ∃ (F' : List Nat) (m : Nd x.1),NdAt w F' (ptrV x.1 x.2) m ∧ (∀ k ∈ F',k ∈ F) ∧ (pgs n)[i]? = some (pgN m) ∧ (fsts n)[i]? = some (firstN m) ∧ (ats n)[i]? = some m.at_ ∧ (Kw n → Kw m ∧ (1 ≤ n.size → n.size ≤ 8 → 1 ≤ m.size ∧ m.size ≤ 8) ∧ (Big n → Big m)) ∧ (Chk (flat n) → Chk (flat m)) ∧ ∃ A B,ats n = A ++ ats m ++ B ∧ A.length + (ats m).length = i + 1
  | 0,w,F,v,n,L,hh@⟨b,g,c,h1,h2,h3,h4⟩,i,x,hx => by
    subst h1 h4
    match i,hx with
    | 0,hx =>
      simp at hx
      subst hx
      exact ⟨[b,g],n,leaf_at h3,fun k hk => hk,rfl,rfl,rfl,fun hk => ⟨hk,fun q1 q2 => ⟨q1,q2⟩,fun q => q⟩,fun q => q,[],[],by simp,rfl⟩
    | i + 1,hx => simp at hx
  | h + 1,w,F,v,n,L,hh@⟨b,g,c,es,h1,h2,h3,h4,h5,h6,h7⟩,i,x,hx => by
    have hnd := Ord.at_ hh
    subst h1 h7 h2
    have eats : ats n = es.flatMap (fun e => ats e.1.2.2) ++ [n.at_] := by
      show n.ks.flatMap ats ++ [n.at_] = _
      rw [h5,List.flatMap_map]
    have epgs : pgs n = es.flatMap (fun e => pgs e.1.2.2) ++ [pgN n] := by
      show n.ks.flatMap pgs ++ [pgN n] = _
      rw [h5,List.flatMap_map]
    have efst : fsts n = es.flatMap (fun e => fsts e.1.2.2) ++ [firstN n] := by
      show n.ks.flatMap fsts ++ [firstN n] = _
      rw [h5,List.flatMap_map]
    have eflat : flat n = es.flatMap (fun e => flat e.1.2.2) := by
      show n.ks.flatMap flat = _
      rw [h5,List.flatMap_map]
    have fst_len : ∀ {h : Nat} (n : Nd h),(fsts n).length = cntN n := by
      intro h
      induction h with
      | zero => intro n; rfl
      | succ h ih =>
        intro n
        have : (n.ks.flatMap fsts).length = (n.ks.map cntN).sum := by
          rw [List.length_flatMap]
          congr 1
          exact List.map_congr_left (fun k _ => ih k)
        show (n.ks.flatMap fsts ++ [firstN n]).length = 1 + (n.ks.map cntN).sum
        rw [List.length_append,this]
        simp; omega
    have la : ∀ {l : List (Kd h × List (Nat × Nat))},(∀ e ∈ l,e ∈ es) → (l.flatMap fun e => e.2).length = (l.flatMap fun e => ats e.1.2.2).length := fun hl => flat_len fun e he => by rw [(h6 e (hl e he)).len,ats_len]
    have lp : ∀ {l : List (Kd h × List (Nat × Nat))},(∀ e ∈ l,e ∈ es) → (l.flatMap fun e => e.2).length = (l.flatMap fun e => pgs e.1.2.2).length := fun hl => flat_len fun e he => by rw [(h6 e (hl e he)).len,pgs_len]
    have lf : ∀ {l : List (Kd h × List (Nat × Nat))},(∀ e ∈ l,e ∈ es) → (l.flatMap fun e => e.2).length = (l.flatMap fun e => fsts e.1.2.2).length := fun hl => flat_len fun e he => by rw [(h6 e (hl e he)).len,fst_len]
    by_cases hi : i < (es.flatMap fun e => e.2).length
    · rw [List.getElem?_append_left hi] at hx
      obtain ⟨P,e,Q,i',rfl,rfl,h8⟩ := flat_at _ _ _ _ hx
      have hmem : e ∈ P ++ e :: Q := by simp
      have hP : ∀ q ∈ P,q ∈ P ++ e :: Q := fun q hq => by simp [hq]
      obtain ⟨F',m,x1,x2,x3,x4,x5,x6,x7,A,B,x8,x9⟩ := Ord.get (h6 e hmem) i' x h8
      have pick : ∀ {γ : Type} (f : Kd h × List (Nat × Nat) → List γ) (z : γ) (r : List γ),(P.flatMap fun e => e.2).length = (P.flatMap f).length → (f e)[i']? = some z → ((P ++ e :: Q).flatMap f ++ r)[(P.flatMap fun e => e.2).length + i']? = some z := by
        intro γ f z r hl hz
        rw [hl,List.flatMap_append,List.flatMap_cons,List.append_assoc,List.append_assoc,List.getElem?_append_right (by omega),show (P.flatMap f).length + i' - (P.flatMap f).length = i' by omega,List.getElem?_append_left (List.getElem?_eq_some_iff.1 hz).1]
        exact hz
      refine ⟨F',m,x1,fun k hk => ?_,?_,?_,?_,fun hk => ?_,fun hc => ?_,P.flatMap (fun e => ats e.1.2.2) ++ A,B ++ Q.flatMap (fun e => ats e.1.2.2) ++ [n.at_],?_,?_⟩
      · exact List.mem_cons_of_mem _ (List.mem_cons_of_mem _ (mem_dsF (List.mem_map.2 ⟨e,hmem,rfl⟩) (x2 k hk)))
      · rw [epgs]; exact pick _ _ _ (lp hP) x3
      · rw [efst]; exact pick _ _ _ (lf hP) x4
      · rw [eats]; exact pick _ _ _ (la hP) x5
      · have hw : Wf e.1.2.2 := hk.mem (by rw [h5]; exact List.mem_map.2 ⟨e,hmem,rfl⟩)
        refine ⟨(x6 hw.2).1,fun _ _ => (x6 hw.2).2.1 (by have := hw.1; omega) hw.1.2,fun _ => (x6 hw.2).2.2 ?_⟩
        have h4 := hw.1.1
        generalize e.1.2.2 = z at h4
        cases h with
        | zero => trivial
        | succ h => exact (show 2 ≤ z.size by omega)
      · rw [eflat,List.flatMap_append,List.flatMap_cons] at hc
        exact x7 hc.right.left
      · rw [eats,List.flatMap_append,List.flatMap_cons,x8]
        simp [List.append_assoc]
      · rw [List.length_append,la hP]; omega
    · rw [List.getElem?_append_right (by omega)] at hx
      have hi0 : i - (es.flatMap fun e => e.2).length = 0 := by
        cases hq : i - (es.flatMap fun e => e.2).length with
        | zero => rfl
        | succ q => rw [hq] at hx; simp at hx
      rw [hi0] at hx
      simp at hx
      subst hx
      have hie : i = (es.flatMap fun e => e.2).length := by omega
      refine ⟨_,n,hnd,fun k hk => hk,?_,?_,?_,fun hk => ⟨hk,fun q1 q2 => ⟨q1,q2⟩,fun q => q⟩,fun q => q,[],[],by simp,by rw [eats,hie,la (fun e he => he)]; simp⟩
      · rw [epgs,hie,lp (fun e he => he)]; simp
      · rw [efst,hie,lf (fun e he => he)]; simp
      · rw [eats,hie,la (fun e he => he)]; simp
end Go.Proofs.YtneammhkgmkkfaaGreatDoor.tr
namespace Go.Proofs.YtneammhkgmkkfaaGreatDoor.tr
open Go.RowKit Go.Proofs.YtneammhkgmkkfaaGreatDoor.er
set_option linter.unusedVariables false
set_option linter.unusedSimpArgs false
def OrdL (w : World) {h : Nat} (ds : List (Kd h)) (L : List (Nat × Nat)) : Prop := ∃ es : List (Kd h × List (Nat × Nat)),es.map (fun e => e.1) = ds ∧ (∀ e ∈ es,Ord w e.1.1 e.1.2.1 e.1.2.2 e.2) ∧ L = es.flatMap (fun e => e.2)
theorem OrdL.nil (w : World) {h : Nat} : OrdL w ([] : List (Kd h)) [] := ⟨[],rfl,by simp,rfl⟩
theorem OrdL.snoc {w : World} {h : Nat} {ds : List (Kd h)} {L L' : List (Nat × Nat)} {d : Kd h} (hl : OrdL w ds L) (hd : Ord w d.1 d.2.1 d.2.2 L') : OrdL w (ds ++ [d]) (L ++ L') := by
  obtain ⟨es,rfl,h2,rfl⟩ := hl
  refine ⟨es ++ [(d,L')],by simp,fun e he => ?_,by simp⟩
  rcases List.mem_append.1 he with he | he
  · exact h2 e he
  · rw [List.mem_singleton.1 he]; exact hd
theorem OrdL.len {w : World} {h : Nat} {ds : List (Kd h)} {L : List (Nat × Nat)} (hl : OrdL w ds L) : L.length = (ds.flatMap fun d => ats d.2.2).length := by
  obtain ⟨es,rfl,h2,rfl⟩ := hl
  rw [List.flatMap_map]
  exact flat_len fun e he => by rw [(h2 e he).len,ats_len]
theorem OrdL.inner {w : World} {h b q c : Nat} {ds : List (Kd h)} {n : Nd (h + 1)} {L : List (Nat × Nat)} (hin : InAt w b q c n.at_ ds) (ek : n.ks = ds.map fun d => d.2.2) (hl : OrdL w ds L) : Ord w (b :: q :: dsF ds) (ptrV (h + 1) b) n (L ++ [(h + 1,b)]) := by
  obtain ⟨es,rfl,h2,rfl⟩ := hl
  refine ⟨b,q,c,es,rfl,rfl,?_,?_,?_,h2,rfl⟩
  · have := hin.1; rw [List.length_map] at this; exact this
  · have := hin.2.1; rw [List.map_map] at this; exact this
  · rw [ek,List.map_map]; rfl
def EachOrd (h g : Nat) (lb : Array Value) (S : List (Nat × Nat) → World → Prop) (G : Nat → Prop) (w0 : World) : Prop :=
  ∀ (F : List Nat) (v : Value) (n : Nd h) (done : List (Nat × Nat)) (w : World),NdAt w0 F v n → (∀ k ∈ F,¬ G k) → Kw n → n.size ≤ 100 → done.length + cntN n ≤ 16777216 → S done w →
    Calls Tryz.prog 54 #[v,.func (.func g) #[] lb] w fun x w' => x = .returned (.tuple #[]) ∧ ∃ L,S (done ++ L) w' ∧ Ord w0 F v n L
set_option maxHeartbeats 4000000 in
set_option maxRecDepth 100000 in
theorem eachO_leaf (g : Nat) (lb : Array Value) (S : List (Nat × Nat) → World → Prop) (G : Nat → Prop) (w0 : World) (H : HandN g lb S G w0) : EachOrd 0 g lb S G w0 := by
  intro F v n done w hn hG hk hs hN hS
  obtain ⟨b,q,c,rfl,rfl,hl⟩ := leaf_open hn
  have eg := H.eg
  have HCL := Lib.hid (H.call done (0,b) w (by have : cntN n = 1 := rfl; omega) hS)
  have HAT : Hid (Ord w0 [b,q] (ptrV 0 b) n [(0,b)]) := ⟨b,q,c,rfl,rfl,hl,rfl⟩
  have htb := ta_li
  clear hl hn hG hk hs hN hS H
  show Calls Tryz.prog 54 #[.iface 117 (.pointer (some ⟨b,0,none⟩)),.func (.func g) #[] lb] w _
  have HCL2 : Hid (Calls Tryz.prog g (#[.iface 117 (.pointer (some ⟨b,0,none⟩))] ++ lb) w fun e w' => e = .returned (.tuple #[]) ∧ S (done ++ [(0,b)]) w') := HCL.out
  go_enter Tryz.func54,Tryz.ntmps54
  go_wp2_with fail
  refine HCL2.out.mono ?_
  rintro e w5 ⟨rfl,hs5⟩
  have HS5 := Lib.hid hs5
  clear hs5
  go_wp2_with fail
  go_end0
  exact ⟨rfl,_,HS5.out,HAT.out⟩
set_option maxHeartbeats 4000000 in
set_option maxRecDepth 100000 in
theorem eachO_inner (h g : Nat) (lb : Array Value) (S : List (Nat × Nat) → World → Prop) (G : Nat → Prop) (w0 : World) (H : HandN g lb S G w0) (IH : EachOrd h g lb S G w0) : EachOrd (h + 1) g lb S G w0 := by
  intro F v n done w hn hG hk hs hN hS
  obtain ⟨b,q,c,ds,rfl,rfl,hin,ek⟩ := inner_open hn
  have eg := H.eg
  have HH := Lib.hid H
  have HL : Hid (∀ done wq,S done wq → InAt wq b q c n.at_ ds) := fun done wq h => ⟨hin.1.keep (H.keep done wq h) (hG b (by simp)),hin.2.1.keep (H.keep done wq h) (hG q (by simp)),kids_keep (H.keep done wq h) hin.2.2 (fun k hk => hG k (by simp [hk]))⟩
  have hlen : n.ks.length = ds.length := by rw [ek,List.length_map]
  have hs' : ds.length ≤ 100 := by have : n.ks.length ≤ 100 := hs; omega
  have hats : ats n = n.ks.flatMap ats ++ [n.at_] := rfl
  obtain ⟨m,hm⟩ : ∃ m,ds.length = m := ⟨_,rfl⟩
  have hsum : ∀ j d,ds[j]? = some d → done.length + (((ds.take j).flatMap fun d => ats d.2.2).length) + cntN d.2.2 + 1 ≤ 16777216 := by
    intro j d hd
    obtain ⟨e,hl⟩ := list_at hd
    have h1 := ats_len n
    rw [hats,ek,e] at h1
    simp only [List.map_append,List.map_cons,List.map_nil,List.flatMap_append,List.flatMap_cons,List.flatMap_nil,List.length_append,List.append_nil,List.length_cons,List.length_nil] at h1
    have h2 := ats_len d.2.2
    have h3 : ((ds.take j).flatMap fun d => ats d.2.2).length = (((ds.take j).map fun d => d.2.2).flatMap ats).length := by rw [List.flatMap_map]
    omega
  have HKD : Hid (∀ j,j < m → ∃ (d : Kd h) (kb : Nat),ds[j]? = some d ∧ (∀ done wq,S done wq → wq.cell? ⟨q,j,none⟩ = some (.iface (ndT h) (.pointer (some ⟨kb,0,none⟩)))) ∧ ∀ (L : List (Nat × Nat)) wq,L.length = ((ds.take j).flatMap fun d => ats d.2.2).length → S (done ++ L) wq → Calls Tryz.prog 54 #[.iface (ndT h) (.pointer (some ⟨kb,0,none⟩)),.func (.func g) #[] lb] wq fun x w' => x = .returned (.tuple #[]) ∧ ∃ L',S (done ++ L ++ L') w' ∧ Ord w0 d.1 d.2.1 d.2.2 L') := by
    intro j hj
    have hjl : j < ds.length := by omega
    have hd := List.getElem?_eq_getElem hjl
    have hmem := List.getElem_mem hjl
    obtain ⟨kb,kF,f1,f2⟩ := (hin.2.2 _ hmem).form
    have hkw : Wf (ds[j]'hjl).2.2 := hk.mem (by rw [ek]; exact List.mem_map.2 ⟨_,hmem,rfl⟩)
    refine ⟨ds[j]'hjl,kb,hd,fun done wq h => ?_,fun L wq hLL h => ?_⟩
    · rw [← f2]
      exact (HL.out _ _ h).2.1.cell (by rw [List.getElem?_map,hd]; rfl)
    · rw [← f2]
      have := hsum j _ hd
      refine (IH _ _ _ (done ++ L) wq (hin.2.2 _ hmem) (fun k hk => hG k (List.mem_cons_of_mem _ (List.mem_cons_of_mem _ (mem_dsF hmem hk)))) hkw.2 (by have := hkw.1; omega) (by rw [List.length_append]; omega) h).mono ?_
      rintro x w' ⟨rfl,L',l1,l2⟩
      exact ⟨rfl,L',l1,l2⟩
  have HFL : Hid (∀ j d,ds[j]? = some d → ds.take (j + 1) = ds.take j ++ [d]) := fun j d hd => by rw [List.take_add_one,hd]; rfl
  have HFIN : Hid (∀ L wq,S (done ++ L) wq → OrdL w0 ds L → Calls Tryz.prog g (#[.iface 94 (.pointer (some ⟨b,0,none⟩))] ++ lb) wq fun e w' => e = .returned (.tuple #[]) ∧ ∃ L,S (done ++ L) w' ∧ Ord w0 (b :: q :: dsF ds) (ptrV (h + 1) b) n L) := by
    intro L wq hS2 hA
    have hlt : (done ++ L).length < 16777216 := by
      have h1 := ats_len n
      rw [hats,ek,List.flatMap_map] at h1
      simp only [List.length_append,List.length_cons,List.length_nil] at h1
      rw [List.length_append,hA.len]
      omega
    refine (H.call (done ++ L) (h + 1,b) wq hlt hS2).mono ?_
    rintro e w' ⟨rfl,hs5⟩
    exact ⟨rfl,L ++ [(h + 1,b)],by rw [← List.append_assoc]; exact hs5,hA.inner hin ek⟩
  have c1 : w.cell? ⟨b,1,none⟩ = some (.slice (some ⟨q,0,none⟩) m c) := by have := (HL.out done w hS).1.cell 1; rw [hm] at this; exact this
  have HS0 := Lib.hid hS
  have HMM := Lib.hid hm
  have hta := ta_ii
  have hmi : (m : Int) ≤ 100 := by omega
  clear hsum hats hs' hlen ek hin hn hG hk hs hN hS H IH hm
  show Calls Tryz.prog 54 #[.iface 94 (.pointer (some ⟨b,0,none⟩)),.func (.func g) #[] lb] w _
  go_enter Tryz.func54,Tryz.ntmps54
  go_wp2_with fail
  go_loopw [7,19] (fun s7 i wr => ∃ (j : Nat) (L : List (Nat × Nat)),j ≤ m ∧ i = .int .i64 j ∧ Hid (S (done ++ L) wr) ∧ Hid (OrdL w0 (ds.take j) L)) (fun _ i _ => m - (intOf i).toNat)
  case atStart => exact ⟨0,[],Nat.zero_le _,rfl,by show S _ _; simpa using HS0.out,by show OrdL _ _ _; rw [List.take_zero]; exact OrdL.nil _⟩
  case round =>
    obtain ⟨j,L,hj,rfl,HS,HA⟩ := hrel
    by_cases hlt : j < m
    · have hji : (j : Int) < (m : Int) := by omega
      obtain ⟨d,kb,d1,d2,d3⟩ := HKD.out j hlt
      have c2 := d2 _ _ HS.out
      have HCL := Lib.hid (d3 L wr HA.out.len HS.out)
      have HT := Lib.hid (HFL.out j d d1)
      clear d1 d2 d3
      go_wp2_with fail
      with_reducible refine (HCL.out).mono ?_
      rintro e w5 ⟨rfl,L',l1,l2⟩
      have HS5 : Hid (S (done ++ (L ++ L')) w5) := by show S _ _; rw [← List.append_assoc]; exact l1
      have HA5 : Hid (OrdL w0 (ds.take (j + 1)) (L ++ L')) := by show OrdL _ _ _; rw [HT.out]; exact HA.out.snoc l2
      clear l1 l2
      go_wp2_with fail
      go_roundw
      case rel => exact ⟨j + 1,L ++ L',by omega,by go_num,HS5,HA5⟩
      case measure => simp [intOf]; omega
    · obtain rfl : j = m := by omega
      have hfull : ds.take j = ds := by rw [← HMM.out]; exact List.take_length
      rw [hfull] at HA
      have HCF := Lib.hid (HFIN.out L wr HS.out HA.out)
      go_wp2_with fail
      refine HCF.out.mono ?_
      rintro e w5 ⟨rfl,L',l1,l2⟩
      have HS5 := Lib.hid l1
      have HA5 := Lib.hid l2
      clear l1 l2
      go_wp2_with fail
      go_end0
      exact ⟨rfl,_,HS5.out,HA5.out⟩
theorem eachO_any (g : Nat) (lb : Array Value) (S : List (Nat × Nat) → World → Prop) (G : Nat → Prop) (w0 : World) (H : HandN g lb S G w0) : ∀ h,EachOrd h g lb S G w0
  | 0 => eachO_leaf g lb S G w0 H
  | h + 1 => eachO_inner h g lb S G w0 H (eachO_any g lb S G w0 H h)
def Tree.Ord (w : World) (F : List Nat) (p : Nat) : Tree → List (Nat × Nat) → Prop
  | .no,L => F = [p] ∧ Whole w p 69 #[.nilIface] ∧ L = []
  | .top h n,L => ∃ F' v,F = p :: F' ∧ Whole w p 69 #[v] ∧ tr.Ord w F' v n L ∧ F'.Nodup ∧ p ∉ F'
def NodesOrd (w : World) (F : List Nat) (p : Nat) (T : Tree) (x : Ending) (w' : World) : Prop := ∃ v' L,x = .returned v' ∧ w'.ownsRow w.heap.size 62 1 v' L.length (L.map pv) ∧ T.Ord w F p L ∧ Below w.heap.size w w'
set_option maxHeartbeats 4000000 in
set_option maxRecDepth 100000 in
theorem nodesO_any (w : World) (F : List Nat) (p : Nat) (T : Tree) (ht : TrAt w F p T) (hok : T.Ok) (hN : T.cnt ≤ 16777216) :
    Calls Tryz.prog 27 #[.pointer (some ⟨p,0,none⟩)] w (NodesOrd w F p T) := by
  obtain ⟨w3,hw3⟩ : ∃ w3,w.alloc (.cells #[.slice none 0 0] 75) = w3 := ⟨_,rfl⟩
  have k3 : Keep (fun _ => False) w w3 := by rw [← hw3]; exact (Keep.refl _ _).alloc _
  have hs3 : w3.heap.size = w.heap.size + 1 := by rw [← hw3]; simp
  have b3 : Whole w3 w.heap.size 75 #[.slice none 0 0] := by rw [← hw3]; exact Whole.new _ _ _
  have hNS : NodS w (w.heap.size + 1) w.heap.size [] w3 := ⟨k3,by omega,by omega,by omega,_,b3,⟨rfl,.inl ⟨rfl,rfl⟩⟩⟩
  cases T with
  | no =>
    have c0 := (ht.2.keep k3 (fun h => h)).cell 0
    simp at c0
    have c1 := b3.cell 0
    simp at c1
    have HB : Hid (Below w.heap.size w w3) := ⟨k3.os,k3.tape,k3.output,k3.size,fun j hj => k3.block j hj (fun h => h)⟩
    have HT0 : Hid (Tree.no.Ord w F p []) := ⟨ht.1,ht.2,rfl⟩
    clear hNS b3 hs3 k3 ht hok hN
    go_enter Tryz.func27,Tryz.ntmps27
    go_wp2_with fail
    go_ret
    exact ⟨_,[],rfl,⟨rfl,.inl ⟨rfl,rfl⟩⟩,HT0.out,HB.out⟩
  | top h n =>
    obtain ⟨F',v,rfl,hp,hn,hpn⟩ := ht
    obtain ⟨q1,q2,q3,q4⟩ := hok.parts
    obtain ⟨kb,kF,f1,f2⟩ := hn.at_.form
    have c0 := (hp.keep k3 (fun h => h)).cell 0
    rw [f2] at c0
    simp at c0
    have hE := eachO_any _ _ _ _ w (nod_hand w (w.heap.size + 1) w.heap.size) h F' v n [] w3 hn.at_ (fun _ _ h => h) q1 (by omega) (by have h0 : cntN n ≤ 16777216 := hN; simpa using h0) hNS
    rw [f2] at hE
    have HE : Hid (Calls Tryz.prog 54 #[.iface (ndT h) (.pointer (some ⟨kb,0,none⟩)),.func (.func 55) #[] #[.pointer (some ⟨w.heap.size,0,none⟩)]] w3 fun x w' => x = .returned (.tuple #[]) ∧ ∃ A c m,w'.cell? ⟨w.heap.size,0,none⟩ = some (.slice A m c) ∧ NodesOrd w (p :: F') p (.top h n) (.returned (.slice A m c)) w') := by
      refine hE.mono ?_
      rintro x w' ⟨rfl,L,⟨r1,r2,r3,r4,v,r9,r10⟩,hA⟩
      simp only [List.nil_append] at r10
      obtain ⟨A,c,rfl⟩ := own_slice r10
      exact ⟨rfl,A,c,_,r9.cell 0,_,L,rfl,own_base r10 (by omega),⟨F',v,rfl,hp,by rw [f2]; exact hA,hn.nd,hpn⟩,⟨r1.os,r1.tape,r1.output,r1.size,fun j hj => r1.block j hj (fun h => h)⟩⟩
    obtain ⟨AA,hAA⟩ : ∃ AA,Tree.top h n = AA := ⟨_,rfl⟩
    rw [hAA] at HE ⊢
    clear hAA hE f1 f2 q1 q2 q3 q4 hn hp hpn hNS b3 hs3 k3 hok hN
    go_enter Tryz.func27,Tryz.ntmps27
    go_wp2_with fail
    with_reducible refine HE.out.mono ?_
    rintro e w5 ⟨rfl,A,c,m,z1,z2⟩
    have HZ2 := Lib.hid z2
    clear z2
    go_wp2_with fail
    go_ret
    exact HZ2.out
end Go.Proofs.YtneammhkgmkkfaaGreatDoor.tr
namespace Go.Proofs.YtneammhkgmkkfaaGreatDoor.tr
open Go.RowKit Go.Proofs.YtneammhkgmkkfaaGreatDoor.er
set_option linter.unusedVariables false
set_option linter.unusedSimpArgs false
structure Her (P : {h : Nat} → Nd h → Prop) : Prop where
  leaf : ∀ l,P (mkL (-1) l)
  inner : ∀ {h : Nat} (ks : List (Nd h)),(∀ k ∈ ks,P k) → P (mkI (-1) ks)
  kids : ∀ {h : Nat} (n : Nd (h + 1)),P n → ∀ k ∈ n.ks,P k
def nfs {h : Nat} (n : Nd h) : List Int := (ats n).filter fun a => decide (a ≠ -1)
def frN {h : Nat} (n : Nd h) : Nat := ((ats n).filter fun a => decide (a = -1)).length
theorem ats_in {h : Nat} (n : Nd (h + 1)) : ats n = n.ks.flatMap ats ++ [n.at_] := rfl
theorem filt_flat {α β : Type} (p : β → Bool) (f : α → List β) : ∀ l : List α,(l.flatMap f).filter p = l.flatMap fun x => (f x).filter p
  | [] => rfl
  | x :: l => by rw [List.flatMap_cons,List.flatMap_cons,List.filter_append,filt_flat p f l]
theorem nfs_in {h : Nat} (n : Nd (h + 1)) : nfs n = n.ks.flatMap nfs ++ if n.at_ = -1 then [] else [n.at_] := by
  unfold nfs
  rw [ats_in,List.filter_append,filt_flat]
  by_cases e : n.at_ = -1 <;> simp [e]
theorem nfs_fresh {h : Nat} (ks : List (Nd h)) : nfs (mkI (-1) ks) = ks.flatMap nfs := by
  rw [nfs_in]
  show ks.flatMap nfs ++ (if (-1 : Int) = -1 then [] else _) = _
  simp
theorem nfs_kids {h : Nat} (n : Nd (h + 1)) : (n.ks.flatMap nfs).Sublist (nfs n) := by rw [nfs_in]; exact List.sublist_append_left _ _
def frs {h : Nat} (ks : List (Nd h)) : Nat := (ks.map frN).sum
theorem frs_append {h : Nat} (p q : List (Nd h)) : frs (p ++ q) = frs p + frs q := by simp [frs]
theorem frs_cons {h : Nat} (k : Nd h) (q : List (Nd h)) : frs (k :: q) = frN k + frs q := by simp [frs]
theorem frN_in {h : Nat} (n : Nd (h + 1)) : frN n = frs n.ks + if n.at_ = -1 then 1 else 0 := by
  unfold frN frs
  rw [ats_in,List.filter_append,filt_flat,List.length_append,List.length_flatMap]
  by_cases e : n.at_ = -1 <;> simp [e] <;> rfl
theorem frN_mk {h : Nat} (ks : List (Nd h)) : frN (mkI (-1) ks) = frs ks + 1 := by
  rw [frN_in]
  show frs ks + (if (-1 : Int) = -1 then 1 else 0) = _
  simp
theorem frN_leaf (l : List Ext) : frN (mkL (-1) l) = 1 := rfl
def kfr : {h : Nat} → Nd h → Nat
  | 0,_ => 0
  | _ + 1,n => frs n.ks
theorem frN_own : ∀ {h : Nat} (n : Nd h),frN n = kfr n + if n.at_ = -1 then 1 else 0
  | 0,n => by
    unfold frN
    show ([n.at_].filter fun a => decide (a = -1)).length = 0 + _
    by_cases e : n.at_ = -1 <;> simp [e]
  | h + 1,n => frN_in n
theorem shift_at {h : Nat} (x y : Nd h) (k : Nat) : (shiftN x y k).1.at_ = -1 ∧ (shiftN x y k).2.at_ = -1 := by
  cases h with
  | zero => exact ⟨rfl,rfl⟩
  | succ h => exact ⟨rfl,rfl⟩
theorem shift_nfs {h : Nat} (x y : Nd h) (k : Nat) : (nfs (shiftN x y k).1 ++ nfs (shiftN x y k).2).Sublist (nfs x ++ nfs y) := by
  cases h with
  | zero => exact List.nil_sublist _
  | succ h =>
    show (nfs (mkI (-1) ((x.ks ++ y.ks).take k)) ++ nfs (mkI (-1) ((x.ks ++ y.ks).drop k))).Sublist _
    rw [nfs_fresh,nfs_fresh,← List.flatMap_append,List.take_append_drop,List.flatMap_append]
    exact (nfs_kids x).append (nfs_kids y)
theorem shift_kfr {h : Nat} (x y : Nd h) (k : Nat) : kfr (shiftN x y k).1 + kfr (shiftN x y k).2 = kfr x + kfr y := by
  cases h with
  | zero => rfl
  | succ h =>
    show frs ((x.ks ++ y.ks).take k) + frs ((x.ks ++ y.ks).drop k) = frs x.ks + frs y.ks
    rw [← frs_append,List.take_append_drop,frs_append]
theorem shift_her {P : {h : Nat} → Nd h → Prop} (H : Her @P) {h : Nat} (x y : Nd h) (k : Nat) (hx : P x) (hy : P y) : P (shiftN x y k).1 ∧ P (shiftN x y k).2 := by
  cases h with
  | zero => exact ⟨H.leaf _,H.leaf _⟩
  | succ h =>
    have hk : ∀ z ∈ x.ks ++ y.ks,P z := fun z hz => by
      rcases List.mem_append.1 hz with hz | hz
      · exact H.kids x hx z hz
      · exact H.kids y hy z hz
    exact ⟨H.inner _ fun z hz => hk z (List.mem_of_mem_take hz),H.inner _ fun z hz => hk z (List.mem_of_mem_drop hz)⟩
theorem mend_form {h : Nat} (P Q : List (Nd h)) (k : Nd h) : mendL (P ++ k :: Q) P.length = P ++ k :: Q ∨ ∃ A x y B K,P ++ k :: Q = A ++ x :: y :: B ∧ (k = x ∨ k = y) ∧
    (mendL (P ++ k :: Q) P.length = A ++ (shiftN x y K).1 :: (shiftN x y K).2 :: B ∨ mendL (P ++ k :: Q) P.length = A ++ (shiftN x y K).1 :: B) := by
  have hP : 0 < P.length → ∃ P' p,P = P' ++ [p] ∧ P.length - 1 = P'.length := fun hp => by
    rcases List.eq_nil_or_concat P with e | ⟨P',p,e⟩
    · rw [e] at hp; simp at hp
    · exact ⟨P',p,by rw [e,List.concat_eq_append],by rw [e]; simp⟩
  have hQ : P.length + 1 < (P ++ k :: Q).length → ∃ q Q',Q = q :: Q' := fun hq => by
    cases Q with
    | nil => simp at hq
    | cons q Q' => exact ⟨q,Q',rfl⟩
  unfold mendL
  split
  · rename_i c
    obtain ⟨P',p,rfl,e⟩ := hP c.1
    refine .inr ⟨P',p,k,Q,szAt (P' ++ p :: k :: Q) P'.length - 1,by simp,.inr rfl,.inl ?_⟩
    rw [e]
    have := shiftL_mid P' Q p k (szAt (P' ++ p :: k :: Q) P'.length - 1)
    simpa using this
  · split
    · rename_i c1 c
      obtain ⟨q,Q',rfl⟩ := hQ c.1
      exact .inr ⟨P,k,q,Q',_,rfl,.inl rfl,.inl (shiftL_mid P Q' k q _)⟩
    · split
      · rename_i c1 c2 c
        obtain ⟨P',p,rfl,e⟩ := hP c
        refine .inr ⟨P',p,k,Q,p.size + k.size,by simp,.inr rfl,.inr ?_⟩
        rw [e]
        have := mergeL_mid P' Q p k
        simpa using this
      · split
        · rename_i c1 c2 c3 c
          obtain ⟨q,Q',rfl⟩ := hQ c
          exact .inr ⟨P,k,q,Q',_,rfl,.inl rfl,.inr (mergeL_mid P Q' k q)⟩
        · exact .inl rfl
theorem mend_her {P : {h : Nat} → Nd h → Prop} (H : Her @P) {h : Nat} (A B : List (Nd h)) (k : Nd h) (hk : ∀ z ∈ A ++ k :: B,P z) : ∀ z ∈ mendL (A ++ k :: B) A.length,P z := by
  rcases mend_form A B k with e | ⟨A',x,y,B',K,e,_,e2 | e2⟩
  · rw [e]; exact hk
  · rw [e] at hk
    obtain ⟨s1,s2⟩ := shift_her H x y K (hk x (by simp)) (hk y (by simp))
    rw [e2]
    intro z hz
    simp only [List.mem_append,List.mem_cons] at hz
    rcases hz with hz | rfl | rfl | hz
    · exact hk z (by simp [hz])
    · exact s1
    · exact s2
    · exact hk z (by simp [hz])
  · rw [e] at hk
    obtain ⟨s1,s2⟩ := shift_her H x y K (hk x (by simp)) (hk y (by simp))
    rw [e2]
    intro z hz
    simp only [List.mem_append,List.mem_cons] at hz
    rcases hz with hz | rfl | hz
    · exact hk z (by simp [hz])
    · exact s1
    · exact hk z (by simp [hz])
theorem mend_nfs {h : Nat} (A B : List (Nd h)) (k : Nd h) : ((mendL (A ++ k :: B) A.length).flatMap nfs).Sublist ((A ++ k :: B).flatMap nfs) := by
  rcases mend_form A B k with e | ⟨A',x,y,B',K,e,_,e2 | e2⟩
  · rw [e]; exact List.Sublist.refl _
  · rw [e2,e]
    simp only [List.flatMap_append,List.flatMap_cons]
    have := shift_nfs x y K
    have h2 := (List.Sublist.refl (A'.flatMap nfs)).append (this.append (List.Sublist.refl (B'.flatMap nfs)))
    simpa only [List.append_assoc] using h2
  · rw [e2,e]
    simp only [List.flatMap_append,List.flatMap_cons]
    have := (List.sublist_append_left (nfs (shiftN x y K).1) (nfs (shiftN x y K).2)).trans (shift_nfs x y K)
    have h2 := (List.Sublist.refl (A'.flatMap nfs)).append (this.append (List.Sublist.refl (B'.flatMap nfs)))
    simpa only [List.append_assoc] using h2
theorem mend_frs {h : Nat} (A B : List (Nd h)) (k : Nd h) (hk : k.at_ = -1) : frs (mendL (A ++ k :: B) A.length) ≤ frs (A ++ k :: B) + 1 := by
  rcases mend_form A B k with e | ⟨A',x,y,B',K,e,hxy,e2 | e2⟩
  · rw [e]; omega
  · have q := shift_kfr x y K
    obtain ⟨s1,s2⟩ := shift_at x y K
    have f1 := frN_own (shiftN x y K).1
    have f2 := frN_own (shiftN x y K).2
    have fx := frN_own x
    have fy := frN_own y
    rw [s1] at f1
    rw [s2] at f2
    rw [e2,e,frs_append,frs_append,frs_cons,frs_cons,frs_cons,frs_cons]
    simp only [if_true] at f1 f2
    rcases hxy with rfl | rfl
    · rw [hk] at fx; simp only [if_true] at fx
      split at fy <;> omega
    · rw [hk] at fy; simp only [if_true] at fy
      split at fx <;> omega
  · have q := shift_kfr x y K
    obtain ⟨s1,s2⟩ := shift_at x y K
    have f1 := frN_own (shiftN x y K).1
    have fx := frN_own x
    have fy := frN_own y
    rw [s1] at f1
    rw [e2,e,frs_append,frs_append,frs_cons,frs_cons,frs_cons]
    simp only [if_true] at f1
    rcases hxy with rfl | rfl
    · rw [hk] at fx; simp only [if_true] at fx
      split at fy <;> omega
    · rw [hk] at fy; simp only [if_true] at fy
      split at fx <;> omega
def sibs {h : Nat} (o : Option (Nd h)) : List (Nd h) := match o with | none => [] | some s => [s]
structure InsK (P : {h : Nat} → Nd h → Prop) {h : Nat} (n : Nd h) (r : Nd h × Option (Nd h)) : Prop where
  her : P n → ∀ z ∈ r.1 :: sibs r.2,P z
  nf : ((r.1 :: sibs r.2).flatMap nfs).Sublist (nfs n)
  fr : frs (r.1 :: sibs r.2) ≤ frN n + 2 * (h + 1)
theorem ins_kept {P : {h : Nat} → Nd h → Prop} (H : Her @P) : ∀ {h : Nat} (n : Nd h) (e : Ext),Kw n → 1 ≤ n.size → InsK @P n (insN n e)
  | 0,n,e,hk,h1 => by
    unfold insN
    split
    · refine ⟨fun _ z hz => ?_,List.nil_sublist _,?_⟩
      · simp only [sibs,List.mem_cons,List.not_mem_nil,or_false] at hz
        rcases hz with rfl | rfl <;> exact H.leaf _
      · show frs [mkL (-1) _,mkL (-1) _] ≤ _
        simp only [frs_cons,frN_leaf]
        show 1 + (1 + 0) ≤ _
        omega
    · refine ⟨fun _ z hz => ?_,List.nil_sublist _,?_⟩
      · simp only [sibs,List.mem_cons,List.not_mem_nil,or_false] at hz
        rw [hz]; exact H.leaf _
      · show frs [mkL (-1) _] ≤ _
        simp only [frs_cons,frN_leaf]
        show 1 + 0 ≤ _
        omega
  | h + 1,n,e,hk,h1 => by
    have h1' : 1 ≤ n.ks.length := h1
    have hu := under_lt n.ks e.fr h1'
    obtain ⟨A,B,he,hp⟩ := at_place (dft h) hu
    obtain ⟨k,hkd⟩ : ∃ k,n.ks.getD (under n.ks e.fr) (dft h) = k := ⟨_,rfl⟩
    rw [hkd] at he
    have hw : Wf k := hk.mem (by rw [he]; simp)
    have ih := ins_kept H k e hw.2 (by have := hw.1; omega)
    have hset : ∀ k',n.ks.set (under n.ks e.fr) k' = A ++ k' :: B := fun k' => by
      rw [← hp]
      conv => lhs; rw [he]
      exact set_mid A B k k'
    have hpl : under n.ks e.fr + 1 = A.length + 1 := by rw [hp]
    have hfl : n.ks.flatMap nfs = A.flatMap nfs ++ (nfs k ++ B.flatMap nfs) := by rw [he]; simp
    have hfr : frN n = frs A + frN k + frs B + if n.at_ = -1 then 1 else 0 := by
      rw [frN_in,he,frs_append,frs_cons]; omega
    have hn : insN n e = (match (insN k e).2 with | none => (mkI (-1) (A ++ (insN k e).1 :: B),none) | some s => splitI (A ++ [(insN k e).1] ++ s :: B)) := by
      conv => lhs; unfold insN
      simp only [hkd,hset,hpl,take_mid,drop_mid]
      cases (insN k e).2 <;> rfl
    have key : ∃ r : List (Nd h),((insN n e).1.ks ++ (sibs (insN n e).2).flatMap fun s => s.ks) = A ++ r ++ B ∧ r = (insN k e).1 :: sibs (insN k e).2 ∧ (∀ z ∈ (insN n e).1 :: sibs (insN n e).2,z.at_ = -1) ∧ (sibs (insN n e).2).length ≤ 1 := by
      rw [hn]
      obtain ⟨R,hR⟩ : ∃ R,insN k e = R := ⟨_,rfl⟩
      rw [hR]
      obtain ⟨k1,o⟩ := R
      cases o with
      | none => exact ⟨[k1],by simp [sibs],rfl,by simp [sibs]; rfl,by simp [sibs]⟩
      | some s =>
        refine ⟨[k1,s],?_,rfl,?_,?_⟩
        · show ((splitI (A ++ [k1] ++ s :: B)).1.ks ++ (sibs (splitI (A ++ [k1] ++ s :: B)).2).flatMap fun s => s.ks) = _
          unfold splitI
          split
          · simp only [sibs,ks_mk,List.flatMap_cons,List.flatMap_nil,List.append_nil,List.take_append_drop]
            simp
          · simp [sibs]
        · show ∀ z ∈ (splitI (A ++ [k1] ++ s :: B)).1 :: sibs (splitI (A ++ [k1] ++ s :: B)).2,z.at_ = -1
          unfold splitI
          split
          · intro z hz
            simp only [sibs,List.mem_cons,List.not_mem_nil,or_false] at hz
            rcases hz with rfl | rfl <;> rfl
          · intro z hz
            simp only [sibs,List.mem_cons,List.not_mem_nil,or_false] at hz
            rw [hz]; rfl
        · show (sibs (splitI (A ++ [k1] ++ s :: B)).2).length ≤ 1
          unfold splitI
          split <;> simp [sibs]
    obtain ⟨r,k1,rfl,k2,k3⟩ := key
    have inn : ∀ z : Nd (h + 1),z.at_ = -1 → z = mkI (-1) z.ks := fun z hz => by
      rw [← hz]; rfl
    have nfz : ∀ zs : List (Nd (h + 1)),(∀ z ∈ zs,z.at_ = -1) → zs.flatMap nfs = (zs.flatMap fun s => s.ks).flatMap nfs := by
      intro zs
      induction zs with
      | nil => intro _; rfl
      | cons z zs ihz =>
        intro hz
        rw [List.flatMap_cons,List.flatMap_cons,List.flatMap_append,← ihz (fun y hy => hz y (by simp [hy]))]
        congr 1
        rw [inn z (hz z (by simp)),nfs_fresh]; rfl
    have frz : ∀ zs : List (Nd (h + 1)),(∀ z ∈ zs,z.at_ = -1) → frs zs = frs (zs.flatMap fun s => s.ks) + zs.length := by
      intro zs
      induction zs with
      | nil => intro _; rfl
      | cons z zs ihz =>
        intro hz
        rw [frs_cons,List.flatMap_cons,frs_append,ihz (fun y hy => hz y (by simp [hy]))]
        have : frN z = frs z.ks + 1 := by rw [frN_in,hz z (by simp)]; simp
        simp; omega
    have k1' : ((insN n e).1 :: sibs (insN n e).2).flatMap (fun s => s.ks) = A ++ ((insN k e).1 :: sibs (insN k e).2) ++ B := by rw [List.flatMap_cons]; exact k1
    refine ⟨fun hP z hz => ?_,?_,?_⟩
    · rw [inn z (k2 z hz)]
      refine H.inner _ fun y hy => ?_
      have hy2 : y ∈ A ++ ((insN k e).1 :: sibs (insN k e).2) ++ B := by
        rw [← k1']; exact List.mem_flatMap.2 ⟨z,hz,hy⟩
      have hkids := H.kids n hP
      rw [he] at hkids
      rcases List.mem_append.1 hy2 with hy2 | hy2
      · rcases List.mem_append.1 hy2 with hy2 | hy2
        · exact hkids y (by simp [hy2])
        · exact ih.her (hkids k (by simp)) y hy2
      · exact hkids y (by simp [hy2])
    · rw [nfz _ k2,k1',List.flatMap_append,List.flatMap_append]
      refine List.Sublist.trans ?_ (nfs_kids n)
      rw [hfl,List.append_assoc]
      exact (List.Sublist.refl _).append (ih.nf.append (List.Sublist.refl _))
    · rw [frz _ k2,k1',frs_append,frs_append,hfr,List.length_cons]
      have := ih.fr
      split <;> omega
structure RemK (P : {h : Nat} → Nd h → Prop) {h : Nat} (n : Nd h) (r : Nd h) : Prop where
  her : P n → P r
  nf : (nfs r).Sublist (nfs n)
  fr : frN r ≤ frN n + 2 * h + 1
  at_ : r.at_ = -1
theorem rem_kept {P : {h : Nat} → Nd h → Prop} (H : Her @P) : ∀ {h : Nat} (n : Nd h) (s : Int),Kw n → 1 ≤ n.size → RemK @P n (remN n s)
  | 0,n,s,hk,h1 => ⟨fun _ => H.leaf _,List.nil_sublist _,by show 1 ≤ _; omega,rfl⟩
  | h + 1,n,s,hk,h1 => by
    have h1' : 1 ≤ n.ks.length := h1
    have hu := under_lt n.ks s h1'
    obtain ⟨A,B,he,hp⟩ := at_place (dft h) hu
    obtain ⟨k,hkd⟩ : ∃ k,n.ks.getD (under n.ks s) (dft h) = k := ⟨_,rfl⟩
    rw [hkd] at he
    have hw : Wf k := hk.mem (by rw [he]; simp)
    have ih := rem_kept H k s hw.2 (by have := hw.1; omega)
    have hset : ∀ k',n.ks.set (under n.ks s) k' = A ++ k' :: B := fun k' => by
      rw [← hp]
      conv => lhs; rw [he]
      exact set_mid A B k k'
    have hfl : n.ks.flatMap nfs = A.flatMap nfs ++ (nfs k ++ B.flatMap nfs) := by rw [he]; simp
    have hfr : frN n = frs A + frN k + frs B + if n.at_ = -1 then 1 else 0 := by
      rw [frN_in,he,frs_append,frs_cons]; omega
    have hhk : P n → ∀ z ∈ A ++ remN k s :: B,P z := fun hP z hz => by
      have hkids := H.kids n hP
      rw [he] at hkids
      rcases List.mem_append.1 hz with hz | hz
      · exact hkids z (by simp [hz])
      · rcases List.mem_cons.1 hz with rfl | hz
        · exact ih.her (hkids k (by simp))
        · exact hkids z (by simp [hz])
    have hnf : ((A ++ remN k s :: B).flatMap nfs).Sublist (nfs n) := by
      refine List.Sublist.trans ?_ (nfs_kids n)
      rw [hfl,List.flatMap_append,List.flatMap_cons]
      exact (List.Sublist.refl _).append (ih.nf.append (List.Sublist.refl _))
    have hff : frs (A ++ remN k s :: B) = frs A + frN (remN k s) + frs B := by rw [frs_append,frs_cons]; omega
    have := ih.fr
    unfold remN
    simp only [hkd]
    split
    · rw [hset,← hp]
      refine ⟨fun hP => H.inner _ (mend_her H A B _ (hhk hP)),?_,?_,rfl⟩
      · rw [nfs_fresh]; exact (mend_nfs A B _).trans hnf
      · rw [frN_mk]
        have := mend_frs A B (remN k s) ih.at_
        split at hfr <;> omega
    · rw [hset]
      refine ⟨fun hP => H.inner _ (hhk hP),?_,?_,rfl⟩
      · rw [nfs_fresh]; exact hnf
      · rw [frN_mk]
        split at hfr <;> omega
def Tree.All (P : {h : Nat} → Nd h → Prop) : Tree → Prop
  | .no => True
  | .top _ n => P n
def Tree.nfs : Tree → List Int
  | .no => []
  | .top _ n => tr.nfs n
def Tree.fr : Tree → Nat
  | .no => 0
  | .top _ n => frN n
structure TK (P : {h : Nat} → Nd h → Prop) (t t' : Tree) (d up : Nat) : Prop where
  her : t.All @P → t'.All @P
  nf : t'.nfs.Sublist t.nfs
  fr : t'.fr ≤ t.fr + d
  hi : t'.high ≤ t.high + up
theorem put_kept {P : {h : Nat} → Nd h → Prop} (H : Her @P) {t : Tree} {e : Ext} (h : t.Ok) : TK @P t (t.put e) (2 * t.high + 1) 1 := by
  cases t with
  | no => exact ⟨fun _ => H.leaf _,List.nil_sublist _,by show 1 ≤ 0 + (2 * 0 + 1); omega,by show 1 ≤ 0 + 1; omega⟩
  | top hh n =>
    obtain ⟨p1,p2,p3,p4⟩ := h.parts
    have hr := ins_kept H n e p1 p3
    cases hs : (insN n e).2 with
    | none =>
      rw [put_none hs]
      have q1 := hr.her
      have q2 := hr.nf
      have q3 := hr.fr
      rw [hs] at q1 q2 q3
      simp only [sibs,List.flatMap_cons,List.flatMap_nil,List.append_nil] at q2
      rw [sibs,frs_cons] at q3
      exact ⟨fun hP => q1 hP _ (by simp),q2,by show frN _ ≤ frN n + (2 * (hh + 1) + 1); omega,by show hh + 1 ≤ hh + 1 + 1; omega⟩
    | some s =>
      rw [put_some hs]
      have q1 := hr.her
      have q2 := hr.nf
      have q3 := hr.fr
      rw [hs] at q1 q2 q3
      refine ⟨fun hP => H.inner _ (q1 hP),?_,?_,Nat.le_refl _⟩
      · show (tr.nfs (mkI (-1) [(insN n e).1,s])).Sublist _
        rw [nfs_fresh]; exact q2
      · show frN (mkI (-1) [(insN n e).1,s]) ≤ frN n + (2 * (hh + 1) + 1)
        rw [frN_mk]
        have : frs [(insN n e).1,s] ≤ frN n + 2 * (hh + 1) := q3
        omega
theorem low_kept {P : {h : Nat} → Nd h → Prop} (H : Her @P) : ∀ {h : Nat} (n : Nd h),TK @P (.top h n) (Tree.low n) 0 0
  | 0,n => by
    have e0 : Tree.low n = if n.l = [] then .no else .top 0 n := rfl
    rw [e0]
    split
    · exact ⟨fun _ => trivial,List.nil_sublist _,Nat.zero_le _,Nat.zero_le _⟩
    · exact ⟨id,List.Sublist.refl _,Nat.le_refl _,Nat.le_refl _⟩
  | h + 1,n => by
    have e0 : Tree.low n = match n.ks with | [k] => .top h k | _ => .top (h + 1) n := rfl
    rw [e0]
    split
    · rename_i k hk
      refine ⟨fun hP => H.kids n hP k (by rw [hk]; simp),?_,?_,?_⟩
      · show (tr.nfs k).Sublist (tr.nfs n)
        have := nfs_kids n
        rw [hk] at this
        simpa using this
      · show frN k ≤ frN n + 0
        rw [frN_in n,hk]
        simp only [frs_cons]
        omega
      · show h + 1 ≤ h + 1 + 1 + 0
        omega
    · exact ⟨id,List.Sublist.refl _,Nat.le_refl _,Nat.le_refl _⟩
theorem take_kept {P : {h : Nat} → Nd h → Prop} (H : Her @P) {t : Tree} {s : Int} (h : t.Ok) : TK @P t (t.take s) (2 * t.high) 0 := by
  cases t with
  | no => exact ⟨id,List.Sublist.refl _,Nat.zero_le _,Nat.le_refl _⟩
  | top hh n =>
    obtain ⟨p1,p2,p3,p4⟩ := h.parts
    have hr := rem_kept H n s p1 p3
    have hl := low_kept H (remN n s)
    refine ⟨fun hP => hl.her (hr.her hP),hl.nf.trans hr.nf,?_,hl.hi⟩
    have q1 : (Tree.low (remN n s)).fr ≤ frN (remN n s) + 0 := hl.fr
    have q2 := hr.fr
    show (Tree.low (remN n s)).fr ≤ frN n + 2 * (hh + 1)
    omega
theorem takes_kept {P : {h : Nat} → Nd h → Prop} (H : Her @P) : ∀ (d : List Ext) (t : Tree),t.Ok → Inc t.flat → TK @P t (t.takes d) (d.length * (2 * t.high)) 0
  | [],t,h,_ => ⟨id,List.Sublist.refl _,Nat.le_add_right _ _,Nat.le_refl _⟩
  | e :: d,t,h,hi => by
    obtain ⟨h1,h2⟩ := take_ok (s := e.fr) h hi
    have a := take_kept H (s := e.fr) h
    have b := takes_kept H d (t.take e.fr) h2 (by rw [h1]; exact del_inc hi _)
    have e1 : t.takes (e :: d) = (t.take e.fr).takes d := rfl
    rw [e1]
    refine ⟨fun hP => b.her (a.her hP),b.nf.trans a.nf,?_,by have := b.hi; have := a.hi; omega⟩
    have q1 := a.fr
    have q2 := b.fr
    have q3 : d.length * (2 * (t.take e.fr).high) ≤ d.length * (2 * t.high) := Nat.mul_le_mul_left _ (by have := a.hi; omega)
    rw [List.length_cons,Nat.add_mul]
    omega
theorem puts_kept {P : {h : Nat} → Nd h → Prop} (H : Her @P) : ∀ (d : List Ext) (t : Tree),t.Ok → Inc t.flat → Inc d → (∀ x ∈ t.flat,∀ e ∈ d,x.fr ≠ e.fr) → TK @P t (t.puts d) (d.length * (2 * t.high + d.length)) d.length
  | [],t,h,_,_,_ => ⟨id,List.Sublist.refl _,Nat.le_add_right _ _,Nat.le_refl _⟩
  | e :: d,t,h,hi,hd,hn => by
    obtain ⟨h1,h2⟩ := put_ok (e := e) h hi
    have p := List.pairwise_cons.1 hd
    have a := put_kept H (e := e) h
    have b := puts_kept H d (t.put e) h2 (by rw [h1]; exact ins_inc hi (fun x hx => hn x hx e (by simp))) p.2 (fun x hx y hy => by
      rw [h1] at hx
      rcases (ins_mem _ _ _).1 hx with rfl | hx
      · have := p.1 y hy; omega
      · exact hn x hx y (by simp [hy]))
    have e1 : t.puts (e :: d) = (t.put e).puts d := rfl
    rw [e1]
    refine ⟨fun hP => b.her (a.her hP),b.nf.trans a.nf,?_,by have := b.hi; have := a.hi; rw [List.length_cons]; omega⟩
    have q1 := a.fr
    have q2 := b.fr
    have q3 : d.length * (2 * (t.put e).high + d.length) ≤ d.length * (2 * (t.high + 1) + d.length) := Nat.mul_le_mul_left _ (by have := a.hi; omega)
    have q4 : (d.length + 1) * (2 * t.high + (d.length + 1)) = d.length * (2 * (t.high + 1) + d.length) + (2 * t.high + 1) := by
      simp only [Nat.add_mul,Nat.mul_add,Nat.one_mul,Nat.mul_one]
      omega
    rw [List.length_cons,q4]
    omega
def chgN (was is : List Ext) (h : Nat) : Nat := was.length * (2 * h) + is.length * (2 * h + is.length)
theorem change_kept {P : {h : Nat} → Nd h → Prop} (H : Her @P) {t : Tree} {L W R V : List Ext} (h : t.Ok) (hf : t.flat = L ++ W ++ R) (h1 : Inc (L ++ W ++ R)) (h2 : Inc (L ++ V ++ R)) :
    TK @P t (t.change W V) (chgN (W.filter fun e => decide (e ∉ V)) (V.filter fun e => decide (e ∉ W)) t.high) (V.filter fun e => decide (e ∉ W)).length := by
  have hi : Inc t.flat := by rw [hf]; exact h1
  obtain ⟨k1,k2⟩ := takes_ok (W.filter fun e => decide (e ∉ V)) t h hi
  have hti : Inc (t.takes (W.filter fun e => decide (e ∉ V))).flat := by rw [k1]; exact dels_inc _ _ hi
  have hVi : Inc V := (List.pairwise_append.1 (List.pairwise_append.1 h2).1).2.1
  have a := takes_kept H (W.filter fun e => decide (e ∉ V)) t h hi
  have b := puts_kept H (V.filter fun e => decide (e ∉ W)) _ k2 hti (hVi.filter _) (chg_sep h hf h1 h2)
  refine ⟨fun hP => b.her (a.her hP),b.nf.trans a.nf,?_,by have := b.hi; have := a.hi; unfold Tree.change; omega⟩
  have q1 := a.fr
  have q2 := b.fr
  have q3 := a.hi
  have q4 : (V.filter fun e => decide (e ∉ W)).length * (2 * (t.takes (W.filter fun e => decide (e ∉ V))).high + (V.filter fun e => decide (e ∉ W)).length) ≤ (V.filter fun e => decide (e ∉ W)).length * (2 * t.high + (V.filter fun e => decide (e ∉ W)).length) := Nat.mul_le_mul_left _ (by omega)
  unfold Tree.change chgN
  omega
theorem over_kept {P : {h : Nat} → Nd h → Prop} (H : Her @P) {t : Tree} {e : Ext} (h : t.Ok) (hc : Chk t.flat) (he : oneB e = true) :
    TK @P t (t.over e) (chgN ((nearL t.flat e.fr e.end_).filter fun x => decide (x ∉ overL (nearL t.flat e.fr e.end_) e)) ((overL (nearL t.flat e.fr e.end_) e).filter fun x => decide (x ∉ nearL t.flat e.fr e.end_)) t.high) ((overL (nearL t.flat e.fr e.end_) e).filter fun x => decide (x ∉ nearL t.flat e.fr e.end_)).length := by
  have k := one_spec he
  have k2 : e.end_ = e.fr + e.n := rfl
  have h3 := three (lo := e.fr) (hi := e.end_) hc (by omega)
  have hl := over_local hc he
  have hco := over_chk hc he
  exact change_kept H (V := overL (nearL t.flat e.fr e.end_) e) h h3 (by rw [← h3]; exact chk_fr hc) (by rw [← hl]; exact chk_fr hco)
theorem cut_kept {P : {h : Nat} → Nd h → Prop} (H : Her @P) {t : Tree} {fr n : Int} (h : t.Ok) (hc : Chk t.flat) (h1 : 0 ≤ fr) (h2 : 0 ≤ n) (h3' : fr + n ≤ 16777216) :
    TK @P t (t.cut fr n) (chgN ((nearL t.flat fr (fr + n)).filter fun x => decide (x ∉ cutL (nearL t.flat fr (fr + n)) fr n)) ((cutL (nearL t.flat fr (fr + n)) fr n).filter fun x => decide (x ∉ nearL t.flat fr (fr + n))) t.high) ((cutL (nearL t.flat fr (fr + n)) fr n).filter fun x => decide (x ∉ nearL t.flat fr (fr + n))).length := by
  have h3 := three (lo := fr) (hi := fr + n) hc (by omega)
  have hl := cut_local hc h1 h2 h3'
  have hco := cut_chk hc h1 h2 h3'
  exact change_kept H (V := cutL (nearL t.flat fr (fr + n)) fr n) h h3 (by rw [← h3]; exact chk_fr hc) (by rw [← hl]; exact chk_fr hco)
end Go.Proofs.YtneammhkgmkkfaaGreatDoor.tr
namespace Go.Proofs.YtneammhkgmkkfaaGreatDoor.tr
open Go.RowKit Go.Proofs.YtneammhkgmkkfaaGreatDoor.er
set_option linter.unusedVariables false
set_option linter.unusedSimpArgs false
end Go.Proofs.YtneammhkgmkkfaaGreatDoor.tr
namespace Go.Proofs.YtneammhkgmkkfaaGreatDoor.tr
open Go.RowKit Go.Proofs.YtneammhkgmkkfaaGreatDoor.er
set_option linter.unusedVariables false
set_option linter.unusedSimpArgs false
end Go.Proofs.YtneammhkgmkkfaaGreatDoor.tr
