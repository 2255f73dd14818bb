/- A part of the proof. -/
import Derived.Test.YtneammhkgmkkfaaGreatDoorPTlD
namespace Go.Proofs.YtneammhkgmkkfaaGreatDoor.tr
open Go.RowKit Go.Proofs.YtneammhkgmkkfaaGreatDoor.er
set_option linter.unusedVariables false
set_option linter.unusedSimpArgs false
open Classical in
noncomputable def readD (L : Bk) : (h : Nat) → Bool → Int → Option (Nd h)
  | 0,t,pg => match getB L pg with
    | none => none
    | some p => if p.1 = 2 ∧ (okE p.2 = true ∧ MayE (extsD p.2)) ∧ rsmallB t (extsD p.2).length 1 = false then some (mkL pg (extsD p.2)) else none
  | h + 1,t,pg => match getB L pg with
    | none => none
    | some p => if p.1 = 3 ∧ (okK p.2 = true ∧ MayK (kidsD p.2)) ∧ rsmallB t (kidsD p.2).length 2 = false then (rdKids (readD L h false) (kidsD p.2)).map (fun t => mkI pg t) else none
theorem rdKids_len {h : Nat} {f : Int → Option (Nd h)} : ∀ {ks : List Kid} {ns : List (Nd h)},rdKids f ks = some ns → ns.length = ks.length ∧ ∀ (j : Nat) (n : Nd h),ns[j]? = some n → ∃ k,ks[j]? = some k ∧ f k.at_ = some n ∧ firstN n = k.key
  | [],ns,hr => by
    injection hr with hr
    subst hr
    exact ⟨rfl,fun j n hn => by simp at hn⟩
  | k :: r,ns,hr => by
    unfold rdKids at hr
    cases hf : f k.at_ with
    | none => rw [hf] at hr; cases hr
    | some d =>
      rw [hf] at hr
      simp only at hr
      split at hr
      · rename_i hk
        cases hrr : rdKids f r with
        | none => rw [hrr] at hr; cases hr
        | some t =>
          rw [hrr] at hr
          injection hr with hr
          subst hr
          obtain ⟨i1,i2⟩ := rdKids_len hrr
          refine ⟨by simp [i1],fun j n hn => ?_⟩
          cases j with
          | zero => simp at hn; subst hn; exact ⟨k,rfl,hf,hk⟩
          | succ j => simp at hn; exact i2 j n hn
      · cases hr
theorem rdKids_mono {h : Nat} {f g : Int → Option (Nd h)} : ∀ {ks : List Kid} {ns : List (Nd h)},rdKids f ks = some ns → (∀ (j : Nat) (k : Kid) (n : Nd h),ks[j]? = some k → f k.at_ = some n → ns[j]? = some n → g k.at_ = some n) → rdKids g ks = some ns
  | [],ns,hr,_ => hr
  | k :: r,ns,hr,hg => by
    unfold rdKids at hr ⊢
    cases hf : f k.at_ with
    | none => rw [hf] at hr; cases hr
    | some d =>
      rw [hf] at hr
      simp only at hr
      split at hr
      · rename_i hk
        cases hrr : rdKids f r with
        | none => rw [hrr] at hr; cases hr
        | some t =>
          rw [hrr] at hr
          injection hr with hr
          subst hr
          rw [hg 0 k d rfl hf rfl]
          simp only
          rw [if_pos hk,rdKids_mono hrr (fun j k' n h1 h2 h3 => hg (j + 1) k' n (by simpa using h1) h2 (by simpa using h3))]
          rfl
      · cases hr
theorem readD_zero {L : Bk} {t : Bool} {pg : Int} {n : Nd 0} (hr : readD L 0 t pg = some n) : ∃ p,getB L pg = some p ∧ p.1 = 2 ∧ okE p.2 = true ∧ MayE (extsD p.2) ∧ rsmallB t (extsD p.2).length 1 = false ∧ n = mkL pg (extsD p.2) := by
  unfold readD at hr
  cases hg : getB L pg with
  | none => rw [hg] at hr; cases hr
  | some p =>
    rw [hg] at hr
    simp only at hr
    split at hr
    · rename_i hc
      injection hr with hr
      exact ⟨p,rfl,hc.1,hc.2.1.1,hc.2.1.2,hc.2.2,hr.symm⟩
    · cases hr
open Classical in
theorem readD_succ {L : Bk} {h : Nat} {t : Bool} {pg : Int} {n : Nd (h + 1)} (hr : readD L (h + 1) t pg = some n) : ∃ p ns,getB L pg = some p ∧ p.1 = 3 ∧ okK p.2 = true ∧ MayK (kidsD p.2) ∧ rsmallB t (kidsD p.2).length 2 = false ∧ rdKids (readD L h false) (kidsD p.2) = some ns ∧ n = mkI pg ns := by
  rw [show readD L (h + 1) t pg = (match getB L pg with | none => none | some p => if p.1 = 3 ∧ (okK p.2 = true ∧ MayK (kidsD p.2)) ∧ rsmallB t (kidsD p.2).length 2 = false then (rdKids (readD L h false) (kidsD p.2)).map (fun t => mkI pg t) else none) from rfl] at hr
  cases hg : getB L pg with
  | none => rw [hg] at hr; cases hr
  | some p =>
    rw [hg] at hr
    simp only at hr
    split at hr
    · rename_i hc
      cases hk : rdKids (readD L h false) (kidsD p.2) with
      | none => rw [hk] at hr; cases hr
      | some ns =>
        rw [hk] at hr
        injection hr with hr
        exact ⟨p,ns,rfl,hc.1,hc.2.1.1,hc.2.1.2,hc.2.2,hk,hr.symm⟩
    · cases hr
theorem mayE_len {l : List Ext} (h : MayE l) : 1 ≤ l.length ∧ l.length ≤ 8 := by
  unfold MayE extB at h
  simp only [Bool.and_eq_true,decide_eq_true_eq] at h
  exact h.1
theorem readD_bound {L : Bk} : ∀ {h : Nat} {t : Bool} {pg : Int} {n : Nd h},readD L h t pg = some n → cntN n + 1 ≤ 2 * 8 ^ h ∧ (flat n).length ≤ 8 ^ (h + 1) ∧ 1 ≤ (flat n).length
  | 0,t,pg,n,hr => by
    obtain ⟨p,_,_,_,hm,_,rfl⟩ := readD_zero hr
    obtain ⟨h1,h2⟩ := mayE_len hm
    exact ⟨Nat.le_refl _,h2,h1⟩
  | h + 1,t,pg,n,hr => by
    obtain ⟨p,ns,_,_,_,hm,_,hk,rfl⟩ := readD_succ hr
    obtain ⟨h1,h2⟩ := rdKids_len hk
    have h8 : ns.length ≤ 8 := by rw [h1]; exact hm.2.1
    have hl2 : 2 ≤ ns.length := by rw [h1]; exact hm.1
    have hall : ∀ x ∈ ns,cntN x + 1 ≤ 2 * 8 ^ h ∧ (flat x).length ≤ 8 ^ (h + 1) ∧ 1 ≤ (flat x).length := fun x hx => by
      obtain ⟨j,hj,rfl⟩ := List.mem_iff_getElem.1 hx
      obtain ⟨k,_,hf,_⟩ := h2 j _ (List.getElem?_eq_getElem hj)
      exact readD_bound hf
    have hsum : ∀ l : List (Nd h),(∀ x ∈ l,cntN x + 1 ≤ 2 * 8 ^ h ∧ (flat x).length ≤ 8 ^ (h + 1) ∧ 1 ≤ (flat x).length) → (l.map cntN).sum + l.length ≤ l.length * (2 * 8 ^ h) ∧ (flats l).length ≤ l.length * 8 ^ (h + 1) ∧ l.length ≤ (flats l).length := by
      generalize 2 * 8 ^ h = X
      generalize 8 ^ (h + 1) = Y
      intro l
      induction l with
      | nil => intro _; exact ⟨by simp,by simp [flats],by simp [flats]⟩
      | cons x r ih =>
        intro hx
        have i0 := hx x (by simp)
        have i1 := ih (fun y hy => hx y (by simp [hy]))
        rw [flats_cons,List.map_cons,List.sum_cons,List.length_append,List.length_cons,Nat.add_one_mul,Nat.add_one_mul]
        omega
    obtain ⟨s1,s2,s3⟩ := hsum ns hall
    have e1 : cntN (mkI pg ns) = 1 + (ns.map cntN).sum := rfl
    have e2 : flat (mkI pg ns) = flats ns := rfl
    have m1 : ns.length * (2 * 8 ^ h) ≤ 8 * (2 * 8 ^ h) := Nat.mul_le_mul_right _ h8
    have m2 : ns.length * 8 ^ (h + 1) ≤ 8 * 8 ^ (h + 1) := Nat.mul_le_mul_right _ h8
    have p1 : 8 ^ (h + 1) = 8 * 8 ^ h := by rw [Nat.pow_succ]; omega
    have p2 : 8 ^ (h + 1 + 1) = 8 * 8 ^ (h + 1) := by rw [Nat.pow_succ]; omega
    rw [e1,e2,p2,p1]
    rw [p1] at s2 m2
    omega
def RdN {h : Nat} (f : Int → Option (Nd h)) (ks : List Kid) (j : Nat) (ns : List (Nd h)) : Prop := ns.length = j ∧ rdKids f ks = (rdKids f (ks.drop j)).map (fun t => ns ++ t) ∧ (∀ x,ns.head? = some x → ∃ k,ks.head? = some k ∧ firstN x = k.key)
theorem rdn_new {h : Nat} (f : Int → Option (Nd h)) (ks : List Kid) : RdN f ks 0 [] := ⟨rfl,by simp,by simp⟩
theorem rdn_step {h : Nat} {f : Int → Option (Nd h)} {ks : List Kid} {j : Nat} {ns : List (Nd h)} (hs : RdN f ks j ns) {k : Kid} (hk : ks[j]? = some k) :
    (f k.at_ = none → rdKids f ks = none) ∧ (∀ n,f k.at_ = some n → (firstN n ≠ k.key → rdKids f ks = none) ∧ (firstN n = k.key → RdN f ks (j + 1) (ns ++ [n]))) := by
  obtain ⟨h1,h2,h3⟩ := hs
  obtain ⟨hj,rfl⟩ := List.getElem?_eq_some_iff.1 hk
  rw [List.drop_eq_getElem_cons hj] at h2
  refine ⟨fun hn => ?_,fun n hn => ⟨fun hne => ?_,fun he => ⟨by simp [h1],?_,?_⟩⟩⟩
  · rw [h2]; simp [rdKids,hn]
  · rw [h2]; simp [rdKids,hn,hne]
  · rw [h2]
    simp only [rdKids,hn]
    rw [if_pos he]
    cases rdKids f (ks.drop (j + 1)) <;> simp
  · intro x hx
    cases ns with
    | nil =>
      simp at hx
      subst hx
      simp at h1
      subst h1
      exact ⟨_,by rw [List.head?_eq_getElem?]; exact hk,he⟩
    | cons y r => exact h3 x (by simpa using hx)
theorem rdn_end {h : Nat} {f : Int → Option (Nd h)} {ks : List Kid} {ns : List (Nd h)} (hs : RdN f ks ks.length ns) : rdKids f ks = some ns := by
  rw [hs.2.1,List.drop_length]; simp [rdKids]
end Go.Proofs.YtneammhkgmkkfaaGreatDoor.tr
namespace Go.Proofs.YtneammhkgmkkfaaGreatDoor.tr
open Go.RowKit Go.Proofs.YtneammhkgmkkfaaGreatDoor.er
set_option linter.unusedVariables false
set_option linter.unusedSimpArgs false
theorem smallB_iff {pg top n least : Int} : smallB pg top n least = false ↔ (pg = top ∨ 4 ≤ n) ∧ least ≤ n := by
  unfold smallB
  by_cases h : pg = top <;> simp [h] <;> omega
theorem rsmallB_iff {t : Bool} {n least : Int} (h : least ≤ 4) : rsmallB t n least = false ↔ (t = true ∨ 4 ≤ n) ∧ least ≤ n := by
  unfold rsmallB
  cases t <;> simp <;> omega
open Classical in
theorem readN_zero {L : Bk} {top pg : Int} {n : Nd 0} : readN L top 0 pg = some n ↔ ∃ p,getB L pg = some p ∧ p.1 = 2 ∧ okE p.2 = true ∧ MayE (extsD p.2) ∧ ((pg = top ∨ 4 ≤ (extsD p.2).length) ∧ 1 ≤ (extsD p.2).length) ∧ n = mkL pg (extsD p.2) := by
  unfold readN
  cases hg : getB L pg with
  | none => simp
  | some p =>
    simp only
    constructor
    · intro h
      split at h
      · rename_i hc
        injection h with h
        have := smallB_iff.1 hc.2.2
        exact ⟨p,rfl,hc.1,hc.2.1.1,hc.2.1.2,⟨by omega,by omega⟩,h.symm⟩
      · cases h
    · rintro ⟨p',h0,h1,h2,h3,h4,rfl⟩
      injection h0 with h0
      subst h0
      exact if_pos ⟨h1,⟨h2,h3⟩,smallB_iff.2 ⟨by omega,by omega⟩⟩
open Classical in
theorem readN_succ {L : Bk} {top pg : Int} {h : Nat} {n : Nd (h + 1)} : readN L top (h + 1) pg = some n ↔ ∃ p ns,getB L pg = some p ∧ p.1 = 3 ∧ okK p.2 = true ∧ MayK (kidsD p.2) ∧ ((pg = top ∨ 4 ≤ (kidsD p.2).length) ∧ 2 ≤ (kidsD p.2).length) ∧ rdKids (readN L top h) (kidsD p.2) = some ns ∧ n = mkI pg ns := by
  rw [show readN L top (h + 1) pg = (match getB L pg with | none => none | some p => if p.1 = 3 ∧ (okK p.2 = true ∧ MayK (kidsD p.2)) ∧ smallB pg top (kidsD p.2).length 2 = false then (rdKids (readN L top h) (kidsD p.2)).map (fun t => mkI pg t) else none) from rfl]
  cases hg : getB L pg with
  | none => simp
  | some p =>
    simp only
    constructor
    · intro h
      split at h
      · rename_i hc
        cases hk : rdKids (readN L top _) (kidsD p.2) with
        | none => rw [hk] at h; cases h
        | some ns =>
          rw [hk] at h
          injection h with h
          have := smallB_iff.1 hc.2.2
          exact ⟨p,ns,rfl,hc.1,hc.2.1.1,hc.2.1.2,⟨by omega,by omega⟩,hk,h.symm⟩
      · cases h
    · rintro ⟨p',ns,h0,h1,h2,h3,h4,h5,rfl⟩
      injection h0 with h0
      subst h0
      rw [if_pos ⟨h1,⟨h2,h3⟩,smallB_iff.2 ⟨by omega,by omega⟩⟩,h5]
      rfl
open Classical in
theorem readD_zero' {L : Bk} {t : Bool} {pg : Int} {p : Int × ByteArray} (h0 : getB L pg = some p) (h1 : p.1 = 2) (h2 : okE p.2 = true) (h3 : MayE (extsD p.2)) (h4 : rsmallB t (extsD p.2).length 1 = false) : readD L 0 t pg = some (mkL pg (extsD p.2)) := by
  unfold readD
  rw [h0]
  exact if_pos ⟨h1,⟨h2,h3⟩,h4⟩
open Classical in
theorem readD_succ' {L : Bk} {t : Bool} {pg : Int} {h : Nat} {p : Int × ByteArray} {ns : List (Nd h)} (h0 : getB L pg = some p) (h1 : p.1 = 3) (h2 : okK p.2 = true) (h3 : MayK (kidsD p.2)) (h4 : rsmallB t (kidsD p.2).length 2 = false) (h5 : rdKids (readD L h false) (kidsD p.2) = some ns) : readD L (h + 1) t pg = some (mkI pg ns) := by
  rw [show readD L (h + 1) t pg = (match getB L pg with | none => none | some p => if p.1 = 3 ∧ (okK p.2 = true ∧ MayK (kidsD p.2)) ∧ rsmallB t (kidsD p.2).length 2 = false then (rdKids (readD L h false) (kidsD p.2)).map (fun t => mkI pg t) else none) from rfl,h0]
  simp only
  rw [if_pos ⟨h1,⟨h2,h3⟩,h4⟩,h5]
  rfl
theorem readD_N {L : Bk} {top : Int} : ∀ {h : Nat} {t : Bool} {pg : Int} {n : Nd h},(t = true → pg = top) → readD L h t pg = some n → readN L top h pg = some n
  | 0,t,pg,n,ht,hr => by
    obtain ⟨p,h0,h1,h2,h3,h4,rfl⟩ := readD_zero hr
    have := (rsmallB_iff (by omega)).1 h4
    exact readN_zero.2 ⟨p,h0,h1,h2,h3,⟨this.1.imp ht (by omega),by omega⟩,rfl⟩
  | h + 1,t,pg,n,ht,hr => by
    obtain ⟨p,ns,h0,h1,h2,h3,h4,h5,rfl⟩ := readD_succ hr
    have := (rsmallB_iff (by omega)).1 h4
    exact readN_succ.2 ⟨p,ns,h0,h1,h2,h3,⟨this.1.imp ht (by omega),by omega⟩,rdKids_mono h5 (fun j k n hk hf hn => readD_N (fun h => by cases h) hf),rfl⟩
theorem readN_high {L : Bk} {top : Int} : ∀ {h h' : Nat} {pg : Int} {n : Nd h} {n' : Nd h'},readN L top h pg = some n → readN L top h' pg = some n' → h = h'
  | 0,0,_,_,_,_,_ => rfl
  | 0,h' + 1,pg,n,n',hr,hr' => by
    obtain ⟨p,h0,h1,_⟩ := readN_zero.1 hr
    obtain ⟨p',_,g0,g1,_⟩ := readN_succ.1 hr'
    rw [h0] at g0
    injection g0 with g0
    rw [← g0,h1] at g1
    omega
  | h + 1,0,pg,n,n',hr,hr' => by
    obtain ⟨p,h0,h1,_⟩ := readN_zero.1 hr'
    obtain ⟨p',_,g0,g1,_⟩ := readN_succ.1 hr
    rw [h0] at g0
    injection g0 with g0
    rw [← g0,h1] at g1
    omega
  | h + 1,h' + 1,pg,n,n',hr,hr' => by
    obtain ⟨p,ns,h0,_,_,h3,_,h5,_⟩ := readN_succ.1 hr
    obtain ⟨p',ns',g0,_,_,_,_,g5,_⟩ := readN_succ.1 hr'
    rw [h0] at g0
    injection g0 with g0
    subst g0
    obtain ⟨i1,i2⟩ := rdKids_len h5
    obtain ⟨j1,j2⟩ := rdKids_len g5
    have hl := h3.1
    obtain ⟨k,e1,e2,_⟩ := i2 0 _ (List.getElem?_eq_getElem (by omega))
    obtain ⟨k',f1,f2,_⟩ := j2 0 _ (List.getElem?_eq_getElem (by omega))
    rw [e1] at f1
    injection f1 with f1
    subst f1
    rw [readN_high e2 f2]
theorem readN_low {L : Bk} {top : Int} {H : Nat} {N : Nd H} (hN : readN L top H top = some N) : ∀ {h : Nat} {pg : Int} {n : Nd h},h < H → readN L top h pg = some n → readD L h false pg = some n
  | 0,pg,n,hh,hr => by
    have hne : pg ≠ top := fun e => by rw [e] at hr; have := readN_high hr hN; omega
    obtain ⟨p,h0,h1,h2,h3,h4,rfl⟩ := readN_zero.1 hr
    exact readD_zero' h0 h1 h2 h3 ((rsmallB_iff (by omega)).2 ⟨.inr (by have := h4.1.resolve_left hne; omega),by omega⟩)
  | h + 1,pg,n,hh,hr => by
    have hne : pg ≠ top := fun e => by rw [e] at hr; have := readN_high hr hN; omega
    obtain ⟨p,ns,h0,h1,h2,h3,h4,h5,rfl⟩ := readN_succ.1 hr
    exact readD_succ' h0 h1 h2 h3 ((rsmallB_iff (by omega)).2 ⟨.inr (by have := h4.1.resolve_left hne; omega),by omega⟩) (rdKids_mono h5 (fun j k n hk hf hn => readN_low hN (by omega) hf))
theorem readN_D {L : Bk} {top : Int} : ∀ {h : Nat} {n : Nd h},readN L top h top = some n → readD L h true top = some n
  | 0,n,hr => by
    obtain ⟨p,h0,h1,h2,h3,h4,rfl⟩ := readN_zero.1 hr
    exact readD_zero' h0 h1 h2 h3 ((rsmallB_iff (by omega)).2 ⟨.inl rfl,by omega⟩)
  | h + 1,n,hr => by
    obtain ⟨p,ns,h0,h1,h2,h3,h4,h5,rfl⟩ := readN_succ.1 hr
    exact readD_succ' h0 h1 h2 h3 ((rsmallB_iff (by omega)).2 ⟨.inl rfl,by omega⟩) (rdKids_mono h5 (fun j k n hk hf hn => readN_low hr (by omega) hf))
theorem read_same (L : Bk) (top : Int) (h : Nat) : readN L top h top = readD L h true top := by
  cases hd : readD L h true top with
  | some n => exact readD_N (fun _ => rfl) hd
  | none =>
    cases hn : readN L top h top with
    | none => rfl
    | some n => rw [readN_D hn] at hd; cases hd
theorem readD_made {L : Bk} : ∀ {h : Nat} {t : Bool} {pg : Int} {n : Nd h},readD L h t pg = some n → Kw n ∧ n.size ≤ 8 ∧ (t = false → 4 ≤ n.size) ∧ Big n ∧ 1 ≤ n.size ∧ ∀ e ∈ flat n,oneB e = true
  | 0,t,pg,n,hr => by
    obtain ⟨p,h0,h1,h2,h3,h4,rfl⟩ := readD_zero hr
    have hs := (rsmallB_iff (by omega)).1 h4
    obtain ⟨m1,m2⟩ := mayE_len h3
    have h3' := h3
    unfold MayE extB at h3'
    simp only [Bool.and_eq_true] at h3'
    exact ⟨trivial,m2,fun ht => by have := hs.1.resolve_left (by rw [ht]; simp); show 4 ≤ (extsD p.2).length; omega,trivial,m1,(chkB_chk _ h3'.2).one⟩
  | h + 1,t,pg,n,hr => by
    obtain ⟨p,ns,h0,h1,h2,h3,h4,h5,rfl⟩ := readD_succ hr
    have hs := (rsmallB_iff (by omega)).1 h4
    obtain ⟨i1,i2⟩ := rdKids_len h5
    have h8 := h3.2.1
    have hl2 := h3.1
    have hall : ∀ k ∈ ns,readD L h false k.at_ = some k ∨ ∃ q,readD L h false q = some k := fun k hk => by
      obtain ⟨j,hj,rfl⟩ := List.mem_iff_getElem.1 hk
      obtain ⟨q,_,e2,_⟩ := i2 j _ (List.getElem?_eq_getElem hj)
      exact .inr ⟨_,e2⟩
    have hmade : ∀ k ∈ ns,Kw k ∧ k.size ≤ 8 ∧ (false = false → 4 ≤ k.size) ∧ Big k ∧ 1 ≤ k.size ∧ ∀ e ∈ flat k,oneB e = true := fun k hk => by
      rcases hall k hk with e | ⟨q,e⟩ <;> exact readD_made e
    refine ⟨fun k hk => ⟨⟨(hmade k hk).2.2.1 rfl,(hmade k hk).2.1⟩,(hmade k hk).1⟩,by show ns.length ≤ 8; omega,fun ht => by have := hs.1.resolve_left (by rw [ht]; simp); show 4 ≤ ns.length; omega,by show 2 ≤ ns.length; omega,by show 1 ≤ ns.length; omega,?_⟩
    intro e he
    have hfl : ∀ l : List (Nd h),(∀ k ∈ l,∀ e ∈ flat k,oneB e = true) → ∀ e ∈ flats l,oneB e = true := by
      intro l
      induction l with
      | nil => intro _ e he; simp [flats] at he
      | cons x r ih =>
        intro hx e he
        rw [flats_cons] at he
        rcases List.mem_append.1 he with he | he
        · exact hx x (by simp) e he
        · exact ih (fun k hk => hx k (by simp [hk])) e he
    exact hfl ns (fun k hk => (hmade k hk).2.2.2.2.2) e he
theorem readD_ok {L : Bk} {h : Nat} {pg : Int} {n : Nd h} (hr : readD L h true pg = some n) : (Tree.top h n).Ok := by
  obtain ⟨m1,m2,_,m4,m5,_⟩ := readD_made hr
  cases h with
  | zero => exact ⟨m5,m2⟩
  | succ h => exact ⟨⟨m4,m2⟩,m1⟩
end Go.Proofs.YtneammhkgmkkfaaGreatDoor.tr
