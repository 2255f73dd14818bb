/- A part of the proof. -/
import Derived.Test.YtneammhkgmkkfaaGreatDoorQTyMg
import Derived.Test.YtneammhkgmkkfaaGreatDoorQTzMa
namespace Go.Proofs.YtneammhkgmkkfaaGreatDoor.tr
open Go.RowKit Go.Proofs.YtneammhkgmkkfaaGreatDoor.er
set_option linter.unusedVariables false
set_option linter.unusedSimpArgs false
def Tree.Gd (s : Int) : Tree → Prop
  | .no => True
  | .top _ n => tr.Gd s n
set_option maxHeartbeats 4000000 in
set_option maxRecDepth 100000 in
theorem walkG_any (g : Nat) (lb : Array Value) (gd : Ext → Bool) (S : List Ext → World → Prop) (G : Nat → Prop) (w0 : World) (H : Hand g lb gd S G w0) (F : List Nat) (p : Nat) (T : Tree) (s : Int) (w : World) (ht : TrAt w0 F p T) (hG : ∀ k ∈ F,¬ G k) (hok : T.Ok) (hc : T.Gd s) (hlen : T.flat.length ≤ 16777216) (hS : S [] w) :
    Calls Tryz.prog 48 #[.pointer (some ⟨p,0,none⟩),.int .i64 s,.func (.func g) #[] lb] w fun x w' => x = .returned (.tuple #[]) ∧ S (handed gd (pastL T.flat s)) w' := by
  have hk := H.keep _ _ hS
  cases T with
  | no =>
    have c0 := (ht.2.keep hk (hG p (by rw [ht.1]; simp))).cell 0
    simp at c0
    have HS := Lib.hid hS
    have HR : Hid (handed gd (pastL Tree.no.flat s) = []) := rfl
    rw [HR.out]
    clear H ht hG hok hc hS hk
    go_enter Tryz.func48,Tryz.ntmps48
    go_wp2_with fail
    go_end0
    exact ⟨rfl,HS.out⟩
  | top h n =>
    obtain ⟨F',v,rfl,hp,hn,hpn⟩ := ht
    obtain ⟨q1,q2,q3,q4⟩ := hok.parts
    obtain ⟨kb,kF,f1,f2⟩ := hn.at_.form
    have c0 := (hp.keep hk (hG p (by simp))).cell 0
    rw [f2] at c0
    simp at c0
    have hf := from_any g lb gd S G w0 H h F' v n s [] w hn.at_ (fun k hk => hG k (by simp [hk])) q1 q3 (by omega) hc (by have h0 : (flat n).length ≤ 16777216 := hlen; simpa using h0) hS
    rw [f2] at hf
    simp only [List.nil_append] at hf
    have HF := Lib.hid hf
    obtain ⟨L,hL⟩ : ∃ L,pastL (flat n) s = L := ⟨_,rfl⟩
    have hL2 : pastL (Tree.top h n).flat s = L := hL
    rw [hL] at HF
    rw [hL2]
    clear hf hL hL2 f1 f2 q1 q2 q3 q4 hp hn hpn H hG hok hc hS hk
    go_enter Tryz.func48,Tryz.ntmps48
    go_wp2_with fail
    with_reducible refine HF.out.mono ?_
    rintro e w5 ⟨rfl,hs5⟩
    have HS5 := Lib.hid hs5
    clear hs5
    go_wp2_with fail
    go_end0
    exact ⟨rfl,HS5.out⟩
theorem walk_any (g : Nat) (lb : Array Value) (gd : Ext → Bool) (S : List Ext → World → Prop) (G : Nat → Prop) (w0 : World) (H : Hand g lb gd S G w0) (F : List Nat) (p : Nat) (T : Tree) (s : Int) (w : World) (ht : TrAt w0 F p T) (hG : ∀ k ∈ F,¬ G k) (hok : T.Ok) (hc : Chk T.flat) (hS : S [] w) :
    Calls Tryz.prog 48 #[.pointer (some ⟨p,0,none⟩),.int .i64 s,.func (.func g) #[] lb] w fun x w' => x = .returned (.tuple #[]) ∧ S (handed gd (pastL T.flat s)) w' := by
  refine walkG_any g lb gd S G w0 H F p T s w ht hG hok ?_ (chk_len hc) hS
  cases T with
  | no => trivial
  | top h n => exact gd_chk s n hok.parts.1 hc
def NearS (w : World) (B pf pt po : Nat) (fr up : Int) (done : List Ext) (wq : World) : Prop :=
  Keep (fun _ => False) w wq ∧ B ≤ wq.heap.size ∧ (pf < B ∧ pt < B ∧ po < B) ∧ Whole wq pf 3 #[.int .i64 fr] ∧ Whole wq pt 3 #[.int .i64 up] ∧ w.heap.size ≤ po ∧ pf ≠ po ∧ pt ≠ po ∧ ∃ v,Whole wq po 71 #[v] ∧ wq.ownsRow B 59 4 v (done.filter (nearB fr up)).length (extCells (done.filter (nearB fr up)))
theorem NearS.below {w : World} {B pf pt po : Nat} {fr up : Int} {done : List Ext} {wq w' : World} (h : NearS w B pf pt po fr up done wq) (hb : Below wq.heap.size wq w') : NearS w B pf pt po fr up done w' := by
  obtain ⟨h1,h2,h3,h4,h5,h5b,h5c,h5d,v,h6,h7⟩ := h
  exact ⟨h1.transBelow hb,Nat.le_trans h2 hb.size,h3,h4.below hb h4.lt,h5.below hb h5.lt,h5b,h5c,h5d,v,h6.below hb h6.lt,own_below h7 hb⟩
theorem near_snoc (done : List Ext) (e : Ext) (fr up : Int) : (done ++ [e]).filter (nearB fr up) = done.filter (nearB fr up) ++ (if nearB fr up e = true then [e] else []) := by
  rw [List.filter_append]
  congr 1
  by_cases h : nearB fr up e = true <;> simp [h]
set_option maxHeartbeats 4000000 in
set_option maxRecDepth 100000 in
theorem near1_any (w : World) (B pf pt po : Nat) (fr up : Int) (done : List Ext) (e : Ext) (wq : World) (hd : done.length < 16777216) (he : oneB e = true) (h : NearS w B pf pt po fr up done wq) :
    Calls Tryz.prog 66 (#[e.val] ++ #[.pointer (some ⟨pt,0,none⟩),.pointer (some ⟨pf,0,none⟩),.pointer (some ⟨po,0,none⟩)]) wq fun x w' => x = .returned (.bool (decide (e.fr ≤ up))) ∧ NearS w B pf pt po fr up (done ++ [e]) w' := by
  obtain ⟨o1,o2,o3,_⟩ := one_spec he
  have hsn := near_snoc done e fr up
  have hfl : (done.filter (nearB fr up)).length ≤ done.length := List.length_filter_le _ _
  obtain ⟨L,hL⟩ : ∃ L,done.filter (nearB fr up) = L := ⟨_,rfl⟩
  obtain ⟨f,en,k,t⟩ := e
  simp only at o1 o2 o3
  have hbl : Below wq.heap.size wq (wq.alloc (.cells #[.int .i64 f,.int .i64 en,.int .i64 k,.int .i64 t] 59)) := (Below.refl _ _).alloc (Nat.le_refl _) _
  have hN1 := h.below hbl
  obtain ⟨a1,a2,a3,a4,a5,a5b,a5c,a5d,v,a6,a7⟩ := hN1
  obtain ⟨A,c,rfl⟩ := own_slice a7
  have cf := a4.cell 0
  have ct := a5.cell 0
  have co := a6.cell 0
  simp at cf ct co
  show Calls Tryz.prog 66 #[.agg #[.int .i64 f,.int .i64 en,.int .i64 k,.int .i64 t],.pointer (some ⟨pt,0,none⟩),.pointer (some ⟨pf,0,none⟩),.pointer (some ⟨po,0,none⟩)] wq _
  by_cases h1 : f ≤ up
  · by_cases h2 : fr ≤ f + en
    · have hnb : nearB fr up ⟨f,en,k,t⟩ = true := by unfold nearB; simp [h1]; exact h2
      rw [hnb,if_pos rfl,hL] at hsn
      have hdt : decide (f ≤ up) = true := by simpa using h1
      have h1' : ¬ up < f := by omega
      obtain ⟨i0,hi0,hz0,hz1,hz2⟩ := info_parts infoE
      have HI0 := Lib.hid hi0
      have HZ0 := Lib.hid hz0
      have HZ1 := Lib.hid hz1
      have HZ2 := Lib.hid hz2
      rw [hL] at a7 hfl co a6
      obtain ⟨n,hn⟩ : ∃ n,L.length = n := ⟨_,rfl⟩
      rw [hn] at a7 hfl co a6
      obtain ⟨w1,hw1⟩ : ∃ w1,wq.alloc (.cells #[.int .i64 f,.int .i64 en,.int .i64 k,.int .i64 t] 59) = w1 := ⟨_,rfl⟩
      rw [hw1] at a1 a2 a4 a5 a6 a7 cf ct co
      have hbox : Whole w1 wq.heap.size 59 #[.int .i64 f,.int .i64 en,.int .i64 k,.int .i64 t] := by rw [← hw1]; exact Whole.new _ _ _
      obtain ⟨⟨y0,y1,y2,y3⟩,_⟩ := tmp4 hbox
      have HOA := Lib.hid (a7.alloc (.cells #[.int .i64 f,.int .i64 en,.int .i64 k,.int .i64 t] 59))
      have HNW : Hid (∀ (j' : Nat) (u : Value),([.int .i64 f,.int .i64 en,.int .i64 k,.int .i64 t] : List Value)[j']? = some u → ((w1).alloc (.cells #[.int .i64 f,.int .i64 en,.int .i64 k,.int .i64 t] 59)).cell? ((⟨(w1).heap.size,0,none⟩ : Addr).add j') = some u) := World.news_of_block (by simpa using heap_alloc_new (w1) (.cells #[.int .i64 f,.int .i64 en,.int .i64 k,.int .i64 t] 59))
      have hone : ∀ u ∈ ([.int .i64 f,.int .i64 en,.int .i64 k,.int .i64 t] : List Value),u.oneCell' = true := by simp [Value.oneCell']
      have HONE := Lib.hid hone
      have HSZ2 : Hid (B ≤ ((w1).alloc (.cells #[.int .i64 f,.int .i64 en,.int .i64 k,.int .i64 t] 59)).heap.size) := by show _ ≤ _; simp only [World.size_alloc]; omega
      have hpo := a3.2.2
      have HEND : Hid (∀ v' w6,w6.ownsRow B 59 4 v' (n + 1) (extCells L ++ [.int .i64 f,.int .i64 en,.int .i64 k,.int .i64 t]) → (w1.alloc (.cells #[.int .i64 f,.int .i64 en,.int .i64 k,.int .i64 t] 59)).grownBy w6 (Value.slice A n c).ownBlock → (w6.cell? ⟨po,0,none⟩ = some (.slice A n c) ∧ w6.frozen? ⟨po,0,none⟩ = false) ∧ NearS w B pf pt po fr up (done ++ [⟨f,en,k,t⟩]) (w6.setCell ⟨po,0,none⟩ v')) := by
        intro v' w6 q1 q2
        have hrow : ∀ j,(Value.slice A n c).ownBlock = some j → B ≤ j := fun j hj => (a7.lt j hj).1
        have hnr : ∀ {j},j < B → some j ≠ (Value.slice A n c).ownBlock := fun {j} hj e => by have := hrow j e.symm; omega
        have b6 := (a6.alloc (.cells #[.int .i64 f,.int .i64 en,.int .i64 k,.int .i64 t] 59)).grown q2 (hnr hpo)
        have b4 := (a4.alloc (.cells #[.int .i64 f,.int .i64 en,.int .i64 k,.int .i64 t] 59)).grown q2 (hnr a3.1)
        have b5 := (a5.alloc (.cells #[.int .i64 f,.int .i64 en,.int .i64 k,.int .i64 t] 59)).grown q2 (hnr a3.2.1)
        have hK6 : Keep (fun _ => False) w w6 := by
          have h0 : Keep (fun _ => False) w (w1.alloc (.cells #[.int .i64 f,.int .i64 en,.int .i64 k,.int .i64 t] 59)) := a1.alloc _
          exact h0.grown q2 (fun j hj => .inr (by have := hrow j hj; omega))
        refine ⟨⟨b6.cell 0,b6.fz 0⟩,?_⟩
        have hkS : Keep (fun j => j = po) w6 (w6.setCell ⟨po,0,none⟩ v') := Keep.set1 w6 po 0 v'
        have hs6 := q2.size
        simp only [World.size_alloc] at hs6
        have hv6 : ∀ j,v'.ownBlock = some j → ¬ (j = po) := fun j hj e => by have := (q1.lt j hj).1; omega
        refine ⟨hK6.setCell (p := ⟨po,0,none⟩) (.inr a5b) _,by rw [size_set]; omega,a3,b4.keep hkS (by simpa using a5c),b5.keep hkS (by simpa using a5d),a5b,a5c,a5d,v',?_,?_⟩
        · have := b6.set 0 v'
          simpa using this
        · rw [hsn,extCells_append,List.length_append,hn]
          exact own_keep q1 hkS hv6
      clear hone hn hbox hi0 hz0 hz1 hz2 a1 a2 a3 a4 a5 a5b a5c a5d a6 a7 hsn hL hnb hbl h he
      go_enter Tryz.func66,Tryz.ntmps66
      go_wp2_with (at_builtin; go_must (refine wpList_append_own _ rfl (.tmp 17) (.tmp 19) 71 rfl B 59 i0 _ 4 32 Tryz.underlying71 HI0.out HZ0.out HZ1.out HZ2.out rfl (by omega) (.slice A n c) n (extCells L) rfl HOA.out ⟨(w1).heap.size,0,none⟩ 1 1 [.int .i64 f,.int .i64 en,.int .i64 k,.int .i64 t] rfl rfl HNW.out HONE.out (by simp only [maxLen]; omega) (by omega) HSZ2.out ?_; intro v2 w6 hown6 hg6 _; obtain ⟨⟨z0,z1⟩,hfin⟩ := HEND.out v2 w6 hown6 hg6; have HFIN := Lib.hid hfin; obtain ⟨A2,c2,e2⟩ := own_slice hown6; subst e2; clear hown6 hg6 hfin))
      go_ret
      exact ⟨by first | rfl | (rw [hdt]; rfl),HFIN.out⟩
    · have hnb : nearB fr up ⟨f,en,k,t⟩ = false := by unfold nearB; simp; intro _; show f + en < fr; omega
      have hdt : decide (f ≤ up) = true := by simpa using h1
      have h1' : ¬ up < f := by omega
      rw [hnb,if_neg (by decide),List.append_nil] at hsn
      have HFIN : Hid (NearS w B pf pt po fr up (done ++ [⟨f,en,k,t⟩]) (wq.alloc (.cells #[.int .i64 f,.int .i64 en,.int .i64 k,.int .i64 t] 59))) := ⟨a1,a2,a3,a4,a5,a5b,a5c,a5d,_,a6,by rw [hsn]; exact a7⟩
      clear a1 a2 a3 a4 a5 a5b a5c a5d a6 a7 hsn hL hnb hbl h he
      go_enter Tryz.func66,Tryz.ntmps66
      go_wp2_with fail
      go_ret
      exact ⟨by first | rfl | (rw [hdt]; rfl),HFIN.out⟩
  · have hnb : nearB fr up ⟨f,en,k,t⟩ = false := by unfold nearB; simp [h1]
    have hdt : decide (f ≤ up) = false := by simpa using h1
    have h1' : up < f := by omega
    rw [hnb,if_neg (by decide),List.append_nil] at hsn
    have HFIN : Hid (NearS w B pf pt po fr up (done ++ [⟨f,en,k,t⟩]) (wq.alloc (.cells #[.int .i64 f,.int .i64 en,.int .i64 k,.int .i64 t] 59))) := ⟨a1,a2,a3,a4,a5,a5b,a5c,a5d,_,a6,by rw [hsn]; exact a7⟩
    clear a1 a2 a3 a4 a5 a5b a5c a5d a6 a7 hsn hL hnb hbl h he
    go_enter Tryz.func66,Tryz.ntmps66
    go_wp2_with fail
    go_ret
    exact ⟨by first | rfl | (rw [hdt]; rfl),HFIN.out⟩
theorem near_hand (w : World) (B pf pt po : Nat) (fr up : Int) : Hand 66 #[.pointer (some ⟨pt,0,none⟩),.pointer (some ⟨pf,0,none⟩),.pointer (some ⟨po,0,none⟩)] (fun e => decide (e.fr ≤ up)) (NearS w B pf pt po fr up) (fun _ => False) w where
  eg := fun _ _ => by kernel_rfl
  call := fun done e wq hd he h => near1_any w B pf pt po fr up done e wq hd he h
  below := fun done wq w' h hb => h.below hb
  keep := fun done wq h => h.1
theorem near_all {l : List Ext} (h : Chk l) (lo hi : Int) : (handed (fun x => decide (x.fr ≤ hi)) (pastL l (lo - 1))).filter (nearB lo hi) = nearL l lo hi := by
  have h1 := near_past h lo hi
  have h2 : ((handed (fun x => decide (x.fr ≤ hi)) (pastL l (lo - 1))).filter (fun x => decide (x.fr ≤ hi))).filter (fun x => decide (lo ≤ x.end_)) = nearL l lo hi := by
    rw [h1]
    unfold nearL
    rw [List.filter_eq_self]
    intro x hx
    have := (List.mem_filter.1 hx).2
    unfold nearB at this
    simp only [Bool.and_eq_true] at this
    exact this.2
  rw [List.filter_filter] at h2
  rw [← h2]
  refine List.filter_congr fun x _ => ?_
  unfold nearB
  exact Bool.and_comm _ _
set_option maxHeartbeats 4000000 in
set_option maxRecDepth 100000 in
theorem near_any (w : World) (F : List Nat) (p : Nat) (T : Tree) (fr up : Int) (ht : TrAt w F p T) (hok : T.Ok) (hc : Chk T.flat) (h0 : 0 ≤ fr) (h1 : fr ≤ 16777216) :
    Calls Tryz.prog 39 #[.pointer (some ⟨p,0,none⟩),.int .i64 fr,.int .i64 up] w fun x w' => ∃ v',x = .returned v' ∧ w'.ownsRow w.heap.size 59 4 v' (nearL T.flat fr up).length (extCells (nearL T.flat fr up)) ∧ Below w.heap.size w w' := by
  obtain ⟨w3,hw3⟩ : ∃ w3,((w.alloc (.cells #[.int .i64 fr] 3)).alloc (.cells #[.int .i64 up] 3)).alloc (.cells #[.slice none 0 0] 71) = w3 := ⟨_,rfl⟩
  have k3 : Keep (fun _ => False) w w3 := by rw [← hw3]; exact (((Keep.refl _ _).alloc _).alloc _).alloc _
  have hs3 : w3.heap.size = w.heap.size + 3 := by rw [← hw3]; simp
  have b1 : Whole w3 w.heap.size 3 #[.int .i64 fr] := by rw [← hw3]; exact ((Whole.new w _ _).alloc _).alloc _
  have b2 : Whole w3 (w.heap.size + 1) 3 #[.int .i64 up] := by rw [← hw3]; exact (Whole.new' _ _ _ _ (by simp)).alloc _
  have b3 : Whole w3 (w.heap.size + 2) 71 #[.slice none 0 0] := by rw [← hw3]; exact Whole.new' _ _ _ _ (by simp)
  have hN : NearS w (w.heap.size + 3) w.heap.size (w.heap.size + 1) (w.heap.size + 2) fr up [] w3 := ⟨k3,by omega,⟨by omega,by omega,by omega⟩,b1,b2,by omega,by omega,by omega,_,b3,⟨rfl,.inl ⟨rfl,rfl⟩⟩⟩
  have hW := walk_any _ _ _ _ _ w (near_hand w (w.heap.size + 3) w.heap.size (w.heap.size + 1) (w.heap.size + 2) fr up) F p T (fr - 1) w3 ht (fun _ _ h => h) hok hc hN
  have hna := near_all hc fr up
  have HW : Hid (Calls Tryz.prog 48 #[.pointer (some ⟨p,0,none⟩),.int .i64 (fr - 1),.func (.func 66) #[] #[.pointer (some ⟨w.heap.size + 1,0,none⟩),.pointer (some ⟨w.heap.size,0,none⟩),.pointer (some ⟨w.heap.size + 1 + 1,0,none⟩)]] w3 fun x w' => x = .returned (.tuple #[]) ∧ ∃ A c,w'.cell? ⟨w.heap.size + 1 + 1,0,none⟩ = some (.slice A (nearL T.flat fr up).length c) ∧ w'.ownsRow w.heap.size 59 4 (.slice A (nearL T.flat fr up).length c) (nearL T.flat fr up).length (extCells (nearL T.flat fr up)) ∧ Below w.heap.size w w') := by
    refine hW.mono ?_
    rintro x w' ⟨rfl,q1,q2,q3,q4,q5,q6,q7,q8,v,q9,q10⟩
    rw [hna] at q10
    obtain ⟨A,c,rfl⟩ := own_slice q10
    exact ⟨rfl,A,c,q9.cell 0,own_base q10 (by omega),⟨q1.os,q1.tape,q1.output,q1.size,fun j hj => q1.block j hj (fun h => h)⟩⟩
  have hfr : wrap64 (fr - 1) = fr - 1 := by unfold wrap64; omega
  obtain ⟨c1,c2⟩ : w3.cell? ⟨w.heap.size,0,none⟩ = some (.int .i64 fr) ∧ True := ⟨b1.cell 0,trivial⟩
  obtain ⟨NL,hNL⟩ : ∃ NL,nearL T.flat fr up = NL := ⟨_,rfl⟩
  rw [hNL] at HW ⊢
  clear hNL hna hW hN b1 b2 b3 k3 hs3 ht hok hc c2
  go_enter Tryz.func39,Tryz.ntmps39
  go_wp2_with fail
  with_reducible refine HW.out.mono ?_
  rintro e w5 ⟨rfl,A,c,z1,z2,z3⟩
  have HZ2 := Lib.hid z2
  have HZ3 := Lib.hid z3
  clear z2 z3
  go_wp2_with fail
  go_ret
  exact ⟨_,rfl,HZ2.out,HZ3.out⟩
end Go.Proofs.YtneammhkgmkkfaaGreatDoor.tr
