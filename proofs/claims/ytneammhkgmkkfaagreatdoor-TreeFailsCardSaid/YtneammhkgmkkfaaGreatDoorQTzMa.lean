/- A part of the proof. -/
import Derived.Test.YtneammhkgmkkfaaGreatDoorQTyMf
namespace Go.Proofs.YtneammhkgmkkfaaGreatDoor.tr
open Go.RowKit Go.Proofs.YtneammhkgmkkfaaGreatDoor.er
set_option linter.unusedVariables false
set_option linter.unusedSimpArgs false
structure Hand (g : Nat) (lb : Array Value) (gd : Ext → Bool) (S : List Ext → World → Prop) (G : Nat → Prop) (w0 : World) : Prop where
  eg : ∀ args w,(callFunc g args).run Tryz.prog w = .ok (.enter g args) w
  call : ∀ done e w,done.length < 16777216 → oneB e = true → S done w → Calls Tryz.prog g (#[e.val] ++ lb) w fun x w' => x = .returned (.bool (gd e)) ∧ S (done ++ [e]) w'
  below : ∀ done w w',S done w → Below w.heap.size w w' → S done w'
  keep : ∀ done w,S done w → Keep G w0 w
def Gd (s : Int) : {h : Nat} → Nd h → Prop
  | 0,n => ∀ e ∈ n.l,oneB e = true
  | _ + 1,n => pastL (flats n.ks) s = pastL (flats (n.ks.drop (under n.ks s))) s ∧ ∀ k ∈ n.ks,Gd s k
theorem gd_chk (s : Int) : ∀ {h : Nat} (n : Nd h),Kw n → Chk (flat n) → Gd s n
  | 0,n,_,hc => hc.one
  | h + 1,n,hk,hc => by
    refine ⟨past_under (h := h) (s := s) hk hc,fun k hm => gd_chk s k (hk k hm).2 ?_⟩
    obtain ⟨P,Q,e⟩ := List.append_of_mem hm
    have : Chk (flats n.ks) := hc
    rw [e,flats_append,flats_cons] at this
    exact this.right.left
def FromCtr (h g : Nat) (lb : Array Value) (gd : Ext → Bool) (S : List Ext → World → Prop) (G : Nat → Prop) (w0 : World) : Prop :=
  ∀ (F : List Nat) (v : Value) (n : Nd h) (s : Int) (done : List Ext) (w : World),NdAt w0 F v n → (∀ k ∈ F,¬ G k) → Kw n → 1 ≤ n.size → n.size ≤ 100 → Gd s n → done.length + (flat n).length ≤ 16777216 → S done w →
    Calls Tryz.prog 81 #[v,.int .i64 s,.func (.func g) #[] lb] w fun x w' => x = .returned (.bool ((pastL (flat n) s).all gd)) ∧ S (done ++ handed gd (pastL (flat n) s)) w'
theorem take_chk {l : List Ext} (h : Chk l) (j : Nat) : Chk (l.take j) := ⟨fun e he => h.one e (List.mem_of_mem_take he),h.ord.sublist (List.take_sublist _ _)⟩
theorem past_take {l : List Ext} {s : Int} {j : Nat} {e : Ext} (h : l[j]? = some e) : pastL (l.take (j + 1)) s = pastL (l.take j) s ++ (if s < e.end_ then [e] else []) := by
  obtain ⟨hj,he⟩ := List.getElem?_eq_some_iff.1 h
  rw [List.take_succ_eq_append_getElem hj,he,past_append]
  congr 1
  unfold pastL
  by_cases hs : s < e.end_ <;> simp [hs]
theorem past_split {l : List Ext} {s : Int} {j : Nat} {e : Ext} (h : l[j]? = some e) (hs : s < e.end_) : ∃ r,pastL l s = pastL (l.take j) s ++ e :: r := by
  obtain ⟨e1,_⟩ := (show l = l.take j ++ e :: l.drop (j + 1) ∧ True by
    obtain ⟨hj,he⟩ := List.getElem?_eq_some_iff.1 h
    refine ⟨?_,trivial⟩
    have a1 : l.drop j = e :: l.drop (j + 1) := by rw [← he]; exact List.drop_eq_getElem_cons hj
    rw [← a1,List.take_append_drop])
  refine ⟨pastL (l.drop (j + 1)) s,?_⟩
  conv => lhs; rw [e1]
  rw [past_append]
  congr 1
  unfold pastL
  simp [hs]
set_option maxHeartbeats 4000000 in
set_option maxRecDepth 100000 in
theorem from_leaf (g : Nat) (lb : Array Value) (gd : Ext → Bool) (S : List Ext → World → Prop) (G : Nat → Prop) (w0 : World) (H : Hand g lb gd S G w0) (b q c : Nat) (a : Int) (l : List Ext) (s : Int) (done : List Ext) (w : World) (hl : LfAt w0 b q c a l) (hb : ¬ G b) (hq : ¬ G q) (hc : ∀ e ∈ l,oneB e = true) (hm : l.length ≤ 100) (hN : done.length + l.length ≤ 16777216) (hS : S done w) :
    Calls Tryz.prog 81 #[ptrV 0 b,.int .i64 s,.func (.func g) #[] lb] w fun x w' => x = .returned (.bool ((pastL l s).all gd)) ∧ S (done ++ handed gd (pastL l s)) w' := by
  have eg := H.eg
  have HH := Lib.hid H
  have HL : Hid (∀ done wq,S done wq → LfAt wq b q c a l) := fun done wq h => hl.keep (H.keep done wq h) hb hq
  have HC := Lib.hid hc
  obtain ⟨n,hn⟩ : ∃ n,l.length = n := ⟨_,rfl⟩
  have HN := Lib.hid hn
  have c1 : w.cell? ⟨b,1,none⟩ = some (.slice (some ⟨q,0,none⟩) n c) := by have := (HL.out done w hS).1.cell 1; rw [hn] at this; exact this
  have HS0 := Lib.hid hS
  rw [hn] at hm hN
  have HLEN : Hid (∀ j,(pastL (l.take j) s).length ≤ j) := fun j => Nat.le_trans (List.length_filter_le _ _) (by rw [List.length_take]; omega)
  have hta := ta_ll
  have htb := ta_li
  obtain ⟨PL,hPL⟩ : ∃ PL,pastL l s = PL := ⟨_,rfl⟩
  have HPL := Lib.hid hPL
  rw [hPL]
  clear hPL hn hl hb hq hc hS H
  show Calls Tryz.prog 81 #[.iface 117 (.pointer (some ⟨b,0,none⟩)),.int .i64 s,.func (.func g) #[] lb] w _
  go_enter Tryz.func81,Tryz.ntmps81
  go_wp2_with fail
  go_loopw [9,22] (fun s9 i wr => ∃ (j : Nat),j ≤ n ∧ i = .int .i64 j ∧ Hid ((pastL (l.take j) s).all gd = true) ∧ Hid (S (done ++ pastL (l.take j) s) wr)) (fun _ i _ => n - (intOf i).toNat)
  case atStart => exact ⟨0,Nat.zero_le _,rfl,rfl,by show S _ _; simpa [pastL] using HS0.out⟩
  case round =>
    obtain ⟨j,hj,rfl,HA,HS⟩ := hrel
    by_cases hlt : j < n
    · have hji : (j : Int) < (n : Int) := by omega
      obtain ⟨e,hx⟩ : ∃ e,l[j]? = some e := ⟨l[j]'(by have := HN.out; omega),List.getElem?_eq_getElem (by have := HN.out; omega)⟩
      have HX := Lib.hid hx
      obtain ⟨k0,k1,k2,k3⟩ := extCells_at l j e hx
      have hrow := (HL.out _ wr HS.out).2
      have c0 := hrow.cell k0
      have c1' := hrow.cell k1
      have c2 := hrow.cell k2
      have c3 := hrow.cell k3
      have ho := HC.out e (List.mem_of_getElem? hx)
      have HO := Lib.hid ho
      obtain ⟨o1,o2,o3,o4⟩ := one_spec ho
      have HT1 : Hid (s < e.fr + e.n → pastL (l.take (j + 1)) s = pastL (l.take j) s ++ [e]) := fun h => by rw [past_take hx,if_pos (show s < e.end_ from h)]
      have HT0 : Hid (¬ s < e.fr + e.n → pastL (l.take (j + 1)) s = pastL (l.take j) s) := fun h => by rw [past_take hx,if_neg (show ¬ s < e.end_ from h),List.append_nil]
      have HSP : Hid (s < e.fr + e.n → ∃ r,pastL l s = pastL (l.take j) s ++ e :: r) := fun h => past_split hx h
      obtain ⟨f,en,k,t⟩ := e
      simp only at c0 c1' c2 c3 o1 o2 o3
      have HA0 : Hid (S (done ++ pastL (l.take j) s) (wr.alloc (.cells #[.int .i64 f,.int .i64 en,.int .i64 k,.int .i64 t] 59))) := HH.out.below _ _ _ HS.out ((Below.refl _ _).alloc (Nat.le_refl _) _)
      clear hx k0 k1 k2 k3 hrow ho o4
      by_cases hs : s < f + en
      · have HCL := Lib.hid (HH.out.call _ _ _ (by rw [List.length_append]; have := HLEN.out j; omega) HO.out HA0.out)
        simp only [Ext.val] at HCL
        cases hg : gd ⟨f,en,k,t⟩
        · have HR : Hid (PL.all gd = false ∧ done ++ handed gd PL = done ++ pastL (l.take j) s ++ [⟨f,en,k,t⟩]) := by
            obtain ⟨r,hr⟩ := HSP.out hs
            show _ ∧ _
            rw [← HPL.out,hr,handed_app,if_pos HA.out]
            refine ⟨by simp [hg],?_⟩
            unfold handed
            rw [if_neg (by simp [hg])]
            simp
          rw [hg] at HCL
          clear hg
          go_wp2_with fail
          refine (HCL.out).mono ?_
          rintro e w5 ⟨rfl,hs5⟩
          have HS5 := Lib.hid hs5
          clear hs5
          go_wp2_with fail
          go_ret
          exact ⟨by rw [HR.out.1]; rfl,by rw [HR.out.2]; exact HS5.out⟩
        · have HA2 : Hid ((pastL (l.take (j + 1)) s).all gd = true) := by show _ = _; rw [HT1.out hs,List.all_append,HA.out]; simp [hg]
          rw [hg] at HCL
          clear hg
          go_wp2_with fail
          refine (HCL.out).mono ?_
          rintro e w5 ⟨rfl,hs5⟩
          have HS5 : Hid (S (done ++ pastL (l.take (j + 1)) s) w5) := by show S _ _; rw [HT1.out hs,← List.append_assoc]; exact hs5
          clear hs5
          go_wp2_with fail
          go_roundw
          case rel => exact ⟨j + 1,by omega,by go_num,HA2,HS5⟩
          case measure => simp [intOf]; omega
      · have HA2 : Hid ((pastL (l.take (j + 1)) s).all gd = true) := by show _ = _; rw [HT0.out hs]; exact HA.out
        have HS5 : Hid (S (done ++ pastL (l.take (j + 1)) s) (wr.alloc (.cells #[.int .i64 f,.int .i64 en,.int .i64 k,.int .i64 t] 59))) := by show S _ _; rw [HT0.out hs]; exact HA0.out
        go_wp2_with fail
        go_roundw
        case rel => exact ⟨j + 1,by omega,by go_num,HA2,HS5⟩
        case measure => simp [intOf]; omega
    · obtain rfl : j = n := by omega
      have hfull : l.take j = l := by rw [← HN.out]; exact List.take_length
      rw [hfull,HPL.out] at HA HS
      have HR : Hid (handed gd PL = PL) := handed_all HA.out
      go_wp2_with fail
      go_ret
      exact ⟨by rw [HA.out]; rfl,by rw [HR.out]; exact HS.out⟩
theorem chk_low : ∀ (l : List Ext) (a : Int),Chk l → 0 ≤ a → a ≤ 16777216 → (∀ e ∈ l,a ≤ e.fr) → (l.length : Int) ≤ 16777216 - a
  | [],a,_,h0,h1,_ => by simp; omega
  | e :: l,a,hc,h0,h1,hl => by
    have ho := one_spec (hc.one e (by simp))
    have hp := List.pairwise_cons.1 hc.ord
    have he : e.end_ = e.fr + e.n := rfl
    have := chk_low l e.end_ hc.tail (by omega) (by omega) (fun x hx => (hp.1 x hx).1)
    have := hl e (by simp)
    simp only [List.length_cons]
    omega
theorem chk_len {l : List Ext} (h : Chk l) : l.length ≤ 16777216 := by
  have := chk_low l 0 h (by omega) (by omega) (fun e he => (one_spec (h.one e he)).1)
  omega
end Go.Proofs.YtneammhkgmkkfaaGreatDoor.tr
namespace Go.Proofs.YtneammhkgmkkfaaGreatDoor.tr
open Go.RowKit Go.Proofs.YtneammhkgmkkfaaGreatDoor.er
set_option linter.unusedVariables false
set_option linter.unusedSimpArgs false
theorem pastF_take {h : Nat} {ks : List (Nd h)} {s : Int} {j : Nat} {k : Nd h} (hk : ks[j]? = some k) : pastL (flats (ks.take (j + 1))) s = pastL (flats (ks.take j)) s ++ pastL (flat k) s := by
  obtain ⟨hj,he⟩ := List.getElem?_eq_some_iff.1 hk
  rw [List.take_succ_eq_append_getElem hj,he,flats_append,past_append]
  simp
theorem pastF_split {h : Nat} {ks : List (Nd h)} {s : Int} {j : Nat} {k : Nd h} (hk : ks[j]? = some k) : ∃ r,pastL (flats ks) s = pastL (flats (ks.take j)) s ++ (pastL (flat k) s ++ r) := by
  obtain ⟨hj,he⟩ := List.getElem?_eq_some_iff.1 hk
  refine ⟨pastL (flats (ks.drop (j + 1))) s,?_⟩
  have a1 : ks.drop j = k :: ks.drop (j + 1) := by rw [← he]; exact List.drop_eq_getElem_cons hj
  conv => lhs; rw [← List.take_append_drop j ks,a1]
  rw [flats_append,past_append,flats_cons,past_append]
set_option maxHeartbeats 4000000 in
set_option maxRecDepth 100000 in
theorem from_inner (h g : Nat) (lb : Array Value) (gd : Ext → Bool) (S : List Ext → World → Prop) (G : Nat → Prop) (w0 : World) (H : Hand g lb gd S G w0) (IH : FromCtr h g lb gd S G w0) (b q c : Nat) (a : Int) (ds : List (Kd h)) (s : Int) (done : List Ext) (w : World) (hin : InAt w0 b q c a ds) (hG : ∀ k ∈ b :: q :: dsF ds,¬ G k)
    (hk : Kw (mkI a (ds.map fun d => d.2.2))) (h1 : 1 ≤ ds.length) (hm : ds.length ≤ 100) (hc : Gd s (mkI a (ds.map fun d => d.2.2))) (hN : done.length + (flats (ds.map fun d => d.2.2)).length ≤ 16777216) (hS : S done w) :
    Calls Tryz.prog 81 #[ptrV (h + 1) b,.int .i64 s,.func (.func g) #[] lb] w fun x w' => x = .returned (.bool ((pastL (flats (ds.map fun d => d.2.2)) s).all gd)) ∧ S (done ++ handed gd (pastL (flats (ds.map fun d => d.2.2)) s)) w' := by
  have HH := Lib.hid H
  have HL : Hid (∀ done wq,S done wq → InAt wq b q c a ds) := fun done wq h => ⟨hin.1.keep (H.keep done wq h) (hG b (by simp)),hin.2.1.keep (H.keep done wq h) (hG q (by simp)),kids_keep (H.keep done wq h) hin.2.2 (fun k hk => hG k (by simp [hk]))⟩
  obtain ⟨u,hu⟩ : ∃ u,under (ds.map fun d => d.2.2) s = u := ⟨_,rfl⟩
  have hul : u < ds.length := by rw [← hu]; have := under_lt (ds.map fun d => d.2.2) s (by simpa using h1); simpa using this
  have hSd : S done w.drew := H.below _ _ _ hS (Below.drew (Below.refl _ _))
  have HUN : Hid (Calls Tryz.prog 108 #[.pointer (some ⟨b,0,none⟩),.int .i64 s] w.drew fun e w' => e = .returned (.int .i64 u) ∧ w.drew = w') := by
    have := under_any w.drew h b _ _ s (inner_at (HL.out _ _ hSd)) hk (by show 1 ≤ (ds.map _).length; simpa using h1) (by show (ds.map _).length ≤ 100; simp; omega)
    rw [show under (mkI a (ds.map fun d => d.2.2)).ks s = u from hu] at this
    exact this
  have hpu : pastL (flats (ds.map fun d => d.2.2)) s = pastL (flats ((ds.map fun d => d.2.2).drop (under (ds.map fun d => d.2.2) s))) s := hc.1
  rw [hu] at hpu
  obtain ⟨ks,hks⟩ : ∃ ks,(ds.map fun d => d.2.2).drop u = ks := ⟨_,rfl⟩
  rw [hks] at hpu
  obtain ⟨n,hn⟩ : ∃ n,ds.length = n := ⟨_,rfl⟩
  have HLN : Hid (∀ j k,ks[j]? = some k → (done ++ pastL (flats (ks.take j)) s).length + (flat k).length ≤ 16777216) := by
    intro j k hk2
    have e1 : (ds.map fun d => d.2.2) = (ds.map fun d => d.2.2).take u ++ ks := by rw [← hks,List.take_append_drop]
    obtain ⟨jl,je⟩ := List.getElem?_eq_some_iff.1 hk2
    have e2 : ks = ks.take j ++ k :: ks.drop (j + 1) := by
      have a1 : ks.drop j = k :: ks.drop (j + 1) := by rw [← je]; exact List.drop_eq_getElem_cons jl
      rw [← a1,List.take_append_drop]
    have e3 : (pastL (flats (ks.take j)) s).length ≤ (flats (ks.take j)).length := List.length_filter_le _ _
    rw [e1,e2] at hN
    simp only [flats_append,flats_cons,List.length_append] at hN ⊢
    omega
  have hkl : ks.length = n - u := by rw [← hks,List.length_drop,List.length_map,hn]
  have hcap : n ≤ c := by have := hin.2.1.fit; rw [List.length_map] at this; omega
  have hcm := hin.2.1.cap
  unfold maxLen at hcm
  have HKD : Hid (∀ j,j < n - u → ∃ (d : Kd h) (kb : Nat),ks[j]? = some d.2.2 ∧ (∀ done wq,S done wq → wq.cell? ⟨q,u + j,none⟩ = some (.iface (ndT h) (.pointer (some ⟨kb,0,none⟩)))) ∧ ∀ done wq,done.length + (flat d.2.2).length ≤ 16777216 → S done wq → Calls Tryz.prog 81 #[.iface (ndT h) (.pointer (some ⟨kb,0,none⟩)),.int .i64 s,.func (.func g) #[] lb] wq fun x w' => x = .returned (.bool ((pastL (flat d.2.2) s).all gd)) ∧ S (done ++ handed gd (pastL (flat d.2.2) s)) w') := by
    intro j hj
    have hjl : u + j < ds.length := by omega
    have hd := List.getElem?_eq_getElem hjl
    have hmem := List.getElem_mem hjl
    obtain ⟨kb,kF,f1,f2⟩ := (hin.2.2 _ hmem).form
    have hkw : Wf (ds[u + j]'hjl).2.2 := hk.mem (List.mem_map.2 ⟨_,hmem,rfl⟩)
    have hkc : Gd s (ds[u + j]'hjl).2.2 := hc.2 _ (List.mem_map.2 ⟨_,hmem,rfl⟩)
    refine ⟨ds[u + j]'hjl,kb,?_,fun done wq h => ?_,fun done wq hl h => ?_⟩
    · rw [← hks,List.getElem?_drop,List.getElem?_map,hd]; rfl
    · rw [← f2]
      exact (HL.out _ _ h).2.1.cell (by rw [List.getElem?_map,hd]; rfl)
    · rw [← f2]
      exact IH _ _ _ s done wq (hin.2.2 _ hmem) (fun k hk => hG k (List.mem_cons_of_mem _ (List.mem_cons_of_mem _ (mem_dsF hmem hk)))) hkw.2 (by have := hkw.1; omega) (by have := hkw.1; omega) hkc hl h
  have hun : u < n := by omega
  obtain ⟨m,hmm⟩ : ∃ m,n - u = m := ⟨_,rfl⟩
  have c1 : w.cell? ⟨b,1,none⟩ = some (.slice (some ⟨q,0,none⟩) n c) := by have := (HL.out done w hS).1.cell 1; rw [hn] at this; exact this
  have HS0 := Lib.hid hSd
  have hta := ta_ii
  have htb := ta_il
  obtain ⟨PL,hPL⟩ : ∃ PL,pastL (flats (ds.map fun d => d.2.2)) s = PL := ⟨_,rfl⟩
  rw [hPL]
  have HPL : Hid (pastL (flats ks) s = PL) := by show _ = _; rw [← hpu]; exact hPL
  have HKL := Lib.hid hkl
  have hcu : ¬ (c = u) := by omega
  have hu1 : (u : Int) ≤ (n : Int) := by omega
  have hu2 : (0 : Int) ≤ (u : Int) := by omega
  have hu3 : u ≤ n := by omega
  have hu4 : (n : Int) ≤ 100 := by omega
  rw [hmm] at HKD HKL
  have HMM := Lib.hid hmm
  have hmi : (m : Int) ≤ 100 := by omega
  have hmi2 : n - u = m := hmm
  clear hpu hks hkl hPL hmm hn hun hul hu hSd hcap hin hG hk h1 hm hc hN hS H IH
  show Calls Tryz.prog 81 #[.iface 94 (.pointer (some ⟨b,0,none⟩)),.int .i64 s,.func (.func g) #[] lb] w _
  go_enter Tryz.func81,Tryz.ntmps81
  go_wp2_with fail
  go_region_held3 (fun w' => w'.cell? ⟨b,1,none⟩ = some (.slice (some ⟨q,0,none⟩) n c) ∧ w' = w.drew) (first | exact ⟨c1,rfl⟩ | exact ⟨c1,trivial⟩) ((go_at_call 108; (with_reducible refine (HUN.out).mono ?_); rintro e w5 ⟨rfl,rfl⟩))
  go_wp2_with fail
  go_loopw [12,52] (fun s12 i wr => ∃ (j : Nat),j ≤ m ∧ i = .int .i64 j ∧ Hid ((pastL (flats (ks.take j)) s).all gd = true) ∧ Hid (S (done ++ pastL (flats (ks.take j)) s) wr)) (fun _ i _ => m - (intOf i).toNat)
  case atStart => exact ⟨0,Nat.zero_le _,rfl,rfl,by show S _ _; simpa [pastL] using HS0.out⟩
  case round =>
    obtain ⟨j,hj,rfl,HA,HS⟩ := hrel
    by_cases hlt : j < m
    · have hji : (j : Int) < (m : Int) := by omega
      obtain ⟨d,kb,d1,d2,d3⟩ := HKD.out j hlt
      have c2 := d2 _ _ HS.out
      have HCL := Lib.hid (d3 _ _ (HLN.out j _ d1) HS.out)
      have HT := Lib.hid (pastF_take (s := s) d1)
      have HSP := Lib.hid (pastF_split (s := s) d1)
      clear d1 d2 d3
      cases hg : (pastL (flat d.2.2) s).all gd
      · have HR : Hid (PL.all gd = false ∧ done ++ handed gd PL = done ++ pastL (flats (ks.take j)) s ++ handed gd (pastL (flat d.2.2) s)) := by
          obtain ⟨r,hr⟩ := HSP.out
          show _ ∧ _
          rw [← HPL.out,hr,handed_app,if_pos HA.out,handed_app,if_neg (by rw [hg]; decide)]
          refine ⟨?_,by rw [List.append_assoc]⟩
          rw [List.all_append,List.all_append,hg]; simp
        rw [hg] at HCL
        clear hg
        go_wp2_with fail
        with_reducible refine (HCL.out).mono ?_
        rintro e w5 ⟨rfl,hs5⟩
        have HS5 := Lib.hid hs5
        clear hs5
        go_wp2_with fail
        go_ret
        exact ⟨by rw [HR.out.1]; rfl,by rw [HR.out.2]; exact HS5.out⟩
      · have HA2 : Hid ((pastL (flats (ks.take (j + 1))) s).all gd = true) := by show _ = _; rw [HT.out,List.all_append,HA.out,hg]; rfl
        have HHA : Hid (handed gd (pastL (flat d.2.2) s) = pastL (flat d.2.2) s) := handed_all hg
        rw [hg] at HCL
        clear hg
        go_wp2_with fail
        with_reducible refine (HCL.out).mono ?_
        rintro e w5 ⟨rfl,hs5⟩
        have HS5 : Hid (S (done ++ pastL (flats (ks.take (j + 1))) s) w5) := by show S _ _; rw [HT.out,← List.append_assoc]; rw [HHA.out] at hs5; exact hs5
        clear hs5
        go_wp2_with fail
        go_roundw
        case rel => exact ⟨j + 1,by omega,by go_num,HA2,HS5⟩
        case measure => simp [intOf]; omega
    · obtain rfl : j = m := by omega
      have hfull : ks.take j = ks := by rw [← HKL.out]; exact List.take_length
      rw [hfull,HPL.out] at HA HS
      have HR : Hid (handed gd PL = PL) := handed_all HA.out
      go_wp2_with fail
      go_ret
      exact ⟨by rw [HA.out]; rfl,by rw [HR.out]; exact HS.out⟩
theorem from_any (g : Nat) (lb : Array Value) (gd : Ext → Bool) (S : List Ext → World → Prop) (G : Nat → Prop) (w0 : World) (H : Hand g lb gd S G w0) : ∀ h,FromCtr h g lb gd S G w0
  | 0 => fun F v n s done w hn hG hk h1 h100 hc hN hS => by
    obtain ⟨b,q,c,rfl,rfl,hl⟩ := leaf_open hn
    exact from_leaf g lb gd S G w0 H b q c _ _ s done w hl (hG b (by simp)) (hG q (by simp)) hc h100 hN hS
  | h + 1 => fun F v n s done w hn hG hk h1 h100 hc hN hS => by
    obtain ⟨b,q,c,ds,rfl,rfl,hl,e⟩ := inner_open hn
    have hlen : n.ks.length = ds.length := by rw [e,List.length_map]
    have h1' : 1 ≤ n.ks.length := h1
    have h8' : n.ks.length ≤ 100 := h100
    have hf : flat n = flats (ds.map fun d => d.2.2) := by show flats n.ks = _; rw [e]
    rw [hf] at hN ⊢
    exact from_inner h g lb gd S G w0 H (from_any g lb gd S G w0 H h) b q c _ ds s done w hl hG (fun k hm => hk k (by rw [e]; exact hm)) (by omega) (by omega) (by have hc1 := hc.1; have hc2 := hc.2; rw [e] at hc1 hc2; exact ⟨hc1,hc2⟩) hN hS
end Go.Proofs.YtneammhkgmkkfaaGreatDoor.tr
