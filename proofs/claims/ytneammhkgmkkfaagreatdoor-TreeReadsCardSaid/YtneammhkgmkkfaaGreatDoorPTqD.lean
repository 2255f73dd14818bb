/- A part of the proof. -/
import Derived.Test.YtneammhkgmkkfaaGreatDoorPTqC
namespace Go.Proofs.YtneammhkgmkkfaaGreatDoor.tr
open Go.RowKit Go.Proofs.YtneammhkgmkkfaaGreatDoor.er
set_option linter.unusedVariables false
set_option linter.unusedSimpArgs false
def Ne : {h : Nat} → Nd h → Prop
  | 0,n => 1 ≤ n.l.length
  | _ + 1,n => 1 ≤ n.ks.length ∧ ∀ k ∈ n.ks,Ne k
set_option maxHeartbeats 4000000 in
theorem firstNe_any (w : World) : ∀ (h : Nat) (b : Nat) (F : List Nat) (n : Nd h),NdAt w F (.iface (ndT h) (.pointer (some ⟨b,0,none⟩))) n → Ne n →
    Calls Tryz.prog (fiF h) #[.pointer (some ⟨b,0,none⟩)] w fun e w' => e = .returned (.int .i64 (firstN n)) ∧ w = w'
  | 0,b,F,n,⟨b',g,c,h1,h2,h3,h4⟩,hs => by
    obtain rfl := ptr_inj h2
    clear h2
    have hs' : 1 ≤ (Nd.l n).length := hs
    have HR : Hid (firstN n = match n.l with | [] => 0 | e :: _ => e.fr) := by show _ = _; unfold firstN; rfl
    obtain ⟨e,r,hl⟩ : ∃ e r,Nd.l n = e :: r := by
      cases hl : Nd.l n with
      | nil => rw [hl] at hs'; simp at hs'
      | cons e r => exact ⟨e,r,rfl⟩
    rw [HR.out,hl]
    rw [hl] at h3 h4
    have c1 := h3.cell 1
    simp at c1
    have d0 := h4.cell (extCells_at (e :: r) 0 e rfl).1
    simp at d0
    have hp : (0 : Int) < ((r.length : Int) + 1) := by omega
    have hp' : 0 < r.length + 1 := by omega
    clear h1 h4 h3 hl hs' hs HR
    obtain ⟨m,hm⟩ : ∃ m,r.length = m := ⟨_,rfl⟩
    rw [hm] at c1 hp hp'
    clear hm
    show Calls Tryz.prog 194 _ w _
    go_enter Tryz.func194,Tryz.ntmps194
    go_wp2_with fail
    go_ret
    exact ⟨rfl,rfl⟩
  | h + 1,b,F,n,⟨b',g,c,ds,h1,h2,h3,h4,h5,h6⟩,hs => by
    obtain rfl := ptr_inj h2
    clear h2
    have hs' : 1 ≤ (Nd.ks n).length := hs.1
    cases ds with
    | nil => rw [h4] at hs'; simp at hs'
    | cons d ds =>
      have hd := h6 d (by simp)
      have hkw : Ne d.2.2 := hs.2 d.2.2 (by rw [h4]; simp)
      obtain ⟨kb,kF,hk1,hk2⟩ := hd.form
      have hr : firstN n = firstN d.2.2 := by show (match n.ks with | [] => (0 : Int) | k :: _ => firstN k) = _; rw [h4]; rfl
      rw [hr]
      rw [h4] at h3
      have c1 := h3.cell 1
      simp at c1
      have d0 := h5.cell (j := 0) (v := d.2.1) rfl
      rw [hk2] at hd d0
      have HC := Lib.hid (firstNe_any w h kb d.1 d.2.2 hd hkw)
      have hme := meFi (.pointer (some ⟨kb,0,none⟩)) w h
      have hen := enFi #[.pointer (some ⟨kb,0,none⟩)] w h
      obtain ⟨x,hx⟩ : ∃ x,firstN d.2.2 = x := ⟨_,rfl⟩
      rw [hx] at HC ⊢
      have hp : (0 : Int) < ((ds.length : Int) + 1) := by omega
      have hp' : 0 < ds.length + 1 := by omega
      obtain ⟨m,hm⟩ : ∃ m,ds.length = m := ⟨_,rfl⟩
      rw [hm] at c1 hp hp'
      clear hm h1 h3 h4 h5 h6 hs' hs hd hkw hk1 hk2 hr hx
      show Calls Tryz.prog 191 _ w _
      go_enter Tryz.func191,Tryz.ntmps191
      go_wp2_with fail
      refine HC.out.mono ?_
      rintro e w' ⟨rfl,rfl⟩
      go_wp2_with fail
      go_ret
      exact ⟨rfl,rfl⟩
def rdKids {h : Nat} (f : Int → Option (Nd h)) : List Kid → Option (List (Nd h))
  | [] => some []
  | k :: r => match f k.at_ with
    | none => none
    | some d => if firstN d = k.key then (rdKids f r).map (fun t => d :: t) else none
open Classical in
noncomputable def readN (L : Bk) (top : Int) : (h : Nat) → Int → Option (Nd h)
  | 0,pg => match getB L pg with
    | none => none
    | some p => if p.1 = 2 ∧ (okE p.2 = true ∧ MayE (extsD p.2)) ∧ smallB pg top (extsD p.2).length 1 = false then some (mkL pg (extsD p.2)) else none
  | h + 1,pg => match getB L pg with
    | none => none
    | some p => if p.1 = 3 ∧ (okK p.2 = true ∧ MayK (kidsD p.2)) ∧ smallB pg top (kidsD p.2).length 2 = false then (rdKids (readN L top h) (kidsD p.2)).map (fun t => mkI pg t) else none
def RdPost {h : Nat} (o : Option (Nd h)) (w : World) (x : Ending) (w' : World) : Prop :=
  match o with
  | some n => ∃ F b,x = .returned (.tuple #[ptrV h b,.nilIface]) ∧ NdAt w' F (ptrV h b) n ∧ F.Nodup ∧ (∀ k ∈ F,w.heap.size ≤ k) ∧ Ne n ∧ Below w.heap.size w w'
  | none => ∃ e,x = .returned (.tuple #[.nilIface,.iface 88 e]) ∧ ErrAt w' (.iface 88 e) ∧ Below w.heap.size w w'
def RdAt (w : World) (r bb : Nat) (G : Nat → Prop) (L : Bk) (top : Int) : Prop :=
  Whole w r 66 #[.func (.func 7) #[.pointer (some ⟨bb,0,none⟩)] #[],.int .i64 top] ∧ BkV w bb L
theorem RdAt.below {w w' : World} {r bb : Nat} {G : Nat → Prop} {L : Bk} {top : Int} (h : RdAt w r bb G L top) (hb : Below w.heap.size w w') : RdAt w' r bb G L top :=
  ⟨h.1.keep (Keep.below (F := fun _ => False) hb) (fun h => h),h.2.below hb⟩
def I64 (x : Int) : Prop := -9223372036854775808 ≤ x ∧ x ≤ 9223372036854775807
def RdCtr (h : Nat) : Prop := ∀ (w : World) (r bb : Nat) (G : Nat → Prop) (L : Bk) (top pg : Int),RdAt w r bb G L top → (∀ p ∈ L,p.2.size ≤ 1000000) → I64 pg →
  Calls Tryz.prog 23 #[.pointer (some ⟨r,0,none⟩),.int .i64 pg,.int .i64 ((h : Int) + 1)] w (RdPost (readN L top h pg) w)
theorem getB_mem {L : Bk} {pg : Int} {p : Int × ByteArray} (h : getB L pg = some p) : p ∈ L := by
  unfold getB at h
  split at h
  · cases h
  · exact List.mem_of_getElem? h
theorem leaf_made {w wq : World} {l : List Ext} {A : Option Addr} {c : Nat} {pg : Int} (h1 : 1 ≤ l.length) (h : wq.ownsRow w.heap.size 59 4 (.slice A l.length c) l.length (extCells l)) (hw : w.heap.size ≤ wq.heap.size) :
    ∃ F,NdAt (wq.alloc (.cells #[.int .i64 pg,.slice A l.length c] 119)) F (ptrV 0 wq.heap.size) (mkL pg l) ∧ F.Nodup ∧ (∀ k ∈ F,w.heap.size ≤ k) ∧ Ne (mkL pg l) := by
  obtain ⟨g,c2,e,hr,hg⟩ := Row.own h h1
  injection e with e1 e2 e3
  subst e1 e3
  have hgl := hr.lt
  refine ⟨[wq.heap.size,g],leaf_at ⟨Whole.new _ _ _,hr.keep (Keep.below (F := fun _ => False) ((Below.refl _ _).alloc (Nat.le_refl _) _)) (fun h => h)⟩,?_,?_,h1⟩
  · simp; omega
  · intro k hk
    simp at hk
    rcases hk with rfl | rfl <;> omega
open Classical in
set_option maxHeartbeats 8000000 in
set_option maxRecDepth 100000 in
theorem rd_leaf : RdCtr 0 := by
  intro w r bb G L top pg hr hsz hpg
  have c0 := hr.1.cell 0
  have c1 := hr.1.cell 1
  simp at c0 c1
  have HG := Lib.hid (get_any w G bb L pg hr.2 hpg)
  have HC1 : Hid (∀ wq,Below w.heap.size w wq → wq.cell? ⟨r,1,none⟩ = some (.int .i64 top)) := fun wq hb => below_c hb c1
  have HRN : Hid (readN L top 0 pg = match getB L pg with | none => none | some p => if p.1 = 2 ∧ (okE p.2 = true ∧ MayE (extsD p.2)) ∧ smallB pg top (extsD p.2).length 1 = false then some (mkL pg (extsD p.2)) else none) := by show _ = _; rfl
  have HWR := Lib.hid (fun op c h wq => wrapErr_any op pg c h wq)
  have HERR : Hid (∀ y wq,readN L top 0 pg = none → ErrAt wq (.iface 88 y) → Below w.heap.size w wq → RdPost (readN L top 0 pg) w (.returned (.tuple #[.nilIface,.iface 88 y])) wq) := by
    intro y wq h1 h2 h3
    rw [h1]
    exact ⟨y,rfl,h2,h3⟩
  have HSM := Lib.hid (fun wq n hb => small_any r pg top n 1 wq (HC1.out wq hb))
  show Calls Tryz.prog 23 #[.pointer (some ⟨r,0,none⟩),.int .i64 pg,.int .i64 1] w _
  cases hgb : getB L pg with
  | none =>
    rw [hgb] at HG HRN
    have HNN : Hid (readN L top 0 pg = none) := HRN.out
    clear hr hsz hpg hgb HRN HSM HC1
    go_enter Tryz.func23,Tryz.ntmps23
    go_wp2_with fail
    with_reducible refine HG.out.mono ?_
    rintro e w1 ⟨rfl,hb1⟩
    have HB1 := Lib.hid hb1
    clear hb1
    go_wp2_with fail
    with_reducible refine (HWR.out _ 4 (.inr rfl) _).mono ?_
    rintro e w2 ⟨y,rfl,he2,hb2⟩
    have HE := Lib.hid (HERR.out y w2 HNN.out he2 (HB1.out.trans (hb2.mono HB1.out.size)))
    clear he2 hb2
    go_wp2_with fail
    refine bodyPost_ret (v := .tuple #[.nilIface,.iface 88 y]) (by simp [results,Tryz.results23,go_sem]) rfl HE.out
  | some p =>
    obtain ⟨kd,s⟩ := p
    have hss := hsz _ (getB_mem hgb)
    rw [hgb] at HG HRN
    simp only at hss
    have HRL := Lib.hid (fun wq => readLeaf_any s wq hss)
    clear hr hsz hpg hgb HC1
    go_enter Tryz.func23,Tryz.ntmps23
    go_wp2_with fail
    with_reducible refine HG.out.mono ?_
    rintro e w1 ⟨rfl,hb1⟩
    have HB1 := Lib.hid hb1
    clear hb1
    go_wp2_with fail
    with_reducible refine (HWR.out _ 3 (.inl rfl) _).mono ?_
    rintro e w2 ⟨y,rfl,he2,hb2⟩
    have HE2 := Lib.hid he2
    have HB2 := Lib.hid (HB1.out.trans (hb2.mono HB1.out.size))
    have HL2 := Lib.hid (HRL.out w2)
    clear he2 hb2
    go_wp2_with fail
    with_reducible refine HL2.out.mono ?_
    rintro e w3 (⟨A,c,rfl,k1,k2,k3,k4⟩ | ⟨rfl,k1,k2⟩)
    · obtain ⟨n,hn⟩ : ∃ n,(extsD s).length = n := ⟨_,rfl⟩
      have hn8 : 1 ≤ n ∧ n ≤ 8 := by
        unfold MayE extB at k2
        simp at k2
        omega
      have hni : (n : Int) ≤ 8 := by omega
      have HB3 := Lib.hid (HB2.out.trans (k4.mono HB2.out.size))
      have HE3 := Lib.hid (HE2.out.below k4)
      have HMK := Lib.hid (fun pg => leaf_made (pg := pg) (w := w) (by omega) (own_le k3 HB2.out.size) HB3.out.size)
      rw [hn] at HMK ⊢
      by_cases hk : kd = 2
      · subst hk
        obtain ⟨sb,hsb⟩ : ∃ sb,smallB pg top n 1 = sb := ⟨_,rfl⟩
        have HS3 := Lib.hid (HSM.out w3 n HB3.out)
        rw [hsb] at HS3
        cases sb with
        | true =>
          have HNN : Hid (readN L top 0 pg = none) := by
            show _ = _
            rw [HRN.out]
            exact if_neg (by rw [hn]; rintro ⟨_,_,h⟩; rw [hsb] at h; cases h)
          have HE := Lib.hid (HERR.out y w3 HNN.out HE3.out HB3.out)
          clear k1 k2 k3 k4 hn hsb
          go_wp2_with fail
          with_reducible refine HS3.out.mono ?_
          rintro e w4 ⟨rfl,rfl⟩
          go_wp2_with fail
          refine bodyPost_ret (v := .tuple #[.nilIface,.iface 88 y]) (by simp [results,Tryz.results23,go_sem]) rfl HE.out
        | false =>
          have HSO : Hid (readN L top 0 pg = some (mkL pg (extsD s))) := by
            show _ = _
            rw [HRN.out]
            exact if_pos ⟨rfl,⟨k1,k2⟩,by rw [hn]; exact hsb⟩
          have HE : Hid (RdPost (readN L top 0 pg) w (.returned (.tuple #[ptrV 0 w3.heap.size,.nilIface])) (w3.alloc (.cells #[.int .i64 pg,.slice A n c] 119))) := by
            show RdPost _ _ _ _
            rw [HSO.out]
            obtain ⟨F,m1,m2,m3,m4⟩ := HMK.out pg
            exact ⟨F,_,rfl,m1,m2,m3,m4,HB3.out.alloc HB3.out.size _⟩
          clear k1 k2 k3 k4 hn hsb
          go_wp2_with fail
          with_reducible refine HS3.out.mono ?_
          rintro e w4 ⟨rfl,rfl⟩
          go_wp2_with fail
          refine bodyPost_ret (v := .tuple #[ptrV 0 w3.heap.size,.nilIface]) (by simp [results,Tryz.results23,go_sem,ptrV,ndT]) rfl HE.out
      · have HNN : Hid (readN L top 0 pg = none) := by
          show _ = _
          rw [HRN.out]
          exact if_neg (by rintro ⟨h,_⟩; exact hk h)
        have HE := Lib.hid (HERR.out y w3 HNN.out HE3.out HB3.out)
        clear k1 k2 k3 k4 hn
        go_wp2_with fail
        refine bodyPost_ret (v := .tuple #[.nilIface,.iface 88 y]) (by simp [results,Tryz.results23,go_sem]) rfl HE.out
    · have HB3 := Lib.hid (HB2.out.trans (k2.mono HB2.out.size))
      have HNN : Hid (readN L top 0 pg = none) := by
        show _ = _
        rw [HRN.out]
        exact if_neg (by rintro ⟨_,h,_⟩; exact k1 h)
      have HE := Lib.hid (HERR.out y w3 HNN.out (HE2.out.below k2) HB3.out)
      clear k1 k2
      by_cases hk : kd = 2
      · subst hk
        go_wp2_with fail
        refine bodyPost_ret (v := .tuple #[.nilIface,.iface 88 y]) (by simp [results,Tryz.results23,go_sem]) rfl HE.out
      · go_wp2_with fail
        refine bodyPost_ret (v := .tuple #[.nilIface,.iface 88 y]) (by simp [results,Tryz.results23,go_sem]) rfl HE.out
end Go.Proofs.YtneammhkgmkkfaaGreatDoor.tr
namespace Go.Proofs.YtneammhkgmkkfaaGreatDoor.tr
open Go.RowKit Go.Proofs.YtneammhkgmkkfaaGreatDoor.er
set_option linter.unusedVariables false
set_option linter.unusedSimpArgs false
structure RdW (w : World) (b : Nat) (pg : Int) {h : Nat} (ds : List (Kd h)) (A : Option Addr) (c : Nat) (wr : World) : Prop where
  box : Whole wr b 97 #[.int .i64 pg,.slice A ds.length c]
  row : wr.ownsRow w.heap.size 62 1 (.slice A ds.length c) ds.length (ds.map fun d => d.2.1)
  nds : ∀ d ∈ ds,NdAt wr d.1 d.2.1 d.2.2
  nd : (dsF ds).Nodup
  ge : ∀ k ∈ dsF ds,w.heap.size ≤ k ∧ k ≠ b ∧ (Value.slice A ds.length c).ownBlock ≠ some k
  ne : ∀ d ∈ ds,Ne d.2.2
  bel : Below w.heap.size w wr
theorem RdW.below {w wr wq : World} {b : Nat} {pg : Int} {h : Nat} {ds : List (Kd h)} {A : Option Addr} {c : Nat} (hr : RdW w b pg ds A c wr) (hb : Below wr.heap.size wr wq) : RdW w b pg ds A c wq :=
  ⟨hr.box.keep (Keep.below (F := fun _ => False) hb) (fun h => h),own_below hr.row hb,kids_keep (Keep.below (F := fun _ => False) hb) hr.nds (fun _ _ h => h),hr.nd,hr.ge,hr.ne,hr.bel.trans (hb.mono hr.bel.size)⟩
theorem rdw_new {w wq : World} {pg : Int} {h : Nat} (hb : Below w.heap.size w wq) : RdW w wq.heap.size pg ([] : List (Kd h)) none 0 (wq.alloc (.cells #[.int .i64 pg,.slice none 0 0] 97)) :=
  ⟨Whole.new _ _ _,⟨rfl,.inl ⟨rfl,rfl⟩⟩,fun d hd => by simp at hd,by simp [dsF],fun k hk => by simp [dsF] at hk,fun d hd => by simp at hd,hb.alloc hb.size _⟩
theorem rdw_put {w wr w6 : World} {b : Nat} {pg : Int} {h : Nat} {ds : List (Kd h)} {A : Option Addr} {c : Nat} {d : Kd h} {g2 c2 : Nat} (hwb : w.heap.size ≤ b) (hr : RdW w b pg ds A c wr) (hd : NdAt wr d.1 d.2.1 d.2.2) (hne : Ne d.2.2) (hnd : d.1.Nodup)
    (hge : ∀ k ∈ d.1,w.heap.size ≤ k ∧ k ≠ b ∧ (Value.slice A ds.length c).ownBlock ≠ some k ∧ k ∉ dsF ds)
    (q1 : w6.ownsRow w.heap.size 62 1 (.slice (some ⟨g2,0,none⟩) (ds.length + 1) c2) (ds.length + 1) ((ds.map fun d => d.2.1) ++ [d.2.1]))
    (q2 : (wr.alloc (.cells #[d.2.1] 62)).grownBy w6 (Value.slice A ds.length c).ownBlock)
    (q3 : (Value.slice A ds.length c).ownBlock = some g2 ∨ g2 = (wr.alloc (.cells #[d.2.1] 62)).heap.size) :
    (w6.cell? ⟨b,1,none⟩ = some (.slice A ds.length c) ∧ w6.frozen? ⟨b,1,none⟩ = false) ∧ RdW w b pg (ds ++ [d]) (some ⟨g2,0,none⟩) c2 (w6.setCell ⟨b,1,none⟩ (.slice (some ⟨g2,0,none⟩) (ds.length + 1) c2)) := by
  have b6 := (hr.box.alloc (.cells #[d.2.1] 62)).grown q2 (own_ne hr.row hr.box (by decide))
  obtain ⟨v2,hv2⟩ : ∃ v2 : Value,.slice (some ⟨g2,0,none⟩) (ds.length + 1) c2 = v2 := ⟨_,rfl⟩
  have hl : (ds ++ [d]).length = ds.length + 1 := by simp
  have b7 : Whole (w6.setCell ⟨b,1,none⟩ v2) b 97 #[.int .i64 pg,v2] := by simpa using b6.set 1 v2
  have hK : Keep (fun k => k = b ∨ (Value.slice A ds.length c).ownBlock = some k) wr (w6.setCell ⟨b,1,none⟩ v2) :=
    (((Keep.refl _ _).alloc _).grown q2 (fun j hj => .inl (.inr hj))).setCell (p := ⟨b,1,none⟩) (.inl (.inl rfl)) _
  have hltF := kids_lt hr.nds
  have hlt1 := hd.lt
  refine ⟨⟨b6.cell 1,b6.fz 1⟩,?_,?_,?_,?_,?_,?_,?_⟩
  · rw [hl,hv2]; exact b7
  · rw [hl,hv2,List.map_append]
    rw [hv2] at q1
    have hkS : Keep (fun j => j = b) w6 (w6.setCell ⟨b,1,none⟩ v2) := Keep.set1 w6 b 1 _
    exact own_keep q1 hkS (fun j hj e => own_ne q1 b6 (by decide) (by rw [hj,e]))
  · intro x hx
    rw [hv2]
    rcases List.mem_append.1 hx with hx | hx
    · refine (hr.nds x hx).keep hK (fun k hk => ?_)
      have := hr.ge k (mem_dsF hx hk)
      rintro (e | e)
      · exact this.2.1 e
      · exact this.2.2 e
    · obtain rfl : x = d := by simpa using hx
      refine hd.keep hK (fun k hk => ?_)
      have := hge k hk
      rintro (e | e)
      · exact this.2.1 e
      · exact this.2.2.1 e
  · have e1 : dsF (ds ++ [d]) = dsF ds ++ d.1 := by simp [dsF]
    rw [e1]
    exact List.nodup_append.2 ⟨hr.nd,hnd,fun a ha b hb e => (hge b hb).2.2.2 (e ▸ ha)⟩
  · intro k hk
    have e1 : dsF (ds ++ [d]) = dsF ds ++ d.1 := by simp [dsF]
    rw [e1] at hk
    have hk2 : w.heap.size ≤ k ∧ k ≠ b ∧ (Value.slice A ds.length c).ownBlock ≠ some k ∧ k < wr.heap.size := by
      rcases List.mem_append.1 hk with hk | hk
      · exact ⟨(hr.ge k hk).1,(hr.ge k hk).2.1,(hr.ge k hk).2.2,hltF k hk⟩
      · exact ⟨(hge k hk).1,(hge k hk).2.1,(hge k hk).2.2.1,hlt1 k hk⟩
    refine ⟨hk2.1,hk2.2.1,fun e => ?_⟩
    have e2 : g2 = k := by
      have : some g2 = some k := e
      injection this
    rcases q3 with q3 | q3
    · exact hk2.2.2.1 (by rw [q3,e2])
    · simp at q3; omega
  · intro x hx
    rcases List.mem_append.1 hx with hx | hx
    · exact hr.ne x hx
    · obtain rfl : x = d := by simpa using hx
      exact hne
  · rw [hv2]
    exact hr.bel.trans (hK.toBelow hr.bel.size (fun k hk => by
      rcases hk with rfl | hk
      · exact hwb
      · exact (hr.row.lt k hk).1))
theorem rdw_end {w wr : World} {b : Nat} {pg : Int} {h : Nat} {ds : List (Kd h)} {A : Option Addr} {c : Nat} (hwb : w.heap.size ≤ b) (hr : RdW w b pg ds A c wr) (h0 : 0 < ds.length) :
    ∃ F,NdAt wr F (ptrV (h + 1) b) (mkI pg (ds.map fun d => d.2.2)) ∧ F.Nodup ∧ (∀ k ∈ F,w.heap.size ≤ k) ∧ Ne (mkI pg (ds.map fun d => d.2.2)) := by
  obtain ⟨g,c',e,hro,hgB⟩ := Row.own hr.row h0
  injection e with e1 e2 e3
  subst e1 e3
  have hne := own_ne hr.row hr.box (by decide)
  refine ⟨b :: g :: dsF ds,inner_at ⟨hr.box,hro,hr.nds⟩,?_,?_,?_,?_⟩
  · rw [List.nodup_cons,List.nodup_cons]
    refine ⟨?_,?_,hr.nd⟩
    · rw [List.mem_cons]
      rintro (e | e)
      · exact hne (by rw [e]; rfl)
      · exact (hr.ge b e).2.1 rfl
    · intro e
      exact (hr.ge g e).2.2 rfl
  · intro k hk
    simp only [List.mem_cons] at hk
    rcases hk with rfl | rfl | hk
    · exact hwb
    · exact hgB
    · exact (hr.ge k hk).1
  · show 1 ≤ (ds.map fun d => d.2.2).length
    simp; omega
  · intro k hk
    obtain ⟨d,hd,rfl⟩ := List.mem_map.1 (show k ∈ ds.map fun d => d.2.2 from hk)
    exact hr.ne d hd
def RdS {h : Nat} (f : Int → Option (Nd h)) (ks : List Kid) (j : Nat) (ds : List (Kd h)) : Prop := ds.length = j ∧ rdKids f ks = (rdKids f (ks.drop j)).map (fun t => (ds.map fun d => d.2.2) ++ t)
theorem rds_new {h : Nat} (f : Int → Option (Nd h)) (ks : List Kid) : RdS f ks 0 [] := ⟨rfl,by simp⟩
theorem rds_step {h : Nat} {f : Int → Option (Nd h)} {ks : List Kid} {j : Nat} {ds : List (Kd h)} (hs : RdS f ks j ds) {k : Kid} (hk : ks[j]? = some k) :
    (f k.at_ = none → rdKids f ks = none) ∧ (∀ n,f k.at_ = some n → (firstN n ≠ k.key → rdKids f ks = none) ∧ (firstN n = k.key → ∀ d : Kd h,d.2.2 = n → RdS f ks (j + 1) (ds ++ [d]))) := by
  obtain ⟨h1,h2⟩ := hs
  obtain ⟨hj,rfl⟩ := List.getElem?_eq_some_iff.1 hk
  rw [List.drop_eq_getElem_cons hj] at h2
  refine ⟨fun hn => ?_,fun n hn => ⟨fun hne => ?_,fun he d hd => ⟨by simp [h1],?_⟩⟩⟩
  · rw [h2]; simp [rdKids,hn]
  · rw [h2]; simp [rdKids,hn,hne]
  · rw [h2]
    simp only [rdKids,hn]
    rw [if_pos he,List.map_append]
    cases rdKids f (ks.drop (j + 1)) <;> simp [hd]
theorem rds_end {h : Nat} {f : Int → Option (Nd h)} {ks : List Kid} {ds : List (Kd h)} (hs : RdS f ks ks.length ds) : rdKids f ks = some (ds.map fun d => d.2.2) := by
  rw [hs.2,List.drop_length]; simp [rdKids]
end Go.Proofs.YtneammhkgmkkfaaGreatDoor.tr
