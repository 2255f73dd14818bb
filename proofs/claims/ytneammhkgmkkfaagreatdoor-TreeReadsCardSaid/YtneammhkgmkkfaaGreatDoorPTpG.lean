/- A part of the proof. -/
import Derived.Test.YtneammhkgmkkfaaGreatDoorPTpD
namespace Go.Proofs.YtneammhkgmkkfaaGreatDoor.tr
open Go.RowKit Go.Proofs.YtneammhkgmkkfaaGreatDoor.er
set_option linter.unusedVariables false
set_option linter.unusedSimpArgs false
theorem rowK_strs (S : List UInt8) (e : Kid) : (⟨S.toArray⟩ : ByteArray) ++ strOfNums (bytesOf 3 e.key) ++ strOfNums (bytesOf 2 e.at_) = ⟨(S ++ kidRow e).toArray⟩ := by
  rw [str_nums,str_nums,str_app,str_app]
  congr 2
  simp [kidRow,rowB,kidNums,List.append_assoc]
theorem kidRow_len5 (e : Kid) : (kidRow e).length = 5 := by rw [kid_row]; rfl
set_option maxHeartbeats 16000000 in
set_option maxRecDepth 100000 in
theorem rinner_ok (l : List Kid) (v : Value) (w : World) (h : KidsAt w v l) (hl : KidsOk l) (h1 : 2 ≤ l.length) (h8 : l.length ≤ 8) :
    Calls Tryz.prog 58 #[v] w fun x w' => x = .returned (.tuple #[.string ⟨(innerL l).toArray⟩,.int .i64 0]) ∧ Below w.heap.size w w' := by
  have HLF := Lib.hid (rkids_ok l v w h hl h1 h8)
  have HP0 : Hid (∀ wq,Calls Tryz.prog 87 #[.int .i64 l.length,.int .i64 1] wq fun e w' => e = .returned (.string ⟨([UInt8.ofNat l.length] : List UInt8).toArray⟩) ∧ Below wq.heap.size wq w') := by
    intro wq
    have := rputn_any (l.length : Int) 1 wq (by omega) (by omega) (by omega) (by omega) (by omega)
    rw [str_nums] at this
    have e : ((bytesOf 1 (l.length : Int)).map fun x => UInt8.ofNat x.toNat) = [UInt8.ofNat l.length] := by
      have : (l.length : Int) / 256 ^ 0 % 256 = (l.length : Int) := by simp; omega
      show [UInt8.ofNat ((l.length : Int) / 256 ^ 0 % 256).toNat] = _
      rw [this]
      simp
    rw [e] at this
    exact this
  obtain ⟨A,c,rfl,_,hc⟩ := h
  have HC := Lib.hid hc
  have HLL : Hid (innerL l = [UInt8.ofNat l.length] ++ l.flatMap kidRow) := rfl
  obtain ⟨n,hn⟩ : ∃ n,l.length = n := ⟨_,rfl⟩
  rw [hn] at h1 h8 HLF HP0 HLL
  have HN := Lib.hid hn
  rw [hn]
  have HL := Lib.hid hl
  have hni : (n : Int) ≤ 8 := by omega
  clear hc hn hl
  go_enter Tryz.func58,Tryz.ntmps58
  go_wp2_with fail
  with_reducible refine HLF.out.mono ?_
  rintro e w1 ⟨rfl,hb1⟩
  have HB1 := Lib.hid hb1
  clear hb1
  go_wp2_with fail
  with_reducible refine (HP0.out _).mono ?_
  rintro e w2 ⟨rfl,hb2⟩
  have HB2 := Lib.hid (bel_tr HB1.out hb2)
  clear hb2
  go_wp2_with fail
  go_loopw [4,5] (fun s4 s5 wr => ∃ j : Nat,j ≤ n ∧ s5 = .int .i64 j ∧ s4 = .string ⟨([UInt8.ofNat n] ++ (l.take j).flatMap kidRow).toArray⟩ ∧ Hid (Below w.heap.size w wr)) (fun _ i _ => n - (intOf i).toNat)
  case atStart => exact ⟨0,Nat.zero_le _,rfl,by simp,HB2⟩
  case round =>
    obtain ⟨j,hj,rfl,rfl,HB⟩ := hrel
    by_cases hlt : j < n
    · have hji : (j : Int) < (n : Int) := by omega
      obtain ⟨g,o,rfl,hcc⟩ := HC.out (by have := HN.out; omega)
      obtain ⟨x,hx⟩ : ∃ x,l[j]? = some x := ⟨_,List.getElem?_eq_getElem (by rw [HN.out]; exact hlt)⟩
      obtain ⟨c0,c1⟩ := (hcc j x hx).below HB.out
      have ho := HL.out.each x (List.mem_of_getElem? hx)
      unfold kidB at ho
      simp at ho
      have HP3 : Hid (∀ wq,Calls Tryz.prog 87 #[.int .i64 x.key,.int .i64 3] wq fun e w' => e = .returned (.string (strOfNums (bytesOf 3 x.key))) ∧ Below wq.heap.size wq w') := fun wq => rputn_any x.key 3 wq (by omega) (by omega) (by omega) (by omega) (by omega)
      have HP2 : Hid (∀ wq,Calls Tryz.prog 87 #[.int .i64 x.at_,.int .i64 2] wq fun e w' => e = .returned (.string (strOfNums (bytesOf 2 x.at_))) ∧ Below wq.heap.size wq w') := fun wq => rputn_any x.at_ 2 wq (by omega) (by omega) (by omega) (by omega) (by omega)
      have HKA : Hid (∀ w',Below wr.heap.size wr w' → KidAt w' g (o + j * 2) x) := fun w' hb => ((hcc j x hx).below HB.out).below hb
      have HT : Hid (⟨([UInt8.ofNat n] ++ (l.take j).flatMap kidRow).toArray⟩ ++ strOfNums (bytesOf 3 x.key) ++ strOfNums (bytesOf 2 x.at_) = (⟨([UInt8.ofNat n] ++ (l.take (j + 1)).flatMap kidRow).toArray⟩ : ByteArray)) := by
        show _ = _
        rw [rowK_strs,list_take_flat _ _ _ _ hx,List.append_assoc]
      have z0 : (⟨([UInt8.ofNat n] ++ (l.take j).flatMap kidRow).toArray⟩ : ByteArray).size ≤ 1000 := by
        show ([UInt8.ofNat n] ++ (l.take j).flatMap kidRow).toArray.size ≤ 1000
        have : (l.take j).length ≤ j := by rw [List.length_take]; omega
        rw [List.size_toArray,List.length_append,size_flat _ kidRow_len5,List.length_singleton]; omega
      have z3 : (strOfNums (bytesOf 3 x.key)).size ≤ 1000 := by rw [strOfNums_size,bytesOf_length]; omega
      have z2 : (strOfNums (bytesOf 2 x.at_)).size ≤ 1000 := by rw [strOfNums_size,bytesOf_length]; omega
      obtain ⟨S,hS⟩ : ∃ S : ByteArray,⟨([UInt8.ofNat n] ++ (l.take j).flatMap kidRow).toArray⟩ = S := ⟨_,rfl⟩
      obtain ⟨S3,hS3⟩ : ∃ S : ByteArray,strOfNums (bytesOf 3 x.key) = S := ⟨_,rfl⟩
      obtain ⟨S2,hS2⟩ : ∃ S : ByteArray,strOfNums (bytesOf 2 x.at_) = S := ⟨_,rfl⟩
      rw [hS,hS3,hS2] at HT
      rw [hS] at z0 ⊢
      rw [hS3] at z3 HP3
      rw [hS2] at z2 HP2
      obtain ⟨f,t⟩ := x
      simp only at c0 c1 HP3 HP2
      have y1 : ¬ 9223372036854775807 < S.size + S3.size := by omega
      have y2 : ¬ 9223372036854775807 < (S ++ S3).size + S2.size := by (try simp only [ByteArray.size_append]); omega
      have x2 : ¬ 9223372036854775807 < S.size + S3.size + S2.size := by omega
      clear hcc hx ho hS hS3 hS2
      go_wp2_with fail
      go_region_held3 (fun w' => w'.cell? ⟨g,o + j * 2,none⟩ = some (.int .i64 f) ∧ w'.cell? ⟨g,o + j * 2 + 1,none⟩ = some (.int .i64 t)) (first | exact HKA.out _ (by repeat (first | with_reducible exact HB6.out | with_reducible exact Below.refl _ _ | refine Below.drew ?_))) ((first | (go_at_call 87; (with_reducible refine (HP3.out _).mono ?_); rintro e w6 ⟨rfl,hb6⟩; have HB6 : Hid (Below wr.heap.size wr w6) := bel_tr (by repeat (first | with_reducible exact HB6.out | with_reducible exact Below.refl _ _ | refine Below.drew ?_)) hb6; clear hb6) | (go_at_call 87; (with_reducible refine (HP2.out _).mono ?_); rintro e w6 ⟨rfl,hb6⟩; have HB6 : Hid (Below wr.heap.size wr w6) := bel_tr (by repeat (first | with_reducible exact HB6.out | with_reducible exact Below.refl _ _ | refine Below.drew ?_)) hb6; clear hb6)))
      go_wp2_with fail
      go_roundw
      case rel => exact ⟨j + 1,by omega,by go_num,by rw [HT.out],HB.out.trans (Below.mono (by first | with_reducible exact HB6.out | exact Below.drew HB6.out) HB.out.size)⟩
      case measure => simp [intOf]; omega
    · obtain rfl : j = n := by omega
      have hfull : l.take j = l := by rw [← HN.out]; exact List.take_length
      rw [hfull,← HLL.out]
      clear hfull
      go_wp2_with fail
      refine bodyPost_ret (v := .tuple #[.string ⟨(innerL l).toArray⟩,.int .i64 0]) (by simp [results,Tryz.results58,go_sem]) rfl ⟨rfl,HB.out⟩
theorem rKidInfo : (Tryz.prog.info? 85).map (fun i => (i.zero,i.size,i.bytes)) = some (some (.agg #[.int .i64 0,.int .i64 0]),2,16) := by kernel_rfl
end Go.Proofs.YtneammhkgmkkfaaGreatDoor.tr
namespace Go.Proofs.YtneammhkgmkkfaaGreatDoor.tr
open Go.RowKit Go.Proofs.YtneammhkgmkkfaaGreatDoor.er
set_option linter.unusedVariables false
set_option linter.unusedSimpArgs false
def rsmallB (top : Bool) (n least : Int) : Bool := if top = true then decide (n < least) else decide (n < 4)
set_option maxHeartbeats 4000000 in
set_option maxRecDepth 100000 in
theorem rsmall_any (top : Bool) (n least : Int) (w : World) :
    Calls Tryz.prog 29 #[.bool top,.int .i64 n,.int .i64 least] w fun x w' => x = .returned (.bool (rsmallB top n least)) ∧ w = w' := by
  unfold rsmallB
  cases top with
  | true =>
    go_enter Tryz.func29,Tryz.ntmps29
    go_wp2_with fail
    go_ret
    exact ⟨rfl,rfl⟩
  | false =>
    go_enter Tryz.func29,Tryz.ntmps29
    go_wp2_with fail
    go_ret
    exact ⟨rfl,rfl⟩
def SaysRet {h : Nat} (n : Nd h) (w : World) (x : Ending) (w' : World) : Prop :=
  ∃ A c,x = .returned (.agg #[.slice A (flat n).length c,.int .i64 (firstN n),.bool false,.int .i64 (cntN n)]) ∧ w'.ownsRow w.heap.size 80 4 (.slice A (flat n).length c) (flat n).length (extCells (flat n)) ∧ Below w.heap.size w w'
end Go.Proofs.YtneammhkgmkkfaaGreatDoor.tr
namespace Go.Proofs.YtneammhkgmkkfaaGreatDoor.tr
open Go.RowKit Go.Proofs.YtneammhkgmkkfaaGreatDoor.er
set_option linter.unusedVariables false
set_option linter.unusedSimpArgs false
structure SyW (w : World) (bo : Nat) (fst nodes : Int) (l : List Ext) (A : Option Addr) (c : Nat) (wr : World) : Prop where
  box : Whole wr bo 40 #[.slice A l.length c,.int .i64 fst,.bool false,.int .i64 nodes]
  row : wr.ownsRow w.heap.size 80 4 (.slice A l.length c) l.length (extCells l)
  bel : Below w.heap.size w wr
theorem sy_new {w wq : World} (fst : Int) (hb : Below w.heap.size w wq) : SyW w wq.heap.size fst 1 [] none 0 (wq.alloc (.cells #[.slice none 0 0,.int .i64 fst,.bool false,.int .i64 1] 40)) :=
  ⟨Whole.new _ _ _,⟨rfl,.inl ⟨rfl,rfl⟩⟩,hb.alloc hb.size _⟩
theorem SyW.below {w wr wq : World} {bo : Nat} {fst nodes : Int} {l : List Ext} {A : Option Addr} {c : Nat} (h : SyW w bo fst nodes l A c wr) (hb : Below wr.heap.size wr wq) : SyW w bo fst nodes l A c wq :=
  ⟨h.box.keep (Keep.below (F := fun _ => False) hb) (fun h => h),own_below h.row hb,h.bel.trans (hb.mono h.bel.size)⟩
theorem sy_nodes {w wr : World} {bo : Nat} {fst nodes : Int} {l : List Ext} {A : Option Addr} {c : Nat} (hwb : w.heap.size ≤ bo) (h : SyW w bo fst nodes l A c wr) (x : Int) : SyW w bo fst x l A c (wr.setCell ⟨bo,3,none⟩ (.int .i64 x)) := by
  have hk : Keep (fun k => k = bo) wr (wr.setCell ⟨bo,3,none⟩ (.int .i64 x)) := Keep.set1 wr bo 3 _
  refine ⟨by simpa using h.box.set 3 (.int .i64 x),own_keep h.row hk (fun j hj e => own_ne h.row h.box (by decide) (by rw [hj,e])),h.bel.trans (hk.toBelow h.bel.size (fun k hk => by have hk' : k = bo := hk; omega))⟩
theorem sy_put {w wr w6 : World} {bo : Nat} {fst nodes : Int} {l : List Ext} {A : Option Addr} {c g2 c2 : Nat} {e : Ext} (hwb : w.heap.size ≤ bo) (h : SyW w bo fst nodes l A c wr)
    (q1 : w6.ownsRow w.heap.size 80 4 (.slice (some ⟨g2,0,none⟩) (l.length + 1) c2) (l.length + 1) (extCells l ++ [.int .i64 e.fr,.int .i64 e.n,.int .i64 e.kind,.int .i64 e.at_]))
    (q2 : (wr.alloc (.cells #[.int .i64 e.fr,.int .i64 e.n,.int .i64 e.kind,.int .i64 e.at_] 80)).drew.grownBy w6 (Value.slice A l.length c).ownBlock) :
    (w6.cell? ⟨bo,0,none⟩ = some (.slice A l.length c) ∧ w6.frozen? ⟨bo,0,none⟩ = false) ∧ SyW w bo fst nodes (l ++ [e]) (some ⟨g2,0,none⟩) c2 (w6.setCell ⟨bo,0,none⟩ (.slice (some ⟨g2,0,none⟩) (l.length + 1) c2)) ∧
      Keep (fun k => k = bo ∨ (Value.slice A l.length c).ownBlock = some k) wr (w6.setCell ⟨bo,0,none⟩ (.slice (some ⟨g2,0,none⟩) (l.length + 1) c2)) := by
  have hbx : Whole (wr.alloc (.cells #[.int .i64 e.fr,.int .i64 e.n,.int .i64 e.kind,.int .i64 e.at_] 80)).drew bo 40 #[.slice A l.length c,.int .i64 fst,.bool false,.int .i64 nodes] :=
    h.box.keep (((Keep.refl (fun _ => False) wr).alloc _).drew) (fun h => h)
  have b6 := hbx.grown q2 (own_ne h.row h.box (by decide))
  obtain ⟨v2,hv2⟩ : ∃ v2 : Value,.slice (some ⟨g2,0,none⟩) (l.length + 1) c2 = v2 := ⟨_,rfl⟩
  have hl : (l ++ [e]).length = l.length + 1 := by simp
  have hK : Keep (fun k => k = bo ∨ (Value.slice A l.length c).ownBlock = some k) wr (w6.setCell ⟨bo,0,none⟩ v2) :=
    ((((Keep.refl _ _).alloc _).drew).grown q2 (fun j hj => .inl (.inr hj))).setCell (p := ⟨bo,0,none⟩) (.inl (.inl rfl)) _
  refine ⟨⟨b6.cell 0,b6.fz 0⟩,⟨?_,?_,?_⟩,by rw [hv2]; exact hK⟩
  · rw [hl,hv2]; simpa using b6.set 0 v2
  · rw [hl,hv2,extCells_snoc]
    rw [hv2] at q1
    have hkS : Keep (fun j => j = bo) w6 (w6.setCell ⟨bo,0,none⟩ v2) := Keep.set1 w6 bo 0 _
    exact own_keep q1 hkS (fun j hj e => own_ne q1 b6 (by decide) (by rw [hj,e]))
  · rw [hv2]
    exact h.bel.trans (hK.toBelow h.bel.size (fun k hk => by
      rcases hk with rfl | hk
      · exact hwb
      · exact (h.row.lt k hk).1))
structure SyI (w : World) (bo bs : Nat) (fst nodes : Int) (l : List Ext) (A : Option Addr) (c : Nat) (B : Nat) (Aq : Option Addr) (cq : Nat) (fk cn : Int) (lk : List Ext) (q : Nat) (wr : World) : Prop where
  out : SyW w bo fst nodes (l ++ lk.take q) A c wr
  box : Whole wr bs 40 #[.slice Aq lk.length cq,.int .i64 fk,.bool false,.int .i64 cn]
  row : wr.ownsRow B 80 4 (.slice Aq lk.length cq) lk.length (extCells lk)
  ne : bs ≠ bo
  apart : ∀ g,(Value.slice Aq lk.length cq).ownBlock = some g → (Value.slice A (l ++ lk.take q).length c).ownBlock ≠ some g
theorem syi_put {w wr w6 : World} {bo bs : Nat} {fst nodes : Int} {l : List Ext} {A : Option Addr} {c B : Nat} {Aq : Option Addr} {cq : Nat} {fk cn : Int} {lk : List Ext} {q g2 c2 : Nat} {e : Ext} (hwb : w.heap.size ≤ bo) (h : SyI w bo bs fst nodes l A c B Aq cq fk cn lk q wr) (he : lk[q]? = some e)
    (q1 : w6.ownsRow w.heap.size 80 4 (.slice (some ⟨g2,0,none⟩) ((l ++ lk.take q).length + 1) c2) ((l ++ lk.take q).length + 1) (extCells (l ++ lk.take q) ++ [.int .i64 e.fr,.int .i64 e.n,.int .i64 e.kind,.int .i64 e.at_]))
    (q2 : (wr.alloc (.cells #[.int .i64 e.fr,.int .i64 e.n,.int .i64 e.kind,.int .i64 e.at_] 80)).drew.grownBy w6 (Value.slice A (l ++ lk.take q).length c).ownBlock)
    (q3 : (Value.slice A (l ++ lk.take q).length c).ownBlock = some g2 ∨ wr.heap.size ≤ g2) :
    SyI w bo bs fst nodes l (some ⟨g2,0,none⟩) c2 B Aq cq fk cn lk (q + 1) (w6.setCell ⟨bo,0,none⟩ (.slice (some ⟨g2,0,none⟩) ((l ++ lk.take q).length + 1) c2)) := by
  obtain ⟨_,p2,p3⟩ := sy_put hwb h.out q1 q2
  have hap : ∀ g,(Value.slice Aq lk.length cq).ownBlock = some g → g ≠ bo := fun g hg e => own_ne h.row h.out.box (by decide) (by rw [hg,e])
  have hes : (l ++ lk.take q) ++ [e] = l ++ lk.take (q + 1) := by rw [List.append_assoc,List.take_add_one,he]; rfl
  rw [hes] at p2
  refine ⟨p2,h.box.keep p3 ?_,own_keep h.row p3 (fun g hg hk => ?_),h.ne,fun g hg e2 => ?_⟩
  · rintro (e2 | e2)
    · exact h.ne e2
    · exact own_ne h.out.row h.box (by decide) e2.symm
  · rcases hk with hk | hk
    · exact hap g hg hk
    · exact h.apart g hg hk
  · have e3 : g2 = g := by
      have : some g2 = some g := e2
      injection this
    rcases q3 with q3 | q3
    · exact h.apart g hg (by rw [q3,e3])
    · have := (h.row.lt g hg).2; omega
end Go.Proofs.YtneammhkgmkkfaaGreatDoor.tr
