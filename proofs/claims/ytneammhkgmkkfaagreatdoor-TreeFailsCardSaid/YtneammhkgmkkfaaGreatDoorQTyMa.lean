/- A part of the proof. -/
import Derived.Test.YtneammhkgmkkfaaGreatDoorQTxMb
import Derived.Lib.AppendZeros
import Derived.Lib.SliceRun
import Derived.Maps.AppendAt
namespace Go.Proofs.YtneammhkgmkkfaaGreatDoor.tr
open Go.RowKit Go.Proofs.YtneammhkgmkkfaaGreatDoor.er
set_option linter.unusedVariables false
set_option linter.unusedSimpArgs false
def SlAt (w : World) (v : Value) (n k : Nat) (xs : List Value) : Prop :=
  xs.length = n * k ∧ ((v = .slice none 0 0 ∧ n = 0) ∨ ∃ g o c,v = .slice (some ⟨g,o,none⟩) n c ∧ ∀ j u,xs[j]? = some u → w.cell? ⟨g,o + j,none⟩ = some u)
theorem SlAt.keep {w w' : World} {v : Value} {n k : Nat} {xs : List Value} (h : SlAt w v n k xs) (hk : ∀ (a : Addr) u,w.cell? a = some u → w'.cell? a = some u) : SlAt w' v n k xs := by
  obtain ⟨h1,h2 | ⟨g,o,c,h2,h3⟩⟩ := h
  · exact ⟨h1,.inl h2⟩
  · exact ⟨h1,.inr ⟨g,o,c,h2,fun j u hj => hk _ _ (h3 j u hj)⟩⟩
theorem SlAt.below {w w' : World} {v : Value} {n k : Nat} {xs : List Value} (h : SlAt w v n k xs) (hb : Below w.heap.size w w') : SlAt w' v n k xs := h.keep fun a u ha => below_c hb ha
theorem SlAt.own {w : World} {B n k : Nat} {t : TypeId} {v : Value} {xs : List Value} (h : w.ownsRow B t k v n xs) : SlAt w v n k xs := by
  refine ⟨h.1,?_⟩
  rcases h.2 with ⟨h1,h2⟩ | ⟨g,cap,cur,h1,h2,h3,h4,h5,h6,h7⟩
  · exact .inl ⟨h1,h2⟩
  · refine .inr ⟨g,0,cap,h1,fun j u hj => ?_⟩
    rw [Nat.zero_add,cell_of_row w g j cur t (0,0) h3]
    rw [← h7,List.getElem?_take] at hj
    split at hj
    · simpa using hj
    · cases hj
theorem SlAt.row {w : World} {g c n k : Nat} {t : TypeId} {xs : List Value} (h : Row w g c k t xs) (hn : xs.length = n * k) : SlAt w (.slice (some ⟨g,0,none⟩) n c) n k xs :=
  ⟨hn,.inr ⟨g,0,c,rfl,fun j u hj => by rw [Nat.zero_add]; exact h.cell hj⟩⟩
theorem SlAt.exts {w : World} {v : Value} {n : Nat} {l : List Ext} (h : SlAt w v n 4 (extCells l)) : ExtsAt w v l ∧ l.length = n := by
  obtain ⟨h1,h2⟩ := h
  have hn : l.length = n := by rw [extCells_len] at h1; omega
  subst hn
  refine ⟨?_,rfl⟩
  rcases h2 with ⟨rfl,h2⟩ | ⟨g,o,c,rfl,h3⟩
  · exact ⟨none,0,by rw [h2],fun h0 => by omega⟩
  · refine ⟨_,c,rfl,fun _ => ⟨g,o,rfl,fun j e he => ?_⟩⟩
    obtain ⟨k0,k1,k2,k3⟩ := extCells_at l j e he
    exact ⟨h3 _ _ k0,by have := h3 _ _ k1; rwa [← Nat.add_assoc] at this,by have := h3 _ _ k2; rwa [← Nat.add_assoc] at this,by have := h3 _ _ k3; rwa [← Nat.add_assoc] at this⟩
theorem run_app {P : Program} (w : World) (base : Nat) (t ty e : TypeId) (i : TypeInfo) (z : Value) (size bytes : Nat) (ht : P.underlying t = some (.slice e)) (hi : P.info? e = some i) (hz : i.zero = some z)
    (hsize : i.size = size) (hby : i.bytes = bytes) (hzs : z.cells.size = size) (hsz : 0 < size) (v : Value) (n : Nat) (xs : List Value) (hown : w.ownsRow base e size v n xs)
    (y : Value) (m : Nat) (news : List Value) (hs : SlAt w y m size news) (h1 : ∀ u ∈ news,u.oneCell' = true) (h63 : n + m ≤ 100000000) (hbytes : bytes ≤ 64) (hbase : base ≤ w.heap.size) :
    ∃ v' w',(Builtin.append_ #[t,t] ty #[v,y]).run P w = .ok v' w' ∧ w'.ownsRow base e size v' (n + m) (xs ++ news) ∧ w.grownBy w' v.ownBlock := by
  obtain ⟨hl,⟨rfl,rfl⟩ | ⟨g,o,c,rfl,hc⟩⟩ := hs
  · obtain rfl : news = [] := List.eq_nil_of_length_eq_zero (by simpa using hl)
    exact ⟨v,w,run_append_owned_none w base t ty e i size ht hi v n xs hown,by simpa using hown,World.grownBy.refl w _⟩
  · have hb : (n + m) * bytes ≤ 140737488355328 := by
      have := Nat.mul_le_mul h63 hbytes
      omega
    obtain ⟨v',w',h2,h3,h4,_⟩ := run_append_own (P := P) w base t ty e i z size bytes ht hi hz hsize hby hzs hsz v n xs hown ⟨g,o,none⟩ m c news hl (fun j u hj => by rw [Addr.add_lit]; exact hc j u hj) h1 (by unfold maxLen; omega) hb hbase
    exact ⟨v',w',h2,h3,h4⟩
theorem list_take_sum {α : Type} (f : α → Nat) (l : List α) (j : Nat) (x : α) (h : l[j]? = some x) : ((l.take (j + 1)).map f).sum = ((l.take j).map f).sum + f x := by
  have hj : j < l.length := (List.getElem?_eq_some_iff.1 h).1
  have he : l[j] = x := by rw [List.getElem?_eq_getElem hj] at h; injection h
  rw [List.take_succ_eq_append_getElem hj,he]
  simp
theorem list_take_flat {α β : Type} (f : α → List β) (l : List α) (j : Nat) (x : α) (h : l[j]? = some x) : (l.take (j + 1)).flatMap f = (l.take j).flatMap f ++ f x := by
  have hj : j < l.length := (List.getElem?_eq_some_iff.1 h).1
  have he : l[j] = x := by rw [List.getElem?_eq_getElem hj] at h; injection h
  rw [List.take_succ_eq_append_getElem hj,he]
  simp
theorem sum_take_le {α : Type} (f : α → Nat) : ∀ (l : List α) (j : Nat),((l.take j).map f).sum ≤ (l.map f).sum
  | [],j => by simp
  | a :: l,0 => by simp
  | a :: l,j + 1 => by
    have := sum_take_le f l j
    simp only [List.take_succ_cons,List.map_cons,List.sum_cons]
    omega
end Go.Proofs.YtneammhkgmkkfaaGreatDoor.tr
namespace Go.Proofs.YtneammhkgmkkfaaGreatDoor.tr
open Go.RowKit Go.Proofs.YtneammhkgmkkfaaGreatDoor.er
set_option linter.unusedVariables false
set_option linter.unusedSimpArgs false
theorem infoE : (Tryz.prog.info? 59).map (fun i => (i.zero,i.size,i.bytes)) = some (some (.agg #[.int .i64 0,.int .i64 0,.int .i64 0,.int .i64 0]),4,32) := by kernel_rfl
set_option maxHeartbeats 4000000 in
set_option maxRecDepth 100000 in
theorem growE (n : Nat) (w : World) (hn : n ≤ 100000000) : Calls Tryz.prog 98 #[.slice none 0 0,.int .i64 n] w fun e w' => ∃ v',e = .returned v' ∧ w'.ownsRow w.heap.size 59 4 v' 0 [] ∧ Below w.heap.size w w' := by
  rcases Nat.eq_zero_or_pos n with rfl | h0
  · go_enter Tryz.func98,Tryz.ntmps98
    go_wp2_with fail
    go_ret
    exact ⟨_,rfl,⟨rfl,.inl ⟨rfl,rfl⟩⟩,Below.refl _ _⟩
  · obtain ⟨i0,hi0,hz0,hz1,hz2⟩ := info_parts infoE
    have hrz : ∀ ty,(Builtin.append_ #[71,3] ty #[.slice none 0 0,.int .i64 (n : Int)]).run Tryz.prog w = .ok (.slice (some ⟨w.heap.size,0,none⟩) n (grownCap w n 0 59)) (w.drew.alloc (.cells (Builtin.zeroCells (Value.cells (.agg #[.int .i64 0,.int .i64 0,.int .i64 0,.int .i64 0])) n ++ Builtin.zeroCells (Value.cells (.agg #[.int .i64 0,.int .i64 0,.int .i64 0,.int .i64 0])) (grownCap w n 0 59 - n)) 59)) := fun ty =>
      Lib.run_append_nil_zeros w 71 3 ty 59 i0 _ .i64 .i64 Tryz.underlying71 Tryz.underlying3 hi0 hz0 n h0 (by omega) (by omega) (by rw [hz2]; omega)
    have hge := grownCap_ge w n 0 59
    have hle := grownCap_le_maxLen w n 0 59 (by unfold maxLen; omega)
    obtain ⟨G,hG⟩ : ∃ G,grownCap w n 0 59 = G := ⟨_,rfl⟩
    rw [hG] at hrz hge hle
    have hle' := hle
    unfold maxLen at hle'
    have h1 : (0 : Int) < (n : Int) := by omega
    have h2 : (n : Int) > 0 := by omega
    have hcs : (Builtin.zeroCells (Value.cells (.agg #[.int .i64 0,.int .i64 0,.int .i64 0,.int .i64 0])) n ++ Builtin.zeroCells (Value.cells (.agg #[.int .i64 0,.int .i64 0,.int .i64 0,.int .i64 0])) (G - n)).size = G * 4 := by
      rw [Array.size_append,size_zeroCells,size_zeroCells]
      show n * 4 + (G - n) * 4 = G * 4
      omega
    obtain ⟨cs,hcs0⟩ : ∃ cs,Builtin.zeroCells (Value.cells (.agg #[.int .i64 0,.int .i64 0,.int .i64 0,.int .i64 0])) n ++ Builtin.zeroCells (Value.cells (.agg #[.int .i64 0,.int .i64 0,.int .i64 0,.int .i64 0])) (G - n) = cs := ⟨_,rfl⟩
    rw [hcs0] at hrz hcs
    have HRZ := Lib.hid hrz
    have HCS := Lib.hid hcs
    have HLE := Lib.hid hle
    clear hG hcs0 hcs hrz hi0 hz0 hz1 hz2 hle
    go_enter Tryz.func98,Tryz.ntmps98
    go_wp2_with (at_builtin; refine Lib.wpList_append_run _ rfl _ _ _ _ rfl _ _ rfl rfl _ _ (HRZ.out _) ?_)
    all_goals (go_ret; refine ⟨_,rfl,World.ownsRow_made w.drew cs G (Nat.le_refl _) HLE.out HCS.out,(Below.drew (Below.refl _ _)).alloc (Nat.le_refl _) _⟩)
set_option maxHeartbeats 4000000 in
set_option maxRecDepth 100000 in
theorem concatE (ys : List (Value × Nat × List Value)) (gb mc : Nat) (w : World) (hc : ∀ j y,ys[j]? = some y → w.cell? ⟨gb,j,none⟩ = some y.1 ∧ SlAt w y.1 y.2.1 4 y.2.2 ∧ ∀ u ∈ y.2.2,u.oneCell' = true)
    (hs : (ys.map fun y => y.2.1).sum ≤ 100000000) (hm : ys.length ≤ 1000) (h0 : 0 < ys.length) :
    Calls Tryz.prog 68 #[.slice (some ⟨gb,0,none⟩) ys.length mc] w fun e w' => ∃ v',e = .returned v' ∧ w'.ownsRow w.heap.size 59 4 v' (ys.map fun y => y.2.1).sum (ys.flatMap fun y => y.2.2) ∧ Below w.heap.size w w' := by
  obtain ⟨m,hm0⟩ : ∃ m,ys.length = m := ⟨_,rfl⟩
  have HN := Lib.hid hm0
  have HC := Lib.hid hc
  rw [hm0] at hm
  rw [hm0]
  obtain ⟨i0,hi0,hz0,hz1,hz2⟩ := info_parts infoE
  have HS := Lib.hid (fun j => Nat.le_trans (sum_take_le (fun y : Value × Nat × List Value => y.2.1) ys j) hs)
  have HG := Lib.hid (fun (n : Nat) (hn : n ≤ 100000000) => growE n w hn)
  have HAP := Lib.hid (fun (wq : World) (v : Value) (n : Nat) (xs : List Value) (hown : wq.ownsRow w.heap.size 59 4 v n xs) (y : Value × Nat × List Value) (hq : SlAt wq y.1 y.2.1 4 y.2.2) (h1 : ∀ u ∈ y.2.2,u.oneCell' = true) (h63 : n + y.2.1 ≤ 100000000) (hb : w.heap.size ≤ wq.heap.size) (ty : TypeId) => run_app (P := Tryz.prog) wq w.heap.size 71 ty 59 i0 _ 4 32 Tryz.underlying71 hi0 hz0 hz1 hz2 rfl (by omega) v n xs hown y.1 y.2.1 y.2.2 hq h1 h63 (by omega) hb)
  have H0 : Hid (0 < m) := by show 0 < m; omega
  clear hm0 hc hs h0 hi0 hz0 hz1 hz2
  go_enter Tryz.func68,Tryz.ntmps68
  go_wp2_with fail
  go_loop [3,11] (fun s i => ∃ j : Nat,j ≤ m ∧ i = .int .i64 j ∧ s = .int .i64 (((ys.take j).map fun y => y.2.1).sum : Nat)) (fun _ i => m - (intOf i).toNat)
  case atStart => exact ⟨0,Nat.zero_le _,rfl,rfl⟩
  case round =>
    obtain ⟨j,hj,rfl,rfl⟩ := hrel
    by_cases hlt : j < m
    · have hji : (j : Int) < (m : Int) := by omega
      have hln := HN.out
      obtain ⟨y,hy⟩ : ∃ y,ys[j]? = some y := ⟨ys[j]'(by omega),List.getElem?_eq_getElem (by omega)⟩
      have hsum := HS.out (j + 1)
      rw [list_take_sum _ _ _ _ hy] at hsum
      have HSUM := Lib.hid (list_take_sum (fun y : Value × Nat × List Value => y.2.1) _ _ _ hy)
      obtain ⟨c0,hsl,_⟩ := HC.out j y hy
      obtain ⟨S,hS⟩ : ∃ S,((ys.take j).map fun y => y.2.1).sum = S := ⟨_,rfl⟩
      rw [hS] at hsum
      have HS2 := Lib.hid hS
      rw [hS]
      obtain ⟨yv,yn,yx⟩ := y
      dsimp only at c0 hsl hsum HSUM
      obtain ⟨_,⟨rfl,rfl⟩ | ⟨yg,yo,yc,rfl,_⟩⟩ := hsl
      all_goals
        clear hy hln hS
        go_wp2_with fail
        go_round
        case rel => exact ⟨j + 1,by omega,by go_num,by rw [HSUM.out,HS2.out]; first | go_num | (congr 1; omega) | (simp; done)⟩
        case measure => simp [intOf]; omega
    · obtain rfl : j = m := by omega
      have hfull : ys.take j = ys := by rw [← HN.out]; exact List.take_length
      rw [hfull]
      have hsum := HS.out j
      rw [hfull] at hsum
      obtain ⟨S,hS⟩ : ∃ S,(ys.map fun y => y.2.1).sum = S := ⟨_,rfl⟩
      rw [hS] at hsum
      have HS2 := Lib.hid hS
      have HG2 := Lib.hid (HG.out S hsum)
      rw [hS]
      clear hS hfull
      go_wp2_with fail
      refine HG2.out.mono ?_
      rintro e w2 ⟨v2,rfl,hown2,hb2⟩
      obtain ⟨A2,c2,e2⟩ := own_slice hown2
      subst e2
      have HO2 := Lib.hid hown2
      have HB2 := Lib.hid hb2
      clear hown2 hb2
      go_wp2_with fail
      go_loopw [6,27] (fun s i wr => ∃ (j2 nn : Nat) (A : Option Addr) (c : Nat),j2 ≤ j ∧ i = .int .i64 j2 ∧ s = .slice A nn c ∧ Hid (((ys.take j2).map fun y => y.2.1).sum = nn) ∧ Hid (wr.ownsRow w.heap.size 59 4 (.slice A nn c) nn ((ys.take j2).flatMap fun y => y.2.2)) ∧ Hid (Below w.heap.size w wr)) (fun _ i _ => j - (intOf i).toNat)
      case atStart => exact ⟨0,0,A2,c2,Nat.zero_le _,rfl,rfl,rfl,HO2.out,HB2.out⟩
      case round =>
        obtain ⟨j2,nn,A,c,hj2,rfl,rfl,HM,HO,HB⟩ := hrel
        by_cases hlt2 : j2 < j
        · have hji : (j2 : Int) < (j : Int) := by omega
          have hln := HN.out
          obtain ⟨y,hy⟩ : ∃ y,ys[j2]? = some y := ⟨ys[j2]'(by omega),List.getElem?_eq_getElem (by omega)⟩
          have hsum := HS.out (j2 + 1)
          rw [list_take_sum _ _ _ _ hy,HM.out] at hsum
          have HSUM := Lib.hid (list_take_sum (fun y : Value × Nat × List Value => y.2.1) _ _ _ hy)
          have HFL := Lib.hid (list_take_flat (fun y : Value × Nat × List Value => y.2.2) _ _ _ hy)
          obtain ⟨c0,hsl,h1⟩ := HC.out j2 y hy
          have c0' := below_c HB.out c0
          obtain ⟨v3,w3,hrun,hown3,hg3⟩ := HAP.out wr _ _ _ HO.out y (hsl.below HB.out) h1 (by omega) HB.out.size 71
          have HR := Lib.hid hrun
          have HO3 := Lib.hid hown3
          have HB3 := Lib.hid (HB.out.grown hg3 HB.out.size (fun k hk => (HO.out.lt k hk).1))
          obtain ⟨A3,c3,e3⟩ := own_slice hown3
          subst e3
          clear hy hln hsum hsl h1 c0 hrun hown3 hg3
          go_wp2_with (at_builtin; refine Lib.wpList_append_run _ rfl _ _ _ _ rfl _ _ rfl rfl _ _ HR.out ?_)
          have hmeas : j - (intOf (.int .i64 ((j2 : Int) + 1))).toNat < j - (intOf (.int .i64 (j2 : Int))).toNat := by simp [intOf]; omega
          refine ⟨⟨j2 + 1,nn + y.2.1,A3,c3,?_,?_,rfl,?_,?_,?_⟩,hmeas⟩
          · omega
          · go_num
          · show _ = _; rw [HSUM.out,HM.out]
          · rw [HFL.out]; with_reducible exact HO3
          · with_reducible exact HB3
        · obtain rfl : j2 = j := by omega
          go_wp2_with fail
          go_ret
          have hfull : ys.take j2 = ys := by rw [← HN.out]; exact List.take_length
          rw [hfull] at HO HM
          refine ⟨_,rfl,?_,HB.out⟩
          have hs1 := HM.out
          rw [← HS2.out,hs1]
          exact HO.out
set_option maxHeartbeats 4000000 in
set_option maxRecDepth 100000 in
theorem cloneE (n : Nat) (v : Value) (xs : List Value) (w : World) (h : SlAt w v n 4 xs) (hn : n ≤ 100000000) (h1 : ∀ u ∈ xs,u.oneCell' = true) :
    Calls Tryz.prog 153 #[v] w fun e w' => ∃ v',e = .returned v' ∧ w'.ownsRow w.heap.size 59 4 v' n xs ∧ Below w.heap.size w w' := by
  have hq := fun (w : World) (a : Option Addr) (n c n' c' : Nat) => Lib.run_eql_slice_nil (P := Tryz.prog) w 71 59 a n c n' c' Tryz.underlying71
  obtain ⟨i0,hi0,hz0,hz1,hz2⟩ := info_parts infoE
  have h' := h
  obtain ⟨hl,⟨rfl,rfl⟩ | ⟨g,o,c,rfl,hc⟩⟩ := h'
  · obtain rfl : xs = [] := List.eq_nil_of_length_eq_zero (by simpa using hl)
    clear h hl h1 hi0 hz0 hz1 hz2
    go_enter Tryz.func153,Tryz.ntmps153
    go_wp2_with fail
    go_ret
    exact ⟨_,rfl,⟨rfl,.inl ⟨rfl,rfl⟩⟩,Below.refl _ _⟩
  · obtain ⟨v3,w3,hrun,hown3,hg3⟩ := run_app (P := Tryz.prog) (w.alloc (.cells #[] 59)) w.heap.size 71 71 59 i0 _ 4 32 Tryz.underlying71 hi0 hz0 hz1 hz2 rfl (by omega) _ 0 [] (World.ownsRow_made w #[] 0 (Nat.le_refl _) (Nat.zero_le _) (by simp)) _ n xs (h.below ((Below.refl _ _).alloc (Nat.le_refl _) _)) h1 (by omega) (by omega) (by simp)
    have HR := Lib.hid hrun
    have HO3 : Hid (w3.ownsRow w.heap.size 59 4 v3 n xs) := by show World.ownsRow _ _ _ _ _ _ _; simpa using hown3
    have HB3 : Hid (Below w.heap.size w w3) := ((Below.refl _ _).alloc (Nat.le_refl _) _).grown hg3 (by simp) (fun k hk => by simp [Value.ownBlock] at hk; omega)
    clear h hl h1 hc hrun hown3 hg3 hi0 hz0 hz1 hz2
    go_enter Tryz.func153,Tryz.ntmps153
    go_wp2_with (at_builtin; refine Lib.wpList_append_run _ rfl _ _ _ _ rfl _ _ rfl rfl _ _ HR.out ?_)
    go_ret
    exact ⟨_,rfl,HO3.out,HB3.out⟩
theorem infoN : (Tryz.prog.info? 62).map (fun i => (i.zero,i.size,i.bytes)) = some (some .nilIface,1,16) := by kernel_rfl
set_option maxHeartbeats 4000000 in
set_option maxRecDepth 100000 in
theorem growN (n : Nat) (w : World) (hn : n ≤ 100000000) : Calls Tryz.prog 170 #[.slice none 0 0,.int .i64 n] w fun e w' => ∃ v',e = .returned v' ∧ w'.ownsRow w.heap.size 62 1 v' 0 [] ∧ Below w.heap.size w w' := by
  rcases Nat.eq_zero_or_pos n with rfl | h0
  · go_enter Tryz.func170,Tryz.ntmps170
    go_wp2_with fail
    go_ret
    exact ⟨_,rfl,⟨rfl,.inl ⟨rfl,rfl⟩⟩,Below.refl _ _⟩
  · obtain ⟨i0,hi0,hz0,hz1,hz2⟩ := info_parts infoN
    have hrz : ∀ ty,(Builtin.append_ #[75,3] ty #[.slice none 0 0,.int .i64 (n : Int)]).run Tryz.prog w = .ok (.slice (some ⟨w.heap.size,0,none⟩) n (grownCap w n 0 62)) (w.drew.alloc (.cells (Builtin.zeroCells (Value.cells .nilIface) n ++ Builtin.zeroCells (Value.cells .nilIface) (grownCap w n 0 62 - n)) 62)) := fun ty =>
      Lib.run_append_nil_zeros w 75 3 ty 62 i0 _ .i64 .i64 Tryz.underlying75 Tryz.underlying3 hi0 hz0 n h0 (by omega) (by omega) (by rw [hz2]; omega)
    have hge := grownCap_ge w n 0 62
    have hle := grownCap_le_maxLen w n 0 62 (by unfold maxLen; omega)
    obtain ⟨G,hG⟩ : ∃ G,grownCap w n 0 62 = G := ⟨_,rfl⟩
    rw [hG] at hrz hge hle
    have hle' := hle
    unfold maxLen at hle'
    have h1 : (0 : Int) < (n : Int) := by omega
    have h2 : (n : Int) > 0 := by omega
    have hcs : (Builtin.zeroCells (Value.cells .nilIface) n ++ Builtin.zeroCells (Value.cells .nilIface) (G - n)).size = G * 1 := by
      rw [Array.size_append,size_zeroCells,size_zeroCells]
      show n * 1 + (G - n) * 1 = G * 1
      omega
    obtain ⟨cs,hcs0⟩ : ∃ cs,Builtin.zeroCells (Value.cells .nilIface) n ++ Builtin.zeroCells (Value.cells .nilIface) (G - n) = cs := ⟨_,rfl⟩
    rw [hcs0] at hrz hcs
    have HRZ := Lib.hid hrz
    have HCS := Lib.hid hcs
    have HLE := Lib.hid hle
    clear hG hcs0 hcs hrz hi0 hz0 hz1 hz2 hle
    go_enter Tryz.func170,Tryz.ntmps170
    go_wp2_with (at_builtin; refine Lib.wpList_append_run _ rfl _ _ _ _ rfl _ _ rfl rfl _ _ (HRZ.out _) ?_)
    all_goals (go_ret; refine ⟨_,rfl,World.ownsRow_made w.drew cs G (Nat.le_refl _) HLE.out HCS.out,(Below.drew (Below.refl _ _)).alloc (Nat.le_refl _) _⟩)
set_option maxHeartbeats 4000000 in
set_option maxRecDepth 100000 in
theorem concatN (ys : List (Value × Nat × List Value)) (gb mc : Nat) (w : World) (hc : ∀ j y,ys[j]? = some y → w.cell? ⟨gb,j,none⟩ = some y.1 ∧ SlAt w y.1 y.2.1 1 y.2.2 ∧ ∀ u ∈ y.2.2,u.oneCell' = true)
    (hs : (ys.map fun y => y.2.1).sum ≤ 100000000) (hm : ys.length ≤ 1000) (h0 : 0 < ys.length) :
    Calls Tryz.prog 167 #[.slice (some ⟨gb,0,none⟩) ys.length mc] w fun e w' => ∃ v',e = .returned v' ∧ w'.ownsRow w.heap.size 62 1 v' (ys.map fun y => y.2.1).sum (ys.flatMap fun y => y.2.2) ∧ Below w.heap.size w w' := by
  obtain ⟨m,hm0⟩ : ∃ m,ys.length = m := ⟨_,rfl⟩
  have HN := Lib.hid hm0
  have HC := Lib.hid hc
  rw [hm0] at hm
  rw [hm0]
  obtain ⟨i0,hi0,hz0,hz1,hz2⟩ := info_parts infoN
  have HS := Lib.hid (fun j => Nat.le_trans (sum_take_le (fun y : Value × Nat × List Value => y.2.1) ys j) hs)
  have HG := Lib.hid (fun (n : Nat) (hn : n ≤ 100000000) => growN n w hn)
  have HAP := Lib.hid (fun (wq : World) (v : Value) (n : Nat) (xs : List Value) (hown : wq.ownsRow w.heap.size 62 1 v n xs) (y : Value × Nat × List Value) (hq : SlAt wq y.1 y.2.1 1 y.2.2) (h1 : ∀ u ∈ y.2.2,u.oneCell' = true) (h63 : n + y.2.1 ≤ 100000000) (hb : w.heap.size ≤ wq.heap.size) (ty : TypeId) => run_app (P := Tryz.prog) wq w.heap.size 75 ty 62 i0 _ 1 16 Tryz.underlying75 hi0 hz0 hz1 hz2 rfl (by omega) v n xs hown y.1 y.2.1 y.2.2 hq h1 h63 (by omega) hb)
  have H0 : Hid (0 < m) := by show 0 < m; omega
  clear hm0 hc hs h0 hi0 hz0 hz1 hz2
  go_enter Tryz.func167,Tryz.ntmps167
  go_wp2_with fail
  go_loop [3,11] (fun s i => ∃ j : Nat,j ≤ m ∧ i = .int .i64 j ∧ s = .int .i64 (((ys.take j).map fun y => y.2.1).sum : Nat)) (fun _ i => m - (intOf i).toNat)
  case atStart => exact ⟨0,Nat.zero_le _,rfl,rfl⟩
  case round =>
    obtain ⟨j,hj,rfl,rfl⟩ := hrel
    by_cases hlt : j < m
    · have hji : (j : Int) < (m : Int) := by omega
      have hln := HN.out
      obtain ⟨y,hy⟩ : ∃ y,ys[j]? = some y := ⟨ys[j]'(by omega),List.getElem?_eq_getElem (by omega)⟩
      have hsum := HS.out (j + 1)
      rw [list_take_sum _ _ _ _ hy] at hsum
      have HSUM := Lib.hid (list_take_sum (fun y : Value × Nat × List Value => y.2.1) _ _ _ hy)
      obtain ⟨c0,hsl,_⟩ := HC.out j y hy
      obtain ⟨S,hS⟩ : ∃ S,((ys.take j).map fun y => y.2.1).sum = S := ⟨_,rfl⟩
      rw [hS] at hsum
      have HS2 := Lib.hid hS
      rw [hS]
      obtain ⟨yv,yn,yx⟩ := y
      dsimp only at c0 hsl hsum HSUM
      obtain ⟨_,⟨rfl,rfl⟩ | ⟨yg,yo,yc,rfl,_⟩⟩ := hsl
      all_goals
        clear hy hln hS
        go_wp2_with fail
        go_round
        case rel => exact ⟨j + 1,by omega,by go_num,by rw [HSUM.out,HS2.out]; first | go_num | (congr 1; omega) | (simp; done)⟩
        case measure => simp [intOf]; omega
    · obtain rfl : j = m := by omega
      have hfull : ys.take j = ys := by rw [← HN.out]; exact List.take_length
      rw [hfull]
      have hsum := HS.out j
      rw [hfull] at hsum
      obtain ⟨S,hS⟩ : ∃ S,(ys.map fun y => y.2.1).sum = S := ⟨_,rfl⟩
      rw [hS] at hsum
      have HS2 := Lib.hid hS
      have HG2 := Lib.hid (HG.out S hsum)
      rw [hS]
      clear hS hfull
      go_wp2_with fail
      refine HG2.out.mono ?_
      rintro e w2 ⟨v2,rfl,hown2,hb2⟩
      obtain ⟨A2,c2,e2⟩ := own_slice hown2
      subst e2
      have HO2 := Lib.hid hown2
      have HB2 := Lib.hid hb2
      clear hown2 hb2
      go_wp2_with fail
      go_loopw [6,27] (fun s i wr => ∃ (j2 nn : Nat) (A : Option Addr) (c : Nat),j2 ≤ j ∧ i = .int .i64 j2 ∧ s = .slice A nn c ∧ Hid (((ys.take j2).map fun y => y.2.1).sum = nn) ∧ Hid (wr.ownsRow w.heap.size 62 1 (.slice A nn c) nn ((ys.take j2).flatMap fun y => y.2.2)) ∧ Hid (Below w.heap.size w wr)) (fun _ i _ => j - (intOf i).toNat)
      case atStart => exact ⟨0,0,A2,c2,Nat.zero_le _,rfl,rfl,rfl,HO2.out,HB2.out⟩
      case round =>
        obtain ⟨j2,nn,A,c,hj2,rfl,rfl,HM,HO,HB⟩ := hrel
        by_cases hlt2 : j2 < j
        · have hji : (j2 : Int) < (j : Int) := by omega
          have hln := HN.out
          obtain ⟨y,hy⟩ : ∃ y,ys[j2]? = some y := ⟨ys[j2]'(by omega),List.getElem?_eq_getElem (by omega)⟩
          have hsum := HS.out (j2 + 1)
          rw [list_take_sum _ _ _ _ hy,HM.out] at hsum
          have HSUM := Lib.hid (list_take_sum (fun y : Value × Nat × List Value => y.2.1) _ _ _ hy)
          have HFL := Lib.hid (list_take_flat (fun y : Value × Nat × List Value => y.2.2) _ _ _ hy)
          obtain ⟨c0,hsl,h1⟩ := HC.out j2 y hy
          have c0' := below_c HB.out c0
          obtain ⟨v3,w3,hrun,hown3,hg3⟩ := HAP.out wr _ _ _ HO.out y (hsl.below HB.out) h1 (by omega) HB.out.size 75
          have HR := Lib.hid hrun
          have HO3 := Lib.hid hown3
          have HB3 := Lib.hid (HB.out.grown hg3 HB.out.size (fun k hk => (HO.out.lt k hk).1))
          obtain ⟨A3,c3,e3⟩ := own_slice hown3
          subst e3
          clear hy hln hsum hsl h1 c0 hrun hown3 hg3
          go_wp2_with (at_builtin; refine Lib.wpList_append_run _ rfl _ _ _ _ rfl _ _ rfl rfl _ _ HR.out ?_)
          have hmeas : j - (intOf (.int .i64 ((j2 : Int) + 1))).toNat < j - (intOf (.int .i64 (j2 : Int))).toNat := by simp [intOf]; omega
          refine ⟨⟨j2 + 1,nn + y.2.1,A3,c3,?_,?_,rfl,?_,?_,?_⟩,hmeas⟩
          · omega
          · go_num
          · show _ = _; rw [HSUM.out,HM.out]
          · rw [HFL.out]; with_reducible exact HO3
          · with_reducible exact HB3
        · obtain rfl : j2 = j := by omega
          go_wp2_with fail
          go_ret
          have hfull : ys.take j2 = ys := by rw [← HN.out]; exact List.take_length
          rw [hfull] at HO HM
          refine ⟨_,rfl,?_,HB.out⟩
          have hs1 := HM.out
          rw [← HS2.out,hs1]
          exact HO.out
set_option maxHeartbeats 4000000 in
set_option maxRecDepth 100000 in
theorem cloneN (n : Nat) (v : Value) (xs : List Value) (w : World) (h : SlAt w v n 1 xs) (hn : n ≤ 100000000) (h1 : ∀ u ∈ xs,u.oneCell' = true) :
    Calls Tryz.prog 156 #[v] w fun e w' => ∃ v',e = .returned v' ∧ w'.ownsRow w.heap.size 62 1 v' n xs ∧ Below w.heap.size w w' := by
  have hq := fun (w : World) (a : Option Addr) (n c n' c' : Nat) => Lib.run_eql_slice_nil (P := Tryz.prog) w 75 62 a n c n' c' Tryz.underlying75
  obtain ⟨i0,hi0,hz0,hz1,hz2⟩ := info_parts infoN
  have h' := h
  obtain ⟨hl,⟨rfl,rfl⟩ | ⟨g,o,c,rfl,hc⟩⟩ := h'
  · obtain rfl : xs = [] := List.eq_nil_of_length_eq_zero (by simpa using hl)
    clear h hl h1 hi0 hz0 hz1 hz2
    go_enter Tryz.func156,Tryz.ntmps156
    go_wp2_with fail
    go_ret
    exact ⟨_,rfl,⟨rfl,.inl ⟨rfl,rfl⟩⟩,Below.refl _ _⟩
  · obtain ⟨v3,w3,hrun,hown3,hg3⟩ := run_app (P := Tryz.prog) (w.alloc (.cells #[] 62)) w.heap.size 75 75 62 i0 _ 1 16 Tryz.underlying75 hi0 hz0 hz1 hz2 rfl (by omega) _ 0 [] (World.ownsRow_made w #[] 0 (Nat.le_refl _) (Nat.zero_le _) (by simp)) _ n xs (h.below ((Below.refl _ _).alloc (Nat.le_refl _) _)) h1 (by omega) (by omega) (by simp)
    have HR := Lib.hid hrun
    have HO3 : Hid (w3.ownsRow w.heap.size 62 1 v3 n xs) := by show World.ownsRow _ _ _ _ _ _ _; simpa using hown3
    have HB3 : Hid (Below w.heap.size w w3) := ((Below.refl _ _).alloc (Nat.le_refl _) _).grown hg3 (by simp) (fun k hk => by simp [Value.ownBlock] at hk; omega)
    clear h hl h1 hc hrun hown3 hg3 hi0 hz0 hz1 hz2
    go_enter Tryz.func156,Tryz.ntmps156
    go_wp2_with (at_builtin; refine Lib.wpList_append_run _ rfl _ _ _ _ rfl _ _ rfl rfl _ _ HR.out ?_)
    go_ret
    exact ⟨_,rfl,HO3.out,HB3.out⟩
end Go.Proofs.YtneammhkgmkkfaaGreatDoor.tr
namespace Go.Proofs.YtneammhkgmkkfaaGreatDoor.tr
open Go.RowKit Go.Proofs.YtneammhkgmkkfaaGreatDoor.er
set_option linter.unusedVariables false
set_option linter.unusedSimpArgs false
theorem bel_tr {a b c : World} (h : Below a.heap.size a b) (k : Below b.heap.size b c) : Below a.heap.size a c := h.trans (k.mono h.size)
theorem two_own {B B1 n1 n2 k : Nat} {t : TypeId} {v1 v2 : Value} {x1 x2 : List Value} {a b : World} (h1 : a.ownsRow B1 t k v1 n1 x1) (hB : B ≤ B1) (hb : Below a.heap.size a b) (h2 : b.ownsRow a.heap.size t k v2 n2 x2) (hBa : B ≤ a.heap.size) :
    b.ownsRow B t k v1 n1 x1 ∧ b.ownsRow B t k v2 n2 x2 ∧ (∀ g,v1.ownBlock = some g → v2.ownBlock ≠ some g) ∧ ∀ g,v2.ownBlock = some g → v1.ownBlock ≠ some g := by
  refine ⟨own_base (own_below h1 hb) hB,own_base h2 hBa,fun g hg hg2 => ?_,fun g hg hg2 => ?_⟩
  · have := (h1.lt g hg).2; have := (h2.lt g hg2).1; omega
  · have := (h1.lt g hg2).2; have := (h2.lt g hg).1; omega
theorem SlAt.form {w : World} {v : Value} {n k : Nat} {xs : List Value} (h : SlAt w v n k xs) : ∃ A c,v = .slice A n c := by
  obtain ⟨h1,⟨rfl,rfl⟩ | ⟨g,o,c,rfl,h3⟩⟩ := h
  · exact ⟨none,0,rfl⟩
  · exact ⟨_,c,rfl⟩
theorem Row.drop {w : World} {g c n k q : Nat} {t : TypeId} {xs : List Value} (h : Row w g c k t xs) (hn : xs.length = n * k) (hq : q ≤ n) : SlAt w (.slice (some ⟨g,q * k,none⟩) (n - q) (c - q)) (n - q) k (xs.drop (q * k)) := by
  refine ⟨?_,.inr ⟨g,q * k,c - q,rfl,fun j u hj => ?_⟩⟩
  · rw [List.length_drop,hn,Nat.sub_mul]
  · rw [List.getElem?_drop] at hj
    exact h.cell hj
theorem Row.below {w w' : World} {g c k : Nat} {t : TypeId} {xs : List Value} (h : Row w g c k t xs) (hb : Below w.heap.size w w') : Row w' g c k t xs := by
  obtain ⟨cs,hw,h1,h2⟩ := h.blk
  exact ⟨⟨cs,hw.below hb hw.lt,h1,h2⟩,h.cap,h.fit⟩
theorem Row.front {w : World} {g c k q : Nat} {t : TypeId} {xs : List Value} (h : Row w g c k t xs) (hq : q ≤ c) (hl : (xs.take (q * k)).length = q * k) : Row w g q k t (xs.take (q * k)) := by
  obtain ⟨cs,hw,h1,h2⟩ := h.blk
  refine ⟨⟨cs,hw,Nat.le_trans (Nat.mul_le_mul_right k hq) h1,?_⟩,Nat.le_trans hq h.cap,by omega⟩
  rw [hl]
  rw [List.length_take] at hl
  rw [← h2,List.take_take,Nat.min_eq_left (by omega)]
set_option maxHeartbeats 4000000 in
set_option maxRecDepth 100000 in
theorem splitE (n g c : Nat) (xs : List Value) (w : World) (h : Row w g c 4 59 xs) (hn : xs.length = n * 4) (h2 : 2 ≤ n) (hm : n ≤ 1000) (h1 : ∀ u ∈ xs,u.oneCell' = true) :
    Calls Tryz.prog 129 #[.slice (some ⟨g,0,none⟩) n c] w fun e w' => ∃ v',e = .returned (.tuple #[.slice (some ⟨g,0,none⟩) (n / 2) (n / 2),v']) ∧ w'.ownsRow w.heap.size 59 4 v' (n - n / 2) (xs.drop (n / 2 * 4)) ∧ Below w.heap.size w w' := by
  have hnc : n ≤ c := by have := h.fit; omega
  have hcm := h.cap
  unfold maxLen at hcm
  obtain ⟨q,hq⟩ : ∃ q,n / 2 = q := ⟨_,rfl⟩
  have HC : Hid (∀ wq,Below w.heap.size w wq → Calls Tryz.prog 153 #[.slice (some ⟨g,q * 4,none⟩) (n - q) (c - q)] wq fun e w' => ∃ v',e = .returned v' ∧ w'.ownsRow wq.heap.size 59 4 v' (n - q) (xs.drop (q * 4)) ∧ Below wq.heap.size wq w') := fun wq hb => by
    have hs := (h.below hb).drop hn (show q ≤ n by omega)
    (try simp only [Nat.mul_one] at hs); (try simp only [Nat.mul_one])
    first | exact cloneE (n - q) _ _ wq hs (by omega) (fun u hu => h1 u (List.mem_of_mem_drop hu))
  have hq2 : (n : Int) / 2 = (q : Int) := by omega
  have hqn : (q : Int) ≤ (n : Int) := by omega
  have hqc : (q : Int) ≤ (c : Int) := by omega
  have hq0 : (0 : Int) ≤ (q : Int) := by omega
  have hcq : ¬ (c = q) := by omega
  have hqn' : q ≤ n := by omega
  have hqc' : q ≤ c := by omega
  rw [hq]
  clear h hn h1 hq
  go_enter Tryz.func129,Tryz.ntmps129
  go_wp2_with fail
  go_region_held3 (fun w' => Below w.heap.size w w') (first | with_reducible exact Below.refl _ _ | with_reducible exact HB5.out | exact Below.drew (Below.refl _ _)) ((go_at_call 153; refine (HC.out _ (by first | with_reducible exact Below.refl _ _ | exact Below.drew (Below.refl _ _))).mono ?_; rintro e w5 ⟨v5,rfl,hown5,hb5⟩; have HO5 := Lib.hid hown5; have HB5 : Hid (Below w.heap.size w w5) := Below.trans (Below.drew (Below.refl _ _)) hb5; clear hown5 hb5))
  go_wp2_with fail
  go_ret2
  exact ⟨v5,rfl,HO5.out,HB5.out⟩
set_option maxHeartbeats 4000000 in
set_option maxRecDepth 100000 in
theorem splitN (n g c : Nat) (xs : List Value) (w : World) (h : Row w g c 1 62 xs) (hn : xs.length = n * 1) (h2 : 2 ≤ n) (hm : n ≤ 1000) (h1 : ∀ u ∈ xs,u.oneCell' = true) :
    Calls Tryz.prog 131 #[.slice (some ⟨g,0,none⟩) n c] w fun e w' => ∃ v',e = .returned (.tuple #[.slice (some ⟨g,0,none⟩) (n / 2) (n / 2),v']) ∧ w'.ownsRow w.heap.size 62 1 v' (n - n / 2) (xs.drop (n / 2 * 1)) ∧ Below w.heap.size w w' := by
  have hnc : n ≤ c := by have := h.fit; omega
  have hcm := h.cap
  unfold maxLen at hcm
  obtain ⟨q,hq⟩ : ∃ q,n / 2 = q := ⟨_,rfl⟩
  have HC : Hid (∀ wq,Below w.heap.size w wq → Calls Tryz.prog 156 #[.slice (some ⟨g,q,none⟩) (n - q) (c - q)] wq fun e w' => ∃ v',e = .returned v' ∧ w'.ownsRow wq.heap.size 62 1 v' (n - q) (xs.drop (q * 1)) ∧ Below wq.heap.size wq w') := fun wq hb => by
    have hs := (h.below hb).drop hn (show q ≤ n by omega)
    (try simp only [Nat.mul_one] at hs); (try simp only [Nat.mul_one])
    first | exact cloneN (n - q) _ _ wq hs (by omega) (fun u hu => h1 u (List.mem_of_mem_drop hu))
  have hq2 : (n : Int) / 2 = (q : Int) := by omega
  have hqn : (q : Int) ≤ (n : Int) := by omega
  have hqc : (q : Int) ≤ (c : Int) := by omega
  have hq0 : (0 : Int) ≤ (q : Int) := by omega
  have hcq : ¬ (c = q) := by omega
  have hqn' : q ≤ n := by omega
  have hqc' : q ≤ c := by omega
  rw [hq]
  clear h hn h1 hq
  go_enter Tryz.func131,Tryz.ntmps131
  go_wp2_with fail
  go_region_held3 (fun w' => Below w.heap.size w w') (first | with_reducible exact Below.refl _ _ | with_reducible exact HB5.out | exact Below.drew (Below.refl _ _)) ((go_at_call 156; refine (HC.out _ (by first | with_reducible exact Below.refl _ _ | exact Below.drew (Below.refl _ _))).mono ?_; rintro e w5 ⟨v5,rfl,hown5,hb5⟩; have HO5 := Lib.hid hown5; have HB5 : Hid (Below w.heap.size w w5) := Below.trans (Below.drew (Below.refl _ _)) hb5; clear hown5 hb5))
  go_wp2_with fail
  go_ret2
  exact ⟨v5,rfl,HO5.out,HB5.out⟩
set_option maxHeartbeats 4000000 in
set_option maxRecDepth 100000 in
theorem cutE (na nb K : Nat) (va vb : Value) (xa xb : List Value) (w : World) (ha : SlAt w va na 4 xa) (hb : SlAt w vb nb 4 xb) (hK : K ≤ na + nb) (h0 : 0 < na + nb) (hm : na + nb ≤ 1000) (h1 : ∀ u ∈ xa ++ xb,u.oneCell' = true) :
    Calls Tryz.prog 161 #[va,vb,.int .i64 K] w fun e w' => ∃ v1 v2,e = .returned (.tuple #[v1,v2]) ∧ w'.ownsRow w.heap.size 59 4 v1 K ((xa ++ xb).take (K * 4)) ∧ w'.ownsRow w.heap.size 59 4 v2 (na + nb - K) ((xa ++ xb).drop (K * 4)) ∧ (∀ g,v1.ownBlock = some g → v2.ownBlock ≠ some g) ∧ Below w.heap.size w w' := by
  obtain ⟨A1,c1,rfl⟩ := ha.form
  obtain ⟨A2,c2,rfl⟩ := hb.form
  have HCC : Hid (Calls Tryz.prog 68 #[.slice (some ⟨w.heap.size,0,none⟩) 2 2] (w.alloc (.cells #[.slice A1 na c1,.slice A2 nb c2] 71)) fun e w' => ∃ g c,e = .returned (.slice (some ⟨g,0,none⟩) (na + nb) c) ∧ Row w' g c 4 59 (xa ++ xb) ∧ w.heap.size + 1 ≤ g ∧ Below w.heap.size w w') := by
    have hbl : Below w.heap.size w (w.alloc (.cells #[.slice A1 na c1,.slice A2 nb c2] 71)) := (Below.refl _ _).alloc (Nat.le_refl _) _
    refine (concatE [(.slice A1 na c1,na,xa),(.slice A2 nb c2,nb,xb)] w.heap.size 2 (w.alloc (.cells #[.slice A1 na c1,.slice A2 nb c2] 71)) ?_ (by simpa using (by omega : na + nb ≤ 100000000)) (by simp) (by simp)).mono ?_
    · have hw := Whole.new w 71 #[.slice A1 na c1,.slice A2 nb c2]
      intro j y hy
      match j,hy with
      | 0,hy => simp at hy; subst hy; exact ⟨hw.cell 0,ha.below hbl,fun u hu => h1 u (by simp [hu])⟩
      | 1,hy => simp at hy; subst hy; exact ⟨hw.cell 1,hb.below hbl,fun u hu => h1 u (by simp [hu])⟩
      | j + 2,hy => simp at hy
    · rintro e w' ⟨v',rfl,hown,hbe⟩
      simp only [List.map_cons,List.map_nil,List.sum_cons,List.sum_nil,Nat.add_zero,List.flatMap_cons,List.flatMap_nil,List.append_nil] at hown
      obtain ⟨g,c,rfl,hrow,hg⟩ := Row.own hown (by omega)
      exact ⟨g,c,rfl,hrow,by simpa using hg,hbl.trans (hbe.mono (by simp))⟩
  have hlen : (xa ++ xb).length = (na + nb) * 4 := by rw [List.length_append,ha.1,hb.1,Nat.add_mul]
  have HCL : Hid (∀ (g c : Nat) (w2 : World),Row w2 g c 4 59 (xa ++ xb) → (∀ wq,Below w2.heap.size w2 wq → Calls Tryz.prog 153 #[.slice (some ⟨g,0,none⟩) K c] wq fun e w' => ∃ v',e = .returned v' ∧ w'.ownsRow wq.heap.size 59 4 v' K ((xa ++ xb).take (K * 4)) ∧ Below wq.heap.size wq w') ∧ ∀ o c',((na + nb - K = 0) ∨ o = K * 4) → ∀ wq,Below w2.heap.size w2 wq → Calls Tryz.prog 153 #[.slice (some ⟨g,o,none⟩) (na + nb - K) c'] wq fun e w' => ∃ v',e = .returned v' ∧ w'.ownsRow wq.heap.size 59 4 v' (na + nb - K) ((xa ++ xb).drop (K * 4)) ∧ Below wq.heap.size wq w') := by
    intro g c w2 hr
    refine ⟨fun wq hbq => cloneE K _ _ wq ⟨by rw [List.length_take,hlen]; have := Nat.mul_le_mul_right 4 hK; omega,.inr ⟨g,0,c,rfl,fun j u hj => ?_⟩⟩ (by omega) (fun u hu => h1 u (List.mem_of_mem_take hu)),fun o c' ho wq hbq => cloneE (na + nb - K) _ _ wq ⟨by rw [List.length_drop,hlen,Nat.sub_mul],.inr ⟨g,o,c',rfl,fun j u hj => ?_⟩⟩ (by omega) (fun u hu => h1 u (List.mem_of_mem_drop hu))⟩
    · rw [Nat.zero_add]
      rw [List.getElem?_take] at hj
      split at hj
      · exact (hr.below hbq).cell hj
      · cases hj
    · rcases ho with ho | ho
      · have : ((xa ++ xb).drop (K * 4)).length = 0 := by rw [List.length_drop,hlen,← Nat.sub_mul,ho,Nat.zero_mul]
        rw [List.length_eq_zero_iff.1 this] at hj
        cases hj
      · subst ho
        rw [List.getElem?_drop] at hj
        exact (hr.below hbq).cell hj
  have HFIT : Hid (∀ (g c : Nat) (w2 : World),Row w2 g c 4 59 (xa ++ xb) → na + nb ≤ c) := by
    intro g c w2 hr
    have := hr.fit
    rw [hlen] at this
    omega
  obtain ⟨N,hN⟩ : ∃ N,na + nb = N := ⟨_,rfl⟩
  rw [hN] at HCC HCL HFIT hK hm h0 ⊢
  clear hN ha hb h1 hlen
  go_enter Tryz.func161,Tryz.ntmps161
  go_wp2_with fail
  refine HCC.out.mono ?_
  rintro e w2 ⟨g,c,rfl,hrow,hg,hb2⟩
  have HB2 := Lib.hid hb2
  have HC1 := Lib.hid (HCL.out g c w2 hrow).1
  have HC2 := Lib.hid (HCL.out g c w2 hrow).2
  have hNc : N ≤ c := HFIT.out g c w2 hrow
  have hcm := hrow.cap
  unfold maxLen at hcm
  have hk1 : (K : Int) ≤ (c : Int) := by omega
  have hk2 : (K : Int) ≤ (N : Int) := by omega
  have hk3 : K ≤ c := by omega
  have hk4 : (0 : Int) ≤ (K : Int) := by omega
  clear hb2 hrow
  by_cases hcK : c = K
  · obtain rfl : K = N := by omega
    subst hcK
    have HC3 := Lib.hid (HC2.out 0 (c - c) (.inl (by omega)))
    simp only [Nat.sub_self] at HC3
    go_wp2_with fail
    go_region_held3 (fun w' => Below w2.heap.size w2 w') (first | with_reducible exact Below.refl _ _ | with_reducible exact HB6.out | with_reducible exact HB5.out | exact Below.drew (Below.refl _ _)) ((first | (go_at_call 153; (with_reducible refine (HC1.out _ (by assumption)).mono ?_); rintro e w5 ⟨v5,rfl,hown5,hb5⟩; have HO5 := Lib.hid hown5; have HC5 := Lib.hid hb5; have HB5 : Hid (Below w2.heap.size w2 w5) := bel_tr (by assumption) hb5; clear hown5 hb5) | (go_at_call 153; (with_reducible refine (HC3.out _ (by assumption)).mono ?_); rintro e w6 ⟨v6,rfl,hown6,hb6⟩; have HO6 := Lib.hid hown6; have HC6 := Lib.hid hb6; have HB6 : Hid (Below w2.heap.size w2 w6) := bel_tr (by assumption) hb6; clear hown6 hb6)))
    all_goals go_wp2_with fail
    all_goals go_ret2
    all_goals have hsz := HB2.out.size
    · have h := two_own (B := w.heap.size) HO5.out (by have := HB2.out.size; exact this) HC6.out HO6.out (Nat.le_trans HB2.out.size HB5.out.size)
      exact ⟨v5,v6,rfl,h.1,(by first | exact h.2.1 | (rw [Nat.sub_self]; exact h.2.1)),h.2.2.1,bel_tr HB2.out HB6.out⟩
  · have HC3 := Lib.hid (HC2.out (K * 4) (c - K) (.inr rfl))
    go_wp2_with fail
    go_region_held3 (fun w' => Below w2.heap.size w2 w') (first | with_reducible exact Below.refl _ _ | with_reducible exact HB6.out | with_reducible exact HB5.out | exact Below.drew (Below.refl _ _)) ((first | (go_at_call 153; (with_reducible refine (HC1.out _ (by assumption)).mono ?_); rintro e w5 ⟨v5,rfl,hown5,hb5⟩; have HO5 := Lib.hid hown5; have HC5 := Lib.hid hb5; have HB5 : Hid (Below w2.heap.size w2 w5) := bel_tr (by assumption) hb5; clear hown5 hb5) | (go_at_call 153; (with_reducible refine (HC3.out _ (by assumption)).mono ?_); rintro e w6 ⟨v6,rfl,hown6,hb6⟩; have HO6 := Lib.hid hown6; have HC6 := Lib.hid hb6; have HB6 : Hid (Below w2.heap.size w2 w6) := bel_tr (by assumption) hb6; clear hown6 hb6)))
    all_goals go_wp2_with fail
    all_goals go_ret2
    all_goals have hsz := HB2.out.size
    · have h := two_own (B := w.heap.size) HO5.out (by have := HB2.out.size; exact this) HC6.out HO6.out (Nat.le_trans HB2.out.size HB5.out.size)
      exact ⟨v5,v6,rfl,h.1,(by first | exact h.2.1 | (rw [Nat.sub_self]; exact h.2.1)),h.2.2.1,bel_tr HB2.out HB6.out⟩
set_option maxHeartbeats 4000000 in
set_option maxRecDepth 100000 in
theorem cutN (na nb K : Nat) (va vb : Value) (xa xb : List Value) (w : World) (ha : SlAt w va na 1 xa) (hb : SlAt w vb nb 1 xb) (hK : K ≤ na + nb) (h0 : 0 < na + nb) (hm : na + nb ≤ 1000) (h1 : ∀ u ∈ xa ++ xb,u.oneCell' = true) :
    Calls Tryz.prog 162 #[va,vb,.int .i64 K] w fun e w' => ∃ v1 v2,e = .returned (.tuple #[v1,v2]) ∧ w'.ownsRow w.heap.size 62 1 v1 K ((xa ++ xb).take (K * 1)) ∧ w'.ownsRow w.heap.size 62 1 v2 (na + nb - K) ((xa ++ xb).drop (K * 1)) ∧ (∀ g,v1.ownBlock = some g → v2.ownBlock ≠ some g) ∧ Below w.heap.size w w' := by
  obtain ⟨A1,c1,rfl⟩ := ha.form
  obtain ⟨A2,c2,rfl⟩ := hb.form
  have HCC : Hid (Calls Tryz.prog 167 #[.slice (some ⟨w.heap.size,0,none⟩) 2 2] (w.alloc (.cells #[.slice A1 na c1,.slice A2 nb c2] 75)) fun e w' => ∃ g c,e = .returned (.slice (some ⟨g,0,none⟩) (na + nb) c) ∧ Row w' g c 1 62 (xa ++ xb) ∧ w.heap.size + 1 ≤ g ∧ Below w.heap.size w w') := by
    have hbl : Below w.heap.size w (w.alloc (.cells #[.slice A1 na c1,.slice A2 nb c2] 75)) := (Below.refl _ _).alloc (Nat.le_refl _) _
    refine (concatN [(.slice A1 na c1,na,xa),(.slice A2 nb c2,nb,xb)] w.heap.size 2 (w.alloc (.cells #[.slice A1 na c1,.slice A2 nb c2] 75)) ?_ (by simpa using (by omega : na + nb ≤ 100000000)) (by simp) (by simp)).mono ?_
    · have hw := Whole.new w 75 #[.slice A1 na c1,.slice A2 nb c2]
      intro j y hy
      match j,hy with
      | 0,hy => simp at hy; subst hy; exact ⟨hw.cell 0,ha.below hbl,fun u hu => h1 u (by simp [hu])⟩
      | 1,hy => simp at hy; subst hy; exact ⟨hw.cell 1,hb.below hbl,fun u hu => h1 u (by simp [hu])⟩
      | j + 2,hy => simp at hy
    · rintro e w' ⟨v',rfl,hown,hbe⟩
      simp only [List.map_cons,List.map_nil,List.sum_cons,List.sum_nil,Nat.add_zero,List.flatMap_cons,List.flatMap_nil,List.append_nil] at hown
      obtain ⟨g,c,rfl,hrow,hg⟩ := Row.own hown (by omega)
      exact ⟨g,c,rfl,hrow,by simpa using hg,hbl.trans (hbe.mono (by simp))⟩
  have hlen : (xa ++ xb).length = (na + nb) * 1 := by rw [List.length_append,ha.1,hb.1,Nat.add_mul]
  have HCL : Hid (∀ (g c : Nat) (w2 : World),Row w2 g c 1 62 (xa ++ xb) → (∀ wq,Below w2.heap.size w2 wq → Calls Tryz.prog 156 #[.slice (some ⟨g,0,none⟩) K c] wq fun e w' => ∃ v',e = .returned v' ∧ w'.ownsRow wq.heap.size 62 1 v' K ((xa ++ xb).take (K * 1)) ∧ Below wq.heap.size wq w') ∧ ∀ o c',((na + nb - K = 0) ∨ o = K * 1) → ∀ wq,Below w2.heap.size w2 wq → Calls Tryz.prog 156 #[.slice (some ⟨g,o,none⟩) (na + nb - K) c'] wq fun e w' => ∃ v',e = .returned v' ∧ w'.ownsRow wq.heap.size 62 1 v' (na + nb - K) ((xa ++ xb).drop (K * 1)) ∧ Below wq.heap.size wq w') := by
    intro g c w2 hr
    refine ⟨fun wq hbq => cloneN K _ _ wq ⟨by rw [List.length_take,hlen]; have := Nat.mul_le_mul_right 1 hK; omega,.inr ⟨g,0,c,rfl,fun j u hj => ?_⟩⟩ (by omega) (fun u hu => h1 u (List.mem_of_mem_take hu)),fun o c' ho wq hbq => cloneN (na + nb - K) _ _ wq ⟨by rw [List.length_drop,hlen,Nat.sub_mul],.inr ⟨g,o,c',rfl,fun j u hj => ?_⟩⟩ (by omega) (fun u hu => h1 u (List.mem_of_mem_drop hu))⟩
    · rw [Nat.zero_add]
      rw [List.getElem?_take] at hj
      split at hj
      · exact (hr.below hbq).cell hj
      · cases hj
    · rcases ho with ho | ho
      · have : ((xa ++ xb).drop (K * 1)).length = 0 := by rw [List.length_drop,hlen,← Nat.sub_mul,ho,Nat.zero_mul]
        rw [List.length_eq_zero_iff.1 this] at hj
        cases hj
      · subst ho
        rw [List.getElem?_drop] at hj
        exact (hr.below hbq).cell hj
  have HFIT : Hid (∀ (g c : Nat) (w2 : World),Row w2 g c 1 62 (xa ++ xb) → na + nb ≤ c) := by
    intro g c w2 hr
    have := hr.fit
    rw [hlen] at this
    omega
  obtain ⟨N,hN⟩ : ∃ N,na + nb = N := ⟨_,rfl⟩
  rw [hN] at HCC HCL HFIT hK hm h0 ⊢
  clear hN ha hb h1 hlen
  go_enter Tryz.func162,Tryz.ntmps162
  go_wp2_with fail
  refine HCC.out.mono ?_
  rintro e w2 ⟨g,c,rfl,hrow,hg,hb2⟩
  have HB2 := Lib.hid hb2
  have HC1 := Lib.hid (HCL.out g c w2 hrow).1
  have HC2 := Lib.hid (HCL.out g c w2 hrow).2
  have hNc : N ≤ c := HFIT.out g c w2 hrow
  have hcm := hrow.cap
  unfold maxLen at hcm
  have hk1 : (K : Int) ≤ (c : Int) := by omega
  have hk2 : (K : Int) ≤ (N : Int) := by omega
  have hk3 : K ≤ c := by omega
  have hk4 : (0 : Int) ≤ (K : Int) := by omega
  clear hb2 hrow
  by_cases hcK : c = K
  · obtain rfl : K = N := by omega
    subst hcK
    have HC3 := Lib.hid (HC2.out 0 (c - c) (.inl (by omega)))
    simp only [Nat.sub_self] at HC3
    go_wp2_with fail
    go_region_held3 (fun w' => Below w2.heap.size w2 w') (first | with_reducible exact Below.refl _ _ | with_reducible exact HB6.out | with_reducible exact HB5.out | exact Below.drew (Below.refl _ _)) ((first | (go_at_call 156; (with_reducible refine (HC1.out _ (by assumption)).mono ?_); rintro e w5 ⟨v5,rfl,hown5,hb5⟩; have HO5 := Lib.hid hown5; have HC5 := Lib.hid hb5; have HB5 : Hid (Below w2.heap.size w2 w5) := bel_tr (by assumption) hb5; clear hown5 hb5) | (go_at_call 156; (with_reducible refine (HC3.out _ (by assumption)).mono ?_); rintro e w6 ⟨v6,rfl,hown6,hb6⟩; have HO6 := Lib.hid hown6; have HC6 := Lib.hid hb6; have HB6 : Hid (Below w2.heap.size w2 w6) := bel_tr (by assumption) hb6; clear hown6 hb6)))
    all_goals go_wp2_with fail
    all_goals go_ret2
    all_goals have hsz := HB2.out.size
    · have h := two_own (B := w.heap.size) HO5.out (by have := HB2.out.size; exact this) HC6.out HO6.out (Nat.le_trans HB2.out.size HB5.out.size)
      exact ⟨v5,v6,rfl,h.1,(by first | exact h.2.1 | (rw [Nat.sub_self]; exact h.2.1)),h.2.2.1,bel_tr HB2.out HB6.out⟩
  · have HC3 := Lib.hid (HC2.out (K) (c - K) (.inr (Nat.mul_one K).symm))
    go_wp2_with fail
    go_region_held3 (fun w' => Below w2.heap.size w2 w') (first | with_reducible exact Below.refl _ _ | with_reducible exact HB6.out | with_reducible exact HB5.out | exact Below.drew (Below.refl _ _)) ((first | (go_at_call 156; (with_reducible refine (HC1.out _ (by assumption)).mono ?_); rintro e w5 ⟨v5,rfl,hown5,hb5⟩; have HO5 := Lib.hid hown5; have HC5 := Lib.hid hb5; have HB5 : Hid (Below w2.heap.size w2 w5) := bel_tr (by assumption) hb5; clear hown5 hb5) | (go_at_call 156; (with_reducible refine (HC3.out _ (by assumption)).mono ?_); rintro e w6 ⟨v6,rfl,hown6,hb6⟩; have HO6 := Lib.hid hown6; have HC6 := Lib.hid hb6; have HB6 : Hid (Below w2.heap.size w2 w6) := bel_tr (by assumption) hb6; clear hown6 hb6)))
    all_goals go_wp2_with fail
    all_goals go_ret2
    all_goals have hsz := HB2.out.size
    · have h := two_own (B := w.heap.size) HO5.out (by have := HB2.out.size; exact this) HC6.out HO6.out (Nat.le_trans HB2.out.size HB5.out.size)
      exact ⟨v5,v6,rfl,h.1,(by first | exact h.2.1 | (rw [Nat.sub_self]; exact h.2.1)),h.2.2.1,bel_tr HB2.out HB6.out⟩
end Go.Proofs.YtneammhkgmkkfaaGreatDoor.tr
