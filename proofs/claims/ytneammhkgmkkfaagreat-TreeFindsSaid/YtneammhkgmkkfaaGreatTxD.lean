/- ext: parts. -/
import Derived.Test.YtneammhkgmkkfaaGreatTxC
namespace Go.Proofs.YtneammhkgmkkfaaGreat.tr
open Go.RowKit Go.Proofs.YtneammhkgmkkfaaGreat.er
set_option linter.unusedVariables false
set_option linter.unusedSimpArgs false

theorem extInfo : (Tryz.prog.info? 39).map (fun i => (i.zero, i.size, i.bytes)) = some (some (.agg #[.int .i64 0, .int .i64 0, .int .i64 0, .int .i64 0]), 4, 32) := by kernel_rfl
theorem parts_take (l : List Ext) (a b : Int) (j : Nat) (e : Ext) (h : l[j]? = some e) : parts (l.take (j + 1)) a b = parts (l.take j) a b ++ (match partOf e a b with | some x => [x] | none => []) := by
  have hj : j < l.length := (List.getElem?_eq_some_iff.1 h).1
  rw [List.take_succ_eq_append_getElem hj, parts_append]
  congr 1
  have he : l[j] = e := by rw [List.getElem?_eq_getElem hj] at h; injection h
  rw [he]
  unfold parts
  rw [List.filterMap_cons]
  cases partOf e a b <;> rfl
set_option maxHeartbeats 4000000 in
set_option maxRecDepth 100000 in
theorem parts_any (l : List Ext) (v : Value) (a b : Int) (w : World) (h : ExtsAt w v l) (h1 : ∀ e ∈ l, oneB e = true) (hl : l.length ≤ 100000000) (ha : 0 ≤ a) (ha2 : a ≤ 16777216) (hb : 0 ≤ b) (hb2 : b ≤ 16777216) :
    Calls Tryz.prog 67 #[v, .int .i64 a, .int .i64 b] w fun x w' => ∃ v', x = .returned v' ∧ w'.ownsRow w.heap.size 39 4 v' (parts l a b).length (extCells (parts l a b)) ∧ Below w.heap.size w w' := by
  obtain ⟨A, c, rfl, hc⟩ := h
  have HC := Lib.hid hc
  have H1 := Lib.hid h1
  obtain ⟨n, hn⟩ : ∃ n, l.length = n := ⟨_, rfl⟩
  rw [hn] at hl
  have HN := Lib.hid hn
  rw [hn]
  obtain ⟨i0, hi0, hz0, hz1, hz2⟩ := info_parts extInfo
  have HI0 := Lib.hid hi0
  have HZ0 := Lib.hid hz0
  have HZ1 := Lib.hid hz1
  have HZ2 := Lib.hid hz2
  have HPA := Lib.hid (fun (e : Ext) (wq : World) (he : oneB e = true) => part_any e a b wq he ha ha2 hb hb2)
  clear hi0 hz0 hz1 hz2 hc h1 hn ha ha2 hb hb2
  go_enter Tryz.func67, Tryz.ntmps67
  go_wp2_with fail
  go_loopw [7, 14] (fun nv i wr => ∃ (j m : Nat) (B : Option Addr) (d : Nat), j ≤ n ∧ i = .int .i64 j ∧ nv = .slice B m d ∧ m ≤ j ∧ Hid ((parts (l.take j) a b).length = m) ∧ Hid (wr.ownsRow w.heap.size 39 4 (.slice B m d) m (extCells (parts (l.take j) a b))) ∧ Hid (Below w.heap.size w wr)) (fun _ i _ => n - (intOf i).toNat)
  case atStart => exact ⟨0, 0, none, 0, Nat.zero_le _, rfl, rfl, Nat.le_refl _, rfl, ⟨rfl, .inl ⟨rfl, rfl⟩⟩, Below.refl _ _⟩
  case round =>
    obtain ⟨j, m, B, d, hj, rfl, rfl, hmj, HM, HO, HB⟩ := hrel
    by_cases hlt : j < n
    · have hji : (j : Int) < (n : Int) := by omega
      have hln := HN.out
      obtain ⟨g, o, rfl, hcc⟩ := HC.out (by omega)
      obtain ⟨e, hx⟩ : ∃ e, l[j]? = some e := ⟨l[j]'(by omega), List.getElem?_eq_getElem (by omega)⟩
      obtain ⟨c0, c1, c2, c3⟩ := (hcc j e hx).below HB.out
      have HPE := Lib.hid (fun wq => HPA.out e wq (H1.out e (List.mem_of_getElem? hx)))
      have HTK := Lib.hid (parts_take l a b j e hx)
      obtain ⟨f, en, k, t⟩ := e
      simp only [Ext.val] at HPE
      simp only at c0 c1 c2 c3
      clear hcc hx hln
      cases hp : partOf ⟨f, en, k, t⟩ a b with
      | none =>
        simp only [hp, List.append_nil] at HPE HTK
        have HA0 : Hid (Below wr.heap.size wr (wr.alloc (.cells #[.int .i64 f, .int .i64 en, .int .i64 k, .int .i64 t] 39))) := (Below.refl _ _).alloc (Nat.le_refl _) _
        go_wp2_with fail
        refine (HPE.out _).mono ?_
        rintro x w2 ⟨rfl, hb2⟩
        have hb2' := HA0.out.trans (hb2.mono HA0.out.size)
        have HB2 := Lib.hid (HB.out.trans (hb2'.mono HB.out.size))
        have HO2 := Lib.hid (own_below HO.out hb2')
        clear hb2 hb2' hp
        go_wp2_with fail
        have hmeas : n - (intOf (.int .i64 ((j : Int) + 1))).toNat < n - (intOf (.int .i64 (j : Int))).toNat := by simp [intOf]; omega
        refine ⟨⟨j + 1, m, B, d, ?_, ?_, rfl, ?_, ?_, ?_, ?_⟩, hmeas⟩
        · omega
        · go_num
        · omega
        · rw [HTK.out]; with_reducible exact HM
        · rw [HTK.out]; exact HO2.out.alloc _
        · exact HB2.out.alloc HB2.out.size _
      | some y =>
        obtain ⟨yf, yn, yk, yt⟩ := y
        simp only [hp, Ext.val] at HPE HTK
        have HA0 : Hid (Below wr.heap.size wr (wr.alloc (.cells #[.int .i64 f, .int .i64 en, .int .i64 k, .int .i64 t] 39))) := (Below.refl _ _).alloc (Nat.le_refl _) _
        go_wp2_with fail
        refine (HPE.out _).mono ?_
        rintro x w2 ⟨rfl, hb2⟩
        have hb2' := HA0.out.trans (hb2.mono HA0.out.size)
        have HB2 := Lib.hid (HB.out.trans (hb2'.mono HB.out.size))
        have HO2 := Lib.hid (own_below HO.out hb2')
        have HP2 := Lib.hid (Whole.new w2 39 #[.int .i64 yf, .int .i64 yn, .int .i64 yk, .int .i64 yt])
        have HOA := Lib.hid ((HO2.out.alloc (.cells #[.int .i64 yf, .int .i64 yn, .int .i64 yk, .int .i64 yt] 39)).alloc (.cells #[.int .i64 yf, .int .i64 yn, .int .i64 yk, .int .i64 yt] 39))
        have HB3 := Lib.hid (HB2.out.alloc HB2.out.size (.cells #[.int .i64 yf, .int .i64 yn, .int .i64 yk, .int .i64 yt] 39))
        have HNW : Hid (∀ (j' : Nat) (u : Value), ([.int .i64 yf, .int .i64 yn, .int .i64 yk, .int .i64 yt] : List Value)[j']? = some u → ((w2.alloc (.cells #[.int .i64 yf, .int .i64 yn, .int .i64 yk, .int .i64 yt] 39)).alloc (.cells #[.int .i64 yf, .int .i64 yn, .int .i64 yk, .int .i64 yt] 39)).cell? ((⟨w2.heap.size + 1, 0, none⟩ : Addr).add j') = some u) := World.news_of_block (by simpa using heap_alloc_new (w2.alloc (.cells #[.int .i64 yf, .int .i64 yn, .int .i64 yk, .int .i64 yt] 39)) (.cells #[.int .i64 yf, .int .i64 yn, .int .i64 yk, .int .i64 yt] 39))
        have hone : ∀ u ∈ ([.int .i64 yf, .int .i64 yn, .int .i64 yk, .int .i64 yt] : List Value), u.oneCell' = true := by simp [Value.oneCell']
        have HONE := Lib.hid hone
        have HSZ : Hid (w.heap.size ≤ ((w2.alloc (.cells #[.int .i64 yf, .int .i64 yn, .int .i64 yk, .int .i64 yt] 39)).alloc (.cells #[.int .i64 yf, .int .i64 yn, .int .i64 yk, .int .i64 yt] 39)).heap.size) := by show _ ≤ _; have := HB2.out.size; simp only [World.size_alloc]; omega
        obtain ⟨⟨p0, p1, p2, p3⟩, _⟩ := tmp4 HP2.out
        have hm8 : m ≤ 100000000 := by omega
        clear hb2 hb2' hp hone
        go_wp2_with (at_builtin; go_must (refine wpList_append_own _ rfl (.tmp 26) (.tmp 28) 32 rfl w.heap.size 39 i0 _ 4 32 Tryz.underlying32 HI0.out HZ0.out HZ1.out HZ2.out rfl (by omega) (.slice B m d) m (extCells (parts (l.take j) a b)) rfl HOA.out ⟨w2.heap.size + 1, 0, none⟩ 1 1 [.int .i64 yf, .int .i64 yn, .int .i64 yk, .int .i64 yt] rfl rfl HNW.out HONE.out (by simp only [maxLen]; omega) (by omega) HSZ.out ?_; intro v2 w5 hown5 hg5 _; have HO5 := Lib.hid hown5; have HB5 := Lib.hid (HB3.out.trans (below_append (HO2.out.alloc (.cells #[.int .i64 yf, .int .i64 yn, .int .i64 yk, .int .i64 yt] 39)) hg5 HB3.out.size)); obtain ⟨A2, c2, e2⟩ := own_slice hown5; subst e2; clear hown5 hg5))
        have hmeas : n - (intOf (.int .i64 ((j : Int) + 1))).toNat < n - (intOf (.int .i64 (j : Int))).toNat := by simp [intOf]; omega
        have HCE : Hid (extCells (parts (l.take (j + 1)) a b) = extCells (parts (l.take j) a b) ++ [.int .i64 yf, .int .i64 yn, .int .i64 yk, .int .i64 yt]) := by
          show _ = _
          rw [HTK.out, extCells_snoc]
        refine ⟨⟨j + 1, m + 1, A2, c2, ?_, ?_, rfl, ?_, ?_, ?_, ?_⟩, hmeas⟩
        · omega
        · go_num
        · omega
        · rw [HTK.out, List.length_append, HM.out]; rfl
        · rw [HCE.out]; with_reducible exact HO5
        · with_reducible exact HB5
    · obtain rfl : j = n := by omega
      go_wp2_with fail
      go_ret
      have hfull : l.take j = l := by rw [← HN.out]; exact List.take_length
      rw [hfull] at HO HM
      exact ⟨_, rfl, by rw [HM.out]; exact HO.out, HB.out⟩
end Go.Proofs.YtneammhkgmkkfaaGreat.tr
