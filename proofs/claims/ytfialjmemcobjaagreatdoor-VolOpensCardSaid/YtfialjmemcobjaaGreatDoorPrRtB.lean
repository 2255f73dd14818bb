/- A part of the proof. -/
import Derived.Test.YtfialjmemcobjaaGreatDoorPrFwB
import Derived.Test.YtfialjmemcobjaaGreatDoorPrRg
set_option linter.unusedVariables false
set_option linter.unusedSimpArgs false
namespace Go.Proofs.YtfialjmemcobjaaGreatDoor
namespace rt
open Go.RowKit er
def Q0 (l:List Space):List Value:=l.flatMap fun s=>[.int .i64 s.id,.int .i64 s.size,.int .i64 s.top,.int .i64 s.high]
theorem Ab (l:List Space) (s:Space):Q0 (l++[s])=Q0 l++[.int .i64 s.id,.int .i64 s.size,.int .i64 s.top,.int .i64 s.high]:=by simp [Q0]
theorem Yq:∀(l:List Space) (j:Nat) (s:Space),l[j]? =some s→(Q0 l)[j * 4]? =some (.int .i64 s.id)∧(Q0 l)[j * 4+1]? =some (.int .i64 s.size)∧(Q0 l)[j * 4+2]? =some (.int .i64 s.top)∧(Q0 l)[j * 4+3]? =some (.int .i64 s.high)
 |[],j,s,h=>by simp at h
 |x::r,0,s,h=>by
  obtain rfl:x=s:=by simpa using h
  exact ⟨rfl,rfl,rfl,rfl⟩
 |x::r,j+1,s,h=>by
  have ih:=Yq r j s (by simpa using h)
  have e:∀i,(Q0 (x::r))[(j+1) * 4+i]? =(Q0 r)[j * 4+i]? :=fun i=>by
   show ([_,_,_,_]++Q0 r)[_]? =_
   rw [List.getElem?_append_right (by simp;omega)]
   congr 1
   simp;omega
  exact ⟨(e 0).trans ih.1,(e 1).trans ih.2.1,(e 2).trans ih.2.2.1,(e 3).trans ih.2.2.2⟩
theorem Px:∀l:List Space,upB l=true↔∀(i:Nat) a b,l[i]? =some a→l[i+1]? =some b→a.id < b.id
 |[]=>by simp [upB]
 |[a]=>by simp [upB]
 |a::b::r=>by
  have ih:=Px (b::r)
  unfold upB
  rw [Bool.and_eq_true,ih,decide_eq_true_eq]
  constructor
  ·rintro ⟨h1,h2⟩ i x y hx hy
   cases i with
   |zero=>simp at hx hy;rw [←hx,←hy];exact h1
   |succ i=>exact h2 i x y (by simpa using hx) (by simpa using hy)
  ·intro h
   exact ⟨h 0 a b rfl rfl,fun i x y hx hy=>h (i+1) x y (by simpa using hx) (by simpa using hy)⟩
def SpJ (l:List Space) (j:Nat):Prop:=∀s,l[j]? =some s→spB s=true∧∀a i,i+1=j→l[i]? =some a→a.id < s.id
theorem Qiq {g:Int} {l:List Space}:Ox g l=true↔(inR g 0 1099511627775=true∧l.length≤8)∧∀j,j < l.length→SpJ l j:=by
 have hu:=Px l
 unfold Ox inR SpJ
 simp only [Bool.and_eq_true,decide_eq_true_eq,List.all_eq_true,hu]
 constructor
 ·rintro ⟨⟨⟨⟨h1,h2⟩,h3⟩,h4⟩,h5⟩
  exact ⟨⟨⟨h1,h2⟩,h3⟩,fun j _ s hs=>⟨h4 s (List.mem_of_getElem? hs),fun a i hi ha=>h5 i a s ha (by rw [hi];exact hs)⟩⟩
 ·rintro ⟨⟨⟨h1,h2⟩,h3⟩,h4⟩
  refine ⟨⟨⟨⟨h1,h2⟩,h3⟩,fun s hs=>?_⟩,fun i a b ha hb=>?_⟩
  ·obtain ⟨j,hj,rfl⟩:=List.mem_iff_getElem.1 hs
   exact (h4 j hj _ (List.getElem?_eq_getElem hj)).1
  ·exact (h4 (i+1) (List.getElem?_eq_some_iff.1 hb).1 b hb).2 a i rfl ha
set_option maxHeartbeats 8000000 in
set_option maxRecDepth 100000 in
theorem O5 (g:Int) (l:List Space) (v:Value) (w:World) (h:w.ownsRow 0 206 4 v l.length (Q0 l)) (hl:l.length≤1000000):
  Calls Tryz.prog 206 #[.int .i64 g,v] w fun e w'=>e= .returned (.bool (Ox g l))∧Below w.heap.size w w':=by
 obtain ⟨A,c,rfl⟩:=Qk h
 have HM:=Ql4 (Qiq (g:=g) (l:=l))
 obtain ⟨m,hm⟩:∃m,Ox g l=m:=⟨_,rfl⟩
 rw [hm] at HM ⊢
 obtain ⟨b1,hb1⟩:∃b,inR g 0 1099511627775=b:=⟨_,rfl⟩
 have HI:=Ql4 (fun wq=>Yo g 0 1099511627775 wq)
 rw [hb1] at HI HM
 obtain ⟨n,hn⟩:∃n,l.length=n:=⟨_,rfl⟩
 rw [hn] at HM hl h ⊢
 have HN:=Ql4 hn
 have H:=Ql4 h
 have hli:(n:Int)≤1000000:=by omega
 clear hm hb1 hn h
 cases b1 with
 |false=>
  have hmf:m=false:=by cases m;rfl;have:=(HM.out.1 rfl).1.1;cases this
  subst hmf
  go_enter Tryz.func206,Tryz.ntmps206
  go_wp2_with fail
  with_reducible refine (HI.out _).mono ?_
  rintro e w1 ⟨rfl,rfl⟩
  go_wp2_with fail
  go_ret
  exact ⟨rfl,Below.refl _ _⟩
 |true=>
  by_cases h8:8 < n
  ·have hmf:m=false:=by cases m;rfl;have:=(HM.out.1 rfl).1.2;omega
   subst hmf
   have h8i:(8:Int) < (n:Int):=by omega
   go_enter Tryz.func206,Tryz.ntmps206
   go_wp2_with fail
   with_reducible refine (HI.out _).mono ?_
   rintro e w1 ⟨rfl,rfl⟩
   go_wp2_with fail
   go_ret
   exact ⟨rfl,Below.refl _ _⟩
  ·have h8i:(n:Int)≤8:=by omega
   have h8':n≤8:=by omega
   clear h8
   go_enter Tryz.func206,Tryz.ntmps206
   go_wp2_with fail
   with_reducible refine (HI.out _).mono ?_
   rintro e w1 ⟨rfl,rfl⟩
   go_wp2_with fail
   go_loopw [5,6,17] (fun _ _ i wr=>∃j:Nat,j≤n∧i= .int .i64 j∧Hid (∀k,k < j→SpJ l k)∧Hid (Below w.heap.size w wr)) (fun _ _ i _=>n - (intOf i).toNat)
   case atStart=>exact ⟨0,Nat.zero_le _,rfl,by show ∀k,k < 0→_;intro k hk;omega,Below.refl _ _⟩
   case round=>
    obtain ⟨j,hj,rfl,HJ,HB⟩:=hrel
    by_cases hlt:j < n
    ·have hji:(j:Int) < (n:Int):=by omega
     obtain ⟨gr,rfl,_,_,_,hc,_⟩:=Qo H.out (by omega)
     obtain ⟨s,hs⟩:∃s,l[j]? =some s:=⟨_,List.getElem?_eq_getElem (by rw [HN.out];exact hlt)⟩
     obtain ⟨p0,p1,p2,p3⟩:=Yq l j s hs
     have c0:=Qq HB.out (hc _ _ p0)
     have c1:=Qq HB.out (hc _ _ p1)
     have c2:=Qq HB.out (hc _ _ p2)
     have c3:=Qq HB.out (hc _ _ p3)
     have HS:=Ql4 hs
     have HCC:=Ql4 hc
     obtain ⟨sb,hsb⟩:∃sb,spB s=sb:=⟨_,rfl⟩
     have HSA:=Ql4 (fun wq=>Qx4 s wq)
     rw [hsb] at HSA
     have HSB:=Ql4 hsb
     obtain ⟨i,z,t,h⟩:=s
     simp only [Space.val] at c0 c1 c2 c3 HSA
     clear hs p0 p1 p2 p3 hc hsb
     obtain ⟨qb,hqb⟩:∃qb,wr.heap.size=qb:=⟨_,rfl⟩
     have HQB:=Ql4 hqb
     go_wp2_with fail
     obtain ⟨wx,hwx⟩:∃wx,wx=wr.alloc (.cells #[.int .i64 i,.int .i64 z,.int .i64 t,.int .i64 h] 206):=⟨_,rfl⟩
     have HWX:Hid (Whole wx qb 206 #[.int .i64 i,.int .i64 z,.int .i64 t,.int .i64 h]∧Below wr.heap.size wr wx∧qb < wx.heap.size):=by
      show _∧_∧_
      rw [hwx,←hqb]
      exact ⟨Whole.new _ _ _,(Below.refl _ _).alloc (Nat.le_refl _) _,by simp⟩
     have HKX:Hid (∀w',Below wx.heap.size wx w'→w'.cell? ⟨qb,0,none⟩=some (.int .i64 i)∧w'.cell? ⟨qb,1,none⟩=some (.int .i64 z)∧w'.cell? ⟨qb,2,none⟩=some (.int .i64 t)∧w'.cell? ⟨qb,3,none⟩=some (.int .i64 h)):=fun w' hb=>⟨Qq hb (HWX.out.1.cell 0),Qq hb (HWX.out.1.cell 1),Qq hb (HWX.out.1.cell 2),Qq hb (HWX.out.1.cell 3)⟩
     rw [←hwx]
     have HBX:Hid (Below w.heap.size w wx):=HB.out.trans (HWX.out.2.1.mono HB.out.size)
     obtain ⟨x0,x1,x2,x3⟩:=HKX.out wx (Below.refl _ _)
     try rw [hqb]
     clear hwx hqb
     cases sb with
     |false=>
      have hmf:m=false:=by
       cases m with
       |false=>rfl
       |true=>have:=((HM.out.1 rfl).2 j hlt _ HS.out).1;rw [HSB.out] at this;cases this
      subst hmf
      refine rg.rgB (fun w'=>w'.cell? ⟨qb,0,none⟩=some (.int .i64 i)∧w'.cell? ⟨qb,1,none⟩=some (.int .i64 z)∧w'.cell? ⟨qb,2,none⟩=some (.int .i64 t)∧w'.cell? ⟨qb,3,none⟩=some (.int .i64 h)) ⟨x0,x1,x2,x3⟩ (fun hHeld=>?_)
      iterate 1 (refine rg.rgT ?_ ?_ ?_;rotate_left;(focus (intro wz hSw;(try dsimp only at hSw);go_simp;(try with_reducible rfl)));(try simp only [Go.Act.put,rg.qa,rg.qb,rg.qc]))
      refine rg.rgC (fun K hK=>?_)
      rw [if_pos (by rfl)]
      go_simp
      with_reducible refine (HSA.out _).mono ?_
      rintro e w6 ⟨rfl,hb6⟩
      have HB6:Hid (Below wx.heap.size wx w6):=by exact Below.trans (by repeat (first|with_reducible exact Below.refl _ _|refine Below.drew ?_)) hb6
      clear hb6
      refine hK.out _ _ (HKX.out _ HB6.out) (fun hHeld=>?_)
      clear hK K
      try simp only [Go.Act.put,rg.qa,rg.qb,rg.qc]
      iterate 2 (refine rg.rgT ?_ ?_ ?_;rotate_left;(focus (intro wz hSw;(try dsimp only at hSw);go_simp;(try with_reducible rfl)));(try simp only [Go.Act.put,rg.qa,rg.qb,rg.qc]))
      iterate 13 (refine rg.rgS ?_;(try simp only [Go.Act.put,rg.qa,rg.qb,rg.qc]))
      iterate 1 (refine rg.rgT ?_ ?_ ?_;rotate_left;(focus (intro wz hSw;(try dsimp only at hSw);go_simp;(try with_reducible rfl)));(try simp only [Go.Act.put,rg.qa,rg.qb,rg.qc]))
      refine rg.rgD ?_
      go_wp2_with fail
      go_ret
      exact ⟨rfl,HBX.out.trans (HB6.out.mono HBX.out.size)⟩
     |true=>
      rcases Nat.eq_zero_or_pos j with hj0|hj0
      ·subst hj0
       have HJ1:Hid (∀k,k < 0+1→SpJ l k):=fun k hk=>by
        obtain rfl:k=0:=by omega
        intro s hs
        have:=HS.out
        rw [hs] at this
        injection this with this
        rw [this]
        exact ⟨HSB.out,fun a i hi=>by omega⟩
       refine rg.rgB (fun w'=>w'.cell? ⟨qb,0,none⟩=some (.int .i64 i)∧w'.cell? ⟨qb,1,none⟩=some (.int .i64 z)∧w'.cell? ⟨qb,2,none⟩=some (.int .i64 t)∧w'.cell? ⟨qb,3,none⟩=some (.int .i64 h)) ⟨x0,x1,x2,x3⟩ (fun hHeld=>?_)
       iterate 1 (refine rg.rgT ?_ ?_ ?_;rotate_left;(focus (intro wz hSw;(try dsimp only at hSw);go_simp;(try with_reducible rfl)));(try simp only [Go.Act.put,rg.qa,rg.qb,rg.qc]))
       refine rg.rgC (fun K hK=>?_)
       rw [if_pos (by rfl)]
       go_simp
       with_reducible refine (HSA.out _).mono ?_
       rintro e w6 ⟨rfl,hb6⟩
       have HB6:Hid (Below wx.heap.size wx w6):=by exact Below.trans (by repeat (first|with_reducible exact Below.refl _ _|refine Below.drew ?_)) hb6
       clear hb6
       refine hK.out _ _ (HKX.out _ HB6.out) (fun hHeld=>?_)
       clear hK K
       try simp only [Go.Act.put,rg.qa,rg.qb,rg.qc]
       iterate 5 (refine rg.rgT ?_ ?_ ?_;rotate_left;(focus (intro wz hSw;(try dsimp only at hSw);go_simp;(try with_reducible rfl)));(try simp only [Go.Act.put,rg.qa,rg.qb,rg.qc]))
       iterate 9 (refine rg.rgS ?_;(try simp only [Go.Act.put,rg.qa,rg.qb,rg.qc]))
       iterate 2 (refine rg.rgT ?_ ?_ ?_;rotate_left;(focus (intro wz hSw;(try dsimp only at hSw);go_simp;(try with_reducible rfl)));(try simp only [Go.Act.put,rg.qa,rg.qb,rg.qc]))
       refine rg.rgD ?_
       go_wp2_with fail
       have hmeas:n - (intOf (.int .i64 (((0:Nat):Int)+1))).toNat < n - (intOf (.int .i64 ((0:Nat):Int))).toNat:=by simp [intOf];omega
       refine ⟨⟨0+1,?_,?_,HJ1,HBX.out.trans (HB6.out.mono HBX.out.size)⟩,hmeas⟩
       ·omega
       ·go_num
      ·obtain ⟨k,hkj⟩:∃k,k+1=j:=⟨j - 1,by omega⟩
       obtain ⟨a,hxa⟩:∃a,l[k]? =some a:=⟨_,List.getElem?_eq_getElem (by rw [HN.out];omega)⟩
       have HXA:=Ql4 hxa
       have hi1:(j:Int) - 1=(k:Int):=by omega
       have hw1:IntKind.i64.wrap ((j:Int) - 1)=(k:Int):=by rw [hi1,IntKind.wrap_i64];omega
       have hwi:IntKind.i64.wrap (k:Int)=(k:Int):=by rw [IntKind.wrap_i64];omega
       have hi2:(k:Int) < (n:Int):=by omega
       have hi0:(0:Int)≤(k:Int):=by omega
       have hj0i:(0:Int) < (j:Int):=by omega
       have HKA:Hid (∀w',Below wx.heap.size wx w'→(w'.cell? ⟨qb,0,none⟩=some (.int .i64 i)∧w'.cell? ⟨qb,1,none⟩=some (.int .i64 z)∧w'.cell? ⟨qb,2,none⟩=some (.int .i64 t)∧w'.cell? ⟨qb,3,none⟩=some (.int .i64 h))∧w'.cell? ⟨gr,k * 4,none⟩=some (.int .i64 a.id)):=fun w' hb=>⟨HKX.out w' hb,Qq (HBX.out.trans (hb.mono HBX.out.size)) (HCC.out _ _ (Yq l k a hxa).1)⟩
       have y0:=(HKA.out wx (Below.refl _ _)).2
       clear hxa
       obtain ⟨ai,az,at',ah⟩:=a
       simp only at y0 HKA
       obtain ⟨dg,hdg⟩:∃dg,decide (i≤ai)=dg:=⟨_,rfl⟩
       have HDG:=Ql4 hdg
       cases dg with
       |true=>
        have hmf:m=false:=by
         cases m with
         |false=>rfl
         |true=>
          have:=((HM.out.1 rfl).2 j hlt _ HS.out).2 _ k hkj HXA.out
          have h2:=HDG.out
          simp at h2 this
          omega
        subst hmf
        go_wp2_with fail
        go_region_held3 (fun w'=>(w'.cell? ⟨qb,0,none⟩=some (.int .i64 i)∧w'.cell? ⟨qb,1,none⟩=some (.int .i64 z)∧w'.cell? ⟨qb,2,none⟩=some (.int .i64 t)∧w'.cell? ⟨qb,3,none⟩=some (.int .i64 h))∧w'.cell? ⟨gr,k * 4,none⟩=some (.int .i64 ai)) (first|exact HKA.out _ HB6.out|exact HKA.out _ (by repeat (first|with_reducible exact Below.refl _ _|with_reducible exact HB6.out|refine Below.drew ?_))) (((with_reducible refine (HSA.out _).mono ?_);rintro e w6 ⟨rfl,hb6⟩;have HB6:Hid (Below wx.heap.size wx w6):=Below.trans (by repeat (first|with_reducible exact Below.refl _ _|refine Below.drew ?_)) hb6;clear hb6))
        go_wp2_with fail
        go_ret
        exact ⟨rfl,HBX.out.trans (HB6.out.mono HBX.out.size)⟩
       |false=>
        have HJ1:Hid (∀k,k < j+1→SpJ l k):=fun q hq=>by
         by_cases hqj:q < j
         ·exact HJ.out q hqj
         ·obtain rfl:q=j:=by omega
          intro s hs
          have:=HS.out
          rw [hs] at this
          injection this with this
          rw [this]
          refine ⟨HSB.out,fun b i' hi hb=>?_⟩
          obtain rfl:i'=k:=by omega
          rw [HXA.out] at hb
          injection hb with hb
          rw [←hb]
          have h2:=HDG.out
          simp at h2
          exact h2
        go_wp2_with fail
        go_region_held3 (fun w'=>(w'.cell? ⟨qb,0,none⟩=some (.int .i64 i)∧w'.cell? ⟨qb,1,none⟩=some (.int .i64 z)∧w'.cell? ⟨qb,2,none⟩=some (.int .i64 t)∧w'.cell? ⟨qb,3,none⟩=some (.int .i64 h))∧w'.cell? ⟨gr,k * 4,none⟩=some (.int .i64 ai)) (first|exact HKA.out _ HB6.out|exact HKA.out _ (by repeat (first|with_reducible exact Below.refl _ _|with_reducible exact HB6.out|refine Below.drew ?_))) (((with_reducible refine (HSA.out _).mono ?_);rintro e w6 ⟨rfl,hb6⟩;have HB6:Hid (Below wx.heap.size wx w6):=Below.trans (by repeat (first|with_reducible exact Below.refl _ _|refine Below.drew ?_)) hb6;clear hb6))
        go_wp2_with fail
        have hmeas:n - (intOf (.int .i64 ((j:Int)+1))).toNat < n - (intOf (.int .i64 (j:Int))).toNat:=by simp [intOf];omega
        refine ⟨⟨j+1,?_,?_,HJ1,HBX.out.trans (HB6.out.mono HBX.out.size)⟩,hmeas⟩
        ·omega
        ·go_num
    ·obtain rfl:j=n:=by omega
     have hmt:m=true:=HM.out.2 ⟨⟨trivial,h8'⟩,fun k hk=>HJ.out k hk⟩
     subst hmt
     go_wp2_with fail
     go_ret
     exact ⟨rfl,HB.out⟩
theorem Qc2 (a b:List UInt8):(⟨a.toArray⟩:ByteArray)++⟨b.toArray⟩=⟨(a++b).toArray⟩:=by
 apply ByteArray.ext;simp
set_option maxHeartbeats 4000000 in
theorem Aj (g:Int) (l:List Space) (v:Value) (w:World) (h:w.ownsRow 0 206 4 v l.length (Q0 l)) (hl:l.length≤1000000) (hm:Ox g l=false):
  Calls Tryz.prog 144 #[.int .i64 g,v] w fun e w'=>e= .returned (.tuple #[.string ⟨#[]⟩,.int .i64 1])∧Below w.heap.size w w':=by
 have HM:=Ql4 (O5 g l v w h hl)
 rw [hm] at HM
 obtain ⟨A,c,rfl⟩:=Qk h
 clear h
 go_enter Tryz.func144,Tryz.ntmps144
 go_wp2_with fail
 with_reducible refine HM.out.mono ?_
 rintro e w1 ⟨rfl,hb1⟩
 go_wp2_with fail
 refine bodyPost_ret (v:= .tuple #[.string ⟨#[]⟩,.int .i64 1]) (by simp [results,Tryz.results144,go_sem]) rfl ⟨rfl,hb1⟩
theorem Qif {g:Int} {n:Nat} (h0:0≤g) (h1:g≤1099511627775) (hn:n≤8):Qqo (Z8 g n):=by
 refine ⟨?_,?_,?_,?_,by simp [Z8]⟩
 all_goals
  intro p hp
  simp only [Z8,List.mem_cons,List.not_mem_nil,or_false] at hp
  rcases hp with rfl|rfl
 all_goals first|(simp;done)|(simp;omega)|omega
theorem Qb2 {s:Space} (h:spB s=true):Qqo (Zx s):=by
 have h1:=Jp h
 have h2:=Cr h
 refine ⟨?_,?_,?_,?_,by simp [Zx]⟩
 all_goals
  intro p hp
  simp only [Zx,List.mem_cons,List.not_mem_nil,or_false] at hp
  rcases hp with rfl|rfl|rfl|rfl
 all_goals first|(simp;done)|(simp;omega)|omega
theorem Qgm (s:Space):max s.top 0=Aa s:=by unfold Aa;split <;> omega
theorem Qlh {w:World} {q:Nat} {a b:Int} (h:Whole w q 98 #[.int .u64 a,.int .u64 b]) {x y:Nat}:Oc w q [(x,a),(y,b)]:=fun j p hp=>by
 rw [h.cell j]
 match j with
 |0=>simp at hp;rw [←hp];rfl
 |1=>simp at hp;rw [←hp];rfl
 |j+2=>simp at hp
theorem Qlf {w:World} {q:Nat} {a b c d:Int} (h:Whole w q 98 #[.int .u64 a,.int .u64 b,.int .u64 c,.int .u64 d]) {x y z t:Nat}:Oc w q [(x,a),(y,b),(z,c),(t,d)]:=fun j p hp=>by
 rw [h.cell j]
 match j with
 |0=>simp at hp;rw [←hp];rfl
 |1=>simp at hp;rw [←hp];rfl
 |2=>simp at hp;rw [←hp];rfl
 |3=>simp at hp;rw [←hp];rfl
 |j+4=>simp at hp
set_option maxHeartbeats 8000000 in
set_option maxRecDepth 100000 in
theorem Sj (g:Int) (l:List Space) (v:Value) (w:World) (h:w.ownsRow 0 206 4 v l.length (Q0 l)) (hm:Ox g l=true):
  Calls Tryz.prog 144 #[.int .i64 g,v] w fun e w'=>e= .returned (.tuple #[.string (Jd g l),.int .i64 0])∧Below w.heap.size w w':=by
 obtain ⟨g0,g1,hl8,hsp,_⟩:=Oj hm
 have HM:=Ql4 (O5 g l v w h (by omega))
 rw [hm] at HM
 obtain ⟨A,c,rfl⟩:=Qk h
 have H:=Ql4 h
 have HSP:=Ql4 hsp
 obtain ⟨n,hn⟩:∃n,l.length=n:=⟨_,rfl⟩
 have HFIT:=Ql4 (Qif (n:=n) g0 g1 (by omega))
 have HR:Hid (Jd g l=⟨(Zh (Z8 g n++l.flatMap Zx)).toArray⟩):=by show _=_;unfold Jd;rw [hn]
 rw [hn] at H hl8 HM ⊢
 have HN:=Ql4 hn
 have hli:(n:Int)≤8:=by omega
 have hwg:IntKind.u64.wrap g=g:=wrap_u64 g0 (by omega)
 have hwn:IntKind.u64.wrap (n:Int)=(n:Int):=wrap_u64 (by omega) (by omega)
 clear hm h hn hsp
 go_enter Tryz.func144,Tryz.ntmps144
 go_wp2_with fail
 with_reducible refine HM.out.mono ?_
 rintro e w1 ⟨rfl,hb1⟩
 have HB1:=Ql4 hb1
 have HW2:=Ql4 (Whole.new w1 98 #[.int .u64 g,.int .u64 n])
 clear hb1
 go_wp2_with fail
 with_reducible refine (V8 _).mono ?_
 rintro e w3 ⟨gh,rfl,hw3,hg3,hb3⟩
 have HRW:=Ql4 (Qoy (Z8 g n) w1.heap.size 2 gh 2 w3 (hw3 _ rfl) (Qlh (Whole.below HW2.out hb3 (by simp))) HFIT.out 2 rfl)
 have HB3:Hid (Below w.heap.size w w3):=HB1.out.trans (((Below.refl _ _).alloc (Nat.le_refl _) _).trans (hb3.mono (by simp)) |>.mono HB1.out.size)
 clear hw3 hg3 hb3
 go_wp2_with fail
 with_reducible refine HRW.out.mono ?_
 rintro e w4 ⟨rfl,hb4⟩
 have HB4:Hid (Below w.heap.size w w4):=HB3.out.trans (hb4.mono HB3.out.size)
 clear hb4 HRW
 go_wp2_with fail
 go_loopw [6,7,9,10,28] (fun o e _ _ i wr=>∃(j:Nat) (S:ByteArray),j≤n∧i= .int .i64 j∧e= .int .i64 0∧o= .string S∧Hid (S=⟨(Zh (Z8 g n++(l.take j).flatMap Zx)).toArray⟩)∧S.size≤6+9 * j∧Hid (Below w.heap.size w wr)) (fun _ _ _ _ i _=>n - (intOf i).toNat)
 case atStart=>exact ⟨0,_,Nat.zero_le _,rfl,rfl,rfl,by show _=_;simp,by show (Zh (Z8 g n)).toArray.size≤_;simp [Gv,Z8],HB4⟩
 case round=>
  obtain ⟨j,S,hj,rfl,rfl,rfl,HS,hsz,HB⟩:=hrel
  by_cases hlt:j < n
  ·have hji:(j:Int) < (n:Int):=by omega
   obtain ⟨gr,rfl,_,_,_,hc,_⟩:=Qo H.out (by omega)
   obtain ⟨s,hs⟩:∃s,l[j]? =some s:=⟨_,List.getElem?_eq_getElem (by rw [HN.out];exact hlt)⟩
   obtain ⟨p0,p1,p2,p3⟩:=Yq l j s hs
   have c0:=Qq HB.out (hc _ _ p0)
   have c1:=Qq HB.out (hc _ _ p1)
   have c2:=Qq HB.out (hc _ _ p2)
   have c3:=Qq HB.out (hc _ _ p3)
   have hb:=HSP.out s (List.mem_of_getElem? hs)
   have HF:=Ql4 (Qb2 hb)
   have HSN:Hid (S++⟨(Zh (Zx s)).toArray⟩=⟨(Zh (Z8 g n++(l.take (j+1)).flatMap Zx)).toArray⟩):=by
    show _=_
    rw [HS.out,Qc2,List.take_add_one,hs]
    simp [Zh]
   have hrow:(⟨(Zh (Zx s)).toArray⟩:ByteArray).size=9:=by show (Zh (Zx s)).toArray.size=9;simp [Gv,Zx]
   obtain ⟨T,hT⟩:∃T:ByteArray,(⟨(Zh (Zx s)).toArray⟩:ByteArray)=T:=⟨_,rfl⟩
   have HT:=Ql4 hT
   rw [hT] at HSN hrow
   have hy:=Jp hb
   have ht:=Cr hb
   obtain ⟨tp,htp⟩:∃tp,Aa s=tp:=⟨_,rfl⟩
   have hmx:=Qgm s
   have HNM:Hid (Zx s=[(2,s.id),(4,s.size),(2,tp),(1,s.high)]):=by show _=_;rw [←htp];rfl
   rw [htp] at ht hmx
   rw [HNM.out] at HF
   rw [HNM.out] at HT
   obtain ⟨i,z,t,h⟩:=s
   simp only at c0 c1 c2 c3 hy hmx HF HT
   have hw0:IntKind.u64.wrap i=i:=wrap_u64 (by omega) (by omega)
   have hw1:IntKind.u64.wrap z=z:=wrap_u64 (by omega) (by omega)
   have hw2:IntKind.u64.wrap tp=tp:=wrap_u64 (by omega) (by omega)
   have hw3:IntKind.u64.wrap h=h:=wrap_u64 (by omega) (by omega)
   clear hs p0 p1 p2 p3 hc hb hT hy ht htp HNM
   obtain ⟨qb,hqb⟩:∃qb,wr.heap.size=qb:=⟨_,rfl⟩
   go_wp2_with fail
   obtain ⟨wx,hwx⟩:∃wx,wx=wr.alloc (.cells #[.int .i64 i,.int .i64 z,.int .i64 t,.int .i64 h] 206):=⟨_,rfl⟩
   have HWX:Hid (Whole wx qb 206 #[.int .i64 i,.int .i64 z,.int .i64 t,.int .i64 h]∧Below wr.heap.size wr wx∧qb < wx.heap.size):=by
    show _∧_∧_
    rw [hwx,←hqb]
    exact ⟨Whole.new _ _ _,(Below.refl _ _).alloc (Nat.le_refl _) _,by simp⟩
   have HK:Hid (∀w',Below wx.heap.size wx w'→w'.cell? ⟨qb,0,none⟩=some (.int .i64 i)∧w'.cell? ⟨qb,1,none⟩=some (.int .i64 z)∧w'.cell? ⟨qb,2,none⟩=some (.int .i64 t)∧w'.cell? ⟨qb,3,none⟩=some (.int .i64 h)):=fun w' hb=>⟨Qq hb (HWX.out.1.cell 0),Qq hb (HWX.out.1.cell 1),Qq hb (HWX.out.1.cell 2),Qq hb (HWX.out.1.cell 3)⟩
   rw [←hwx]
   try rw [hqb]
   have HBX:Hid (Below w.heap.size w wx):=HB.out.trans (HWX.out.2.1.mono HB.out.size)
   obtain ⟨x0,x1,x2,x3⟩:=HK.out wx (Below.refl _ _)
   have HN5:Hid (Whole (wx.alloc (.cells #[.int .u64 i,.int .u64 z,.int .u64 tp,.int .u64 h] 98)).drew wx.heap.size 98 #[.int .u64 i,.int .u64 z,.int .u64 tp,.int .u64 h]):=Whole.new wx 98 #[.int .u64 i,.int .u64 z,.int .u64 tp,.int .u64 h]
   have HLT:Hid (wx.heap.size < (wx.alloc (.cells #[.int .u64 i,.int .u64 z,.int .u64 tp,.int .u64 h] 98)).drew.heap.size):=by show _ < _;simp
   have HB5:=Ql4 ((Below.refl wx.heap.size wx).alloc (Nat.le_refl _) (.cells #[.int .u64 i,.int .u64 z,.int .u64 tp,.int .u64 h] 98)).drew
   clear hwx hqb
   go_region_held3 (fun w'=>w'.cell? ⟨qb,0,none⟩=some (.int .i64 i)∧w'.cell? ⟨qb,1,none⟩=some (.int .i64 z)∧w'.cell? ⟨qb,2,none⟩=some (.int .i64 t)∧w'.cell? ⟨qb,3,none⟩=some (.int .i64 h)) (first|exact HK.out _ HB6.out|exact HK.out _ HB3.out|exact HK.out _ HB4.out|exact HK.out _ (by repeat (first|exact Below.refl _ _|refine Below.drew ?_|refine Below.alloc ?_ (by first|omega|(simp <;> omega)) _)))
    (first|(go_at_call 192;refine (Yd _).mono ?_;rintro e w4 ⟨ge,rfl,hw4,hg4,hb4⟩;have HW4:=Ql4 hw4;have HN4:=Ql4 (Whole.below HN5.out hb4 HLT.out);have HB4:=Ql4 (HB5.out.trans (hb4.mono (Nat.le_of_lt HLT.out)));clear hw4 hg4 hb4)|(go_at_call 192;refine (Yd _).mono ?_;rintro e w4 ⟨ge,rfl,hw4,hg4,hb4⟩;have HW4:Hid (∀l:List (Nat×Int),l.map (·.1)=[2,4,2,1]→WidAt (w4.alloc (.cells #[.int .u64 i,.int .u64 z,.int .u64 tp,.int .u64 h] 98)) ge l):=fun l hl=>(hw4 l hl).below ((Below.refl _ _).alloc (Nat.le_refl _) _);have HN4:=Ql4 (Whole.new w4 98 #[.int .u64 i,.int .u64 z,.int .u64 tp,.int .u64 h]);have HB3:=Ql4 ((Below.refl wx.heap.size wx).drew.trans hb4);have HB4:=Ql4 (HB3.out.alloc HB3.out.size (.cells #[.int .u64 i,.int .u64 z,.int .u64 tp,.int .u64 h] 98));clear hw4 hg4 hb4)|(go_at_call 54;refine (Qoy [(2,i),(4,z),(2,tp),(1,h)] _ 4 ge 4 _ (HW4.out _ rfl) (Qlf HN4.out) HF.out 4 rfl).mono ?_;rw [HT.out];rintro e w5 ⟨rfl,hb5⟩;have HB6:=Ql4 (HB4.out.trans (hb5.mono HB4.out.size));clear hb5))
   all_goals
    have hs1:S.size≤100:=by omega
    have hs2:T.size≤100:=by omega
    have HZ:Hid ((S++T).size≤6+9 * (j+1)):=by show _≤_;rw [ByteArray.size_append];omega
    clear hrow hsz
    go_wp2_with fail
    have hmeas:n - (intOf (.int .i64 ((j:Int)+1))).toNat < n - (intOf (.int .i64 (j:Int))).toNat:=by simp [intOf];omega
    refine ⟨⟨j+1,S++T,?_,?_,rfl,rfl,HSN,HZ.out,HBX.out.trans (HB6.out.mono HBX.out.size)⟩,hmeas⟩
    ·omega
    ·go_num
  ·obtain rfl:j=n:=by omega
   have hfull:l.take j=l:=by rw [←HN.out];exact List.take_length
   rw [hfull,←HR.out] at HS
   obtain rfl:S=Jd g l:=HS.out
   go_wp2_with fail
   refine bodyPost_ret (v:= .tuple #[.string (Jd g l),.int .i64 0]) (by simp [results,Tryz.results144,go_sem]) rfl ⟨rfl,HB.out⟩
end rt
end Go.Proofs.YtfialjmemcobjaaGreatDoor
