/- A part of the proof. -/
import Derived.Test.YtfialjmemcobjaaGreatDoorPrTxMa
import Derived.Test.YtfialjmemcobjaaGreatDoorPrTyMa
set_option linter.unusedVariables false
set_option linter.unusedSimpArgs false
namespace Go.Proofs.YtfialjmemcobjaaGreatDoor
namespace tr
open Go.RowKit er
def Qxz (T:TypeId) (r:List Ext) (w:World) (e:Ending) (w':World):Prop:=∃v',e= .returned (.tuple #[v',.int .i64 0])∧w'.ownsRow w.heap.size T 4 v' r.length (Qz r)∧Below w.heap.size w w'
theorem O3 (l:List Ext) (a b:Int):(parts l a b).length≤l.length:=List.length_filterMap_le _ _
theorem Qxh {w w':World} {g:Nat} {t:TypeId} {cs:Array Value} (h:Whole w g t cs) (hb:Below w.heap.size w w'):Whole w' g t cs:=h.below hb h.lt
theorem Rf (v1 v2:Value) (r1 r2:List Ext) (w:World) (gb:Nat) (hw:Whole w gb 261 #[v1,v2]) (h1:SlAt w v1 r1.length 4 (Qz r1)) (h2:SlAt w v2 r2.length 4 (Qz r2)) (hm:r1.length+r2.length≤40000000) (mc:Nat):
  Calls Tryz.prog 268 #[.slice (some ⟨gb,0,none⟩) 2 mc] w fun e w'=>∃v',e= .returned v'∧ExtsAt w' v' (r1++r2)∧Below w.heap.size w w':=by
 refine (Qj3 [(v1,r1.length,Qz r1),(v2,r2.length,Qz r2)] gb mc w ?_ (by simp;omega) (by simp) (by simp)).mono ?_
 ·intro j y hy
  match j,hy with
  |0,hy=>simp at hy;subst hy;exact ⟨hw.cell 0,h1,Xk r1⟩
  |1,hy=>simp at hy;subst hy;exact ⟨hw.cell 1,h2,Xk r2⟩
  |j+2,hy=>simp at hy
 ·rintro e w' ⟨v',rfl,hown,hbe⟩
  refine ⟨v',rfl,?_,hbe⟩
  simp only [List.map_cons,List.map_nil,List.sum_cons,List.sum_nil,Nat.add_zero,List.flatMap_cons,List.flatMap_nil,List.append_nil] at hown
  rw [←Kr] at hown
  exact (ExtsAt.own hown).1
theorem Ez {fr n:Int} (h:Xf fr n=true):0≤fr∧0≤n∧fr+n≤16777216:=by
 unfold Xf at h
 simp only [Bool.and_eq_true,decide_eq_true_eq] at h
 omega
set_option maxHeartbeats 4000000 in
set_option maxRecDepth 100000 in
theorem Qi5 (l:List Ext) (v:Value) (fr n:Int) (w:World) (h:ExtsAt w v l) (hl:l.length≤16777216) (hc:Ko l=true) (hs:Xf fr n=true):
  Calls Tryz.prog 219 #[v,.int .i64 fr,.int .i64 n] w (Qxz 255 (Qcs l fr n) w):=by
 obtain ⟨s1,s2,s3⟩:=Ez hs
 have HCK:Hid (Calls Tryz.prog 197 #[v] w fun x w'=>x= .returned (.bool true)∧Below w.heap.size w w'):=by have:=Xd l v w h (by omega);rw [hc] at this;exact this
 have HSP:Hid (∀wq,Calls Tryz.prog 266 #[.int .i64 fr,.int .i64 n] wq fun e w'=>e= .returned (.bool true)∧wq=w'):=fun wq=>by have:=Jc fr n wq;rw [hs] at this;exact this
 have hck:=Xj _ hc
 have HP1:Hid (∀wq,Below w.heap.size w wq→Calls Tryz.prog 269 #[v,.int .i64 0,.int .i64 fr] wq fun e w'=>∃v',e= .returned v'∧SlAt w' v' (parts l 0 fr).length 4 (Qz (parts l 0 fr))∧Below wq.heap.size wq w'):=fun wq hb=>
  (Y9 l v 0 fr wq (h.below hb) hck.one (by omega) (by omega) (by omega) s1 (by omega)).mono fun e w' ⟨v',q1,q2,q3⟩=>⟨v',q1,SlAt.own q2,q3⟩
 have HP2:Hid (∀wq,Below w.heap.size w wq→Calls Tryz.prog 269 #[v,.int .i64 (fr+n),.int .i64 16777216] wq fun e w'=>∃v',e= .returned v'∧SlAt w' v' (parts l (fr+n) 16777216).length 4 (Qz (parts l (fr+n) 16777216))∧Below wq.heap.size wq w'):=fun wq hb=>
  (Y9 l v (fr+n) 16777216 wq (h.below hb) hck.one (by omega) (by omega) (by omega) (by omega) (by omega)).mono fun e w' ⟨v',q1,q2,q3⟩=>⟨v',q1,SlAt.own q2,q3⟩
 obtain ⟨r1,hr1⟩:∃r,parts l 0 fr=r:=⟨_,rfl⟩
 obtain ⟨r2,hr2⟩:∃r,parts l (fr+n) 16777216=r:=⟨_,rfl⟩
 have hn1:=O3 l 0 fr
 have hn2:=O3 l (fr+n) 16777216
 have ho1:∀x∈r1++r2,Qf x=true:=fun x hx=>by
  rcases List.mem_append.1 hx with hx|hx
  ·rw [←hr1] at hx
   obtain ⟨y,hy,hp⟩:=J4 hx
   exact (Ku hp (hck.one y hy) (by omega) (by omega)).1
  ·rw [←hr2] at hx
   obtain ⟨y,hy,hp⟩:=J4 hx
   exact (Ku hp (hck.one y hy) (by omega) (by omega)).1
 have HCU:Hid (Qcs l fr n=tidy (r1++r2)):=by show _=_;unfold Qcs;rw [hr1,hr2]
 rw [hr1] at HP1 hn1
 rw [hr2] at HP2 hn2
 have HCC:Hid (∀(w3 wq:World) (v1 v2:Value) (gb:Nat),SlAt w3 v1 r1.length 4 (Qz r1)→SlAt w3 v2 r2.length 4 (Qz r2)→Below w3.heap.size w3 wq→Whole wq gb 261 #[v1,v2]→Calls Tryz.prog 268 #[.slice (some ⟨gb,0,none⟩) 2 2] wq fun e w'=>∃v',e= .returned v'∧ExtsAt w' v' (r1++r2)∧Below wq.heap.size wq w'):=fun w3 wq v1 v2 gb a1 a2 hb hw=>
  Rf v1 v2 r1 r2 wq gb hw (a1.below hb) (a2.below hb) (by omega) 2
 have HTI:Hid (∀(wq:World) (v':Value),ExtsAt wq v' (r1++r2)→Calls Tryz.prog 267 #[v'] wq fun x w'=>∃v',x= .returned v'∧w'.ownsRow wq.heap.size 255 4 v' (tidy (r1++r2)).length (Qz (tidy (r1++r2)))∧Below wq.heap.size wq w'):=fun wq v' hv=>
  Sn _ v' wq hv ho1 (by rw [List.length_append];omega)
 rw [HCU.out]
 obtain ⟨r,hr⟩:∃r,tidy (r1++r2)=r:=⟨_,rfl⟩
 rw [hr] at HTI ⊢
 clear hr ho1 hn1 hn2 hr1 hr2 hck hs hc h hl
 go_enter Tryz.func219,Tryz.ntmps219
 go_wp2_with fail
 with_reducible refine HCK.out.mono ?_
 rintro e w1 ⟨rfl,hb1⟩
 have HB1:=Ql4 hb1
 clear hb1
 go_wp2_with fail
 with_reducible refine (HSP.out _).mono ?_
 rintro e w2 ⟨rfl,rfl⟩
 go_wp2_with fail
 with_reducible refine (HP1.out _ HB1.out).mono ?_
 rintro e w3 ⟨v1,rfl,hs1,hb3⟩
 obtain ⟨A1,c1,e1⟩:=hs1.form
 subst e1
 have HS1:=Ql4 hs1
 have HB3:=Ql4 (Qa HB1.out hb3)
 clear hs1 hb3
 go_wp2_with fail
 with_reducible refine (HP2.out _ HB3.out).mono ?_
 rintro e w4 ⟨v2,rfl,hs2,hb4⟩
 obtain ⟨A2,c2,e2⟩:=hs2.form
 subst e2
 have HS2:=Ql4 hs2
 have HS1':=Ql4 (HS1.out.below hb4)
 have HB4:=Ql4 (Qa HB3.out hb4)
 clear hs2 hb4
 go_wp2_with fail
 with_reducible refine (HCC.out w4 _ _ _ _ HS1'.out HS2.out ((Below.refl _ _).alloc (Nat.le_refl _) _) (Whole.new w4 _ _)).mono ?_
 rintro e w5 ⟨v3,rfl,hx5,hb5⟩
 have HX5:=Ql4 hx5
 have HB5:=Ql4 (Qa (Qa HB4.out ((Below.refl _ _).alloc (Nat.le_refl _) _)) hb5)
 clear hx5 hb5
 go_wp2_with fail
 with_reducible refine (HTI.out _ _ HX5.out).mono ?_
 rintro e w6 ⟨v4,rfl,ho6,hb6⟩
 have HO6:=Ql4 (Qs ho6 HB5.out.size)
 have HB6:=Ql4 (Qa HB5.out hb6)
 clear ho6 hb6
 go_wp2_with fail
 go_ret2
 exact ⟨v4,rfl,HO6.out,HB6.out⟩
theorem Ui {a b:World} (h:Below a.heap.size a b):Below a.heap.size a b.drew:=h.drew
theorem X7 {a b:World} (h:Below a.heap.size a b) {o:Obj}:Below a.heap.size a (b.alloc o):=h.alloc h.size o
theorem Qe2 (v1 v3:Value) (r1 r3:List Ext) (y:Ext) (w:World) (g19 gb:Nat) (hw:Whole w gb 261 #[v1,.slice (some ⟨g19,0,none⟩) 1 1,v3]) (hy:Whole w g19 255 #[.int .i64 y.fr,.int .i64 y.n,.int .i64 y.kind,.int .i64 y.at_]) (h1:SlAt w v1 r1.length 4 (Qz r1)) (h3:SlAt w v3 r3.length 4 (Qz r3)) (hm:r1.length+r3.length≤40000000) (mc:Nat):
  Calls Tryz.prog 268 #[.slice (some ⟨gb,0,none⟩) 3 mc] w fun e w'=>∃v',e= .returned v'∧ExtsAt w' v' (r1++[y]++r3)∧Below w.heap.size w w':=by
 have h2:SlAt w (.slice (some ⟨g19,0,none⟩) 1 1) 1 4 (Qz [y]):=⟨rfl,.inr ⟨g19,0,1,rfl,fun j u hj=>by rw [Nat.zero_add,hy.cell];simpa [Qz,Ext.cells] using hj⟩⟩
 refine (Qj3 [(v1,r1.length,Qz r1),(.slice (some ⟨g19,0,none⟩) 1 1,1,Qz [y]),(v3,r3.length,Qz r3)] gb mc w ?_ (by simp;omega) (by simp) (by simp)).mono ?_
 ·intro j q hq
  match j,hq with
  |0,hq=>simp at hq;subst hq;exact ⟨hw.cell 0,h1,Xk r1⟩
  |1,hq=>simp at hq;subst hq;exact ⟨hw.cell 1,h2,Xk _⟩
  |2,hq=>simp at hq;subst hq;exact ⟨hw.cell 2,h3,Xk r3⟩
  |j+3,hq=>simp at hq
 ·rintro e w' ⟨v',rfl,hown,hbe⟩
  refine ⟨v',rfl,?_,hbe⟩
  simp only [List.flatMap_cons,List.flatMap_nil,List.append_nil] at hown
  rw [←List.append_assoc,←Kr,←Kr] at hown
  exact (ExtsAt.own hown).1
set_option maxHeartbeats 8000000 in
set_option maxRecDepth 100000 in
theorem Qyl (l:List Ext) (v:Value) (y:Ext) (w:World) (h:ExtsAt w v l) (hl:l.length≤16777216) (hc:Ko l=true) (hy:Qf y=true):
  Calls Tryz.prog 224 #[v,y.val] w (Qxz 255 (Vk l y) w):=by
 have hsp:=Qy hy
 have hck:=Xj _ hc
 obtain ⟨z,hz⟩:∃z,y.end_=z:=⟨_,rfl⟩
 have hz2:y.fr+y.n=z:=hz
 have hb0:Below w.heap.size w (w.alloc (.cells #[.int .i64 y.fr,.int .i64 y.n,.int .i64 y.kind,.int .i64 y.at_] 255)):=(Below.refl _ _).alloc (Nat.le_refl _) _
 have HCK:Hid (Calls Tryz.prog 197 #[v] (w.alloc (.cells #[.int .i64 y.fr,.int .i64 y.n,.int .i64 y.kind,.int .i64 y.at_] 255)) fun x w'=>x= .returned (.bool true)∧Below (w.heap.size+1) (w.alloc (.cells #[.int .i64 y.fr,.int .i64 y.n,.int .i64 y.kind,.int .i64 y.at_] 255)) w'):=by
  have:=Xd l v _ (h.below hb0) (by omega)
  rw [hc] at this
  show Calls _ _ _ _ _
  simpa using this
 have HON:Hid (∀wq,Calls Tryz.prog 223 #[y.val] wq fun x w'=>x= .returned (.bool true)∧Below wq.heap.size wq w'):=fun wq=>by have:=Pn y wq;rw [hy] at this;exact this
 have HEN:Hid (∀wq,Calls Tryz.prog 248 #[y.val] wq fun x w'=>x= .returned (.int .i64 z)∧Below wq.heap.size wq w'):=fun wq=>by have:=Cx y wq hy;rw [hz] at this;exact this
 have HP1:Hid (∀wq,Below w.heap.size w wq→Calls Tryz.prog 269 #[v,.int .i64 0,.int .i64 y.fr] wq fun e w'=>∃v',e= .returned v'∧SlAt w' v' (parts l 0 y.fr).length 4 (Qz (parts l 0 y.fr))∧Below wq.heap.size wq w'):=fun wq hb=>
  (Y9 l v 0 y.fr wq (h.below hb) hck.one (by omega) (by omega) (by omega) (by omega) (by omega)).mono fun e w' ⟨v',q1,q2,q3⟩=>⟨v',q1,SlAt.own q2,q3⟩
 have HP2:Hid (∀wq,Below w.heap.size w wq→Calls Tryz.prog 269 #[v,.int .i64 z,.int .i64 16777216] wq fun e w'=>∃v',e= .returned v'∧SlAt w' v' (parts l z 16777216).length 4 (Qz (parts l z 16777216))∧Below wq.heap.size wq w'):=fun wq hb=>
  (Y9 l v z 16777216 wq (h.below hb) hck.one (by omega) (by omega) (by omega) (by omega) (by omega)).mono fun e w' ⟨v',q1,q2,q3⟩=>⟨v',q1,SlAt.own q2,q3⟩
 obtain ⟨r1,hr1⟩:∃r,parts l 0 y.fr=r:=⟨_,rfl⟩
 obtain ⟨r2,hr2⟩:∃r,parts l z 16777216=r:=⟨_,rfl⟩
 have hn1:=O3 l 0 y.fr
 have hn2:=O3 l z 16777216
 have ho1:∀x∈r1++[y]++r2,Qf x=true:=fun x hx=>by
  rcases List.mem_append.1 hx with hx|hx
  ·rcases List.mem_append.1 hx with hx|hx
   ·rw [←hr1] at hx
    obtain ⟨q,hq,hp⟩:=J4 hx
    exact (Ku hp (hck.one q hq) (by omega) (by omega)).1
   ·rw [List.mem_singleton.1 hx];exact hy
  ·rw [←hr2] at hx
   obtain ⟨q,hq,hp⟩:=J4 hx
   exact (Ku hp (hck.one q hq) (by omega) (by omega)).1
 have HOV:Hid (Vk l y=tidy (r1++[y]++r2)):=by show _=_;unfold Vk;rw [hr1,hz,hr2]
 rw [hr1] at HP1 hn1
 rw [hr2] at HP2 hn2
 have HCC:Hid (∀(wq:World) (v1 v3:Value) (g19 gb:Nat),Whole wq gb 261 #[v1,.slice (some ⟨g19,0,none⟩) 1 1,v3]→Whole wq g19 255 #[.int .i64 y.fr,.int .i64 y.n,.int .i64 y.kind,.int .i64 y.at_]→SlAt wq v1 r1.length 4 (Qz r1)→SlAt wq v3 r2.length 4 (Qz r2)→Calls Tryz.prog 268 #[.slice (some ⟨gb,0,none⟩) 3 3] wq fun e w'=>∃v',e= .returned v'∧ExtsAt w' v' (r1++[y]++r2)∧Below wq.heap.size wq w'):=fun wq v1 v3 g19 gb a1 a2 a3 a4=>
  Qe2 v1 v3 r1 r2 y wq g19 gb a1 a2 a3 a4 (by omega) 3
 have HTI:Hid (∀(wq:World) (v':Value),ExtsAt wq v' (r1++[y]++r2)→Calls Tryz.prog 267 #[v'] wq fun x w'=>∃v',x= .returned v'∧w'.ownsRow wq.heap.size 255 4 v' (tidy (r1++[y]++r2)).length (Qz (tidy (r1++[y]++r2)))∧Below wq.heap.size wq w'):=fun wq v' hv=>
  Sn _ v' wq hv ho1 (by simp only [List.length_append,List.length_cons,List.length_nil];omega)
 rw [HOV.out]
 obtain ⟨r,hr⟩:∃r,tidy (r1++[y]++r2)=r:=⟨_,rfl⟩
 rw [hr] at HTI ⊢
 obtain ⟨RR,hRR⟩:∃RR,r1++[y]++r2=RR:=⟨_,rfl⟩
 rw [hRR] at HTI HCC
 have hx0:=Whole.new w 255 #[.int .i64 y.fr,.int .i64 y.n,.int .i64 y.kind,.int .i64 y.at_]
 obtain ⟨f,en,k,t⟩:=y
 simp only [Ext.val] at HON HEN
 simp only at HP1 HCC HCK hx0 hb0
 have HX0:Hid (∀wq,Below (w.heap.size+1) (w.alloc (.cells #[.int .i64 f,.int .i64 en,.int .i64 k,.int .i64 t] 255)) wq→wq.cell? ⟨w.heap.size,0,none⟩=some (.int .i64 f)∧wq.cell? ⟨w.heap.size,1,none⟩=some (.int .i64 en)∧wq.cell? ⟨w.heap.size,2,none⟩=some (.int .i64 k)∧wq.cell? ⟨w.heap.size,3,none⟩=some (.int .i64 t)):=fun wq hb=>(Je (hx0.below hb (by omega))).1
 have HB0:=Ql4 hb0
 clear hRR hr ho1 hn1 hn2 hr1 hr2 hz hz2 hsp hck hc h hl hx0 hb0 hy HOV
 show Calls Tryz.prog 224 #[v,.agg #[.int .i64 f,.int .i64 en,.int .i64 k,.int .i64 t]] w _
 go_enter Tryz.func224,Tryz.ntmps224
 go_wp2_with fail
 with_reducible refine HCK.out.mono ?_
 rintro e w1 ⟨rfl,hb1⟩
 obtain ⟨y0,y1,y2,y3⟩:=HX0.out _ hb1
 have HB1:=Ql4 hb1
 clear hb1
 go_wp2_with fail
 with_reducible refine (HON.out _).mono ?_
 rintro e w2 ⟨rfl,hb2⟩
 have hb12:Below (w.heap.size+1) (w.alloc (.cells #[.int .i64 f,.int .i64 en,.int .i64 k,.int .i64 t] 255)) w2:=HB1.out.trans (hb2.mono (by have:=HB1.out.size;simpa using this))
 have HX2:=Ql4 (HX0.out _ hb12)
 have HBB:Hid (Below w.heap.size w w2):=HB0.out.trans (hb12.mono (by omega))
 have HKX:Hid (∀wq,Below w2.heap.size w2 wq→wq.cell? ⟨w.heap.size,0,none⟩=some (.int .i64 f)∧wq.cell? ⟨w.heap.size,1,none⟩=some (.int .i64 en)∧wq.cell? ⟨w.heap.size,2,none⟩=some (.int .i64 k)∧wq.cell? ⟨w.heap.size,3,none⟩=some (.int .i64 t)):=fun wq hb=>⟨Qq hb HX2.out.1,Qq hb HX2.out.2.1,Qq hb HX2.out.2.2.1,Qq hb HX2.out.2.2.2⟩
 clear y0 y1 y2 y3 hb2 hb12
 obtain ⟨y0,y1,y2,y3⟩:=HX2.out
 go_wp2_with fail
 go_region_held3 (fun w'=>w'.cell? ⟨w.heap.size,0,none⟩=some (.int .i64 f)∧w'.cell? ⟨w.heap.size,1,none⟩=some (.int .i64 en)∧w'.cell? ⟨w.heap.size,2,none⟩=some (.int .i64 k)∧w'.cell? ⟨w.heap.size,3,none⟩=some (.int .i64 t)) (first|exact HX2.out|exact HKX.out _ (by repeat (first|with_reducible exact Below.refl _ _|with_reducible refine Qa ?_ HB10.out|with_reducible refine Ui ?_|with_reducible refine X7 ?_|with_reducible refine Qa ?_ HB9.out|with_reducible refine Qa ?_ HB5.out|with_reducible refine Qa ?_ HB4.out|with_reducible refine Qa ?_ HB3.out))) ((first|(go_at_call 269;(with_reducible refine (HP1.out _ (by repeat (first|with_reducible exact Below.refl _ _|with_reducible exact HBB.out|with_reducible refine Ui ?_|with_reducible refine X7 ?_|with_reducible refine Qa ?_ HB9.out|with_reducible refine Qa ?_ HB5.out|with_reducible refine Qa ?_ HB4.out|with_reducible refine Qa ?_ HB3.out))).mono ?_);rintro e w3 ⟨v1,rfl,hs1,hb3⟩;obtain ⟨A1,c1,e1⟩:=hs1.form;subst e1;have HS1:=Ql4 hs1;have HB3:=Ql4 hb3;clear hs1 hb3)|(go_at_call 248;(with_reducible refine (HEN.out _).mono ?_);rintro e w4 ⟨rfl,hb4⟩;have HB4:=Ql4 hb4;clear hb4)|(go_at_call 269;(with_reducible refine (HP2.out _ (by repeat (first|with_reducible exact Below.refl _ _|with_reducible exact HBB.out|with_reducible refine Ui ?_|with_reducible refine X7 ?_|with_reducible refine Qa ?_ HB9.out|with_reducible refine Qa ?_ HB5.out|with_reducible refine Qa ?_ HB4.out|with_reducible refine Qa ?_ HB3.out))).mono ?_);rintro e w5 ⟨v2,rfl,hs2,hb5⟩;obtain ⟨A2,c2,e2⟩:=hs2.form;subst e2;have HS2:=Ql4 hs2;have HB5:=Ql4 hb5;clear hs2 hb5)|(go_at_call 268;(refine (HCC.out _ _ _ _ _ (by repeat (first|exact Whole.new' _ _ _ _ (by first|rfl|(simp;done))|with_reducible refine Ot ?_|with_reducible refine Whole.alloc ?_ _|with_reducible refine Qxh ?_ HB5.out|with_reducible refine Qxh ?_ HB4.out|with_reducible refine Qxh ?_ HB3.out)) (by repeat (first|exact Whole.new' _ _ _ _ (by first|rfl|(simp;done))|with_reducible refine Ot ?_|with_reducible refine Whole.alloc ?_ _|with_reducible refine Qxh ?_ HB5.out|with_reducible refine Qxh ?_ HB4.out|with_reducible refine Qxh ?_ HB3.out)) (HS1.out.below (by repeat (first|with_reducible exact Below.refl _ _|with_reducible exact HBB.out|with_reducible refine Ui ?_|with_reducible refine X7 ?_|with_reducible refine Qa ?_ HB9.out|with_reducible refine Qa ?_ HB5.out|with_reducible refine Qa ?_ HB4.out|with_reducible refine Qa ?_ HB3.out))) (HS2.out.below (by repeat (first|with_reducible exact Below.refl _ _|with_reducible exact HBB.out|with_reducible refine Ui ?_|with_reducible refine X7 ?_|with_reducible refine Qa ?_ HB9.out|with_reducible refine Qa ?_ HB5.out|with_reducible refine Qa ?_ HB4.out|with_reducible refine Qa ?_ HB3.out)))).mono ?_);rintro e w9 ⟨v9,rfl,hx9,hb9⟩;obtain ⟨A9,c9,e9,_⟩:=id hx9;subst e9;have HX9:=Ql4 hx9;have HB9:=Ql4 hb9;clear hx9 hb9)|(go_at_call 267;(with_reducible refine (HTI.out _ _ HX9.out).mono ?_);rintro e w10 ⟨v10,rfl,ho10,hb10⟩;obtain ⟨A10,c10,e10⟩:=Qk ho10;subst e10;have HO10:=Ql4 ho10;have HB10:=Ql4 hb10;clear ho10 hb10)))
 all_goals go_wp2_with fail
 all_goals go_ret2
 all_goals (have HF1:Below w.heap.size w w9:=(by repeat (first|with_reducible exact Below.refl _ _|with_reducible exact HBB.out|with_reducible refine Ui ?_|with_reducible refine X7 ?_|with_reducible refine Qa ?_ HB9.out|with_reducible refine Qa ?_ HB5.out|with_reducible refine Qa ?_ HB4.out|with_reducible refine Qa ?_ HB3.out)))
 all_goals (have HF2:Below w.heap.size w w10:=Qa HF1 HB10.out)
 all_goals exact ⟨_,rfl,Qs HO10.out HF1.size,HF2⟩
end tr
namespace tr
open Go.RowKit er
end tr
namespace tr
open Go.RowKit er
theorem Qql {l:List Ext} {j:Nat} {e:Ext} (h:l[j]? =some e):Qz (l.take (j+1))=Qz (l.take j)++[.int .i64 e.fr,.int .i64 e.n,.int .i64 e.kind,.int .i64 e.at_]:=by
 obtain ⟨hj,rfl⟩:=List.getElem?_eq_some_iff.1 h
 rw [List.take_succ_eq_append_getElem hj,Jm]
end tr
namespace tr
open Go.RowKit er
end tr
end Go.Proofs.YtfialjmemcobjaaGreatDoor
