/- A part of the proof. -/
import Derived.Test.YtfialjmemcobjaaGreatDoorPrRg
import Derived.Test.YtfialjmemcobjaaGreatDoorPrWeA
set_option linter.unusedVariables false
set_option linter.unusedSimpArgs false
namespace Go.Proofs.YtfialjmemcobjaaGreatDoor
namespace we
open Go.RowKit er
def TabAt (w:World) (v:Value) (l:List Bk):Prop:=∃A cap,v= .slice A l.length cap∧l.length≤64∧(0 < l.length→∃g,A=some ⟨g,0,none⟩∧∀(j:Nat) (m:Bk),l[j]? =some m→w.cell? ⟨g,j * 3,none⟩=some (.int .i64 m.st)∧w.cell? ⟨g,j * 3+1,none⟩=some (.int .i64 m.va)∧w.cell? ⟨g,j * 3+2,none⟩=some (.int .i64 m.wo))
theorem TabAt.below {w w':World} {v:Value} {l:List Bk} (h:TabAt w v l) (hb:Below w.heap.size w w'):TabAt w' v l:=by
 obtain ⟨A,cap,rfl,h1,h2⟩:=h
 refine ⟨A,cap,rfl,h1,fun h0=>?_⟩
 obtain ⟨g,rfl,hc⟩:=h2 h0
 exact ⟨g,rfl,fun j m hm=>⟨Qq hb (hc j m hm).1,Qq hb (hc j m hm).2.1,Qq hb (hc j m hm).2.2⟩⟩
theorem TabAt.own {w:World} {B:Nat} {A:Option Addr} {cap n:Nat} {l:List Bk} (h:w.ownsRow B 92 3 (.slice A n cap) l.length (Ji l)) (hl:l.length≤64):TabAt w (.slice A n cap) l:=by
 obtain rfl:=Qd1 h
 refine ⟨A,cap,rfl,hl,fun h0=>?_⟩
 obtain ⟨g,rfl,_,_,_,hc,_⟩:=Qo h h0
 exact ⟨g,rfl,fun j m hm=>by
  obtain ⟨e0,e1,e2⟩:=Lx l j m hm
  exact ⟨hc _ _ e0,hc _ _ e1,hc _ _ e2⟩⟩
def Ws (l:List Bk) (k:Int):Nat→Int
 |0=>0
 |j+1=>Ws l k j+(match l[j]? with|some x=>if (x.st == k)=true then 1 else 0|none=>0)
def Rc (l:List Bk) (k:Int):Int:=Ws l k l.length
set_option maxHeartbeats 4000000 in
set_option maxRecDepth 100000 in
theorem X5 (l:List Bk) (v:Value) (k:Int) (w:World) (h:TabAt w v l):
  Calls Tryz.prog 102 #[v,.int .i64 k] w fun e w'=>e= .returned (.int .i64 (Rc l k))∧Below w.heap.size w w':=by
 obtain ⟨A,cap,rfl,hl,hc⟩:=h
 have HC:=Ql4 hc
 clear hc
 have hli:(l.length:Int)≤64:=by omega
 go_enter Tryz.func102,Tryz.ntmps102
 go_wp2_with fail
 go_loopw [5,10] (fun nv i wr=>∃(j:Nat) (x:Int),j≤l.length∧i= .int .i64 j∧nv= .int .i64 x∧0≤x∧x≤j∧Hid (x=Ws l k j)∧Hid (Below w.heap.size w wr)) (fun _ i _=>l.length - (intOf i).toNat)
 case atStart=>exact ⟨0,0,Nat.zero_le _,rfl,rfl,by omega,by omega,rfl,Below.refl _ _⟩
 case round=>
  obtain ⟨j,x,hj,rfl,rfl,hx0,hx1,HX,HBEL⟩:=hrel
  by_cases hlt:j < l.length
  ·obtain ⟨m,hm⟩:∃m,l[j]? =some m:=⟨l[j],List.getElem?_eq_getElem hlt⟩
   obtain ⟨g,rfl,hcells⟩:=HC.out (by omega)
   obtain ⟨e0,e1,e2⟩:=hcells j m hm
   have c0:=Qq HBEL.out e0
   have c1:=Qq HBEL.out e1
   have c2:=Qq HBEL.out e2
   have HN:Hid (Ws l k (j+1)=x+(if (m.st == k)=true then 1 else 0)):=by show _=_;rw [HX.out];simp only [Ws,hm]
   have hji:(j:Int) < (l.length:Int):=by omega
   clear e0 e1 e2 hcells hm
   cases hq:(m.st == k)
   ·have HQ:=Ql4 hq
    go_wp2_with fail
    go_roundw
    case rel=>exact ⟨j+1,x,by omega,by go_num,rfl,hx0,by omega,by show x=_;rw [HN.out,HQ.out];simp,HBEL.out.alloc HBEL.out.size _⟩
    case measure=>simp [intOf];omega
   ·have HQ:=Ql4 hq
    go_wp2_with fail
    go_roundw
    case rel=>exact ⟨j+1,x+1,by omega,by go_num,rfl,by omega,by omega,by show x+1=_;rw [HN.out,HQ.out];simp,HBEL.out.alloc HBEL.out.size _⟩
    case measure=>simp [intOf];omega
  ·obtain rfl:j=l.length:=by omega
   go_wp2_with fail
   go_ret
   exact ⟨by rw [HX.out];rfl,HBEL.out⟩
def Qe6 (l:List Bk) (j:Int):Bk:=l.getD j.toNat ⟨0,0,0⟩
def J7 (l:List Bk):Nat→Int
 |0=> -1
 |j+1=>match l[j]? with
  |some x=>if (x.st == 0)=true then (if J7 l j < 0 then (j:Int) else if Lib.compareInt (Ue x) (Ue (Qe6 l (J7 l j))) < 0 then (j:Int) else J7 l j) else J7 l j
  |none=>J7 l j
def J8 (l:List Bk):Int:=J7 l l.length
theorem Nq (l:List Bk):∀j,-1≤J7 l j∧J7 l j < j∨j=0∧J7 l j= -1
 |0=>.inr ⟨rfl,rfl⟩
 |j+1=>by
  left
  have h:=Nq l j
  unfold J7
  split
  ·split
   ·split
    ·omega
    ·split <;> omega
   ·omega
  ·omega
set_option maxHeartbeats 4000000 in
set_option maxRecDepth 100000 in
theorem Qy5 (l:List Bk) (v:Value) (gk:Nat) (w:World) (h:TabAt w v l) (hk:w.cell? ⟨gk,0,none⟩=some (.int .i64 0)):
  Calls Tryz.prog 327 #[v,.func (.func 338) #[] #[.pointer (some ⟨gk,0,none⟩)],.func (.func 329) #[] #[]] w fun e w'=>e= .returned (.int .i64 (J8 l))∧Below w.heap.size w w':=by
 obtain ⟨A,cap,rfl,hl,hc⟩:=h
 have HC:=Ql4 hc
 have HK:=Ql4 hk
 clear hc hk
 have hli:(l.length:Int)≤64:=by omega
 go_enter Tryz.func327,Tryz.ntmps327
 go_wp2_with fail
 go_loopw [7,12] (fun bv i wr=>∃(j:Nat) (x:Int),j≤l.length∧i= .int .i64 j∧bv= .int .i64 x∧-1≤x∧x < j+1∧Hid (x=J7 l j)∧Hid (x < j∨x < 0)∧Hid (Below w.heap.size w wr)) (fun _ i _=>l.length - (intOf i).toNat)
 case atStart=>exact ⟨0,-1,Nat.zero_le _,rfl,rfl,by omega,by omega,rfl,.inr (by decide),Below.refl _ _⟩
 case round=>
  obtain ⟨j,x,hj,rfl,rfl,hx0,hx1,HX,HXJ,HBEL⟩:=hrel
  by_cases hlt:j < l.length
  ·obtain ⟨m,hm⟩:∃m,l[j]? =some m:=⟨l[j],List.getElem?_eq_getElem hlt⟩
   obtain ⟨g,rfl,hcells⟩:=HC.out (by omega)
   obtain ⟨e0,e1,e2⟩:=hcells j m hm
   have c0:=Qq HBEL.out e0
   have c1:=Qq HBEL.out e1
   have c2:=Qq HBEL.out e2
   have HN:Hid (J7 l (j+1)=if (m.st == 0)=true then (if x < 0 then (j:Int) else if Lib.compareInt (Ue m) (Ue (Qe6 l x)) < 0 then (j:Int) else x) else x):=by show _=_;rw [HX.out];simp only [J7,hm]
   have hji:(j:Int) < (l.length:Int):=by omega
   have HBX:=Ql4 (Whole.new wr 92 #[.int .i64 m.st,.int .i64 m.va,.int .i64 m.wo])
   have HB1:=Ql4 (HBEL.out.alloc HBEL.out.size (.cells #[.int .i64 m.st,.int .i64 m.va,.int .i64 m.wo] 92))
   have HKr:=Ql4 (Qq HB1.out HK.out)
   have HBL:=Ql4 ((Below.refl wr.heap.size wr).alloc (Nat.le_refl _) (.cells #[.int .i64 m.st,.int .i64 m.va,.int .i64 m.wo] 92))
   have HSZ:Hid (w.heap.size≤(wr.alloc (.cells #[.int .i64 m.st,.int .i64 m.va,.int .i64 m.wo] 92)).heap.size):=HB1.out.size
   have HL1:Hid (wr.heap.size < (wr.alloc (.cells #[.int .i64 m.st,.int .i64 m.va,.int .i64 m.wo] 92)).heap.size):=by show _ < _;simp
   have HCL:=Ql4 hcells
   clear e0 e1 e2 hcells hm
   have B0:=Ql4 (Below.refl (wr.alloc (.cells #[.int .i64 m.st,.int .i64 m.va,.int .i64 m.wo] 92)).heap.size (wr.alloc (.cells #[.int .i64 m.st,.int .i64 m.va,.int .i64 m.wo] 92))).drew
   have HKA:Hid (∀w',Below (wr.alloc (.cells #[.int .i64 m.st,.int .i64 m.va,.int .i64 m.wo] 92)).heap.size (wr.alloc (.cells #[.int .i64 m.st,.int .i64 m.va,.int .i64 m.wo] 92)) w'→(w'.cell? ⟨wr.heap.size,0,none⟩=some (.int .i64 m.st)∧w'.cell? ⟨wr.heap.size,1,none⟩=some (.int .i64 m.va)∧w'.cell? ⟨wr.heap.size,2,none⟩=some (.int .i64 m.wo))):=fun w' hb=>⟨Qq hb (HBX.out.cell 0),Qq hb (HBX.out.cell 1),Qq hb (HBX.out.cell 2)⟩
   cases hq:(m.st == 0)
   ·have HQ:=Ql4 hq
    go_wp2_with fail
    refine rg.rgB (fun w'=>w'.cell? ⟨wr.heap.size,0,none⟩=some (.int .i64 m.st)∧w'.cell? ⟨wr.heap.size,1,none⟩=some (.int .i64 m.va)∧w'.cell? ⟨wr.heap.size,2,none⟩=some (.int .i64 m.wo)) (HKA.out _ B0.out) (fun hHeld=>?_)
    iterate 2 (refine rg.rgT ?_ ?_ ?_;rotate_left;(focus (intro wz hSw;(try dsimp only at hSw);go_simp;(try with_reducible rfl)));(try simp only [Go.Act.put,rg.qa,rg.qb,rg.qc]))
    refine rg.rgC (fun K hK=>?_)
    rw [if_pos (by rfl)]
    go_simp
    ((go_at_call 338;refine (Cz gk 0 m _ (Qq B0.out HKr.out)).mono ?_;rw [HQ.out];rintro e w2 ⟨rfl,hb2⟩;have HB2:=Ql4 (B0.out.trans (hb2.mono B0.out.size));clear hb2))
    refine hK.out _ _ (HKA.out _ HB2.out) (fun hHeld=>?_)
    clear hK K
    try simp only [Go.Act.put,rg.qa,rg.qb,rg.qc]
    iterate 1 (refine rg.rgT ?_ ?_ ?_;rotate_left;(focus (intro wz hSw;(try dsimp only at hSw);go_simp;(try with_reducible rfl)));(try simp only [Go.Act.put,rg.qa,rg.qb,rg.qc]))
    iterate 12 (refine rg.rgS ?_;(try simp only [Go.Act.put,rg.qa,rg.qb,rg.qc]))
    iterate 1 (refine rg.rgT ?_ ?_ ?_;rotate_left;(focus (intro wz hSw;(try dsimp only at hSw);go_simp;(try with_reducible rfl)));(try simp only [Go.Act.put,rg.qa,rg.qb,rg.qc]))
    refine rg.rgD ?_
    go_wp2_with fail
    go_roundw
    case rel=>exact ⟨j+1,x,by omega,by go_num,rfl,hx0,by omega,by show x=_;rw [HN.out,HQ.out];simp,by show x < ((j+1:Nat):Int)∨_;rcases HXJ.out with h|h <;> omega,HB1.out.trans (HB2.out.mono HSZ.out)⟩
    case measure=>simp [intOf];omega
   ·have HQ:=Ql4 hq
    by_cases hneg:x < 0
    ·go_wp2_with fail
     refine rg.rgB (fun w'=>w'.cell? ⟨wr.heap.size,0,none⟩=some (.int .i64 m.st)∧w'.cell? ⟨wr.heap.size,1,none⟩=some (.int .i64 m.va)∧w'.cell? ⟨wr.heap.size,2,none⟩=some (.int .i64 m.wo)) (HKA.out _ B0.out) (fun hHeld=>?_)
     iterate 2 (refine rg.rgT ?_ ?_ ?_;rotate_left;(focus (intro wz hSw;(try dsimp only at hSw);go_simp;(try with_reducible rfl)));(try simp only [Go.Act.put,rg.qa,rg.qb,rg.qc]))
     refine rg.rgC (fun K hK=>?_)
     rw [if_pos (by rfl)]
     go_simp
     ((go_at_call 338;refine (Cz gk 0 m _ (Qq B0.out HKr.out)).mono ?_;rw [HQ.out];rintro e w2 ⟨rfl,hb2⟩;have HB2:=Ql4 (B0.out.trans (hb2.mono B0.out.size));clear hb2))
     refine hK.out _ _ (HKA.out _ HB2.out) (fun hHeld=>?_)
     clear hK K
     try simp only [Go.Act.put,rg.qa,rg.qb,rg.qc]
     iterate 4 (refine rg.rgT ?_ ?_ ?_;rotate_left;(focus (intro wz hSw;(try dsimp only at hSw);go_simp;(try with_reducible rfl)));(try simp only [Go.Act.put,rg.qa,rg.qb,rg.qc]))
     iterate 8 (refine rg.rgS ?_;(try simp only [Go.Act.put,rg.qa,rg.qb,rg.qc]))
     iterate 2 (refine rg.rgT ?_ ?_ ?_;rotate_left;(focus (intro wz hSw;(try dsimp only at hSw);go_simp;(try with_reducible rfl)));(try simp only [Go.Act.put,rg.qa,rg.qb,rg.qc]))
     refine rg.rgD ?_
     go_wp2_with fail
     go_roundw
     case rel=>exact ⟨j+1,j,by omega,by go_num,rfl,by omega,by omega,by show (j:Int)=_;rw [HN.out,HQ.out];simp [hneg],.inl (by show (j:Int) < ((j+1:Nat):Int);omega),HB1.out.trans (HB2.out.mono HSZ.out)⟩
     case measure=>simp [intOf];omega
    ·have hx2:0≤x:=by omega
     obtain ⟨y,hy⟩:∃y:Nat,x=(y:Int):=⟨x.toNat,by omega⟩
     subst hy
     have hyl:y < l.length:=by rcases HXJ.out with h|h <;> omega
     have hyli:(y:Int) < (l.length:Int):=by omega
     obtain ⟨n,hn⟩:∃n,l[y]? =some n:=⟨l[y],List.getElem?_eq_getElem hyl⟩
     have hbk:Qe6 l (y:Int)=n:=by unfold Qe6;rw [Int.toNat_natCast,List.getD,hn];rfl
     obtain ⟨n0,n1,n2⟩:=HCL.out y n hn
     have HN0:=Ql4 (Qq HB1.out n0)
     have HN1:=Ql4 (Qq HB1.out n1)
     have HN2:=Ql4 (Qq HB1.out n2)
     have HKB:Hid (∀w',Below (wr.alloc (.cells #[.int .i64 m.st,.int .i64 m.va,.int .i64 m.wo] 92)).heap.size (wr.alloc (.cells #[.int .i64 m.st,.int .i64 m.va,.int .i64 m.wo] 92)) w'→(w'.cell? ⟨wr.heap.size,0,none⟩=some (.int .i64 m.st)∧w'.cell? ⟨wr.heap.size,1,none⟩=some (.int .i64 m.va)∧w'.cell? ⟨wr.heap.size,2,none⟩=some (.int .i64 m.wo)∧w'.cell? ⟨g,y * 3,none⟩=some (.int .i64 n.st)∧w'.cell? ⟨g,y * 3+1,none⟩=some (.int .i64 n.va)∧w'.cell? ⟨g,y * 3+2,none⟩=some (.int .i64 n.wo))):=fun w' hb=>⟨Qq hb (HBX.out.cell 0),Qq hb (HBX.out.cell 1),Qq hb (HBX.out.cell 2),Qq hb HN0.out,Qq hb HN1.out,Qq hb HN2.out⟩
     obtain ⟨cv,hcv⟩:∃cv,Lib.compareInt (Ue m) (Ue n)=cv:=⟨_,rfl⟩
     have HBY:Hid (∀wq,Calls Tryz.prog 329 #[m.val,n.val] wq fun e w'=>e= .returned (.int .i64 cv)∧Below wq.heap.size wq w'):=fun wq=>hcv▸Qkn m n wq
     have HNN:=Ql4 hneg
     rw [hbk,hcv] at HN
     clear n0 n1 n2 hn hbk hcv hneg
     cases hd:decide (cv < 0)
     ·have HD:=Ql4 hd
      go_wp2_with fail
      go_region_held3 (fun w'=>w'.cell? ⟨wr.heap.size,0,none⟩=some (.int .i64 m.st)∧w'.cell? ⟨wr.heap.size,1,none⟩=some (.int .i64 m.va)∧w'.cell? ⟨wr.heap.size,2,none⟩=some (.int .i64 m.wo)∧w'.cell? ⟨g,y * 3,none⟩=some (.int .i64 n.st)∧w'.cell? ⟨g,y * 3+1,none⟩=some (.int .i64 n.va)∧w'.cell? ⟨g,y * 3+2,none⟩=some (.int .i64 n.wo)) (first|exact HKB.out _ B0.out|exact HKB.out _ HB3.out|exact HKB.out _ HB2.out) (first|(go_at_call 329;refine (HBY.out _).mono ?_;rintro e w3 ⟨rfl,hb3⟩;have HB3:=Ql4 (HB2.out.trans (hb3.mono HB2.out.size));clear hb3)|(go_at_call 338;refine (Cz gk 0 m _ (Qq B0.out HKr.out)).mono ?_;rw [HQ.out];rintro e w2 ⟨rfl,hb2⟩;have HB2:=Ql4 (B0.out.trans (hb2.mono B0.out.size));clear hb2))
      go_wp2_with fail
      go_roundw
      case rel=>exact ⟨j+1,y,by omega,by go_num,rfl,hx0,by omega,by show (y:Int)=_;rw [HN.out,HQ.out,if_pos rfl,if_neg (Int.not_lt.2 (Int.natCast_nonneg y)),if_neg (of_decide_eq_false HD.out)],by show (y:Int) < ((j+1:Nat):Int)∨_;omega,HB1.out.trans (HB3.out.mono HSZ.out)⟩
      case measure=>simp [intOf];omega
     ·have HD:=Ql4 hd
      go_wp2_with fail
      go_region_held3 (fun w'=>w'.cell? ⟨wr.heap.size,0,none⟩=some (.int .i64 m.st)∧w'.cell? ⟨wr.heap.size,1,none⟩=some (.int .i64 m.va)∧w'.cell? ⟨wr.heap.size,2,none⟩=some (.int .i64 m.wo)∧w'.cell? ⟨g,y * 3,none⟩=some (.int .i64 n.st)∧w'.cell? ⟨g,y * 3+1,none⟩=some (.int .i64 n.va)∧w'.cell? ⟨g,y * 3+2,none⟩=some (.int .i64 n.wo)) (first|exact HKB.out _ B0.out|exact HKB.out _ HB3.out|exact HKB.out _ HB2.out) (first|(go_at_call 329;refine (HBY.out _).mono ?_;rintro e w3 ⟨rfl,hb3⟩;have HB3:=Ql4 (HB2.out.trans (hb3.mono HB2.out.size));clear hb3)|(go_at_call 338;refine (Cz gk 0 m _ (Qq B0.out HKr.out)).mono ?_;rw [HQ.out];rintro e w2 ⟨rfl,hb2⟩;have HB2:=Ql4 (B0.out.trans (hb2.mono B0.out.size));clear hb2))
      go_wp2_with fail
      go_roundw
      case rel=>exact ⟨j+1,j,by omega,by go_num,rfl,by omega,by omega,by show (j:Int)=_;rw [HN.out,HQ.out,if_pos rfl,if_neg (Int.not_lt.2 (Int.natCast_nonneg y)),if_pos (of_decide_eq_true HD.out)],.inl (by show (j:Int) < ((j+1:Nat):Int);omega),HB1.out.trans (HB3.out.mono HSZ.out)⟩
      case measure=>simp [intOf];omega
  ·obtain rfl:j=l.length:=by omega
   go_wp2_with fail
   go_ret
   exact ⟨by rw [HX.out];rfl,HBEL.out⟩
set_option maxHeartbeats 1000000 in
theorem Af (l:List Bk) (v:Value) (w:World) (h:TabAt w v l):
  Calls Tryz.prog 315 #[v] w fun e w'=>e= .returned (.int .i64 (J8 l))∧Below w.heap.size w w':=by
 have H:=Ql4 h
 obtain ⟨A,cap,rfl,_⟩:=h
 go_enter Tryz.func315,Tryz.ntmps315
 go_wp2_with (first|(go_at_call 328;refine (Qcc 0 _).mono ?_;rintro e w1 ⟨g,rfl,hg,hg1,hb1⟩;have HT:=Ql4 (H.out.below hb1);have HG:=Ql4 hg;have HB:=Ql4 hb1;clear hb1 hg hg1)|(go_at_call 327;refine (Qy5 l _ g _ HT.out HG.out).mono ?_;rintro e w2 ⟨rfl,hb2⟩;have HB2:=Ql4 (HB.out.trans (hb2.mono HB.out.size));clear hb2))
 go_ret
 exact ⟨rfl,HB2.out⟩
end we
end Go.Proofs.YtfialjmemcobjaaGreatDoor
