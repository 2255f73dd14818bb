/- A part of the proof. -/
import Derived.Test.YtfialjmemcobjaaGreatDoorPoRtD
import Derived.Test.YtfialjmemcobjaaGreatDoorPoStA
namespace Go.Proofs.YtfialjmemcobjaaGreatDoor.rt
open Go.RowKit Go.Proofs.YtfialjmemcobjaaGreatDoor.er Go.Proofs.YtfialjmemcobjaaGreatDoor.st Go.Proofs.YtfialjmemcobjaaGreatDoor.pg
set_option linter.unusedVariables false
set_option linter.unusedSimpArgs false
def genR (f:Fnd):Int:=match decR f.p.body with|some x=>x.1|none=>0
def newer (f g:Fnd):Prop:=genR g < genR f∨genR g=genR f∧(g.p.seq < f.p.seq∨g.p.seq=f.p.seq∧g.at_≤f.at_)
def isRoot (f:Fnd):Bool:=decide (f.p.kind=4) && decide (f.p.space=0) && decide (f.p.key=0) && (decR f.p.body).isSome
def cmpV:Value:= .func (.func 127) #[] #[]
def SortCtr (l:List Fnd):Prop:=∀(w:World) (B:Nat) (v:Value),w.ownsRow B 109 6 v l.length (fndCells l)→B≤w.heap.size→
 Calls Tryz.prog 126 #[v,cmpV] w fun e w'=>e= .returned (.tuple #[])∧∃l':List Fnd,l'.Perm l∧l'.Pairwise newer∧w'.ownsRow B 109 6 v l.length (fndCells l')∧Below B w w'
set_option maxHeartbeats 4000000 in
theorem ins_one (A:Option Addr) (n c:Nat) (hn:n≤1) (w:World):
  Calls Tryz.prog 243 #[.slice A n c,.int .i64 0,.int .i64 n,cmpV] w fun e w'=>e= .returned (.tuple #[])∧w=w':=by
 unfold cmpV
 have hni:(n:Int)≤1:=by omega
 go_enter Tryz.func243,Tryz.ntmps243
 go_wp2_with fail
 go_loopw [8,9] (fun i _ wr=>i= .int .i64 1∧w=wr) (fun _ _ _=>0)
 case atStart=>exact ⟨rfl,rfl⟩
 case round=>
  obtain ⟨rfl,rfl⟩:=hrel
  go_wp2_with fail
  go_end0
  exact ⟨rfl,rfl⟩
set_option maxHeartbeats 4000000 in
set_option maxRecDepth 100000 in
theorem stable_one (A:Option Addr) (n c:Nat) (hn:n≤1) (w:World):
  Calls Tryz.prog 194 #[.slice A n c,.int .i64 n,cmpV] w fun e w'=>e= .returned (.tuple #[])∧w=w':=by
 have HI:=Lib.hid (ins_one A n c hn w)
 unfold cmpV at HI ⊢
 have hni:(n:Int)≤1:=by omega
 go_enter Tryz.func194,Tryz.ntmps194
 go_wp2_with fail
 go_loopw [7,8] (fun a b wr=>a= .int .i64 0∧b= .int .i64 20∧w=wr) (fun _ _ _=>0)
 case atStart=>exact ⟨rfl,rfl,rfl⟩
 case round=>
  obtain ⟨rfl,rfl,rfl⟩:=hrel
  go_wp2_with fail
  with_reducible refine HI.out.mono ?_
  rintro e w1 ⟨rfl,rfl⟩
  go_wp2_with fail
  go_loopw [6,7,8,9] (fun s _ _ _ wr=>s= .int .i64 20∧w=wr) (fun _ _ _ _ _=>0)
  case atStart=>exact ⟨rfl,rfl⟩
  case round=>
   obtain ⟨rfl,rfl⟩:=hrel
   go_wp2_with fail
   go_end0
   exact ⟨rfl,rfl⟩
theorem pw_one:∀{l:List Fnd},l.length≤1→l.Pairwise newer
 |[],_=>List.Pairwise.nil
 |[a],_=>List.pairwise_singleton _ _
 |a::b::r,h=>by simp at h
theorem sort_one {l:List Fnd} (hl:l.length≤1):SortCtr l:=by
 intro w B v h hB
 obtain ⟨A,c,rfl⟩:=own_slice h
 have HS:=Lib.hid (stable_one A l.length c hl w)
 have HE:=Lib.hid (pw_one hl)
 have H:=Lib.hid h
 obtain ⟨n,hn⟩:∃n,l.length=n:=⟨_,rfl⟩
 rw [hn] at HS H ⊢
 unfold cmpV at HS ⊢
 clear h hl hn
 go_enter Tryz.func126,Tryz.ntmps126
 go_wp2_with fail
 with_reducible refine HS.out.mono ?_
 rintro e w1 ⟨rfl,rfl⟩
 go_wp2_with fail
 go_end0
 exact ⟨rfl,l,List.Perm.refl _,HE.out,H.out,Below.refl _ _⟩
end Go.Proofs.YtfialjmemcobjaaGreatDoor.rt
namespace Go.Proofs.YtfialjmemcobjaaGreatDoor.rt
open Go.RowKit Go.Proofs.YtfialjmemcobjaaGreatDoor.er Go.Proofs.YtfialjmemcobjaaGreatDoor.st Go.Proofs.YtfialjmemcobjaaGreatDoor.pg
set_option linter.unusedVariables false
set_option linter.unusedSimpArgs false
def filt (l:List Fnd):List Fnd:=l.filter isRoot
theorem filt_take {l:List Fnd} {j:Nat} {f:Fnd} (h:l[j]? =some f):filt (l.take (j+1))=filt (l.take j)++if isRoot f=true then [f] else []:=by
 unfold filt
 rw [List.take_add_one,h,List.filter_append]
 simp [List.filter_cons]
set_option maxHeartbeats 8000000 in
set_option maxRecDepth 100000 in
theorem roots_any (l:List Fnd) (v:Value) (w:World) (B0:Nat) (h:w.ownsRow B0 109 6 v l.length (fndCells l)) (hl:l.length≤2048) (hsz:∀f∈l,f.p.body.size≤1000000) (hs:SortCtr (filt l)):
  Calls Tryz.prog 61 #[v] w fun e w'=>∃v' l',e= .returned v'∧l'.Perm (filt l)∧l'.Pairwise newer∧w'.ownsRow w.heap.size 109 6 v' l'.length (fndCells l')∧Below w.heap.size w w':=by
 obtain ⟨A,c,rfl⟩:=own_slice h
 have H:=Lib.hid h
 have HZ:=Lib.hid hsz
 have HSC:=Lib.hid hs
 obtain ⟨n,hn⟩:∃n,l.length=n:=⟨_,rfl⟩
 rw [hn] at H hl ⊢
 have HN:=Lib.hid hn
 have hli:(n:Int)≤2048:=by omega
 obtain ⟨i0,hi0,hz0,hz1,hz2⟩:=info_parts fndInfo
 have HI0:=Lib.hid hi0
 have HZ0:=Lib.hid hz0
 have HZ1:=Lib.hid hz1
 have HZ2:=Lib.hid hz2
 clear h hsz hs hn hi0 hz0 hz1 hz2
 go_enter Tryz.func61,Tryz.ntmps61
 go_wp2_with fail
 go_loopw [3,5,6,7,8,11] (fun ov _ _ _ _ i wr=>∃(j m:Nat) (B:Option Addr) (d:Nat),j≤n∧i= .int .i64 j∧ov= .slice B m d∧m≤j∧Hid ((filt (l.take j)).length=m)∧Hid (wr.ownsRow w.heap.size 109 6 (.slice B m d) m (fndCells (filt (l.take j))))∧Hid (Below w.heap.size w wr)) (fun _ _ _ _ _ i _=>n - (intOf i).toNat)
 case atStart=>exact ⟨0,0,none,0,Nat.zero_le _,rfl,rfl,Nat.le_refl _,rfl,⟨rfl,.inl ⟨rfl,rfl⟩⟩,Below.refl _ _⟩
 case round=>
  obtain ⟨j,m,B,d,hj,rfl,rfl,hmj,HM,HO,HB⟩:=hrel
  by_cases hlt:j < n
  ·have hji:(j:Int) < (n:Int):=by omega
   obtain ⟨gr,rfl,_,_,_,hc,_⟩:=own_cell H.out (by omega)
   obtain ⟨f,hf⟩:∃f,l[j]? =some f:=⟨_,List.getElem?_eq_getElem (by rw [HN.out];exact hlt)⟩
   obtain ⟨p0,p1,p2,p3,p4,p5⟩:=fndCells_at l j f hf
   have c0:=below_c HB.out (hc _ _ p0)
   have c1:=below_c HB.out (hc _ _ p1)
   have c2:=below_c HB.out (hc _ _ p2)
   have c3:=below_c HB.out (hc _ _ p3)
   have c4:=below_c HB.out (hc _ _ p4)
   have c5:=below_c HB.out (hc _ _ p5)
   have HT:=Lib.hid (filt_take hf)
   have HBS:=Lib.hid (HZ.out f (List.mem_of_getElem? hf))
   have HSTAY:Hid (isRoot f=false→∀w',Below w.heap.size w w'→Below wr.heap.size wr w'→(filt (l.take (j+1))).length=m∧w'.ownsRow w.heap.size 109 6 (.slice B m d) m (fndCells (filt (l.take (j+1))))):=fun hr w' hb hb2=>by
    have e:filt (l.take (j+1))=filt (l.take j):=by rw [HT.out,hr];simp
    rw [e]
    exact ⟨HM.out,own_below HO.out hb2⟩
   obtain ⟨a,k,sp,y,sq,b⟩:=f
   simp only at c0 c1 c2 c3 c4 c5 HBS
   clear hf p0 p1 p2 p3 p4 p5 hc
   obtain ⟨qb,hqb⟩:∃qb,wr.heap.size=qb:=⟨_,rfl⟩
   obtain ⟨wx,hwx⟩:∃wx,wx=wr.alloc (.cells #[.int .i64 a,.int .i64 k,.int .i64 sp,.int .i64 y,.int .i64 sq,.string b] 109):=⟨_,rfl⟩
   have HWX:Hid (Whole wx qb 109 #[.int .i64 a,.int .i64 k,.int .i64 sp,.int .i64 y,.int .i64 sq,.string b]∧Below wr.heap.size wr wx∧Below w.heap.size w wx):=by
    show _∧_∧_
    rw [hwx,←hqb]
    exact ⟨Whole.new _ _ _,(Below.refl _ _).alloc (Nat.le_refl _) _,HB.out.alloc HB.out.size _⟩
   have x0:=HWX.out.1.cell 0
   have x1:=HWX.out.1.cell 1
   have x2:=HWX.out.1.cell 2
   have x3:=HWX.out.1.cell 3
   have x4:=HWX.out.1.cell 4
   have x5:=HWX.out.1.cell 5
   simp at x0 x1 x2 x3 x4 x5
   have hmeas:n - (intOf (.int .i64 ((j:Int)+1))).toNat < n - (intOf (.int .i64 (j:Int))).toNat:=by simp [intOf];omega
   have HMS:=Lib.hid hmeas
   clear hmeas
   by_cases h1:k=4
   ·by_cases h2:sp=0
    ·by_cases h3:y=0
     ·subst h1 h2 h3
      have HRD:=Lib.hid (read_any b wx (by have:=HBS.out;omega))
      have HIR:Hid (isRoot ⟨a,⟨4,0,0,sq,b⟩⟩=(decR b).isSome):=by show _=_;simp [isRoot]
      cases hd:decR b with
      |none=>
       have HR:Hid (isRoot ⟨a,⟨4,0,0,sq,b⟩⟩=false):=by show _=_;rw [HIR.out,hd];rfl
       unfold RdRet at HRD
       rw [hd] at HRD
       go_wp2_with fail
       rw [←hwx]
       with_reducible refine HRD.out.mono ?_
       rintro e w4 ⟨rfl,hb4⟩
       have HST:=Lib.hid (HSTAY.out HR.out w4 (HWX.out.2.2.trans (hb4.mono HWX.out.2.2.size)) (HWX.out.2.1.trans (hb4.mono HWX.out.2.1.size)))
       have HB4:=Lib.hid (HWX.out.2.2.trans (hb4.mono HWX.out.2.2.size))
       clear hb4
       go_wp2_with fail
       go_roundw
       case rel=>exact ⟨j+1,m,B,d,by omega,by go_num,rfl,by omega,HST.out.1,HST.out.2,HB4.out⟩
       case measure=>exact HMS.out
      |some x=>
       obtain ⟨gg,ll⟩:=x
       have HR:Hid (filt (l.take (j+1))=filt (l.take j)++[⟨a,⟨4,0,0,sq,b⟩⟩]):=by show _=_;rw [HT.out,HIR.out,hd];rfl
       unfold RdRet at HRD
       rw [hd] at HRD
       simp only at HRD
       go_wp2_with fail
       rw [←hwx]
       with_reducible refine HRD.out.mono ?_
       rintro e w4 ⟨v4,rfl,_,hb4⟩
       have HB4:=Lib.hid (HWX.out.2.2.trans (hb4.mono HWX.out.2.2.size))
       have HO4:=Lib.hid (own_below HO.out (HWX.out.2.1.trans (hb4.mono HWX.out.2.1.size)))
       have y0:=below_c hb4 x0
       have y1:=below_c hb4 x1
       have y2:=below_c hb4 x2
       have y3:=below_c hb4 x3
       have y4:=below_c hb4 x4
       have y5:=below_c hb4 x5
       have HOA:=Lib.hid (HO4.out.alloc (.cells #[.int .i64 a,.int .i64 4,.int .i64 0,.int .i64 0,.int .i64 sq,.string b] 109))
       have HNW:Hid (∀(j':Nat) (u:Value),([.int .i64 a,.int .i64 4,.int .i64 0,.int .i64 0,.int .i64 sq,.string b]:List Value)[j']? =some u→(w4.alloc (.cells #[.int .i64 a,.int .i64 4,.int .i64 0,.int .i64 0,.int .i64 sq,.string b] 109)).cell? ((⟨w4.heap.size,0,none⟩:Addr).add j')=some u):=World.news_of_block (by simpa using heap_alloc_new w4 (.cells #[.int .i64 a,.int .i64 4,.int .i64 0,.int .i64 0,.int .i64 sq,.string b] 109))
       have hone:∀u∈([.int .i64 a,.int .i64 4,.int .i64 0,.int .i64 0,.int .i64 sq,.string b]:List Value),u.oneCell'=true:=by simp [Value.oneCell']
       have HONE:=Lib.hid hone
       have HSZ:Hid (w.heap.size≤(w4.alloc (.cells #[.int .i64 a,.int .i64 4,.int .i64 0,.int .i64 0,.int .i64 sq,.string b] 109)).heap.size):=by show _≤_;have:=HB4.out.size;simp only [World.size_alloc];omega
       clear hb4 hone c0 c1 c2 c3 c4 c5 x0 x1 x2 x3 x4 x5 hwx hqb
       go_wp2_with (at_builtin;go_must (refine wpList_append_own _ rfl (.tmp 41) (.tmp 43) 104 rfl w.heap.size 109 i0 _ 6 56 Tryz.underlying104 HI0.out HZ0.out HZ1.out HZ2.out rfl (by omega) (.slice B m d) m (fndCells (filt (l.take j))) rfl HOA.out ⟨w4.heap.size,0,none⟩ 1 1 [.int .i64 a,.int .i64 4,.int .i64 0,.int .i64 0,.int .i64 sq,.string b] rfl rfl HNW.out HONE.out (by simp only [maxLen];omega) (by omega) HSZ.out ?_;intro v2 w5 hown5 hg5 _;have HO5:=Lib.hid hown5;have HB5:=Lib.hid (HB4.out.trans (below_append HO4.out hg5 HB4.out.size));obtain ⟨A2,c2,e2⟩:=own_slice hown5;subst e2;clear hown5 hg5))
       go_roundw
       case rel=>exact ⟨j+1,m+1,A2,c2,by omega,by go_num,rfl,by omega,by show _=_;rw [HR.out,List.length_append,HM.out];rfl,by show World.ownsRow _ _ _ _ _ _ _;rw [HR.out,fndCells_snoc];exact HO5.out,HB5.out⟩
       case measure=>exact HMS.out
     ·have hy:(y == 0)=false:=by simpa using h3
      have HR:Hid (isRoot ⟨a,⟨k,sp,y,sq,b⟩⟩=false):=by show _=_;simp [isRoot,h3]
      subst h1 h2
      go_wp2_with fail
      have HST:=Lib.hid (HSTAY.out HR.out wx HWX.out.2.2 HWX.out.2.1)
      try rw [←hwx]
      go_roundw
      case rel=>exact ⟨j+1,m,B,d,by omega,by go_num,rfl,by omega,HST.out.1,HST.out.2,HWX.out.2.2⟩
      case measure=>exact HMS.out
    ·have hp:(sp == 0)=false:=by simpa using h2
     have HR:Hid (isRoot ⟨a,⟨k,sp,y,sq,b⟩⟩=false):=by show _=_;simp [isRoot,h2]
     subst h1
     go_wp2_with fail
     have HST:=Lib.hid (HSTAY.out HR.out wx HWX.out.2.2 HWX.out.2.1)
     try rw [←hwx]
     go_roundw
     case rel=>exact ⟨j+1,m,B,d,by omega,by go_num,rfl,by omega,HST.out.1,HST.out.2,HWX.out.2.2⟩
     case measure=>exact HMS.out
   ·have hk:(k == 4)=false:=by simpa using h1
    have HR:Hid (isRoot ⟨a,⟨k,sp,y,sq,b⟩⟩=false):=by show _=_;simp [isRoot,h1]
    go_wp2_with fail
    have HST:=Lib.hid (HSTAY.out HR.out wx HWX.out.2.2 HWX.out.2.1)
    try rw [←hwx]
    go_roundw
    case rel=>exact ⟨j+1,m,B,d,by omega,by go_num,rfl,by omega,HST.out.1,HST.out.2,HWX.out.2.2⟩
    case measure=>exact HMS.out
  ·obtain rfl:j=n:=by omega
   have hfull:l.take j=l:=by rw [←HN.out];exact List.take_length
   rw [hfull] at HM HO
   have hso:=HSC.out wr w.heap.size (.slice B m d) (by rw [HM.out];exact HO.out) HB.out.size
   unfold cmpV at hso
   have HSO:=Lib.hid hso
   clear hso
   go_wp2_with fail
   with_reducible refine HSO.out.mono ?_
   rintro e w4 ⟨rfl,l',hp,hpw,hro,hb4⟩
   have HEND:Hid (l'.Perm (filt l)∧l'.Pairwise newer∧w4.ownsRow w.heap.size 109 6 (.slice B m d) l'.length (fndCells l')∧Below w.heap.size w w4):=⟨hp,hpw,by rw [hp.length_eq];exact hro,HB.out.trans hb4⟩
   clear hp hpw hro hb4
   go_wp2_with fail
   go_ret
   exact ⟨_,l',rfl,HEND.out⟩
end Go.Proofs.YtfialjmemcobjaaGreatDoor.rt
