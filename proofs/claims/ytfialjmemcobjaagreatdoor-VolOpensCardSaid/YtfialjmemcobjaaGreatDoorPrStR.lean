/- A part of the proof. -/
import Derived.Test.YtfialjmemcobjaaGreatDoorPrStA
import Derived.Lib.SliceRun
set_option linter.unusedVariables false
set_option linter.unusedSimpArgs false
namespace Go.Proofs.YtfialjmemcobjaaGreatDoor
namespace st
open Go.RowKit er nd we ge pg
attribute [local go_sem ↓] Go.wp_at_zero Go.wp_at_succ
theorem StoIn.setValid {w:World} {q p g n c:Nat} {sv:Value} {N:Nat→Prop} {s:Sto} (h:StoIn w q p sv (.slice (some ⟨g,0,none⟩) n c) N s) (hn:s.valid.length=n) (b:Nat) (x:Int) (hb:b < n):
  StoIn (w.setCell ⟨g,b,none⟩ (.int .i64 x)) q p sv (.slice (some ⟨g,0,none⟩) n c) N {s with valid:=s.valid.set b x}:=by
 subst hn
 have hg:=h.dv g rfl
 have hv:sv.ownBlock≠some g:=fun k=>h.dsv g k rfl
 have hk:=Keep.set1 w g b (.int .i64 x)
 have hs:=h.va
 refine ⟨h.obj.keep hk (fun e=>hg.2 e.symm),Qj h.st hk (fun k hk2 e=>hv (e▸hk2)),?_,h.arr.keep hk (fun k hn e=>hg.1 (e▸hn)),h.ls,by simpa using h.lv,h.o0,h.o1,h.q0,h.q1,h.dq,h.ds,h.dv,h.dsv⟩
 have:=Ny hs b (.int .i64 x) hb
 rw [←ints_set] at this
 simpa using this
theorem Moved.setV {w w':World} {q:Nat} {sv vv:Value} {N N':Nat→Prop} (h:Moved w q sv vv N w' N') {g:Nat} (hg:vv.ownBlock=some g) (i:Nat) (u:Value):Moved w q sv vv N (w'.setCell ⟨g,i,none⟩ u) N':=
 ⟨h.keep.setCell (p:=⟨g,i,none⟩) (.inl (.inr (.inr (.inl hg)))) u,h.sub⟩
def Ce (l:List Int):Nat→Nat→List Int
 |_,0=>l
 |k,m+1=>Ce (l.set k 0) (k+1) m
theorem R9:∀(m k:Nat) (l:List Int) (i:Nat),k+m≤l.length→(Ce l k m)[i]? =if k≤i∧i < k+m then some 0 else l[i]?
 |0,k,l,i,_=>by rw [Ce,if_neg (by omega)]
 |m+1,k,l,i,h=>by
  rw [Ce,R9 m (k+1) (l.set k 0) i (by simp;omega)]
  by_cases h1:i=k
  ·subst h1
   rw [if_neg (by omega),if_pos (by omega)]
   exact List.getElem?_set_self (by omega)
  ·by_cases h2:k≤i∧i < k+(m+1)
   ·rw [if_pos (by omega),if_pos h2]
   ·rw [if_neg (by omega),if_neg h2,List.getElem?_set_ne (by omega)]
theorem Qxy (l:List Int):Ce l 0 l.length=List.replicate l.length 0:=by
 apply List.ext_getElem?
 intro i
 rw [R9 _ _ _ _ (by omega),List.getElem?_replicate]
 by_cases h:i < l.length
 ·rw [if_pos (by omega),if_pos h]
 ·rw [if_neg (by omega),if_neg h,List.getElem?_eq_none (by omega)]
theorem StoIn.zeros {q p g n c:Nat} {sv:Value} {N:Nat→Prop}:∀(m k:Nat) (w:World) (s:Sto),StoIn w q p sv (.slice (some ⟨g,0,none⟩) n c) N s→s.valid.length=n→k+m=n→
  StoIn (w.setCells g k (List.replicate m (.int .i64 0))) q p sv (.slice (some ⟨g,0,none⟩) n c) N {s with valid:=Ce s.valid k m}
 |0,k,w,s,h,_,_=>h
 |m+1,k,w,s,h,hn,hk=>by
  rw [List.replicate_succ]
  exact StoIn.zeros m (k+1) (w.setCell ⟨g,k,none⟩ (.int .i64 0)) {s with valid:=s.valid.set k 0} (h.setValid hn k 0 (by omega)) (by simpa using hn) (by omega)
theorem Moved.zeros {w:World} {q g n c:Nat} {sv:Value} {N N':Nat→Prop}:∀(m k:Nat) (w':World),Moved w q sv (.slice (some ⟨g,0,none⟩) n c) N w' N'→Moved w q sv (.slice (some ⟨g,0,none⟩) n c) N (w'.setCells g k (List.replicate m (.int .i64 0))) N'
 |0,k,w',h=>h
 |m+1,k,w',h=>by
  rw [List.replicate_succ]
  exact Moved.zeros m (k+1) _ (h.setV rfl k _)
def Bp (s:Sto) (a:Int):Int:=if 0≤a∧a < s.n.blocks * s.n.per then a / s.n.per else -1
def Kj (s:Sto) (l:List Int):Nat→List Int
 |0=>List.replicate s.n.blocks 0
 |j+1=>match l[j]? with
  |some a=>if 0≤Bp s a then (Kj s l j).set (Bp s a).toNat ((Kj s l j).getD (Bp s a).toNat 0+1) else Kj s l j
  |none=>Kj s l j
theorem Nf (s:Sto) (l:List Int):∀(j i:Nat) (y:Int),(Kj s l j)[i]? =some y→0≤y∧y≤j
 |0,i,y,h=>by
  rw [Kj,List.getElem?_replicate] at h
  split at h
  ·injection h with h;omega
  ·exact absurd h (by simp)
 |j+1,i,y,h=>by
  rw [Kj] at h
  have IH:=Nf s l j
  cases hl:l[j]? with
  |none=>
   rw [hl] at h
   have:=IH i y h;omega
  |some a=>
   rw [hl] at h
   simp only at h
   split at h
   ·rw [List.getElem?_set] at h
    split at h
    ·split at h
     ·rename_i hlt
      injection h with h
      have h2:(Kj s l j).getD (Bp s a).toNat 0=(Kj s l j)[(Bp s a).toNat]:=by rw [List.getD,List.getElem?_eq_getElem hlt];rfl
      have:=IH _ _ (List.getElem?_eq_getElem hlt)
      omega
     ·exact absurd h (by simp)
    ·have:=IH i y h;omega
   ·have:=IH i y h;omega
def Sto.need (s:Sto) (l:List Int):Sto:={s with valid:=Kj s l l.length}
theorem Qbp (w:World):(zeroValue 3).run Tryz.prog w= .ok (.int .i64 0) w:=by kernel_rfl
def Qby (w:World) (F:Nat→Prop) (A:Option Addr) (l:List Int):Prop:=l=[]∨∃b off,A=some ⟨b,off,none⟩∧¬F b∧∀j x,l[j]? =some x→w.cell? ⟨b,off+j,none⟩=some (.int .i64 x)
set_option maxHeartbeats 4000000 in
set_option maxRecDepth 100000 in
theorem Qo2 (w:World) (q p:Nat) (sv vv:Value) (N:Nat→Prop) (s:Sto) (A:Option Addr) (n c:Nat) (l:List Int) (hn:l.length=n) (hn1:n≤1000000) (h:StoIn w q p sv vv N s) (ha:Qby w (foot q sv vv N) A l):
  Calls Tryz.prog 135 #[.pointer (some ⟨q,0,none⟩),.slice A n c] w fun e w'=>e= .returned (.tuple #[])∧StoIn w' q p sv vv N (s.need l)∧Moved w q sv vv N w' N:=by
 have H:=Ql4 h
 have HA:=Ql4 ha
 have hq:=Qx7 q
 have hok:=h.arr.ok
 have hB0:=hok.b0
 have hB1:=hok.b1
 have hP0:=hok.p0
 have hP1:=hok.p1
 have hlv:=h.lv
 have hva:=h.va
 rw [hlv] at hva
 obtain ⟨A2,c2,rfl⟩:=Qk hva
 obtain ⟨g,rfl,_,_,_,hcs,hfs⟩:=Qo hva (by omega)
 obtain ⟨c0,c1,c2',_,_,c8,c9,c10,c11⟩:=h.cells
 have hcl:∀ty,(Builtin.clear_ #[39] ty #[.slice (some ⟨g,0,none⟩) s.n.blocks c2]).run Tryz.prog w= .ok (.tuple #[]) (w.setCells g 0 (List.replicate s.n.blocks (.int .i64 0))):=
  fun ty=>Lib.run_clear_slice w 39 3 ty (.int .i64 0) Tryz.underlying39 Qbp rfl rfl g 0 s.n.blocks c2 (by omega) (fun j hj=>by
   obtain ⟨y,hy⟩:∃y,s.valid[j]? =some y:=⟨s.valid[j]'(by omega),List.getElem?_eq_getElem (by omega)⟩
   rw [Nat.zero_add,hcs j _ (ints_at _ _ _ hy)];rfl) (fun j hj=>by rw [Nat.zero_add];exact hfs j)
 have HZ:Hid (StoIn (w.setCells g 0 (List.replicate s.n.blocks (.int .i64 0))) q p sv (.slice (some ⟨g,0,none⟩) s.n.blocks c2) N {s with valid:=List.replicate s.n.blocks 0}):=by
  have:=StoIn.zeros s.n.blocks 0 w s h hlv (by omega)
  rw [show Ce s.valid 0 s.n.blocks=List.replicate s.n.blocks 0 from by rw [←hlv];exact Qxy _] at this
  exact this
 have MZ:Hid (Moved w q sv (.slice (some ⟨g,0,none⟩) s.n.blocks c2) N (w.setCells g 0 (List.replicate s.n.blocks (.int .i64 0))) N):=Moved.zeros _ _ _ (Moved.refl _ _ _ _ _)
 obtain ⟨wz,hwz⟩:∃wz,w.setCells g 0 (List.replicate s.n.blocks (.int .i64 0))=wz:=⟨_,rfl⟩
 rw [hwz] at hcl HZ MZ
 clear h hcs hfs hwz ha hok hva hlv
 go_enter Tryz.func135,Tryz.ntmps135
 go_wp2_with (simp only [hcl])
 go_loopw [15] (fun i wr=>∃j:Nat,j≤n∧i= .int .i64 j∧Hid (StoIn wr q p sv (.slice (some ⟨g,0,none⟩) s.n.blocks c2) N {s with valid:=Kj s l j})∧Hid (Moved w q sv (.slice (some ⟨g,0,none⟩) s.n.blocks c2) N wr N)) (fun i _=>n - (intOf i).toNat)
 case atStart=>exact ⟨0,Nat.zero_le _,rfl,HZ.out,MZ.out⟩
 case round=>
  obtain ⟨j,hj,rfl,HR,HM⟩:=hrel
  by_cases hlt:j < n
  ·have hji:(j:Int) < (n:Int):=by omega
   obtain ⟨a,hx⟩:∃a,l[j]? =some a:=⟨l[j]'(by omega),List.getElem?_eq_getElem (by omega)⟩
   obtain ⟨b,off,rfl,hfb,hcb⟩:∃b off,A=some ⟨b,off,none⟩∧¬foot q sv (.slice (some ⟨g,0,none⟩) s.n.blocks c2) N b∧∀j x,l[j]? =some x→w.cell? ⟨b,off+j,none⟩=some (.int .i64 x):=by
    rcases HA.out with h|h
    ·rw [h] at hx;simp at hx
    ·exact h
   have a0:=HM.out.keep.cell (hcb j a hx) hfb
   obtain ⟨d0,d1,d2,_,_,d8,d9,d10,d11⟩:=HR.out.cells
   have HXX:=Ql4 hx
   clear hx hcb
   by_cases hin:0≤a∧a < (s.n.blocks:Int) * s.n.per
   ·obtain ⟨m,hm⟩:∃m:Nat,a / (s.n.per:Int)=(m:Int):=⟨(a / (s.n.per:Int)).toNat,by
     have:0≤a / (s.n.per:Int):=Int.ediv_nonneg hin.1 (by omega)
     omega⟩
    have hmlt:m < s.n.blocks:=by
     have:a / (s.n.per:Int) < (s.n.blocks:Int):=Int.ediv_lt_of_lt_mul (by omega) hin.2
     omega
    have hmi:(m:Int) < (s.n.blocks:Int):=by omega
    have HBK:Hid (∀wq,Calls Tryz.prog 200 #[.agg #[.int .i64 s.n.blocks,.int .i64 s.n.per],.int .i64 a] wq fun e w'=>e= .returned (.int .i64 (m:Int))∧Below wq.heap.size wq w'):=fun wq=>hm▸Wv s.n.blocks s.n.per a wq (by omega) (by omega) (by omega) (by omega) hin.1 hin.2
    have hvl:(Kj s l j).length=s.n.blocks:=HR.out.lv
    have hva1:=HR.out.va
    simp only [hvl] at hva1
    obtain ⟨gx,hgx,_,_,_,hcs1,hfs1⟩:=Qo hva1 (by omega)
    obtain rfl:g=gx:=by injection hgx with hgx;injection hgx with hgx
    obtain ⟨y,hy⟩:∃y,(Kj s l j)[m]? =some y:=⟨(Kj s l j)[m]'(by omega),List.getElem?_eq_getElem (by omega)⟩
    have b0:=hcs1 m _ (ints_at _ _ _ hy)
    have b1:=hfs1 m
    clear hcs1 hfs1 hgx hva1 hvl
    go_wp2_with fail
    refine (HBK.out _).mono ?_
    rintro e w2 ⟨rfl,hb2⟩
    have HB2:=Ql4 hb2
    have e0:=Qq hb2 b0
    have e1:=Rs hb2 b0 b1
    have e9:=Qq hb2 d9
    clear hb2
    go_wp2_with fail
    have hyb:=Nf s l j m y hy
    have hwr:wrap64 (y+1)=y+1:=by unfold wrap64;omega
    have HN:Hid (Kj s l (j+1)=(Kj s l j).set m (y+1)):=by
     show _=_
     rw [Kj,HXX.out]
     simp only
     have hbk:Bp s a=(m:Int):=by unfold Bp;rw [if_pos hin];exact hm
     rw [hbk,if_pos (by omega)]
     have:(m:Int).toNat=m:=by omega
     rw [this,List.getD,hy]
     rfl
    have H2:=Ql4 (StoIn.setValid (s:={s with valid:=Kj s l j}) (HR.out.below HB2.out) HR.out.lv m (y+1) hmlt)
    have M2:=Ql4 ((HM.out.trans (Moved.below HB2.out)).setV (g:=g) rfl m (.int .i64 (y+1)))
    rw [hwr]
    exact ⟨⟨j+1,by omega,by go_num,by rw [HN.out];exact H2,M2⟩,by simp [intOf];omega⟩
   ·have HBK:Hid (∀wq,Calls Tryz.prog 200 #[.agg #[.int .i64 s.n.blocks,.int .i64 s.n.per],.int .i64 a] wq fun e w'=>e= .returned (.int .i64 (-1))∧Below wq.heap.size wq w'):=fun wq=>Qu4 s.n.blocks s.n.per a wq (by omega) (by omega) (by omega) (by omega) (by omega)
    have HN:Hid (Kj s l (j+1)=Kj s l j):=by
     show _=_
     rw [Kj,HXX.out]
     simp only
     rw [if_neg]
     unfold Bp
     rw [if_neg hin]
     decide
    go_wp2_with fail
    refine (HBK.out _).mono ?_
    rintro e w2 ⟨rfl,hb2⟩
    have H2:=Ql4 (HR.out.below hb2)
    have M2:=Ql4 (HM.out.trans (Moved.below hb2))
    clear hb2
    go_wp2_with fail
    go_roundw
    case rel=>exact ⟨j+1,by omega,by go_num,by rw [HN.out];exact H2,M2⟩
    case measure=>simp [intOf];omega
  ·obtain rfl:j=n:=by omega
   go_wp2_with fail
   go_end0
   exact ⟨rfl,by rw [Sto.need,hn];exact HR.out,HM.out⟩
end st
end Go.Proofs.YtfialjmemcobjaaGreatDoor
