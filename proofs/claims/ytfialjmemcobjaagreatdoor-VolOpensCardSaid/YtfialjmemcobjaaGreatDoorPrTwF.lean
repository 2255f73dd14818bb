/- A part of the proof. -/
import Derived.Test.YtfialjmemcobjaaGreatDoorPrTyMb
import Derived.Test.YtfialjmemcobjaaGreatDoorPrTzMb
set_option linter.unusedVariables false
set_option linter.unusedSimpArgs false
namespace Go.Proofs.YtfialjmemcobjaaGreatDoor
namespace tr
open Go.RowKit er
set_option maxHeartbeats 4000000 in
set_option maxRecDepth 100000 in
theorem Qu0 (l:List Ext) (v:Value) (fr n:Int) (w:World) (h:ExtsAt w v l) (hc:Chk l) (hs:Xf fr n=true):
  Calls Tryz.prog 274 #[v,.int .i64 fr,.int .i64 n] w (Qxz 255 (parts l fr (fr+n)) w):=by
 obtain ⟨s1,s2,s3⟩:=Ez hs
 have hlen:=U4 hc
 have HCK:Hid (Calls Tryz.prog 197 #[v] w fun x w'=>x= .returned (.bool true)∧Below w.heap.size w w'):=by have:=Xd l v w h (by omega);rw [Oa _ hc] at this;exact this
 have HSP:Hid (∀wq,Calls Tryz.prog 266 #[.int .i64 fr,.int .i64 n] wq fun x w'=>x= .returned (.bool true)∧wq=w'):=fun wq=>by have:=Jc fr n wq;rw [hs] at this;exact this
 have HPA:Hid (∀wq,Below w.heap.size w wq→Calls Tryz.prog 269 #[v,.int .i64 fr,.int .i64 (fr+n)] wq fun x w'=>∃A m c,x= .returned (.slice A m c)∧w'.ownsRow w.heap.size 255 4 (.slice A m c) (parts l fr (fr+n)).length (Qz (parts l fr (fr+n)))∧Below wq.heap.size wq w'):=by
  intro wq hb
  refine (Y9 l v fr (fr+n) wq (h.below hb) hc.one (by omega) s1 (by omega) (by omega) s3).mono ?_
  rintro x w' ⟨v',rfl,q1,q2⟩
  obtain ⟨A,c,rfl⟩:=Qk q1
  exact ⟨A,_,c,rfl,Qs q1 hb.size,q2⟩
 have hw:wrap64 (fr+n)=fr+n:=by unfold wrap64;omega
 obtain ⟨P,hP⟩:∃P,parts l fr (fr+n)=P:=⟨_,rfl⟩
 rw [hP] at HPA ⊢
 clear h hc hs hlen hP
 go_enter Tryz.func274,Tryz.ntmps274
 go_wp2_with fail
 with_reducible refine HCK.out.mono ?_
 rintro e w5 ⟨rfl,hb5⟩
 have HB5:=Ql4 hb5
 clear hb5
 go_wp2_with fail
 with_reducible refine (HSP.out _).mono ?_
 rintro e w6 ⟨rfl,rfl⟩
 go_wp2_with fail
 with_reducible refine (HPA.out _ HB5.out).mono ?_
 rintro e w7 ⟨A,m,c,rfl,q1,q2⟩
 have HQ:=Ql4 q1
 have HB7:=Ql4 (Qa HB5.out q2)
 clear q1 q2
 go_wp2_with fail
 refine bodyPost_ret (v:= .tuple #[.slice A m c,.int .i64 0]) (by simp [results,Tryz.results274,go_sem]) rfl ?_
 exact ⟨_,rfl,HQ.out,HB7.out⟩
set_option maxHeartbeats 4000000 in
set_option maxRecDepth 100000 in
theorem Qx1 (w:World) (F:List Nat) (p:Nat) (T:Tree) (fr n:Int) (ht:TrAt w F p T) (hok:T.Ok) (hc:Chk T.flat) (hs:Xf fr n=true):
  Calls Tryz.prog 222 #[.pointer (some ⟨p,0,none⟩),.int .i64 fr,.int .i64 n] w (Qxz 255 (parts T.flat fr (fr+n)) w):=by
 obtain ⟨s1,s2,s3⟩:=Ez hs
 have HC:Hid (Calls Tryz.prog 219 #[.slice none 0 0,.int .i64 fr,.int .i64 n] w fun x w'=>∃A m c,x= .returned (.tuple #[.slice A m c,.int .i64 0])∧Below w.heap.size w w'):=by
  refine (Qi5 [] (.slice none 0 0) fr n w ⟨none,0,rfl,fun h=>by simp at h⟩ (by simp) rfl hs).mono ?_
  rintro x w' ⟨v',rfl,q1,q2⟩
  obtain ⟨A,c,rfl⟩:=Qk q1
  exact ⟨A,_,c,rfl,q2⟩
 have HNE:Hid (∀wq,Below w.heap.size w wq→Calls Tryz.prog 220 #[.pointer (some ⟨p,0,none⟩),.int .i64 fr,.int .i64 (fr+n)] wq fun x w'=>∃A m c,x= .returned (.slice A m c)∧ExtsAt w' (.slice A m c) (Jj T.flat fr (fr+n))∧Below w.heap.size w w'):=by
  intro wq hb
  refine (Vd wq F p T fr (fr+n) (ht.keep (Keep.below (F:=fun _=>False) hb) (fun _ _ h=>h)) hok hc s1 (by omega)).mono ?_
  rintro x w' ⟨v',rfl,q1,q2⟩
  obtain ⟨A,c,rfl⟩:=Qk q1
  exact ⟨A,_,c,rfl,(ExtsAt.own q1).1,Qa hb q2⟩
 have HCX:Hid (∀wq A m c,Below w.heap.size w wq→ExtsAt wq (.slice A m c) (Jj T.flat fr (fr+n))→Calls Tryz.prog 274 #[.slice A m c,.int .i64 fr,.int .i64 n] wq fun x w'=>∃A m c,x= .returned (.tuple #[.slice A m c,.int .i64 0])∧w'.ownsRow w.heap.size 255 4 (.slice A m c) (parts T.flat fr (fr+n)).length (Qz (parts T.flat fr (fr+n)))∧Below w.heap.size w w'):=by
  intro wq A m c hb hx
  refine (Qu0 _ _ fr n wq hx (Qo3 hc _ _) hs).mono ?_
  rintro x w' ⟨v',rfl,q1,q2⟩
  rw [Quw hc (by omega)] at q1
  obtain ⟨A,c,rfl⟩:=Qk q1
  exact ⟨A,_,c,rfl,Qs q1 hb.size,Qa hb q2⟩
 have hw:wrap64 (fr+n)=fr+n:=by unfold wrap64;omega
 obtain ⟨P,hP⟩:∃P,parts T.flat fr (fr+n)=P:=⟨_,rfl⟩
 rw [hP] at HCX ⊢
 clear ht hok hc hs hP
 go_enter Tryz.func222,Tryz.ntmps222
 go_wp2_with fail
 with_reducible refine HC.out.mono ?_
 rintro e w5 ⟨A5,m5,c5,rfl,hb5⟩
 have HB5:=Ql4 hb5
 clear hb5
 go_wp2_with fail
 with_reducible refine (HNE.out _ HB5.out).mono ?_
 rintro e w6 ⟨A6,m6,c6,rfl,q1,q2⟩
 have HX:=Ql4 (HCX.out _ _ _ _ q2 q1)
 clear q1 q2
 go_wp2_with fail
 with_reducible refine HX.out.mono ?_
 rintro e w7 ⟨A7,m7,c7,rfl,q1,q2⟩
 have HQ:=Ql4 q1
 have HB7:=Ql4 q2
 clear q1 q2
 go_wp2_with fail
 refine bodyPost_ret (v:= .tuple #[.slice A7 m7 c7,.int .i64 0]) (by simp [results,Tryz.results222,go_sem]) rfl ?_
 exact ⟨_,rfl,HQ.out,HB7.out⟩
end tr
end Go.Proofs.YtfialjmemcobjaaGreatDoor
