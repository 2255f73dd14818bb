/- A part of the proof. -/
import Derived.Test.YtfialjmemcobjaaGreatDoorPoVqD
import Derived.Laws.Concat
namespace Go.Proofs.YtfialjmemcobjaaGreatDoor.vo
open Go.RowKit Go.Maps Go.Proofs.YtfialjmemcobjaaGreatDoor.er Go.Proofs.YtfialjmemcobjaaGreatDoor.st Go.Proofs.YtfialjmemcobjaaGreatDoor.tr Go.Proofs.YtfialjmemcobjaaGreatDoor.nd Go.Proofs.YtfialjmemcobjaaGreatDoor.pg Go.Proofs.YtfialjmemcobjaaGreatDoor.ge
set_option linter.unusedVariables false
set_option linter.unusedSimpArgs false
set_option maxRecDepth 100000
set_option maxHeartbeats 16000000
theorem After1.below {B:Nat} {w W W':World} {v:Nat} {c:Pt} (h:After1 B w v c W) (hB:B≤w.heap.size) (hb:Below W.heap.size W W'):After1 B w v c W':=by
 obtain ⟨b,vv,h1,h2⟩:=h
 exact ⟨b,vv,h1.below hb,own_mv h2 hB (Mv.below hb)⟩
theorem awake_any (w:World) (hl:LaidT w):Calls Tryz.prog 11 #[] w fun e w'=>e= .returned (.bool true)∧Below w.heap.size w w':=by
 have h00:=hl.lt
 have H0:=Lib.hid h00
 have HFR:=Lib.hid (fresh_any w hl)
 have HX:Hid (∀W,Calls Tryz.prog 52 #[.int .i64 1,.int .u8 120] W fun e w'=>e= .returned (.string xt)∧Below W.heap.size W w'):=fun W=>text1_any 120 W (by decide) (by decide)
 have HZ:Hid (∀W,Calls Tryz.prog 52 #[.int .i64 1,.int .u8 0] W fun e w'=>e= .returned (.string (strOfNums (List.replicate 32 0)))∧Below W.heap.size W w'):=fun W=>text1_any 0 W (by decide) (by decide)
 have HS2:Hid (∀W v c,After1 w.heap.size w v c W→Calls Tryz.prog 28 #[.pointer (some ⟨v,0,none⟩),.int .i64 1,.int .i64 3,.string xt] W fun e w'=>e= .returned .nilIface∧After2 w.heap.size w v c w'):=fun W v c h=>step2 w W v c h
 have HS5:Hid (∀W v c b V,VoIn W v c [(spE,b)] V→V.s.n=nE→Calls Tryz.prog 24 #[.pointer (some ⟨v,0,none⟩),.int .i64 1,.int .i64 2,.int .i64 2] W fun e w'=>e= .returned (.tuple #[.string (strOfNums (List.replicate 32 0)++xt),.nilIface])∧Below W.heap.size W w'):=fun W v c b V h1 h2=>step5 W v c b V h1 h2
 have hsz:(strOfNums (List.replicate 32 0)).size+xt.size≤100:=of_decide_eq_true (by kernel_rfl)
 obtain ⟨X,hX⟩:∃X,xt=X:=⟨_,rfl⟩
 obtain ⟨Z,hZ⟩:∃Z,strOfNums (List.replicate 32 0)=Z:=⟨_,rfl⟩
 rw [hX] at HX HS2 HS5 hsz
 rw [hZ] at HZ HS5 hsz
 clear hl h00 hX hZ
 go_enter Tryz.func11,Tryz.ntmps11
 go_wp2_with fail
 refine HFR.out.mono ?_
 rintro e w1 ⟨v,c,rfl,hv,hb,hn⟩
 have hvq:=veql v
 have HC1:=Lib.hid (step1 w w1 v c hv ⟨hb,hn⟩)
 clear hv hb hn
 go_wp2_with fail
 refine HC1.out.mono ?_
 rintro e w2 ⟨rfl,ha⟩
 have HA:=Lib.hid ha
 clear ha
 go_wp2_with fail
 refine (HX.out _).mono ?_
 rintro e w3 ⟨rfl,hb3⟩
 have HW3:=Lib.hid (HS2.out w3 v c (HA.out.below (Nat.le_refl _) hb3))
 clear hb3
 go_wp2_with fail
 refine HW3.out.mono ?_
 rintro e w4 ⟨rfl,ha⟩
 have HW4:=Lib.hid (step3 w w4 v c H0.out ha)
 clear ha
 go_wp2_with fail
 refine HW4.out.mono ?_
 rintro e w5 ⟨rfl,ha⟩
 have HW5:=Lib.hid (step4 w w5 c.p H0.out ha)
 clear ha
 go_wp2_with fail
 refine HW5.out.mono ?_
 rintro e w6 ⟨v2,c2,rfl,b,V,hv6,hn6,hg6,hb6⟩
 have HV6:=Lib.hid hv6
 have HB6:=Lib.hid hb6
 have HW6:=Lib.hid (HS5.out w6 v2 c2 b V hv6 hn6)
 clear hv6 hn6 hb6 hvq
 go_wp2_with fail
 refine HW6.out.mono ?_
 rintro e w7 ⟨rfl,hb7⟩
 have HV7:=Lib.hid (HV6.out.below hb7)
 have HB7:=Lib.hid (HB6.out.trans (hb7.mono HB6.out.size))
 have HOF:Hid (Calls Tryz.prog 18 #[.pointer (some ⟨v2,0,none⟩),.int .i64 1] w7 fun e w'=>e= .returned (.tuple #[.int .i64 10,.int .i64 1,.nilIface])∧Below w7.heap.size w7 w'):=vof_some w7 v2 c2 _ V (spE,b) HV7.out (by simp)
 clear hb7
 go_wp2_with fail
 refine HOF.out.mono ?_
 rintro e w8 ⟨rfl,hb8⟩
 have HV8:=Lib.hid (HV7.out.below hb8)
 have HB8:=Lib.hid (HB7.out.trans (hb8.mono HB7.out.size))
 clear hb8
 go_wp2_with fail
 refine (HZ.out _).mono ?_
 rintro e w9 ⟨rfl,hb9⟩
 have HV9:=Lib.hid (HV8.out.below hb9)
 have HB9:=Lib.hid (HB8.out.trans (hb9.mono HB8.out.size))
 clear hb9
 go_wp2_with fail
 refine (HX.out _).mono ?_
 rintro e w10 ⟨rfl,hb10⟩
 have HV10:=Lib.hid (HV9.out.below hb10)
 have HB10:=Lib.hid (HB9.out.trans (hb10.mono HB9.out.size))
 clear hb10
 have hcat:∀W,(binOp .add 9 (.string Z) (.string X)).run Tryz.prog W= .ok (.string (Z++X)) W:=fun W=>by rw [binOp_string_add];exact run_string_add_sum W Z X (by omega)
 have HGN:Hid (Calls Tryz.prog 21 #[.pointer (some ⟨v2,0,none⟩)] w10 fun e w'=>e= .returned (.int .i64 1)∧w10=w'):=by
  have:=vgen_any w10 v2 c2 _ V HV10.out
  rwa [hg6] at this
 go_wp2_with fail
 refine HGN.out.mono ?_
 rintro e w11 ⟨rfl,rfl⟩
 go_wp2_with fail
 go_ret
 exact ⟨rfl,HB10.out⟩
end Go.Proofs.YtfialjmemcobjaaGreatDoor.vo
namespace Go.Proofs.YtfialjmemcobjaaGreatDoor.vo
open Go.RowKit Go.Maps Go.Proofs.YtfialjmemcobjaaGreatDoor.er Go.Proofs.YtfialjmemcobjaaGreatDoor.st Go.Proofs.YtfialjmemcobjaaGreatDoor.tr Go.Proofs.YtfialjmemcobjaaGreatDoor.nd Go.Proofs.YtfialjmemcobjaaGreatDoor.pg Go.Proofs.YtfialjmemcobjaaGreatDoor.ge
set_option linter.unusedVariables false
set_option linter.unusedSimpArgs false
set_option maxRecDepth 100000
set_option maxHeartbeats 16000000
abbrev ErX:=List Nat×List (ByteArray×Int)×Nat
def fvV (b:Nat):Value:= .iface 183 (.pointer (some ⟨b,0,none⟩))
structure ErV (w0 w:World) (l:List ErX):Prop where
 err:∀x∈l,er.ErrAt w x.1 x.2.1 1 (fvV x.2.2)
 laid:LaidT w
 bel:Below w0.heap.size w0 w
theorem errv_below {w w':World} {bs:List Nat} {l:List (ByteArray×Int)} {c:Int} {v:Value} (h:er.ErrAt w bs l c v) (hb:Below w.heap.size w w'):er.ErrAt w' bs l c v:=h.keep (Keep.below (F:=fun _=>False) hb) (fun _ _ h=>h)
theorem ErV.below {w0 w w':World} {l:List ErX} (h:ErV w0 w l) (hb:Below w.heap.size w w'):ErV w0 w' l:=⟨fun x hx=>errv_below (h.err x hx) hb,(Keep.below (F:=fun _=>False) hb).cell h.laid (fun h=>h),h.bel.trans (hb.mono h.bel.size)⟩
theorem ErV.add {w0 w w':World} {l:List ErX} (h:ErV w0 w l) (hb:Below w.heap.size w w') {x:ErX} (hx:er.ErrAt w' x.1 x.2.1 1 (fvV x.2.2)):ErV w0 w' (x::l):=⟨fun y hy=>by
 rcases List.mem_cons.1 hy with rfl|hy
 ·exact hx
 ·exact errv_below (h.err y hy) hb,(h.below hb).laid,(h.below hb).bel⟩
theorem ErV.code {w0 w:World} {l:List ErX} (h:ErV w0 w l) (x:ErX) (hx:x∈l):Calls Tryz.prog 25 #[.iface 183 (.pointer (some ⟨x.2.2,0,none⟩))] w fun e w'=>e= .returned (.int .i64 1)∧Below w.heap.size w w':=code_at x.1 x.2.1 1 _ w (h.err x hx) h.laid
theorem nil_err {w:World} {b:Nat} {op:ByteArray} {id:Int} (h:Whole w b 187 #[.string op,.int .i64 id,.iface 28 (.int .i64 1)]):er.ErrAt w [b] [(op,id)] 1 (fvV b):=⟨rfl,_,h,rfl⟩
theorem nil_walk (w:World) (hl:LaidT w) (id n:Int) (s:ByteArray):Calls Tryz.prog 4 #[.int .i64 id,.int .i64 n,.string s] w fun e w'=>e= .returned (.bool true)∧Below w.heap.size w w':=by
 have HE:Hid (ErV w w []):=⟨fun x hx=>(by cases hx),hl,Below.refl _ _⟩
 clear hl
 go_enter Tryz.func4,Tryz.ntmps4
 go_wp2_with fail
 refine (vread_nil _ _ _ _).mono ?_
 rintro e w1 ⟨bR,oR,iR,rfl,hw,hb⟩
 have HE:=Lib.hid (HE.out.add hb (x:=([bR],[(oR,iR)],bR)) (nil_err hw))
 clear hw hb
 go_wp2_with fail
 refine (vof_nil _ _).mono ?_
 rintro e w2 ⟨bF,oF,iF,rfl,hw,hb⟩
 have HE:=Lib.hid (HE.out.add hb (x:=([bF],[(oF,iF)],bF)) (nil_err hw))
 clear hw hb
 go_wp2_with fail
 refine (vopen_nil _).mono ?_
 rintro e w3 ⟨bG,bH,rfl,hb,he⟩
 have HE:=Lib.hid (HE.out.add hb (x:=([bG,bH],[(opnS,0),(openName,0)],bG)) he)
 clear he hb
 go_wp2_with fail
 refine (awake_any _ HE.out.laid).mono ?_
 rintro e w4 ⟨rfl,hb⟩
 have HE:=Lib.hid (HE.out.below hb)
 clear hb
 go_wp2_with fail
 refine (vcreate_nil _ _ _).mono ?_
 rintro e w5 ⟨bA,oA,iA,rfl,hw,hb⟩
 have HE:=Lib.hid (HE.out.add hb (x:=([bA],[(oA,iA)],bA)) (nil_err hw))
 clear hw hb
 go_wp2_with fail
 refine (HE.out.code ([bA],[(oA,iA)],bA) (by simp)).mono ?_
 rintro e w6 ⟨rfl,hb⟩
 have HE:=Lib.hid (HE.out.below hb)
 clear hb
 go_wp2_with fail
 refine (vresize_nil _ _ _).mono ?_
 rintro e w7 ⟨bB,oB,iB,rfl,hw,hb⟩
 have HE:=Lib.hid (HE.out.add hb (x:=([bB],[(oB,iB)],bB)) (nil_err hw))
 clear hw hb
 go_wp2_with fail
 refine (HE.out.code ([bB],[(oB,iB)],bB) (by simp)).mono ?_
 rintro e w8 ⟨rfl,hb⟩
 have HE:=Lib.hid (HE.out.below hb)
 clear hb
 go_wp2_with fail
 refine (vdelete_nil _ _).mono ?_
 rintro e w9 ⟨bC,oC,iC,rfl,hw,hb⟩
 have HE:=Lib.hid (HE.out.add hb (x:=([bC],[(oC,iC)],bC)) (nil_err hw))
 clear hw hb
 go_wp2_with fail
 refine (HE.out.code ([bC],[(oC,iC)],bC) (by simp)).mono ?_
 rintro e w10 ⟨rfl,hb⟩
 have HE:=Lib.hid (HE.out.below hb)
 clear hb
 go_wp2_with fail
 refine (vwrite_nil _ _ _ _).mono ?_
 rintro e w11 ⟨bD,oD,iD,rfl,hw,hb⟩
 have HE:=Lib.hid (HE.out.add hb (x:=([bD],[(oD,iD)],bD)) (nil_err hw))
 clear hw hb
 go_wp2_with fail
 refine (HE.out.code ([bD],[(oD,iD)],bD) (by simp)).mono ?_
 rintro e w12 ⟨rfl,hb⟩
 have HE:=Lib.hid (HE.out.below hb)
 clear hb
 go_wp2_with fail
 refine (vzero_nil _ _ _ _).mono ?_
 rintro e w13 ⟨bE,oE,iE,rfl,hw,hb⟩
 have HE:=Lib.hid (HE.out.add hb (x:=([bE],[(oE,iE)],bE)) (nil_err hw))
 clear hw hb
 go_wp2_with fail
 refine (HE.out.code ([bE],[(oE,iE)],bE) (by simp)).mono ?_
 rintro e w14 ⟨rfl,hb⟩
 have HE:=Lib.hid (HE.out.below hb)
 clear hb
 go_wp2_with fail
 refine (vtrim_nil _ _ _ _).mono ?_
 rintro e w15 ⟨bT,oT,iT,rfl,hw,hb⟩
 have HE:=Lib.hid (HE.out.add hb (x:=([bT],[(oT,iT)],bT)) (nil_err hw))
 clear hw hb
 go_wp2_with fail
 refine (HE.out.code ([bT],[(oT,iT)],bT) (by simp)).mono ?_
 rintro e w16 ⟨rfl,hb⟩
 have HE:=Lib.hid (HE.out.below hb)
 clear hb
 go_wp2_with fail
 refine (HE.out.code ([bR],[(oR,iR)],bR) (by simp)).mono ?_
 rintro e w17 ⟨rfl,hb⟩
 have HE:=Lib.hid (HE.out.below hb)
 clear hb
 go_wp2_with fail
 refine (vcommit_nil _).mono ?_
 rintro e w18 ⟨bM,oM,iM,rfl,hw,hb⟩
 have HE:=Lib.hid (HE.out.add hb (x:=([bM],[(oM,iM)],bM)) (nil_err hw))
 clear hw hb
 go_wp2_with fail
 refine (HE.out.code ([bM],[(oM,iM)],bM) (by simp)).mono ?_
 rintro e w19 ⟨rfl,hb⟩
 have HE:=Lib.hid (HE.out.below hb)
 clear hb
 go_wp2_with fail
 refine (vmove_nil _ _).mono ?_
 rintro e w20 ⟨bN,oN,iN,rfl,hw,hb⟩
 have HE:=Lib.hid (HE.out.add hb (x:=([bN],[(oN,iN)],bN)) (nil_err hw))
 clear hw hb
 go_wp2_with fail
 refine (HE.out.code ([bN],[(oN,iN)],bN) (by simp)).mono ?_
 rintro e w21 ⟨rfl,hb⟩
 have HE:=Lib.hid (HE.out.below hb)
 clear hb
 go_wp2_with fail
 refine (vneeded_nil _).mono ?_
 rintro e w22 ⟨rfl,rfl⟩
 go_wp2_with fail
 refine (vsure_nil _).mono ?_
 rintro e w23 ⟨rfl,rfl⟩
 go_wp2_with fail
 refine (vgen_nil _).mono ?_
 rintro e w24 ⟨rfl,rfl⟩
 go_wp2_with fail
 refine (vleft_nil _).mono ?_
 rintro e w25 ⟨rfl,rfl⟩
 go_wp2_with fail
 refine (HE.out.code ([bF],[(oF,iF)],bF) (by simp)).mono ?_
 rintro e w26 ⟨rfl,hb⟩
 have HE:=Lib.hid (HE.out.below hb)
 clear hb
 go_wp2_with fail
 refine (vspaces_nil _).mono ?_
 rintro e w27 ⟨rfl,rfl⟩
 go_wp2_with fail
 refine (vstore_nil _).mono ?_
 rintro e w28 ⟨rfl,rfl⟩
 go_wp2_with fail
 refine (HE.out.code ([bG,bH],[(opnS,0),(openName,0)],bG) (by simp)).mono ?_
 rintro e w29 ⟨rfl,hb⟩
 have HE:=Lib.hid (HE.out.below hb)
 clear hb
 go_wp2_with fail
 go_ret
 exact ⟨rfl,HE.out.bel⟩
end Go.Proofs.YtfialjmemcobjaaGreatDoor.vo
