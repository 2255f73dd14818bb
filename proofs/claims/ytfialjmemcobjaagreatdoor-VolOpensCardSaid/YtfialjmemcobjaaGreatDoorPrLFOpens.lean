/- A part of the proof. -/
import Derived.Test.YtfialjmemcobjaaGreatDoorPrFlB
import Derived.SevenTiedAt
import Derived.Test.YtfialjmemcobjaaGreatDoorCards
import Derived.Test.YtfialjmemcobjaaGreatDoorTie
set_option linter.unusedVariables false
set_option linter.unusedSimpArgs false
namespace Go.Proofs.YtfialjmemcobjaaGreatDoor
namespace volOpens
theorem Jw {a b:Bool} (h1:a=true) (h2:b=true):(a && b)=true:=by rw [h1,h2];rfl
theorem zf0 (P:Program) (hP:P=Tryz.prog) (fn:Func) (hfn:fn=Tryz.f3) (s:ChangeSpec) (hs:s=Rows.volOpensSpec) (c:OpenClaim) (hc:c=Rows.volOpensRow) (f:FuncId) (hf:f=3):(c.wf (OpenSpec.ofChange s))=true:=by
 subst hP hfn hs hc hf
 kernel_rfl
theorem zf1 (P:Program) (hP:P=Tryz.prog) (fn:Func) (hfn:fn=Tryz.f3) (s:ChangeSpec) (hs:s=Rows.volOpensSpec) (c:OpenClaim) (hc:c=Rows.volOpensRow) (f:FuncId) (hf:f=3):(laidOutB P)=true:=by
 subst hP hfn hs hc hf
 kernel_rfl
theorem zf2 (P:Program) (hP:P=Tryz.prog) (fn:Func) (hfn:fn=Tryz.f3) (s:ChangeSpec) (hs:s=Rows.volOpensSpec) (c:OpenClaim) (hc:c=Rows.volOpensRow) (f:FuncId) (hf:f=3):(mapsRowed P)=true:=by
 subst hP hfn hs hc hf
 kernel_rfl
theorem zf3 (P:Program) (hP:P=Tryz.prog) (fn:Func) (hfn:fn=Tryz.f3) (s:ChangeSpec) (hs:s=Rows.volOpensSpec) (c:OpenClaim) (hc:c=Rows.volOpensRow) (f:FuncId) (hf:f=3):(fn.params.all (P.readableRec ·))=true:=by
 subst hP hfn hs hc hf
 kernel_rfl
theorem zf4 (P:Program) (hP:P=Tryz.prog) (fn:Func) (hfn:fn=Tryz.f3) (s:ChangeSpec) (hs:s=Rows.volOpensSpec) (c:OpenClaim) (hc:c=Rows.volOpensRow) (f:FuncId) (hf:f=3):(namedTie P c.named s.vars)=true:=by
 subst hP hfn hs hc hf
 kernel_rfl
theorem zf5 (P:Program) (hP:P=Tryz.prog) (fn:Func) (hfn:fn=Tryz.f3) (s:ChangeSpec) (hs:s=Rows.volOpensSpec) (c:OpenClaim) (hc:c=Rows.volOpensRow) (f:FuncId) (hf:f=3):((c.stops == []))=true:=by
 subst hP hfn hs hc hf
 kernel_rfl
theorem zf6 (P:Program) (hP:P=Tryz.prog) (fn:Func) (hfn:fn=Tryz.f3) (s:ChangeSpec) (hs:s=Rows.volOpensSpec) (c:OpenClaim) (hc:c=Rows.volOpensRow) (f:FuncId) (hf:f=3):((P.stops == []))=true:=by
 subst hP hfn hs hc hf
 kernel_rfl
theorem zf7 (P:Program) (hP:P=Tryz.prog) (fn:Func) (hfn:fn=Tryz.f3) (s:ChangeSpec) (hs:s=Rows.volOpensSpec) (c:OpenClaim) (hc:c=Rows.volOpensRow) (f:FuncId) (hf:f=3):((c.knobs == []))=true:=by
 subst hP hfn hs hc hf
 kernel_rfl
theorem zf8 (P:Program) (hP:P=Tryz.prog) (fn:Func) (hfn:fn=Tryz.f3) (s:ChangeSpec) (hs:s=Rows.volOpensSpec) (c:OpenClaim) (hc:c=Rows.volOpensRow) (f:FuncId) (hf:f=3):((P.stopKnobs == []))=true:=by
 subst hP hfn hs hc hf
 kernel_rfl
theorem zf9 (P:Program) (hP:P=Tryz.prog) (fn:Func) (hfn:fn=Tryz.f3) (s:ChangeSpec) (hs:s=Rows.volOpensSpec) (c:OpenClaim) (hc:c=Rows.volOpensRow) (f:FuncId) (hf:f=3):((c.inPlace == P.inPlace f))=true:=by
 subst hP hfn hs hc hf
 kernel_rfl
theorem Qlg (P:Program) (hP:P=Tryz.prog) (fn:Func) (hfn:fn=Tryz.f3) (s:ChangeSpec) (hs:s=Rows.volOpensSpec) (c:OpenClaim) (hc:c=Rows.volOpensRow) (f:FuncId) (hf:f=3):((c.unfollowed == P.unfollowed f))=true:=by
 subst hP hfn hs hc hf
 kernel_rfl
theorem Qlu (P:Program) (hP:P=Tryz.prog) (fn:Func) (hfn:fn=Tryz.f3) (s:ChangeSpec) (hs:s=Rows.volOpensSpec) (c:OpenClaim) (hc:c=Rows.volOpensRow) (f:FuncId) (hf:f=3):((c.recurses == P.recurses f))=true:=by
 subst hP hfn hs hc hf
 kernel_rfl
theorem Qly (P:Program) (hP:P=Tryz.prog) (fn:Func) (hfn:fn=Tryz.f3) (s:ChangeSpec) (hs:s=Rows.volOpensSpec) (c:OpenClaim) (hc:c=Rows.volOpensRow) (f:FuncId) (hf:f=3):((c.named == P.varsNamed f))=true:=by
 subst hP hfn hs hc hf
 kernel_rfl
theorem Qlx (P:Program) (hP:P=Tryz.prog) (fn:Func) (hfn:fn=Tryz.f3) (s:ChangeSpec) (hs:s=Rows.volOpensSpec) (c:OpenClaim) (hc:c=Rows.volOpensRow) (f:FuncId) (hf:f=3):((c.maps == (fn.params.toList++s.plain.varTypes P).any (P.mapsRec ·)))=true:=by
 subst hP hfn hs hc hf
 kernel_rfl
theorem Qlj (P:Program) (hP:P=Tryz.prog) (fn:Func) (hfn:fn=Tryz.f3) (s:ChangeSpec) (hs:s=Rows.volOpensSpec) (c:OpenClaim) (hc:c=Rows.volOpensRow) (f:FuncId) (hf:f=3):((c.ifaces == (fn.params.toList++s.plain.varTypes P).any (P.ifacesRec ·)))=true:=by
 subst hP hfn hs hc hf
 kernel_rfl
theorem Qlk (P:Program) (hP:P=Tryz.prog) (fn:Func) (hfn:fn=Tryz.f3) (s:ChangeSpec) (hs:s=Rows.volOpensSpec) (c:OpenClaim) (hc:c=Rows.volOpensRow) (f:FuncId) (hf:f=3):((c.mapsOut == P.mapsAmong fn.resultTypes.toList))=true:=by
 subst hP hfn hs hc hf
 kernel_rfl
theorem Qlz (P:Program) (hP:P=Tryz.prog) (fn:Func) (hfn:fn=Tryz.f3) (s:ChangeSpec) (hs:s=Rows.volOpensSpec) (c:OpenClaim) (hc:c=Rows.volOpensRow) (f:FuncId) (hf:f=3):((c.loops == (fn.params.toList++s.plain.varTypes P).any (P.loopsFrom ·)))=true:=by
 subst hP hfn hs hc hf
 kernel_rfl
theorem Qlq (P:Program) (hP:P=Tryz.prog) (fn:Func) (hfn:fn=Tryz.f3) (s:ChangeSpec) (hs:s=Rows.volOpensSpec) (c:OpenClaim) (hc:c=Rows.volOpensRow) (f:FuncId) (hf:f=3):((c.wideKeys == (fn.params.toList++s.plain.varTypes P++fn.resultTypes.toList).any (P.wideKeysFrom ·)))=true:=by
 subst hP hfn hs hc hf
 kernel_rfl
theorem Qh9 (P:Program) (hP:P=Tryz.prog) (fn:Func) (hfn:fn=Tryz.f3) (s:ChangeSpec) (hs:s=Rows.volOpensSpec) (c:OpenClaim) (hc:c=Rows.volOpensRow) (f:FuncId) (hf:f=3):(s.vars.all (P.varReadable ·))=true:=by
 subst hP hfn hs hc hf
 kernel_rfl
theorem Qh8 (P:Program) (hP:P=Tryz.prog) (fn:Func) (hfn:fn=Tryz.f3) (s:ChangeSpec) (hs:s=Rows.volOpensSpec) (c:OpenClaim) (hc:c=Rows.volOpensRow) (f:FuncId) (hf:f=3):(fn.resultTypes.all (fun t=>P.readableRec t && decide (t < P.types.size)))=true:=by
 subst hP hfn hs hc hf
 kernel_rfl
theorem Qh7 (P:Program) (hP:P=Tryz.prog) (fn:Func) (hfn:fn=Tryz.f3) (s:ChangeSpec) (hs:s=Rows.volOpensSpec) (c:OpenClaim) (hc:c=Rows.volOpensRow) (f:FuncId) (hf:f=3):((c.ifacesOut == fn.resultTypes.toList.any (P.ifacesRec ·)))=true:=by
 subst hP hfn hs hc hf
 kernel_rfl
theorem Qh6 (P:Program) (hP:P=Tryz.prog) (fn:Func) (hfn:fn=Tryz.f3) (s:ChangeSpec) (hs:s=Rows.volOpensSpec) (c:OpenClaim) (hc:c=Rows.volOpensRow) (f:FuncId) (hf:f=3):((c.loopsOut == fn.resultTypes.toList.any (P.loopsFrom ·)))=true:=by
 subst hP hfn hs hc hf
 kernel_rfl
theorem Qh5 (P:Program) (hP:P=Tryz.prog) (fn:Func) (hfn:fn=Tryz.f3) (s:ChangeSpec) (hs:s=Rows.volOpensSpec) (c:OpenClaim) (hc:c=Rows.volOpensRow) (f:FuncId) (hf:f=3):((c.plainKeys == P.plainKeys))=true:=by
 subst hP hfn hs hc hf
 kernel_rfl
theorem Qh4 (P:Program) (hP:P=Tryz.prog) (fn:Func) (hfn:fn=Tryz.f3) (s:ChangeSpec) (hs:s=Rows.volOpensSpec) (c:OpenClaim) (hc:c=Rows.volOpensRow) (f:FuncId) (hf:f=3):(c.shortTexts.isNone)=true:=by
 subst hP hfn hs hc hf
 kernel_rfl
theorem Qh3 (P:Program) (hP:P=Tryz.prog) (fn:Func) (hfn:fn=Tryz.f3) (s:ChangeSpec) (hs:s=Rows.volOpensSpec) (c:OpenClaim) (hc:c=Rows.volOpensRow) (f:FuncId) (hf:f=3):(P.stopsHeard)=true:=by
 subst hP hfn hs hc hf
 kernel_rfl
theorem Qh2 (P:Program) (hP:P=Tryz.prog) (fn:Func) (hfn:fn=Tryz.f3) (s:ChangeSpec) (hs:s=Rows.volOpensSpec) (c:OpenClaim) (hc:c=Rows.volOpensRow) (f:FuncId) (hf:f=3):(P.mayEnter)=true:=by
 subst hP hfn hs hc hf
 kernel_rfl
theorem Qh1 (P:Program) (hP:P=Tryz.prog) (fn:Func) (hfn:fn=Tryz.f3) (s:ChangeSpec) (hs:s=Rows.volOpensSpec) (c:OpenClaim) (hc:c=Rows.volOpensRow) (f:FuncId) (hf:f=3):((c.lifted == P.liftsFinal))=true:=by
 subst hP hfn hs hc hf
 kernel_rfl
theorem Qh0 (P:Program) (hP:P=Tryz.prog) (fn:Func) (hfn:fn=Tryz.f3) (s:ChangeSpec) (hs:s=Rows.volOpensSpec) (c:OpenClaim) (hc:c=Rows.volOpensRow) (f:FuncId) (hf:f=3):((P.make == some c.make))=true:=by
 subst hP hfn hs hc hf
 kernel_rfl
theorem Qhw (P:Program) (hP:P=Tryz.prog) (fn:Func) (hfn:fn=Tryz.f3) (s:ChangeSpec) (hs:s=Rows.volOpensSpec) (c:OpenClaim) (hc:c=Rows.volOpensRow) (f:FuncId) (hf:f=3):((c.kinds == (if c.domain.isEmpty then [] else fn.params.toList.map fun t=>match P.underlying t with|some (.int k)=>some k|_=>none)))=true:=by
 subst hP hfn hs hc hf
 kernel_rfl
theorem Qhv (P:Program) (hP:P=Tryz.prog) (fn:Func) (hfn:fn=Tryz.f3) (s:ChangeSpec) (hs:s=Rows.volOpensSpec) (c:OpenClaim) (hc:c=Rows.volOpensRow) (f:FuncId) (hf:f=3):((c.pinned == c.pinnedBy))=true:=by
 subst hP hfn hs hc hf
 kernel_rfl
theorem Qht (P:Program) (hP:P=Tryz.prog) (fn:Func) (hfn:fn=Tryz.f3) (s:ChangeSpec) (hs:s=Rows.volOpensSpec) (c:OpenClaim) (hc:c=Rows.volOpensRow) (f:FuncId) (hf:f=3):((c.veiled == (fn.params.toList++s.plain.varTypes P++fn.resultTypes.toList).any (P.veiledRec ·)))=true:=by
 subst hP hfn hs hc hf
 kernel_rfl
theorem Qhs (P:Program) (hP:P=Tryz.prog) (fn:Func) (hfn:fn=Tryz.f3) (s:ChangeSpec) (hs:s=Rows.volOpensSpec) (c:OpenClaim) (hc:c=Rows.volOpensRow) (f:FuncId) (hf:f=3):(c.veiledFits P fn.params.toList (fn.params.toList++s.plain.varTypes P++fn.resultTypes.toList))=true:=by
 subst hP hfn hs hc hf
 kernel_rfl
set_option maxRecDepth 100000 in
theorem closed:joinedFacts Tryz.prog 3 Tryz.f3 Rows.volOpensSpec Rows.volOpensRow=true:=by
 unfold joinedFacts
 exact Jw (Jw (Jw (Jw (Jw (Jw (Jw (Jw (Jw (Jw (Jw (Jw (Jw (Jw (Jw (Jw (Jw (Jw (Jw (Jw (Jw (Jw (Jw (Jw (Jw (Jw (Jw (Jw (Jw (Jw (Jw (zf0 Tryz.prog rfl Tryz.f3 rfl Rows.volOpensSpec rfl Rows.volOpensRow rfl 3 rfl) (zf1 Tryz.prog rfl Tryz.f3 rfl Rows.volOpensSpec rfl Rows.volOpensRow rfl 3 rfl)) (zf2 Tryz.prog rfl Tryz.f3 rfl Rows.volOpensSpec rfl Rows.volOpensRow rfl 3 rfl)) (zf3 Tryz.prog rfl Tryz.f3 rfl Rows.volOpensSpec rfl Rows.volOpensRow rfl 3 rfl)) (zf4 Tryz.prog rfl Tryz.f3 rfl Rows.volOpensSpec rfl Rows.volOpensRow rfl 3 rfl)) (zf5 Tryz.prog rfl Tryz.f3 rfl Rows.volOpensSpec rfl Rows.volOpensRow rfl 3 rfl)) (zf6 Tryz.prog rfl Tryz.f3 rfl Rows.volOpensSpec rfl Rows.volOpensRow rfl 3 rfl)) (zf7 Tryz.prog rfl Tryz.f3 rfl Rows.volOpensSpec rfl Rows.volOpensRow rfl 3 rfl)) (zf8 Tryz.prog rfl Tryz.f3 rfl Rows.volOpensSpec rfl Rows.volOpensRow rfl 3 rfl)) (zf9 Tryz.prog rfl Tryz.f3 rfl Rows.volOpensSpec rfl Rows.volOpensRow rfl 3 rfl)) (Qlg Tryz.prog rfl Tryz.f3 rfl Rows.volOpensSpec rfl Rows.volOpensRow rfl 3 rfl)) (Qlu Tryz.prog rfl Tryz.f3 rfl Rows.volOpensSpec rfl Rows.volOpensRow rfl 3 rfl)) (Qly Tryz.prog rfl Tryz.f3 rfl Rows.volOpensSpec rfl Rows.volOpensRow rfl 3 rfl)) (Qlx Tryz.prog rfl Tryz.f3 rfl Rows.volOpensSpec rfl Rows.volOpensRow rfl 3 rfl)) (Qlj Tryz.prog rfl Tryz.f3 rfl Rows.volOpensSpec rfl Rows.volOpensRow rfl 3 rfl)) (Qlk Tryz.prog rfl Tryz.f3 rfl Rows.volOpensSpec rfl Rows.volOpensRow rfl 3 rfl)) (Qlz Tryz.prog rfl Tryz.f3 rfl Rows.volOpensSpec rfl Rows.volOpensRow rfl 3 rfl)) (Qlq Tryz.prog rfl Tryz.f3 rfl Rows.volOpensSpec rfl Rows.volOpensRow rfl 3 rfl)) (Qh9 Tryz.prog rfl Tryz.f3 rfl Rows.volOpensSpec rfl Rows.volOpensRow rfl 3 rfl)) (Qh8 Tryz.prog rfl Tryz.f3 rfl Rows.volOpensSpec rfl Rows.volOpensRow rfl 3 rfl)) (Qh7 Tryz.prog rfl Tryz.f3 rfl Rows.volOpensSpec rfl Rows.volOpensRow rfl 3 rfl)) (Qh6 Tryz.prog rfl Tryz.f3 rfl Rows.volOpensSpec rfl Rows.volOpensRow rfl 3 rfl)) (Qh5 Tryz.prog rfl Tryz.f3 rfl Rows.volOpensSpec rfl Rows.volOpensRow rfl 3 rfl)) (Qh4 Tryz.prog rfl Tryz.f3 rfl Rows.volOpensSpec rfl Rows.volOpensRow rfl 3 rfl)) (Qh3 Tryz.prog rfl Tryz.f3 rfl Rows.volOpensSpec rfl Rows.volOpensRow rfl 3 rfl)) (Qh2 Tryz.prog rfl Tryz.f3 rfl Rows.volOpensSpec rfl Rows.volOpensRow rfl 3 rfl)) (Qh1 Tryz.prog rfl Tryz.f3 rfl Rows.volOpensSpec rfl Rows.volOpensRow rfl 3 rfl)) (Qh0 Tryz.prog rfl Tryz.f3 rfl Rows.volOpensSpec rfl Rows.volOpensRow rfl 3 rfl)) (Qhw Tryz.prog rfl Tryz.f3 rfl Rows.volOpensSpec rfl Rows.volOpensRow rfl 3 rfl)) (Qhv Tryz.prog rfl Tryz.f3 rfl Rows.volOpensSpec rfl Rows.volOpensRow rfl 3 rfl)) (Qht Tryz.prog rfl Tryz.f3 rfl Rows.volOpensSpec rfl Rows.volOpensRow rfl 3 rfl)) (Qhs Tryz.prog rfl Tryz.f3 rfl Rows.volOpensSpec rfl Rows.volOpensRow rfl 3 rfl)
theorem Qo6:Tryz.prog.funcNamed Rows.volOpensRow.func=some 3:=by kernel_rfl
theorem Qf9:Tryz.f3.isInstance Tryz.prog Rows.volOpensRow.origin Rows.volOpensRow.targs:=of_decide_eq_true (by kernel_rfl)
theorem Qfg:Tryz.f3.isWrapper Tryz.prog Rows.volOpensRow.wrapper Rows.volOpensRow.mainSum:=by unfold Func.isWrapper;rw [if_neg (of_decide_eq_false (by kernel_rfl))];exact ⟨rfl,rfl⟩
theorem Qfi:Rows.volOpensRow.wfByText (OpenSpec.ofChange Rows.volOpensSpec)=true:=by kernel_rfl
theorem Qf1 : Tryz.prog.mainIs = some (true, "4d4d5d5bb5b6c4ebda111cab19cafef46ee47064a84090d48dce7065c7ca08e4".toList) := by kernel_rfl
theorem Qci:true=Tryz.prog.looks []:=by kernel_rfl
theorem Qhy:false=Rows.volOpensRow.goesBy Tryz.prog:=by kernel_rfl
theorem Qbw:Tryz.prog.wantsStandIn 22=false:=by kernel_rfl
end volOpens
end Go.Proofs.YtfialjmemcobjaaGreatDoor
