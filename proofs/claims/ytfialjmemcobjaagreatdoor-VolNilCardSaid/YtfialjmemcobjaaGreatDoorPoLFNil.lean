/- A part of the proof. -/
import Derived.Test.YtfialjmemcobjaaGreatDoorPoFlB
import Derived.SevenTiedAt
import Derived.Test.YtfialjmemcobjaaGreatDoorCards
import Derived.Test.YtfialjmemcobjaaGreatDoorTie
set_option linter.unusedVariables false
set_option linter.unusedSimpArgs false
namespace Go.Proofs.YtfialjmemcobjaaGreatDoor.volNil
set_option linter.unusedVariables false
theorem andT {a b:Bool} (h1:a=true) (h2:b=true):(a && b)=true:=by rw [h1,h2];rfl
theorem zf0 (P:Program) (hP:P=Tryz.prog) (fn:Func) (hfn:fn=Tryz.f4) (s:ChangeSpec) (hs:s=Rows.volNilSpec) (c:OpenClaim) (hc:c=Rows.volNilRow) (f:FuncId) (hf:f=4):(c.wf (OpenSpec.ofChange s))=true:=by
 subst hP hfn hs hc hf
 kernel_rfl
theorem zf1 (P:Program) (hP:P=Tryz.prog) (fn:Func) (hfn:fn=Tryz.f4) (s:ChangeSpec) (hs:s=Rows.volNilSpec) (c:OpenClaim) (hc:c=Rows.volNilRow) (f:FuncId) (hf:f=4):(laidOutB P)=true:=by
 subst hP hfn hs hc hf
 kernel_rfl
theorem zf2 (P:Program) (hP:P=Tryz.prog) (fn:Func) (hfn:fn=Tryz.f4) (s:ChangeSpec) (hs:s=Rows.volNilSpec) (c:OpenClaim) (hc:c=Rows.volNilRow) (f:FuncId) (hf:f=4):(mapsRowed P)=true:=by
 subst hP hfn hs hc hf
 kernel_rfl
theorem zf3 (P:Program) (hP:P=Tryz.prog) (fn:Func) (hfn:fn=Tryz.f4) (s:ChangeSpec) (hs:s=Rows.volNilSpec) (c:OpenClaim) (hc:c=Rows.volNilRow) (f:FuncId) (hf:f=4):(fn.params.all (P.readableRec ·))=true:=by
 subst hP hfn hs hc hf
 kernel_rfl
theorem zf4 (P:Program) (hP:P=Tryz.prog) (fn:Func) (hfn:fn=Tryz.f4) (s:ChangeSpec) (hs:s=Rows.volNilSpec) (c:OpenClaim) (hc:c=Rows.volNilRow) (f:FuncId) (hf:f=4):(namedTie P c.named s.vars)=true:=by
 subst hP hfn hs hc hf
 kernel_rfl
theorem zf5 (P:Program) (hP:P=Tryz.prog) (fn:Func) (hfn:fn=Tryz.f4) (s:ChangeSpec) (hs:s=Rows.volNilSpec) (c:OpenClaim) (hc:c=Rows.volNilRow) (f:FuncId) (hf:f=4):((c.stops == []))=true:=by
 subst hP hfn hs hc hf
 kernel_rfl
theorem zf6 (P:Program) (hP:P=Tryz.prog) (fn:Func) (hfn:fn=Tryz.f4) (s:ChangeSpec) (hs:s=Rows.volNilSpec) (c:OpenClaim) (hc:c=Rows.volNilRow) (f:FuncId) (hf:f=4):((P.stops == []))=true:=by
 subst hP hfn hs hc hf
 kernel_rfl
theorem zf7 (P:Program) (hP:P=Tryz.prog) (fn:Func) (hfn:fn=Tryz.f4) (s:ChangeSpec) (hs:s=Rows.volNilSpec) (c:OpenClaim) (hc:c=Rows.volNilRow) (f:FuncId) (hf:f=4):((c.knobs == []))=true:=by
 subst hP hfn hs hc hf
 kernel_rfl
theorem zf8 (P:Program) (hP:P=Tryz.prog) (fn:Func) (hfn:fn=Tryz.f4) (s:ChangeSpec) (hs:s=Rows.volNilSpec) (c:OpenClaim) (hc:c=Rows.volNilRow) (f:FuncId) (hf:f=4):((P.stopKnobs == []))=true:=by
 subst hP hfn hs hc hf
 kernel_rfl
theorem zf9 (P:Program) (hP:P=Tryz.prog) (fn:Func) (hfn:fn=Tryz.f4) (s:ChangeSpec) (hs:s=Rows.volNilSpec) (c:OpenClaim) (hc:c=Rows.volNilRow) (f:FuncId) (hf:f=4):((c.inPlace == P.inPlace f))=true:=by
 subst hP hfn hs hc hf
 kernel_rfl
theorem zf10 (P:Program) (hP:P=Tryz.prog) (fn:Func) (hfn:fn=Tryz.f4) (s:ChangeSpec) (hs:s=Rows.volNilSpec) (c:OpenClaim) (hc:c=Rows.volNilRow) (f:FuncId) (hf:f=4):((c.unfollowed == P.unfollowed f))=true:=by
 subst hP hfn hs hc hf
 kernel_rfl
theorem zf11 (P:Program) (hP:P=Tryz.prog) (fn:Func) (hfn:fn=Tryz.f4) (s:ChangeSpec) (hs:s=Rows.volNilSpec) (c:OpenClaim) (hc:c=Rows.volNilRow) (f:FuncId) (hf:f=4):((c.recurses == P.recurses f))=true:=by
 subst hP hfn hs hc hf
 kernel_rfl
theorem zf12 (P:Program) (hP:P=Tryz.prog) (fn:Func) (hfn:fn=Tryz.f4) (s:ChangeSpec) (hs:s=Rows.volNilSpec) (c:OpenClaim) (hc:c=Rows.volNilRow) (f:FuncId) (hf:f=4):((c.named == P.varsNamed f))=true:=by
 subst hP hfn hs hc hf
 kernel_rfl
theorem zf13 (P:Program) (hP:P=Tryz.prog) (fn:Func) (hfn:fn=Tryz.f4) (s:ChangeSpec) (hs:s=Rows.volNilSpec) (c:OpenClaim) (hc:c=Rows.volNilRow) (f:FuncId) (hf:f=4):((c.maps == (fn.params.toList++s.plain.varTypes P).any (P.mapsRec ·)))=true:=by
 subst hP hfn hs hc hf
 kernel_rfl
theorem zf14 (P:Program) (hP:P=Tryz.prog) (fn:Func) (hfn:fn=Tryz.f4) (s:ChangeSpec) (hs:s=Rows.volNilSpec) (c:OpenClaim) (hc:c=Rows.volNilRow) (f:FuncId) (hf:f=4):((c.ifaces == (fn.params.toList++s.plain.varTypes P).any (P.ifacesRec ·)))=true:=by
 subst hP hfn hs hc hf
 kernel_rfl
theorem zf15 (P:Program) (hP:P=Tryz.prog) (fn:Func) (hfn:fn=Tryz.f4) (s:ChangeSpec) (hs:s=Rows.volNilSpec) (c:OpenClaim) (hc:c=Rows.volNilRow) (f:FuncId) (hf:f=4):((c.mapsOut == P.mapsAmong fn.resultTypes.toList))=true:=by
 subst hP hfn hs hc hf
 kernel_rfl
theorem zf16 (P:Program) (hP:P=Tryz.prog) (fn:Func) (hfn:fn=Tryz.f4) (s:ChangeSpec) (hs:s=Rows.volNilSpec) (c:OpenClaim) (hc:c=Rows.volNilRow) (f:FuncId) (hf:f=4):((c.loops == (fn.params.toList++s.plain.varTypes P).any (P.loopsFrom ·)))=true:=by
 subst hP hfn hs hc hf
 kernel_rfl
theorem zf17 (P:Program) (hP:P=Tryz.prog) (fn:Func) (hfn:fn=Tryz.f4) (s:ChangeSpec) (hs:s=Rows.volNilSpec) (c:OpenClaim) (hc:c=Rows.volNilRow) (f:FuncId) (hf:f=4):((c.wideKeys == (fn.params.toList++s.plain.varTypes P++fn.resultTypes.toList).any (P.wideKeysFrom ·)))=true:=by
 subst hP hfn hs hc hf
 kernel_rfl
theorem zf18 (P:Program) (hP:P=Tryz.prog) (fn:Func) (hfn:fn=Tryz.f4) (s:ChangeSpec) (hs:s=Rows.volNilSpec) (c:OpenClaim) (hc:c=Rows.volNilRow) (f:FuncId) (hf:f=4):(s.vars.all (P.varReadable ·))=true:=by
 subst hP hfn hs hc hf
 kernel_rfl
theorem zf19 (P:Program) (hP:P=Tryz.prog) (fn:Func) (hfn:fn=Tryz.f4) (s:ChangeSpec) (hs:s=Rows.volNilSpec) (c:OpenClaim) (hc:c=Rows.volNilRow) (f:FuncId) (hf:f=4):(fn.resultTypes.all (fun t=>P.readableRec t && decide (t < P.types.size)))=true:=by
 subst hP hfn hs hc hf
 kernel_rfl
theorem zf20 (P:Program) (hP:P=Tryz.prog) (fn:Func) (hfn:fn=Tryz.f4) (s:ChangeSpec) (hs:s=Rows.volNilSpec) (c:OpenClaim) (hc:c=Rows.volNilRow) (f:FuncId) (hf:f=4):((c.ifacesOut == fn.resultTypes.toList.any (P.ifacesRec ·)))=true:=by
 subst hP hfn hs hc hf
 kernel_rfl
theorem zf21 (P:Program) (hP:P=Tryz.prog) (fn:Func) (hfn:fn=Tryz.f4) (s:ChangeSpec) (hs:s=Rows.volNilSpec) (c:OpenClaim) (hc:c=Rows.volNilRow) (f:FuncId) (hf:f=4):((c.loopsOut == fn.resultTypes.toList.any (P.loopsFrom ·)))=true:=by
 subst hP hfn hs hc hf
 kernel_rfl
theorem zf22 (P:Program) (hP:P=Tryz.prog) (fn:Func) (hfn:fn=Tryz.f4) (s:ChangeSpec) (hs:s=Rows.volNilSpec) (c:OpenClaim) (hc:c=Rows.volNilRow) (f:FuncId) (hf:f=4):((c.plainKeys == P.plainKeys))=true:=by
 subst hP hfn hs hc hf
 kernel_rfl
theorem zf23 (P:Program) (hP:P=Tryz.prog) (fn:Func) (hfn:fn=Tryz.f4) (s:ChangeSpec) (hs:s=Rows.volNilSpec) (c:OpenClaim) (hc:c=Rows.volNilRow) (f:FuncId) (hf:f=4):(c.shortTexts.isNone)=true:=by
 subst hP hfn hs hc hf
 kernel_rfl
theorem zf24 (P:Program) (hP:P=Tryz.prog) (fn:Func) (hfn:fn=Tryz.f4) (s:ChangeSpec) (hs:s=Rows.volNilSpec) (c:OpenClaim) (hc:c=Rows.volNilRow) (f:FuncId) (hf:f=4):(P.stopsHeard)=true:=by
 subst hP hfn hs hc hf
 kernel_rfl
theorem zf25 (P:Program) (hP:P=Tryz.prog) (fn:Func) (hfn:fn=Tryz.f4) (s:ChangeSpec) (hs:s=Rows.volNilSpec) (c:OpenClaim) (hc:c=Rows.volNilRow) (f:FuncId) (hf:f=4):(P.mayEnter)=true:=by
 subst hP hfn hs hc hf
 kernel_rfl
theorem zf26 (P:Program) (hP:P=Tryz.prog) (fn:Func) (hfn:fn=Tryz.f4) (s:ChangeSpec) (hs:s=Rows.volNilSpec) (c:OpenClaim) (hc:c=Rows.volNilRow) (f:FuncId) (hf:f=4):((c.lifted == P.liftsFinal))=true:=by
 subst hP hfn hs hc hf
 kernel_rfl
theorem zf27 (P:Program) (hP:P=Tryz.prog) (fn:Func) (hfn:fn=Tryz.f4) (s:ChangeSpec) (hs:s=Rows.volNilSpec) (c:OpenClaim) (hc:c=Rows.volNilRow) (f:FuncId) (hf:f=4):((P.make == some c.make))=true:=by
 subst hP hfn hs hc hf
 kernel_rfl
theorem zf28 (P:Program) (hP:P=Tryz.prog) (fn:Func) (hfn:fn=Tryz.f4) (s:ChangeSpec) (hs:s=Rows.volNilSpec) (c:OpenClaim) (hc:c=Rows.volNilRow) (f:FuncId) (hf:f=4):((c.kinds == (if c.domain.isEmpty then [] else fn.params.toList.map fun t=>match P.underlying t with|some (.int k)=>some k|_=>none)))=true:=by
 subst hP hfn hs hc hf
 kernel_rfl
theorem zf29 (P:Program) (hP:P=Tryz.prog) (fn:Func) (hfn:fn=Tryz.f4) (s:ChangeSpec) (hs:s=Rows.volNilSpec) (c:OpenClaim) (hc:c=Rows.volNilRow) (f:FuncId) (hf:f=4):((c.pinned == c.pinnedBy))=true:=by
 subst hP hfn hs hc hf
 kernel_rfl
theorem zf30 (P:Program) (hP:P=Tryz.prog) (fn:Func) (hfn:fn=Tryz.f4) (s:ChangeSpec) (hs:s=Rows.volNilSpec) (c:OpenClaim) (hc:c=Rows.volNilRow) (f:FuncId) (hf:f=4):((c.veiled == (fn.params.toList++s.plain.varTypes P++fn.resultTypes.toList).any (P.veiledRec ·)))=true:=by
 subst hP hfn hs hc hf
 kernel_rfl
theorem zf31 (P:Program) (hP:P=Tryz.prog) (fn:Func) (hfn:fn=Tryz.f4) (s:ChangeSpec) (hs:s=Rows.volNilSpec) (c:OpenClaim) (hc:c=Rows.volNilRow) (f:FuncId) (hf:f=4):(c.veiledFits P fn.params.toList (fn.params.toList++s.plain.varTypes P++fn.resultTypes.toList))=true:=by
 subst hP hfn hs hc hf
 kernel_rfl
set_option maxRecDepth 100000 in
theorem closed:joinedFacts Tryz.prog 4 Tryz.f4 Rows.volNilSpec Rows.volNilRow=true:=by
 unfold joinedFacts
 exact andT (andT (andT (andT (andT (andT (andT (andT (andT (andT (andT (andT (andT (andT (andT (andT (andT (andT (andT (andT (andT (andT (andT (andT (andT (andT (andT (andT (andT (andT (andT (zf0 Tryz.prog rfl Tryz.f4 rfl Rows.volNilSpec rfl Rows.volNilRow rfl 4 rfl) (zf1 Tryz.prog rfl Tryz.f4 rfl Rows.volNilSpec rfl Rows.volNilRow rfl 4 rfl)) (zf2 Tryz.prog rfl Tryz.f4 rfl Rows.volNilSpec rfl Rows.volNilRow rfl 4 rfl)) (zf3 Tryz.prog rfl Tryz.f4 rfl Rows.volNilSpec rfl Rows.volNilRow rfl 4 rfl)) (zf4 Tryz.prog rfl Tryz.f4 rfl Rows.volNilSpec rfl Rows.volNilRow rfl 4 rfl)) (zf5 Tryz.prog rfl Tryz.f4 rfl Rows.volNilSpec rfl Rows.volNilRow rfl 4 rfl)) (zf6 Tryz.prog rfl Tryz.f4 rfl Rows.volNilSpec rfl Rows.volNilRow rfl 4 rfl)) (zf7 Tryz.prog rfl Tryz.f4 rfl Rows.volNilSpec rfl Rows.volNilRow rfl 4 rfl)) (zf8 Tryz.prog rfl Tryz.f4 rfl Rows.volNilSpec rfl Rows.volNilRow rfl 4 rfl)) (zf9 Tryz.prog rfl Tryz.f4 rfl Rows.volNilSpec rfl Rows.volNilRow rfl 4 rfl)) (zf10 Tryz.prog rfl Tryz.f4 rfl Rows.volNilSpec rfl Rows.volNilRow rfl 4 rfl)) (zf11 Tryz.prog rfl Tryz.f4 rfl Rows.volNilSpec rfl Rows.volNilRow rfl 4 rfl)) (zf12 Tryz.prog rfl Tryz.f4 rfl Rows.volNilSpec rfl Rows.volNilRow rfl 4 rfl)) (zf13 Tryz.prog rfl Tryz.f4 rfl Rows.volNilSpec rfl Rows.volNilRow rfl 4 rfl)) (zf14 Tryz.prog rfl Tryz.f4 rfl Rows.volNilSpec rfl Rows.volNilRow rfl 4 rfl)) (zf15 Tryz.prog rfl Tryz.f4 rfl Rows.volNilSpec rfl Rows.volNilRow rfl 4 rfl)) (zf16 Tryz.prog rfl Tryz.f4 rfl Rows.volNilSpec rfl Rows.volNilRow rfl 4 rfl)) (zf17 Tryz.prog rfl Tryz.f4 rfl Rows.volNilSpec rfl Rows.volNilRow rfl 4 rfl)) (zf18 Tryz.prog rfl Tryz.f4 rfl Rows.volNilSpec rfl Rows.volNilRow rfl 4 rfl)) (zf19 Tryz.prog rfl Tryz.f4 rfl Rows.volNilSpec rfl Rows.volNilRow rfl 4 rfl)) (zf20 Tryz.prog rfl Tryz.f4 rfl Rows.volNilSpec rfl Rows.volNilRow rfl 4 rfl)) (zf21 Tryz.prog rfl Tryz.f4 rfl Rows.volNilSpec rfl Rows.volNilRow rfl 4 rfl)) (zf22 Tryz.prog rfl Tryz.f4 rfl Rows.volNilSpec rfl Rows.volNilRow rfl 4 rfl)) (zf23 Tryz.prog rfl Tryz.f4 rfl Rows.volNilSpec rfl Rows.volNilRow rfl 4 rfl)) (zf24 Tryz.prog rfl Tryz.f4 rfl Rows.volNilSpec rfl Rows.volNilRow rfl 4 rfl)) (zf25 Tryz.prog rfl Tryz.f4 rfl Rows.volNilSpec rfl Rows.volNilRow rfl 4 rfl)) (zf26 Tryz.prog rfl Tryz.f4 rfl Rows.volNilSpec rfl Rows.volNilRow rfl 4 rfl)) (zf27 Tryz.prog rfl Tryz.f4 rfl Rows.volNilSpec rfl Rows.volNilRow rfl 4 rfl)) (zf28 Tryz.prog rfl Tryz.f4 rfl Rows.volNilSpec rfl Rows.volNilRow rfl 4 rfl)) (zf29 Tryz.prog rfl Tryz.f4 rfl Rows.volNilSpec rfl Rows.volNilRow rfl 4 rfl)) (zf30 Tryz.prog rfl Tryz.f4 rfl Rows.volNilSpec rfl Rows.volNilRow rfl 4 rfl)) (zf31 Tryz.prog rfl Tryz.f4 rfl Rows.volNilSpec rfl Rows.volNilRow rfl 4 rfl)
theorem named_:Tryz.prog.funcNamed Rows.volNilRow.func=some 4:=by kernel_rfl
theorem inst_:Tryz.f4.isInstance Tryz.prog Rows.volNilRow.origin Rows.volNilRow.targs:=of_decide_eq_true (by kernel_rfl)
theorem wrap_:Tryz.f4.isWrapper Tryz.prog Rows.volNilRow.wrapper Rows.volNilRow.mainSum:=by unfold Func.isWrapper;rw [if_neg (of_decide_eq_false (by kernel_rfl))];exact ⟨rfl,rfl⟩
theorem text_:Rows.volNilRow.wfByText (OpenSpec.ofChange Rows.volNilSpec)=true:=by kernel_rfl
theorem main_ : Tryz.prog.mainIs = some (true, "4d4d5d5bb5b6c4ebda111cab19cafef46ee47064a84090d48dce7065c7ca08e4".toList) := by kernel_rfl
theorem looks_:true=Tryz.prog.looks []:=by kernel_rfl
theorem goes_:false=Rows.volNilRow.goesBy Tryz.prog:=by kernel_rfl
theorem stand0:Tryz.prog.wantsStandIn 3=false:=by kernel_rfl
theorem stand1:Tryz.prog.wantsStandIn 3=false:=by kernel_rfl
theorem stand2:Tryz.prog.wantsStandIn 9=false:=by kernel_rfl
end Go.Proofs.YtfialjmemcobjaaGreatDoor.volNil
