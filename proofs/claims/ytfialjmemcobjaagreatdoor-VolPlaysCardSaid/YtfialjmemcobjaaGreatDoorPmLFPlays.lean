/- A part of the proof. -/
import Derived.Test.YtfialjmemcobjaaGreatDoorPmFlB
import Derived.SevenTiedAt
import Derived.Test.YtfialjmemcobjaaGreatDoorCards
import Derived.Test.YtfialjmemcobjaaGreatDoorTie
set_option maxRecDepth 100000
set_option maxHeartbeats 16000000
set_option linter.unusedVariables false
set_option linter.unusedSimpArgs false
namespace Go.Proofs.YtfialjmemcobjaaGreatDoor
namespace volPlays
theorem O0{a b:Bool}(c:a=true)(d:b=true):(a&&b)=true:=by rw[c,d];rfl
theorem zf0(P:Program)(b:P=Tryz.prog)(fn:Func)(a:fn=Tryz.f5)(s:ChangeSpec)(d:s=Rows.volPlaysSpec)(c:OpenClaim)(e:c=Rows.volPlaysRow)(f:FuncId)(g:f=5):(c.wf (OpenSpec.ofChange s))=true:=by
 subst b a d e g;kernel_rfl
theorem zf1(P:Program)(b:P=Tryz.prog)(fn:Func)(a:fn=Tryz.f5)(s:ChangeSpec)(d:s=Rows.volPlaysSpec)(c:OpenClaim)(e:c=Rows.volPlaysRow)(f:FuncId)(g:f=5):(laidOutB P)=true:=by
 subst b a d e g;kernel_rfl
theorem zf2(P:Program)(b:P=Tryz.prog)(fn:Func)(a:fn=Tryz.f5)(s:ChangeSpec)(d:s=Rows.volPlaysSpec)(c:OpenClaim)(e:c=Rows.volPlaysRow)(f:FuncId)(g:f=5):(mapsRowed P)=true:=by
 subst b a d e g;kernel_rfl
theorem zf3(P:Program)(b:P=Tryz.prog)(fn:Func)(a:fn=Tryz.f5)(s:ChangeSpec)(d:s=Rows.volPlaysSpec)(c:OpenClaim)(e:c=Rows.volPlaysRow)(f:FuncId)(g:f=5):(fn.params.all (P.readableRec ·))=true:=by
 subst b a d e g;kernel_rfl
theorem zf4(P:Program)(b:P=Tryz.prog)(fn:Func)(a:fn=Tryz.f5)(s:ChangeSpec)(d:s=Rows.volPlaysSpec)(c:OpenClaim)(e:c=Rows.volPlaysRow)(f:FuncId)(g:f=5):(namedTie P c.named s.vars)=true:=by
 subst b a d e g;kernel_rfl
theorem zf5(P:Program)(b:P=Tryz.prog)(fn:Func)(a:fn=Tryz.f5)(s:ChangeSpec)(d:s=Rows.volPlaysSpec)(c:OpenClaim)(e:c=Rows.volPlaysRow)(f:FuncId)(g:f=5):((c.stops==[]))=true:=by
 subst b a d e g;kernel_rfl
theorem zf6(P:Program)(b:P=Tryz.prog)(fn:Func)(a:fn=Tryz.f5)(s:ChangeSpec)(d:s=Rows.volPlaysSpec)(c:OpenClaim)(e:c=Rows.volPlaysRow)(f:FuncId)(g:f=5):((P.stops==[]))=true:=by
 subst b a d e g;kernel_rfl
theorem zf7(P:Program)(b:P=Tryz.prog)(fn:Func)(a:fn=Tryz.f5)(s:ChangeSpec)(d:s=Rows.volPlaysSpec)(c:OpenClaim)(e:c=Rows.volPlaysRow)(f:FuncId)(g:f=5):((c.knobs==[]))=true:=by
 subst b a d e g;kernel_rfl
theorem zf8(P:Program)(b:P=Tryz.prog)(fn:Func)(a:fn=Tryz.f5)(s:ChangeSpec)(d:s=Rows.volPlaysSpec)(c:OpenClaim)(e:c=Rows.volPlaysRow)(f:FuncId)(g:f=5):((P.stopKnobs==[]))=true:=by
 subst b a d e g;kernel_rfl
theorem zf9(P:Program)(b:P=Tryz.prog)(fn:Func)(a:fn=Tryz.f5)(s:ChangeSpec)(d:s=Rows.volPlaysSpec)(c:OpenClaim)(e:c=Rows.volPlaysRow)(f:FuncId)(g:f=5):((c.inPlace==P.inPlace f))=true:=by
 subst b a d e g;kernel_rfl
theorem Q66(P:Program)(b:P=Tryz.prog)(fn:Func)(a:fn=Tryz.f5)(s:ChangeSpec)(d:s=Rows.volPlaysSpec)(c:OpenClaim)(e:c=Rows.volPlaysRow)(f:FuncId)(g:f=5):((c.unfollowed==P.unfollowed f))=true:=by
 subst b a d e g;kernel_rfl
theorem Q65(P:Program)(b:P=Tryz.prog)(fn:Func)(a:fn=Tryz.f5)(s:ChangeSpec)(d:s=Rows.volPlaysSpec)(c:OpenClaim)(e:c=Rows.volPlaysRow)(f:FuncId)(g:f=5):((c.recurses==P.recurses f))=true:=by
 subst b a d e g;kernel_rfl
theorem Q64(P:Program)(b:P=Tryz.prog)(fn:Func)(a:fn=Tryz.f5)(s:ChangeSpec)(d:s=Rows.volPlaysSpec)(c:OpenClaim)(e:c=Rows.volPlaysRow)(f:FuncId)(g:f=5):((c.named==P.varsNamed f))=true:=by
 subst b a d e g;kernel_rfl
theorem Q63(P:Program)(b:P=Tryz.prog)(fn:Func)(a:fn=Tryz.f5)(s:ChangeSpec)(d:s=Rows.volPlaysSpec)(c:OpenClaim)(e:c=Rows.volPlaysRow)(f:FuncId)(g:f=5):((c.maps==(fn.params.toList++s.plain.varTypes P).any (P.mapsRec ·)))=true:=by
 subst b a d e g;kernel_rfl
theorem Q62(P:Program)(b:P=Tryz.prog)(fn:Func)(a:fn=Tryz.f5)(s:ChangeSpec)(d:s=Rows.volPlaysSpec)(c:OpenClaim)(e:c=Rows.volPlaysRow)(f:FuncId)(g:f=5):((c.ifaces==(fn.params.toList++s.plain.varTypes P).any (P.ifacesRec ·)))=true:=by
 subst b a d e g;kernel_rfl
theorem Q61(P:Program)(b:P=Tryz.prog)(fn:Func)(a:fn=Tryz.f5)(s:ChangeSpec)(d:s=Rows.volPlaysSpec)(c:OpenClaim)(e:c=Rows.volPlaysRow)(f:FuncId)(g:f=5):((c.mapsOut==P.mapsAmong fn.resultTypes.toList))=true:=by
 subst b a d e g;kernel_rfl
theorem Q60(P:Program)(b:P=Tryz.prog)(fn:Func)(a:fn=Tryz.f5)(s:ChangeSpec)(d:s=Rows.volPlaysSpec)(c:OpenClaim)(e:c=Rows.volPlaysRow)(f:FuncId)(g:f=5):((c.loops==(fn.params.toList++s.plain.varTypes P).any (P.loopsFrom ·)))=true:=by
 subst b a d e g;kernel_rfl
theorem Q6w(P:Program)(b:P=Tryz.prog)(fn:Func)(a:fn=Tryz.f5)(s:ChangeSpec)(d:s=Rows.volPlaysSpec)(c:OpenClaim)(e:c=Rows.volPlaysRow)(f:FuncId)(g:f=5):((c.wideKeys==(fn.params.toList++s.plain.varTypes P++fn.resultTypes.toList).any (P.wideKeysFrom ·)))=true:=by
 subst b a d e g;kernel_rfl
theorem Q6v(P:Program)(b:P=Tryz.prog)(fn:Func)(a:fn=Tryz.f5)(s:ChangeSpec)(d:s=Rows.volPlaysSpec)(c:OpenClaim)(e:c=Rows.volPlaysRow)(f:FuncId)(g:f=5):(s.vars.all (P.varReadable ·))=true:=by
 subst b a d e g;kernel_rfl
theorem Q6t(P:Program)(b:P=Tryz.prog)(fn:Func)(a:fn=Tryz.f5)(s:ChangeSpec)(d:s=Rows.volPlaysSpec)(c:OpenClaim)(e:c=Rows.volPlaysRow)(f:FuncId)(g:f=5):(fn.resultTypes.all (λt=>P.readableRec t&&decide (t<P.types.size)))=true:=by
 subst b a d e g;kernel_rfl
theorem Q6s(P:Program)(b:P=Tryz.prog)(fn:Func)(a:fn=Tryz.f5)(s:ChangeSpec)(d:s=Rows.volPlaysSpec)(c:OpenClaim)(e:c=Rows.volPlaysRow)(f:FuncId)(g:f=5):((c.ifacesOut==fn.resultTypes.toList.any (P.ifacesRec ·)))=true:=by
 subst b a d e g;kernel_rfl
theorem Q6r(P:Program)(b:P=Tryz.prog)(fn:Func)(a:fn=Tryz.f5)(s:ChangeSpec)(d:s=Rows.volPlaysSpec)(c:OpenClaim)(e:c=Rows.volPlaysRow)(f:FuncId)(g:f=5):((c.loopsOut==fn.resultTypes.toList.any (P.loopsFrom ·)))=true:=by
 subst b a d e g;kernel_rfl
theorem Q6p(P:Program)(b:P=Tryz.prog)(fn:Func)(a:fn=Tryz.f5)(s:ChangeSpec)(d:s=Rows.volPlaysSpec)(c:OpenClaim)(e:c=Rows.volPlaysRow)(f:FuncId)(g:f=5):((c.plainKeys==P.plainKeys))=true:=by
 subst b a d e g;kernel_rfl
theorem Q6n(P:Program)(b:P=Tryz.prog)(fn:Func)(a:fn=Tryz.f5)(s:ChangeSpec)(d:s=Rows.volPlaysSpec)(c:OpenClaim)(e:c=Rows.volPlaysRow)(f:FuncId)(g:f=5):(c.shortTexts.isNone)=true:=by
 subst b a d e g;kernel_rfl
theorem Q6m(P:Program)(b:P=Tryz.prog)(fn:Func)(a:fn=Tryz.f5)(s:ChangeSpec)(d:s=Rows.volPlaysSpec)(c:OpenClaim)(e:c=Rows.volPlaysRow)(f:FuncId)(g:f=5):(P.stopsHeard)=true:=by
 subst b a d e g;kernel_rfl
theorem Q6l(P:Program)(b:P=Tryz.prog)(fn:Func)(a:fn=Tryz.f5)(s:ChangeSpec)(d:s=Rows.volPlaysSpec)(c:OpenClaim)(e:c=Rows.volPlaysRow)(f:FuncId)(g:f=5):(P.mayEnter)=true:=by
 subst b a d e g;kernel_rfl
theorem Q6h(P:Program)(b:P=Tryz.prog)(fn:Func)(a:fn=Tryz.f5)(s:ChangeSpec)(d:s=Rows.volPlaysSpec)(c:OpenClaim)(e:c=Rows.volPlaysRow)(f:FuncId)(g:f=5):((c.lifted==P.liftsFinal))=true:=by
 subst b a d e g;kernel_rfl
theorem Q6f(P:Program)(b:P=Tryz.prog)(fn:Func)(a:fn=Tryz.f5)(s:ChangeSpec)(d:s=Rows.volPlaysSpec)(c:OpenClaim)(e:c=Rows.volPlaysRow)(f:FuncId)(g:f=5):((P.make==some c.make))=true:=by
 subst b a d e g;kernel_rfl
theorem Q6c(P:Program)(b:P=Tryz.prog)(fn:Func)(a:fn=Tryz.f5)(s:ChangeSpec)(d:s=Rows.volPlaysSpec)(c:OpenClaim)(e:c=Rows.volPlaysRow)(f:FuncId)(g:f=5):((c.kinds==(if c.domain.isEmpty then[]else fn.params.toList.map λt=>match P.underlying t with|some (.int k)=>some k|_=>none)))=true:=by
 subst b a d e g;kernel_rfl
theorem Q6b(P:Program)(b:P=Tryz.prog)(fn:Func)(a:fn=Tryz.f5)(s:ChangeSpec)(d:s=Rows.volPlaysSpec)(c:OpenClaim)(e:c=Rows.volPlaysRow)(f:FuncId)(g:f=5):((c.pinned==c.pinnedBy))=true:=by
 subst b a d e g;kernel_rfl
theorem Q6e(P:Program)(b:P=Tryz.prog)(fn:Func)(a:fn=Tryz.f5)(s:ChangeSpec)(d:s=Rows.volPlaysSpec)(c:OpenClaim)(e:c=Rows.volPlaysRow)(f:FuncId)(g:f=5):((c.veiled==(fn.params.toList++s.plain.varTypes P++fn.resultTypes.toList).any (P.veiledRec ·)))=true:=by
 subst b a d e g;kernel_rfl
theorem Q6d(P:Program)(b:P=Tryz.prog)(fn:Func)(a:fn=Tryz.f5)(s:ChangeSpec)(d:s=Rows.volPlaysSpec)(c:OpenClaim)(e:c=Rows.volPlaysRow)(f:FuncId)(g:f=5):(c.veiledFits P fn.params.toList (fn.params.toList++s.plain.varTypes P++fn.resultTypes.toList))=true:=by
 subst b a d e g;kernel_rfl
theorem closed:joinedFacts Tryz.prog 5 Tryz.f5 Rows.volPlaysSpec Rows.volPlaysRow=true:=by
 unfold joinedFacts;exact O0 (O0 (O0 (O0 (O0 (O0 (O0 (O0 (O0 (O0 (O0 (O0 (O0 (O0 (O0 (O0 (O0 (O0 (O0 (O0 (O0 (O0 (O0 (O0 (O0 (O0 (O0 (O0 (O0 (O0 (O0 (zf0 Tryz.prog rfl Tryz.f5 rfl Rows.volPlaysSpec rfl Rows.volPlaysRow rfl 5 rfl) (zf1 Tryz.prog rfl Tryz.f5 rfl Rows.volPlaysSpec rfl Rows.volPlaysRow rfl 5 rfl)) (zf2 Tryz.prog rfl Tryz.f5 rfl Rows.volPlaysSpec rfl Rows.volPlaysRow rfl 5 rfl)) (zf3 Tryz.prog rfl Tryz.f5 rfl Rows.volPlaysSpec rfl Rows.volPlaysRow rfl 5 rfl)) (zf4 Tryz.prog rfl Tryz.f5 rfl Rows.volPlaysSpec rfl Rows.volPlaysRow rfl 5 rfl)) (zf5 Tryz.prog rfl Tryz.f5 rfl Rows.volPlaysSpec rfl Rows.volPlaysRow rfl 5 rfl)) (zf6 Tryz.prog rfl Tryz.f5 rfl Rows.volPlaysSpec rfl Rows.volPlaysRow rfl 5 rfl)) (zf7 Tryz.prog rfl Tryz.f5 rfl Rows.volPlaysSpec rfl Rows.volPlaysRow rfl 5 rfl)) (zf8 Tryz.prog rfl Tryz.f5 rfl Rows.volPlaysSpec rfl Rows.volPlaysRow rfl 5 rfl)) (zf9 Tryz.prog rfl Tryz.f5 rfl Rows.volPlaysSpec rfl Rows.volPlaysRow rfl 5 rfl)) (Q66 Tryz.prog rfl Tryz.f5 rfl Rows.volPlaysSpec rfl Rows.volPlaysRow rfl 5 rfl)) (Q65 Tryz.prog rfl Tryz.f5 rfl Rows.volPlaysSpec rfl Rows.volPlaysRow rfl 5 rfl)) (Q64 Tryz.prog rfl Tryz.f5 rfl Rows.volPlaysSpec rfl Rows.volPlaysRow rfl 5 rfl)) (Q63 Tryz.prog rfl Tryz.f5 rfl Rows.volPlaysSpec rfl Rows.volPlaysRow rfl 5 rfl)) (Q62 Tryz.prog rfl Tryz.f5 rfl Rows.volPlaysSpec rfl Rows.volPlaysRow rfl 5 rfl)) (Q61 Tryz.prog rfl Tryz.f5 rfl Rows.volPlaysSpec rfl Rows.volPlaysRow rfl 5 rfl)) (Q60 Tryz.prog rfl Tryz.f5 rfl Rows.volPlaysSpec rfl Rows.volPlaysRow rfl 5 rfl)) (Q6w Tryz.prog rfl Tryz.f5 rfl Rows.volPlaysSpec rfl Rows.volPlaysRow rfl 5 rfl)) (Q6v Tryz.prog rfl Tryz.f5 rfl Rows.volPlaysSpec rfl Rows.volPlaysRow rfl 5 rfl)) (Q6t Tryz.prog rfl Tryz.f5 rfl Rows.volPlaysSpec rfl Rows.volPlaysRow rfl 5 rfl)) (Q6s Tryz.prog rfl Tryz.f5 rfl Rows.volPlaysSpec rfl Rows.volPlaysRow rfl 5 rfl)) (Q6r Tryz.prog rfl Tryz.f5 rfl Rows.volPlaysSpec rfl Rows.volPlaysRow rfl 5 rfl)) (Q6p Tryz.prog rfl Tryz.f5 rfl Rows.volPlaysSpec rfl Rows.volPlaysRow rfl 5 rfl)) (Q6n Tryz.prog rfl Tryz.f5 rfl Rows.volPlaysSpec rfl Rows.volPlaysRow rfl 5 rfl)) (Q6m Tryz.prog rfl Tryz.f5 rfl Rows.volPlaysSpec rfl Rows.volPlaysRow rfl 5 rfl)) (Q6l Tryz.prog rfl Tryz.f5 rfl Rows.volPlaysSpec rfl Rows.volPlaysRow rfl 5 rfl)) (Q6h Tryz.prog rfl Tryz.f5 rfl Rows.volPlaysSpec rfl Rows.volPlaysRow rfl 5 rfl)) (Q6f Tryz.prog rfl Tryz.f5 rfl Rows.volPlaysSpec rfl Rows.volPlaysRow rfl 5 rfl)) (Q6c Tryz.prog rfl Tryz.f5 rfl Rows.volPlaysSpec rfl Rows.volPlaysRow rfl 5 rfl)) (Q6b Tryz.prog rfl Tryz.f5 rfl Rows.volPlaysSpec rfl Rows.volPlaysRow rfl 5 rfl)) (Q6e Tryz.prog rfl Tryz.f5 rfl Rows.volPlaysSpec rfl Rows.volPlaysRow rfl 5 rfl)) (Q6d Tryz.prog rfl Tryz.f5 rfl Rows.volPlaysSpec rfl Rows.volPlaysRow rfl 5 rfl)
theorem Qwz:Tryz.prog.funcNamed Rows.volPlaysRow.func=some 5:=J
theorem Q50:Tryz.f5.isInstance Tryz.prog Rows.volPlaysRow.origin Rows.volPlaysRow.targs:=QxM J
theorem Q5g:Tryz.f5.isWrapper Tryz.prog Rows.volPlaysRow.wrapper Rows.volPlaysRow.mainSum:=by unfold Func.isWrapper;rw[QqE (of_decide_eq_false J)];exact⟨rfl,rfl⟩
theorem Q5i:Rows.volPlaysRow.wfByText (OpenSpec.ofChange Rows.volPlaysSpec)=true:=J
theorem Q5s : Tryz.prog.mainIs = some (true, "4d4d5d5bb5b6c4ebda111cab19cafef46ee47064a84090d48dce7065c7ca08e4".toList) := by kernel_rfl
theorem Q4m:true=Tryz.prog.looks []:=J
theorem Q55:false=Rows.volPlaysRow.goesBy Tryz.prog:=J
theorem Q37:Tryz.prog.wantsStandIn 55=false:=J
end volPlays
end Go.Proofs.YtfialjmemcobjaaGreatDoor
