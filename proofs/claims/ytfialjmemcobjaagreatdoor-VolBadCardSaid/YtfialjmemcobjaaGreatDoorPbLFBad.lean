/- A part of the proof. -/
import Derived.Test.YtfialjmemcobjaaGreatDoorPbFlB
import Derived.SevenTiedAt
import Derived.Test.YtfialjmemcobjaaGreatDoorCards
import Derived.Test.YtfialjmemcobjaaGreatDoorTie
set_option maxRecDepth 100000
set_option maxHeartbeats 16000000
set_option linter.unusedVariables false
set_option linter.unusedSimpArgs false
namespace Go.Proofs.YtfialjmemcobjaaGreatDoor
namespace volBad
theorem O0{a b:Bool}(h1:a=true)(h2:b=true):(a&&b)=true:=by rw[h1,h2];rfl
structure Zc(P:Program)(fn:Func)(s:ChangeSpec)(c:OpenClaim)(f:FuncId):Prop where
 h1:P=Tryz.prog
 h2:fn=Tryz.f6
 h3:s=Rows.volBadSpec
 h4:c=Rows.volBadRow
 h5:f=6
theorem zc:Zc Tryz.prog Tryz.f6 Rows.volBadSpec Rows.volBadRow 6:=⟨rfl,rfl,rfl,rfl,rfl⟩
variable {P:Program} {fn:Func} {s:ChangeSpec} {c:OpenClaim} {f:FuncId}
theorem zf0(h:Zc P fn s c f):(c.wf (OpenSpec.ofChange s))=true:=by
 obtain⟨rfl,rfl,rfl,rfl,rfl⟩:=h;kernel_rfl
theorem zf1(h:Zc P fn s c f):(laidOutB P)=true:=by
 obtain⟨rfl,rfl,rfl,rfl,rfl⟩:=h;kernel_rfl
theorem zf2(h:Zc P fn s c f):(mapsRowed P)=true:=by
 obtain⟨rfl,rfl,rfl,rfl,rfl⟩:=h;kernel_rfl
theorem zf3(h:Zc P fn s c f):(fn.params.all (P.readableRec ·))=true:=by
 obtain⟨rfl,rfl,rfl,rfl,rfl⟩:=h;kernel_rfl
theorem zf4(h:Zc P fn s c f):(namedTie P c.named s.vars)=true:=by
 obtain⟨rfl,rfl,rfl,rfl,rfl⟩:=h;kernel_rfl
theorem zf5(h:Zc P fn s c f):((c.stops==[]))=true:=by
 obtain⟨rfl,rfl,rfl,rfl,rfl⟩:=h;kernel_rfl
theorem zf6(h:Zc P fn s c f):((P.stops==[]))=true:=by
 obtain⟨rfl,rfl,rfl,rfl,rfl⟩:=h;kernel_rfl
theorem zf7(h:Zc P fn s c f):((c.knobs==[]))=true:=by
 obtain⟨rfl,rfl,rfl,rfl,rfl⟩:=h;kernel_rfl
theorem zf8(h:Zc P fn s c f):((P.stopKnobs==[]))=true:=by
 obtain⟨rfl,rfl,rfl,rfl,rfl⟩:=h;kernel_rfl
theorem zf9(h:Zc P fn s c f):((c.inPlace==P.inPlace f))=true:=by
 obtain⟨rfl,rfl,rfl,rfl,rfl⟩:=h;kernel_rfl
theorem Q66(h:Zc P fn s c f):((c.unfollowed==P.unfollowed f))=true:=by
 obtain⟨rfl,rfl,rfl,rfl,rfl⟩:=h;kernel_rfl
theorem Q65(h:Zc P fn s c f):((c.recurses==P.recurses f))=true:=by
 obtain⟨rfl,rfl,rfl,rfl,rfl⟩:=h;kernel_rfl
theorem Q64(h:Zc P fn s c f):((c.named==P.varsNamed f))=true:=by
 obtain⟨rfl,rfl,rfl,rfl,rfl⟩:=h;kernel_rfl
theorem Q63(h:Zc P fn s c f):((c.maps==(fn.params.toList++s.plain.varTypes P).any (P.mapsRec ·)))=true:=by
 obtain⟨rfl,rfl,rfl,rfl,rfl⟩:=h;kernel_rfl
theorem Q62(h:Zc P fn s c f):((c.ifaces==(fn.params.toList++s.plain.varTypes P).any (P.ifacesRec ·)))=true:=by
 obtain⟨rfl,rfl,rfl,rfl,rfl⟩:=h;kernel_rfl
theorem Q61(h:Zc P fn s c f):((c.mapsOut==P.mapsAmong fn.resultTypes.toList))=true:=by
 obtain⟨rfl,rfl,rfl,rfl,rfl⟩:=h;kernel_rfl
theorem Q60(h:Zc P fn s c f):((c.loops==(fn.params.toList++s.plain.varTypes P).any (P.loopsFrom ·)))=true:=by
 obtain⟨rfl,rfl,rfl,rfl,rfl⟩:=h;kernel_rfl
theorem Q6w(h:Zc P fn s c f):((c.wideKeys==(fn.params.toList++s.plain.varTypes P++fn.resultTypes.toList).any (P.wideKeysFrom ·)))=true:=by
 obtain⟨rfl,rfl,rfl,rfl,rfl⟩:=h;kernel_rfl
theorem Q6v(h:Zc P fn s c f):(s.vars.all (P.varReadable ·))=true:=by
 obtain⟨rfl,rfl,rfl,rfl,rfl⟩:=h;kernel_rfl
theorem Q6t(h:Zc P fn s c f):(fn.resultTypes.all (λt=>P.readableRec t&&decide (t<P.types.size)))=true:=by
 obtain⟨rfl,rfl,rfl,rfl,rfl⟩:=h;kernel_rfl
theorem Q6s(h:Zc P fn s c f):((c.ifacesOut==fn.resultTypes.toList.any (P.ifacesRec ·)))=true:=by
 obtain⟨rfl,rfl,rfl,rfl,rfl⟩:=h;kernel_rfl
theorem Q6r(h:Zc P fn s c f):((c.loopsOut==fn.resultTypes.toList.any (P.loopsFrom ·)))=true:=by
 obtain⟨rfl,rfl,rfl,rfl,rfl⟩:=h;kernel_rfl
theorem Q6p(h:Zc P fn s c f):((c.plainKeys==P.plainKeys))=true:=by
 obtain⟨rfl,rfl,rfl,rfl,rfl⟩:=h;kernel_rfl
theorem Q6n(h:Zc P fn s c f):(c.shortTexts.isNone)=true:=by
 obtain⟨rfl,rfl,rfl,rfl,rfl⟩:=h;kernel_rfl
theorem Q6m(h:Zc P fn s c f):(P.stopsHeard)=true:=by
 obtain⟨rfl,rfl,rfl,rfl,rfl⟩:=h;kernel_rfl
theorem Q6l(h:Zc P fn s c f):(P.mayEnter)=true:=by
 obtain⟨rfl,rfl,rfl,rfl,rfl⟩:=h;kernel_rfl
theorem Q6h(h:Zc P fn s c f):((c.lifted==P.liftsFinal))=true:=by
 obtain⟨rfl,rfl,rfl,rfl,rfl⟩:=h;kernel_rfl
theorem Q6f(h:Zc P fn s c f):((P.make==some c.make))=true:=by
 obtain⟨rfl,rfl,rfl,rfl,rfl⟩:=h;kernel_rfl
theorem Q6c(h:Zc P fn s c f):((c.kinds==(if c.domain.isEmpty then[]else fn.params.toList.map λt=>match P.underlying t with|some (.int k)=>some k|_=>none)))=true:=by
 obtain⟨rfl,rfl,rfl,rfl,rfl⟩:=h;kernel_rfl
theorem Q6b(h:Zc P fn s c f):((c.pinned==c.pinnedBy))=true:=by
 obtain⟨rfl,rfl,rfl,rfl,rfl⟩:=h;kernel_rfl
theorem Q6e(h:Zc P fn s c f):((c.veiled==(fn.params.toList++s.plain.varTypes P++fn.resultTypes.toList).any (P.veiledRec ·)))=true:=by
 obtain⟨rfl,rfl,rfl,rfl,rfl⟩:=h;kernel_rfl
theorem Q6d(h:Zc P fn s c f):(c.veiledFits P fn.params.toList (fn.params.toList++s.plain.varTypes P++fn.resultTypes.toList))=true:=by
 obtain⟨rfl,rfl,rfl,rfl,rfl⟩:=h;kernel_rfl
theorem closed:joinedFacts Tryz.prog 6 Tryz.f6 Rows.volBadSpec Rows.volBadRow=true:=by
 unfold joinedFacts;exact O0 (O0 (O0 (O0 (O0 (O0 (O0 (O0 (O0 (O0 (O0 (O0 (O0 (O0 (O0 (O0 (O0 (O0 (O0 (O0 (O0 (O0 (O0 (O0 (O0 (O0 (O0 (O0 (O0 (O0 (O0 (zf0 zc) (zf1 zc)) (zf2 zc)) (zf3 zc)) (zf4 zc)) (zf5 zc)) (zf6 zc)) (zf7 zc)) (zf8 zc)) (zf9 zc)) (Q66 zc)) (Q65 zc)) (Q64 zc)) (Q63 zc)) (Q62 zc)) (Q61 zc)) (Q60 zc)) (Q6w zc)) (Q6v zc)) (Q6t zc)) (Q6s zc)) (Q6r zc)) (Q6p zc)) (Q6n zc)) (Q6m zc)) (Q6l zc)) (Q6h zc)) (Q6f zc)) (Q6c zc)) (Q6b zc)) (Q6e zc)) (Q6d zc)
theorem Qwz:Tryz.prog.funcNamed Rows.volBadRow.func=some 6:=J
theorem Q50:Tryz.f6.isInstance Tryz.prog Rows.volBadRow.origin Rows.volBadRow.targs:=QxM J
theorem Q5g:Tryz.f6.isWrapper Tryz.prog Rows.volBadRow.wrapper Rows.volBadRow.mainSum:=by unfold Func.isWrapper;rw[QqE (of_decide_eq_false J)];exact⟨rfl,rfl⟩
theorem Q5i:Rows.volBadRow.wfByText (OpenSpec.ofChange Rows.volBadSpec)=true:=J
theorem Q5s : Tryz.prog.mainIs = some (true, "4d4d5d5bb5b6c4ebda111cab19cafef46ee47064a84090d48dce7065c7ca08e4".toList) := by kernel_rfl
theorem Q4m:true=Tryz.prog.looks []:=J
theorem Q55:false=Rows.volBadRow.goesBy Tryz.prog:=J
theorem Q37:Tryz.prog.wantsStandIn 55=false:=J
theorem Zzu:Tryz.prog.wantsStandIn 68=false:=J
theorem Zzy:Tryz.prog.wantsStandIn 3=false:=J
end volBad
end Go.Proofs.YtfialjmemcobjaaGreatDoor
