/- A part of the proof. -/
import Derived.Test.YtfialjmemcobjaaGreatDoorPbDx
set_option maxRecDepth 100000
set_option maxHeartbeats 16000000
set_option linter.unusedVariables false
set_option linter.unusedSimpArgs false
namespace Go.Proofs.YtfialjmemcobjaaGreatDoor
namespace pl
open Go.RowKit er st vo dc
theorem Qpj{B:Nat->Prop}{w0 w:World}{b v:Nat}{c:Pt}{X:XL}{V:Vo}{F:Nat->Prop}{r su r':Dv}{e:Int}(id fr n:Int)(d:ByteArray){G:XL->Vo->Prop}(h:PlIn B w0 w b v c X V F r su)(hE:-9223372036854775808<=e/\e<=9223372036854775807)(hd:∀W lv,DvAt W F (.agg #[I r.cap,lv]) r->C 96 #[.agg #[I r.cap,lv],I id,I fr,I n] W (OpD W F (r',e)))(hv:∀W,VoIn W v c X V->C 30 #[(v,0),I id,I fr,I n] W (Lm W v c X V ⟨#[116,114,105,109]⟩ id e G)):
  C 35 #[(b,0),.agg #[I 5,I id,I fr,I n,.string d]] w (DoRet B w0 b v r' su G):=by
 obtain⟨w1,A,ln,cc,f⟩:=Uq h #[I 5,I id,I fr,I n,.string d];have N:=Q7h f;have ae:=f.al;obtain⟨y1,y2,y3⟩:=f.obj;have z0:=f.act.cell 0;have z1:=f.act.cell 1;have z2:=f.act.cell 2;have z3:=f.act.cell 3;simp at z0 z1 z2 z3;have m:=Q7h (λW hb=>(hd W _ (N.o.dv W hb)).mono λ_ _=>Qxd);have Q:=Q7h hv;have R:Hid (∀W y,Re W y ⟨#[116,114,105,109]⟩ id e->LaidT W->C 91 #[y,I e,.string ⟨#[116,114,105,109]⟩,I id] W λx w'=>x= .returned (.bool true)/\Below W W w'):=λW y hf hl=>U5 W y ⟨#[116,114,105,109]⟩ id e hf hl hE;obtain⟨cs,g⟩:=Zx (#[I 5,I id,I fr,I n,.string d]:Array Value);have S:Hid (∀W A2 n2 c2,Below w1 w1 W->SpcsAt W (gr F w1 W) (.slice A2 n2 c2) r'.l->Mid B w0 b v c X V r' su w.heap.size cs ((W.setCell (b,2) (I r'.cap)).setCell (b,3) (.slice A2 n2 c2))):=by rw[<-g];exact N.o.mid r'
 have T:=Q7h g;clear h hE hd hv f g;go_in
 go_wp2_with fail
 go_cut [5]from 170 to 186 (λev wx=>ev= I e/\Hid (Mid B w0 b v c X V r' su w.heap.size cs wx))
 case first=>
  go_region_law (go_simp;go_at_call 96;refine(m.o _ B0.drew).mono ?_;rintro ee w2 ⟨A2,n2,c2,rfl,hs,hb⟩;have⟨Y,Z⟩:=Q2 hs hb;obtain⟨q2,q3,q4,q5⟩:=N.o.fz _ (Qs hb);clear hs hb)
  all_goals (go_wp2_with fail;go_meet;exact⟨rfl,S.o w2 _ _ _ (Qs Z.o) Y.o⟩)
 case rest=>
  obtain⟨rfl,HM⟩:=hcut;obtain⟨F',M,p,q⟩:=HM.o;have HP:=Q7h M;obtain⟨af,ag,s,_,_⟩:=M.obj;clear HM m;have a:∀W,Keep (vF v c X) wc W->(W.cell? (w,1)=some (I id)/\W.cell? (w,2)=some (I fr)/\W.cell? (w,3)=some (I n)/\W.cell? (w,4)=some (.string d))/\W.cell? (b,1)=some (v,0):=by
   intro W k;have ha:=p.keep k (λk=>q _ k rfl);rw[<-T.o]at ha;exact⟨⟨ha.cell 1,ha.cell 2,ha.cell 3,ha.cell 4⟩,(s.keep k (λk=>(M.far _ k).2 rfl)).cell 1⟩
  have⟨t,T0,aa⟩:=Q3 a (a _ (Keep.refl _ _)) (a _ (Keep.refl _ _).drew);clear M p q s a;go_wp2_with fail
  go_region_held3 (λw'=>(w'.cell? (w,1)=some (I id)/\w'.cell? (w,2)=some (I fr)/\w'.cell? (w,3)=some (I n)/\w'.cell? (w,4)=some (.string d))/\w'.cell? (b,1)=some (v,0)) (first|with_reducible exact T0.o|with_reducible exact aa.o|with_reducible exact T5.o|with_reducible exact T6.o) (first|(go_at_call 30;refine(Q.o _ (HP.o.vo.below B0.drew)).mono ?_;rintro ee w5 ⟨c',X',V',y,rfl,hy,u,z,i,H⟩;have⟨HY,ab,K,L,ac,T5⟩:=Q6 hy u z i H (t.o _ (Zi i.keep));clear hy u z i H)|(go_at_call 91;refine(R.o _ _ HY.o K.o.laid).mono ?_;rintro ee w6 ⟨rfl,j⟩;have⟨ad,T6⟩:=Q2 j (t.o _ ((Zi L.o.keep).transBelow j));clear j))
  go_wp2_with fail
  go_ret
  exact⟨rfl,_,_,_,_,((HP.o.turned K.o (U8 L.o) ab.o).below ad.o),ac.o⟩
theorem Qc9{B:Nat->Prop}{w0 w:World}{b v:Nat}{c:Pt}{X:XL}{V:Vo}{F:Nat->Prop}{r su r':Dv}{e:Int}(id fr n:Int)(d:ByteArray){G:XL->Vo->Prop}(h:PlIn B w0 w b v c X V F r su)(hE:-9223372036854775808<=e/\e<=9223372036854775807)(hd:∀W lv,DvAt W F (.agg #[I r.cap,lv]) r->C 94 #[.agg #[I r.cap,lv],I id,I fr,.string d] W (OpD W F (r',e)))(hv:∀W,VoIn W v c X V->C 28 #[(v,0),I id,I fr,.string d] W (Lm W v c X V ⟨#[119,114,105,116,101]⟩ id e G)):
  C 35 #[(b,0),.agg #[I 3,I id,I fr,I n,.string d]] w (DoRet B w0 b v r' su G):=by
 obtain⟨w1,A,ln,cc,f⟩:=Uq h #[I 3,I id,I fr,I n,.string d];have N:=Q7h f;have ae:=f.al;obtain⟨y1,y2,y3⟩:=f.obj;have z0:=f.act.cell 0;have z1:=f.act.cell 1;have z2:=f.act.cell 2;have z4:=f.act.cell 4;simp at z0 z1 z2 z4;have m:=Q7h (λW hb=>(hd W _ (N.o.dv W hb)).mono λ_ _=>Qxd);have Q:=Q7h hv;have R:Hid (∀W y,Re W y ⟨#[119,114,105,116,101]⟩ id e->LaidT W->C 91 #[y,I e,.string ⟨#[119,114,105,116,101]⟩,I id] W λx w'=>x= .returned (.bool true)/\Below W W w'):=λW y hf hl=>U5 W y ⟨#[119,114,105,116,101]⟩ id e hf hl hE;obtain⟨cs,g⟩:=Zx (#[I 3,I id,I fr,I n,.string d]:Array Value);have S:Hid (∀W A2 n2 c2,Below w1 w1 W->SpcsAt W (gr F w1 W) (.slice A2 n2 c2) r'.l->Mid B w0 b v c X V r' su w.heap.size cs ((W.setCell (b,2) (I r'.cap)).setCell (b,3) (.slice A2 n2 c2))):=by rw[<-g];exact N.o.mid r'
 have T:=Q7h g;clear h hE hd hv f g;go_in
 go_wp2_with fail
 go_cut [5]from 102 to 118 (λev wx=>ev= I e/\Hid (Mid B w0 b v c X V r' su w.heap.size cs wx))
 case first=>
  go_region_law (go_simp;go_at_call 94;refine(m.o _ B0.drew).mono ?_;rintro ee w2 ⟨A2,n2,c2,rfl,hs,hb⟩;have⟨Y,Z⟩:=Q2 hs hb;obtain⟨q2,q3,q4,q5⟩:=N.o.fz _ (Qs hb);clear hs hb)
  all_goals (go_wp2_with fail;go_meet;exact⟨rfl,S.o w2 _ _ _ (Qs Z.o) Y.o⟩)
 case rest=>
  obtain⟨rfl,HM⟩:=hcut;obtain⟨F',M,p,q⟩:=HM.o;have HP:=Q7h M;obtain⟨af,ag,s,_,_⟩:=M.obj;clear HM m;have a:∀W,Keep (vF v c X) wc W->(W.cell? (w,1)=some (I id)/\W.cell? (w,2)=some (I fr)/\W.cell? (w,3)=some (I n)/\W.cell? (w,4)=some (.string d))/\W.cell? (b,1)=some (v,0):=by
   intro W k;have ha:=p.keep k (λk=>q _ k rfl);rw[<-T.o]at ha;exact⟨⟨ha.cell 1,ha.cell 2,ha.cell 3,ha.cell 4⟩,(s.keep k (λk=>(M.far _ k).2 rfl)).cell 1⟩
  have⟨t,T0,aa⟩:=Q3 a (a _ (Keep.refl _ _)) (a _ (Keep.refl _ _).drew);clear M p q s a;go_wp2_with fail
  go_region_held3 (λw'=>(w'.cell? (w,1)=some (I id)/\w'.cell? (w,2)=some (I fr)/\w'.cell? (w,3)=some (I n)/\w'.cell? (w,4)=some (.string d))/\w'.cell? (b,1)=some (v,0)) (first|with_reducible exact T0.o|with_reducible exact aa.o|with_reducible exact T5.o|with_reducible exact T6.o) (first|(go_at_call 28;refine(Q.o _ (HP.o.vo.below B0.drew)).mono ?_;rintro ee w5 ⟨c',X',V',y,rfl,hy,u,z,i,H⟩;have⟨HY,ab,K,L,ac,T5⟩:=Q6 hy u z i H (t.o _ (Zi i.keep));clear hy u z i H)|(go_at_call 91;refine(R.o _ _ HY.o K.o.laid).mono ?_;rintro ee w6 ⟨rfl,j⟩;have⟨ad,T6⟩:=Q2 j (t.o _ ((Zi L.o.keep).transBelow j));clear j))
  go_wp2_with fail
  go_ret
  exact⟨rfl,_,_,_,_,((HP.o.turned K.o (U8 L.o) ab.o).below ad.o),ac.o⟩
end pl
end Go.Proofs.YtfialjmemcobjaaGreatDoor
