/- VolBad returns true for every list of acts, every two places of mishaps and every number of bytes kept; the variable errors.errorType is as the program lays it. -/
import Derived.Test.YtfialjmemcobjaaGreatDoorPbDdA
import Derived.Test.YtfialjmemcobjaaGreatDoorPbLFBad
set_option linter.unusedVariables false
set_option linter.unusedSimpArgs false
namespace Go.Proofs.YtfialjmemcobjaaGreatDoor.volBad
open Go.ChangeShapes Go.WideShapes Go.ChangeAt Go.RowKit Go.Joins Go.Deep
open Go.ChangeMaps (open_string shut_string)
open Go.Proofs.YtfialjmemcobjaaGreatDoor.er Go.Proofs.YtfialjmemcobjaaGreatDoor.vo Go.Proofs.YtfialjmemcobjaaGreatDoor.pl
set_option linter.unusedVariables false
theorem handle_of_laid {W:World} (h:laidMetH Tryz.prog Rows.volBadRow.laid W):LaidT W:=by
 have h':laidMet Tryz.prog [] W∧handlesMet Tryz.prog Rows.volBadRow.laid W:=h
 obtain ⟨name,u,ty,e1,e2,e3,e4,e5⟩:=h'.2 _ (List.mem_singleton.2 rfl)
 have en:name=[101,114,114,111,114]:=(Option.some.inj e1).symm
 subst en
 obtain rfl:=Option.some.inj (Q56.symm.trans e2)
 have hm:ty∈(List.range 467).filter fun t=>Tryz.prog.rowNamed t [101,114,114,111,114]:=List.mem_filter.2 ⟨List.mem_range.2 (by rw [←Q2c];exact e3),e4⟩
 rw [Q4t] at hm
 obtain rfl:=List.mem_singleton.1 hm
 have hh:typeHandle Tryz.prog 34= .pointer (some ⟨2,34,none⟩):=by kernel_rfl
 rw [hh] at e5
 show W.cell? _=_
 simpa using World.var?_cell Q57 e5 0
noncomputable def laidWorld (os:Os):World:=
 let w0:=World.holding Tryz.prog os ⟨#[],#[],[]⟩
 {w0 with heap:=w0.heap.modify 0 fun
   |.cells _ t frozen=>.cells #[.iface 310 (.agg #[.pointer (some ⟨2,34,none⟩)])] t frozen
   |o=>o}
theorem laidWorld_met (os:Os) (args:Array Value):laidMetH Tryz.prog Rows.volBadRow.laid ((laidWorld os).forCall (fun _ _=>0) ⟨#[],args,[]⟩).memory:=
 laidMetH_of_parts (laidMet_nil _ _) (by kernel_rfl)
set_option maxRecDepth 100000 in
theorem lifted (os:Os) (started:os.Started) (H:Type) (enc:TypeId×Value→H):
  ReturnsInHanded {} Tryz.checked os 6 .any (fun w args=>(Rows.volBadSpec.pre enc Tryz.prog Tryz.f6 [] false w args∧laidMetH Tryz.prog Rows.volBadRow.laid w)∧sizedMet enc Tryz.prog Tryz.f6 (OpenSpec.ofChange Rows.volBadSpec) false w args)
   (Rows.volBadSpec.post enc Tryz.prog Tryz.f6 false true false false):=by
 refine returnsInHanded_of_change_and (C:=Tryz.checked) (X:=fun w _=>laidMetH Tryz.prog Rows.volBadRow.laid w) (fun _ _ _ hh h=>h.of_heap hh) own started (by kernel_rfl) Tryz.func6
  (ChangeSpec.witness_at (enc:=enc) (C:=Tryz.checked) (os:=os) (X:=fun w _=>laidMetH Tryz.prog Rows.volBadRow.laid w) false (laidWorld os) #[.slice none 0 0,.agg #[.int .i64 0,.int .i64 0],.int .i64 0] 8 rfl (by kernel_rfl) (by kernel_rfl) (by kernel_rfl) (by kernel_rfl) (by kernel_rfl) (laidWorld_met os _)) ?_
 intro W base args ds gs before hval0 hW _ _ hL _
 have hval:∀(j:Nat) t v,Tryz.f6.params[j]? =some t→args[j]? =some v→Value.okWide Tryz.prog W .any base t v:=hval0
 have hW':=hW
 obtain ⟨p,q,hA0,hV0,rfl,hfz,hnd⟩:=hW
 have hA:DataW.TrodAll enc Tryz.prog W 0 (fun _=>true) true Tryz.f6.params.toList args.toList ds p:=hA0
 have hV:DataW.TrodVars enc Tryz.prog W (fun _=>true) [] gs q:=hV0
 rw [Tryz.params6] at hA hval
 obtain ⟨v0,vs0,d0,ds0,p0,q0,hargs,rfl,rfl,h0,r0⟩:=trodAll_cons hA
 obtain ⟨v1,vs1,d1,ds1,p1,q1,rfl,rfl,rfl,h1,r1⟩:=trodAll_cons r0
 obtain ⟨v2,vs2,d2,ds2,p2,q2,rfl,rfl,rfl,h2,r2⟩:=trodAll_cons r1
 obtain ⟨rfl,rfl,rfl⟩:=trodAll_nil r2
 obtain rfl:args=#[v0,v1,v2]:=by cases args;simp_all
 have hg:=handle_of_laid hL
 obtain ⟨rfl,rfl⟩:gs=[]∧q=[]:=by
  cases gs with
  |nil=>exact ⟨rfl,hV⟩
  |cons g r=>exact absurd hV (by intro h;cases h)
 have k0:=h0
 have lt0:∀x∈p0,x.block < W.heap.size:=by obtain ⟨m,hm⟩:=k0;exact DataW.trod_lt m _ _ _ hm
 have k1:=h1
 have lt1:∀x∈p1,x.block < W.heap.size:=by obtain ⟨m,hm⟩:=k1;exact DataW.trod_lt m _ _ _ hm
 have k2:=h2
 have lt2:∀x∈p2,x.block < W.heap.size:=by obtain ⟨m,hm⟩:=k2;exact DataW.trod_lt m _ _ _ hm
 obtain ⟨A0,len0,cap0,rfl⟩:=okWide_slice Tryz.underlying55 (hval 0 55 v0 rfl rfl)
 obtain ⟨fuel0,hf0⟩:=h0
 obtain ⟨x1,y1,rfl⟩:=open_pair (hval 1 68 v1 rfl rfl) h1
 obtain ⟨a2,rfl,e2,f2,w2⟩:=open_int Tryz.underlying3 (hval 2 3 v2 rfl rfl) h2
 have fin:∀(e:Ending) (W':World),(e= .returned (.bool true)∧Below W.heap.size W W')→∃v,e= .returned v∧Rows.volBadSpec.post enc Tryz.prog Tryz.f6 false true false false W #[.slice A0 len0 cap0,.agg #[.int .i64 x1,.int .i64 y1],.int .i64 a2] v W':=fun e W' ⟨he,bel⟩=>by
  subst he
  exact ⟨_,rfl,_,_,_,[],_,[],hW',trodAll_mk1 (shut_bool Tryz.underlying4 _),(trodAll_cons_mk (Below.trod laidOut (by kernel_rfl) (of_decide_eq_true (by kernel_rfl)) k0 bel lt0) (trodAll_cons_mk (Below.trod laidOut (by kernel_rfl) (of_decide_eq_true (by kernel_rfl)) k1 bel lt1) (trodAll_cons_mk (Below.trod laidOut (by kernel_rfl) (of_decide_eq_true (by kernel_rfl)) k2 bel lt2) trodAll_mk0))),rfl,bel.frame _,fun h=>by cases h⟩
 clear hA0 hval0
 have hacts:∀(f:Nat) (y:DataW H×List MemPlace) (A:Option Addr) (n c:Nat),DataW.trod enc Tryz.prog W 0 (fun _=>true) true f 55 (Value.slice A n c).cells.toList=some y→
   ∃l:List Ac,l.length=n∧n≤9223372036854775807∧(0 < n→∃b off,A=some ⟨b,off,none⟩∧b < W.heap.size∧Q35 W b off l):=by
  intro f y A n c hv
  rcases Qqo Tryz.underlying55 Tryz.underlying60 (by kernel_rfl) (by kernel_rfl) hv with ⟨hcs,_⟩|⟨a,l,c',m,D,Pl,hcs,_,hl,hm,hmm,_,hi⟩
  ·simp [Value.cells] at hcs
   obtain ⟨_,rfl,_⟩:=hcs
   exact ⟨[],rfl,by omega,fun h=>by omega⟩
  ·simp [Value.cells] at hcs
   obtain ⟨rfl,rfl,rfl⟩:=hcs
   obtain ⟨b,off,spot⟩:=a
   have hml:n≤m:=by rw [hmm];split <;> omega
   rcases Nat.eq_zero_or_pos n with h0|h0
   ·subst h0
    exact ⟨[],rfl,by omega,fun h=>by omega⟩
   ·have hspot:spot=none:=by
     obtain ⟨ys,n,_,_,_,hfl⟩:=hi 0 (by omega)
     obtain ⟨v0,y0,c0,_,t0⟩:=hfl 0 _ rfl
     exact Qtz (by simpa using c0)
    subst hspot
    have hb:b < W.heap.size:=by
     obtain ⟨ys,n,_,_,_,hfl⟩:=hi 0 (by omega)
     obtain ⟨v0,y0,c0,_,t0⟩:=hfl 0 _ rfl
     rw [addr_add] at c0
     exact World.block_lt_of_cell? _ _ c0
    have hx:∀i,i < n→∃s:Ac,(W.cell? ⟨b,off+i * 5,none⟩=some (.int .i64 s.k)∧W.cell? ⟨b,off+i * 5+1,none⟩=some (.int .i64 s.id)∧W.cell? ⟨b,off+i * 5+2,none⟩=some (.int .i64 s.fr)∧W.cell? ⟨b,off+i * 5+3,none⟩=some (.int .i64 s.n)∧W.cell? ⟨b,off+i * 5+4,none⟩=some (.string s.d))∧vo.I64 s.id∧vo.I64 s.fr∧vo.I64 s.n:=by
     intro i hil
     obtain ⟨ys,n,_,_,_,hfl⟩:=hi i (by omega)
     obtain ⟨v0,y0,c0,_,t0⟩:=hfl 0 _ rfl
     obtain ⟨v1,y1,c1,_,t1⟩:=hfl 1 _ rfl
     obtain ⟨v2,y2,c2,_,t2⟩:=hfl 2 _ rfl
     obtain ⟨v3,y3,c3,_,t3⟩:=hfl 3 _ rfl
     obtain ⟨v4,y4,c4,_,t4⟩:=hfl 4 _ rfl
     obtain ⟨z0,u0,-,_⟩:=DataW.trod_int Tryz.underlying3 t0
     obtain ⟨z1,u1,-,f1⟩:=DataW.trod_int Tryz.underlying3 t1
     obtain ⟨z2,u2,-,f2⟩:=DataW.trod_int Tryz.underlying3 t2
     obtain ⟨z3,u3,-,f3⟩:=DataW.trod_int Tryz.underlying3 t3
     obtain ⟨s,u4,-,_⟩:=DataW.trod_string Tryz.underlying9 t4
     simp at u0 u1 u2 u3 u4
     subst u0 u1 u2 u3 u4
     refine ⟨⟨z0,z1,z2,z3,s⟩,⟨?_,?_,?_,?_,?_⟩,Qh8 f1,Qh8 f2,Qh8 f3⟩
     ·have:=c0
      rw [addr_add] at this
      simpa using this
     ·have:=c1
      rw [addr_add] at this
      simpa [Nat.add_assoc] using this
     ·have:=c2
      rw [addr_add] at this
      simpa [Nat.add_assoc] using this
     ·have:=c3
      rw [addr_add] at this
      simpa [Nat.add_assoc] using this
     ·have:=c4
      rw [addr_add] at this
      simpa [Nat.add_assoc] using this
    obtain ⟨ss,hlen,hst⟩:=Qj0 _ _ hx
    exact ⟨ss,hlen,by unfold maxLen at hm;omega,fun _=>⟨b,off,rfl,hb,hst⟩⟩
 obtain ⟨l,hl,hn,ha⟩:=hacts _ _ _ _ _ hf0
 exact (Zq8 W x1 y1 a2 hg A0 len0 cap0 l hl hn ha).mono fin
theorem over:Rows.VolBadSaid:=
 OpenClaim.holds_of_wide 6 Tryz.f6 rfl rfl rfl rfl rfl rfl rfl ⟨rfl,rfl,rfl,rfl,rfl⟩ rfl rfl rfl rfl rfl Qwz Tryz.func6 closed
  Q50 Q5g
  (fun os started H enc _=>lifted os started H enc)
theorem proved:Rows.VolBadCardSaid:=
 Claim7.holds_tied_plain_at .later [] [.handle] true (true, "4d4d5d5bb5b6c4ebda111cab19cafef46ee47064a84090d48dce7065c7ca08e4") true
  over (fun _ h=>by cases h) Q5i (fun _ h=>by cases h) volBad_row_tie rfl ⟨rfl,rfl⟩ Q5s rfl
  (fun f fn hf hfn=>by
   obtain rfl:f=6:=Option.some.inj (Qwz.symm.trans hf) |>.symm
   obtain rfl:fn=Tryz.f6:=(Option.some.inj (Tryz.func6.symm.trans hfn)).symm
   exact ⟨Q4m,fun j t ht=>by
    rw [Tryz.params6] at ht
    have hx:t∈[55,68,3]:=by
     have:=List.mem_of_getElem? (l:=[55,68,3]) (i:=j) (by simpa using ht)
     exact this
    simp only [List.mem_cons,List.not_mem_nil,or_false] at hx
    rcases hx with rfl|rfl|rfl
    ·exact Q37
    ·exact Zzu
    ·exact Zzy⟩)
  Q55
#print axioms proved
end Go.Proofs.YtfialjmemcobjaaGreatDoor.volBad
