/- A part of the proof. -/
import Derived.Deep.RegionHeld
import Derived.Handy
import Derived.Test.YtfialjmemcobjaaGreatDoorRows
set_option maxRecDepth 100000
set_option maxHeartbeats 16000000
set_option linter.unusedVariables false
set_option linter.unusedSimpArgs false
namespace Go.Proofs.YtfialjmemcobjaaGreatDoor
namespace rg
open Go
def dn(i n:Nat):Array Bool:=(List.replicate i true++List.replicate (n-i) false).toArray
theorem qa{α:Type _}{l:List α}{i:Nat}{a:α}:l.toArray.setIfInBounds i a=(l.set i a).toArray:=by simp
theorem qb{α:Type _}{x y:α}{l:List α}:(x::l).set 0 y=y::l:=rfl
theorem qc{α:Type _}{x y:α}{l:List α}{i:Nat}:(x::l).set (i+1) y=x::l.set i y:=rfl
theorem Qd7{i n:Nat}(h:i<n):(dn i n).setIfInBounds i true=dn (i+1) n:=by
 unfold dn;rw[List.setIfInBounds_toArray,List.set_append_right _ _ (by simp)];obtain⟨k,a⟩:∃k,n-i=k+1:=⟨n-i-1,by omega⟩;rw[a,show n-(i+1)=k by omega,List.length_replicate,Nat.sub_self,List.replicate_succ,List.set_cons_zero,List.replicate_succ'];simp
variable {P:Program} {ops:Array Oper} {Q:Exit→Act→World→Prop} {S:World→Prop} {a:Act} {w:World} {fuel i:Nat}
def rk(ops:Array Oper)(i:Nat):Bool:=Region.noSelect ops&&Region.free .any ops (dn i ops.size) i&&(Region.ready .any ops (dn i ops.size)).contains i
theorem Q3d(h:rk ops i=true):Region.noSelect ops=true/\Region.free .any ops (dn i ops.size) i=true/\(Region.ready .any ops (dn i ops.size)).contains i=true:=by
 unfold rk at h;simp only[Bool.and_eq_true]at h;exact⟨h.1.1,h.1.2,h.2⟩
theorem rgB{id:Nat}(S:World->Prop)(b:S w.drew)(h:S w.drew->wpAnyH P .any ops Q S ops.size (dn 0 ops.size) a w.drew)(c:P.follows .mixedOrders=true:=by kernel_rfl):(Code.region id ops true).wp P Q a w:=
 wp_region_held_drew c b (λd=>by
  have e:Array.replicate ops.size false=dn 0 ops.size:=by simp[dn]
  rw[e];exact h d)
theorem rgT{x1 x2 x3 x4 x5 x6}(v:Value)(b:∀w,S w->(execOp a.eval {dst:=x1,op:=x2,type:=x3,pos:=x4,after:=x5,guard:=x6}).run P w= .ok (.value v) w)(h:wpAnyH P .any ops Q S fuel (dn (i+1) ops.size) (a.put x1 v) w)(hi:ops[i]? =some {dst:=x1,op:=x2,type:=x3,pos:=x4,after:=x5,guard:=x6}:=by exact rfl)(d:rk ops i=true:=by kernel_rfl)(e:∀c a w,Q (.panic c) (a.put x1 v) w->Q (.panic c) a w:=by exact λ_ _ _ h=>h)
  (f:Region.wanted {dst:=x1,op:=x2,type:=x3,pos:=x4,after:=x5,guard:=x6} (yielded ops a.tmps)=true:=by rfl) (g:S w:=by assumption):wpAnyH P .any ops Q S (fuel+1) (dn i ops.size) a w:=by
 obtain⟨j,k,l⟩:=Q3d d;refine wpAnyH_take hi j k l e (.inl ⟨f,b⟩) g ?_;rw[Qd7 (Array.getElem?_eq_some_iff.1 hi).1];exact h
theorem rgS{x1 x2 x3 x4 x5 x6}(h:wpAnyH P .any ops Q S fuel (dn (i+1) ops.size) (a.put x1 undef) w)(hi:ops[i]? =some {dst:=x1,op:=x2,type:=x3,pos:=x4,after:=x5,guard:=x6}:=by exact rfl)(b:rk ops i=true:=by kernel_rfl)(d:∀c a w,Q (.panic c) (a.put x1 undef) w->Q (.panic c) a w:=by exact λ_ _ _ h=>h)
  (e:Region.wanted {dst:=x1,op:=x2,type:=x3,pos:=x4,after:=x5,guard:=x6} (yielded ops a.tmps)=false:=by rfl) (f:S w:=by assumption):wpAnyH P .any ops Q S (fuel+1) (dn i ops.size) a w:=by
 obtain⟨g,j,k⟩:=Q3d b;refine wpAnyH_take hi g j k d (.inr ⟨e,rfl⟩) f ?_;rw[Qd7 (Array.getElem?_eq_some_iff.1 hi).1];exact h
theorem rgC{x1 x2 x3 x4 x5 x6}(h:∀b:Act->World->Prop,Shut (∀a w,S w->(S w->wpAnyH P .any ops Q S fuel (dn (i+1) ops.size) a w)->b a w)->if Region.wanted {dst:=x1,op:=x2,type:=x3,pos:=x4,after:=x5,guard:=x6} (yielded ops a.tmps)=true then Oper.wp P {dst:=x1,op:=x2,type:=x3,pos:=x4,after:=x5,guard:=x6} a w b Q else b (a.put x1 undef) w)(hi:ops[i]? =some {dst:=x1,op:=x2,type:=x3,pos:=x4,after:=x5,guard:=x6}:=by exact rfl)(c:Region.ready .any ops (dn i ops.size)=[i]:=by kernel_rfl):wpAnyH P .any ops Q S (fuel+1) (dn i ops.size) a w:=
 wpAnyH_ready c (by simp) (AllReadyH.cons hi (by rw[Qd7 (Array.getElem?_eq_some_iff.1 hi).1];exact h) AllReadyH.nil)
theorem rgD(h:Q .normal a w)(b:Region.ready .any ops (dn i ops.size)=[]:=by kernel_rfl):wpAnyH P .any ops Q S fuel (dn i ops.size) a w:=wpAnyH_done b h fuel
def ok1(ops:Array Oper)(L:List Bool)(k:Nat):Bool:=Region.noSelect ops&&Region.free .any ops L.toArray k&&(Region.ready .any ops L.toArray).contains k
theorem Q3e{L:List Bool}{k:Nat}(h:ok1 ops L k=true):Region.noSelect ops=true/\Region.free .any ops L.toArray k=true/\(Region.ready .any ops L.toArray).contains k=true:=by
 unfold ok1 at h;simp only[Bool.and_eq_true]at h;exact⟨h.1.1,h.1.2,h.2⟩
theorem rgE{id:Nat}(S:World->Prop)(b:S w.drew)(h:S w.drew->wpAnyH P .any ops Q S ops.size (List.replicate ops.size false).toArray a w.drew)(c:P.follows .mixedOrders=true:=by kernel_rfl):(Code.region id ops true).wp P Q a w:=
 wp_region_held_drew c b (λd=>by
  have e:Array.replicate ops.size false=(List.replicate ops.size false).toArray:=by simp
  rw[e];exact h d)
theorem rgU{L:List Bool}{k:Nat}(_:k=k){x1 x2 x3 x4 x5 x6}(v:Value)(b:∀w,S w->(execOp a.eval {dst:=x1,op:=x2,type:=x3,pos:=x4,after:=x5,guard:=x6}).run P w= .ok (.value v) w)(h:wpAnyH P .any ops Q S fuel (L.set k true).toArray (a.put x1 v) w)(hi:ops[k]? =some {dst:=x1,op:=x2,type:=x3,pos:=x4,after:=x5,guard:=x6}:=by exact rfl)(d:ok1 ops L k=true:=by kernel_rfl)(e:∀c a w,Q (.panic c) (a.put x1 v) w->Q (.panic c) a w:=by exact λ_ _ _ h=>h)
  (f:Region.wanted {dst:=x1,op:=x2,type:=x3,pos:=x4,after:=x5,guard:=x6} (yielded ops a.tmps)=true:=by rfl) (g:S w:=by assumption):wpAnyH P .any ops Q S (fuel+1) L.toArray a w:=by
 obtain⟨i,j,l⟩:=Q3e d;refine wpAnyH_take hi i j l e (.inl ⟨f,b⟩) g ?_;rw[qa];exact h
theorem rgV{L:List Bool}{k:Nat}(_:k=k){x1 x2 x3 x4 x5 x6}(h:wpAnyH P .any ops Q S fuel (L.set k true).toArray (a.put x1 undef) w)(hi:ops[k]? =some {dst:=x1,op:=x2,type:=x3,pos:=x4,after:=x5,guard:=x6}:=by exact rfl)(b:ok1 ops L k=true:=by kernel_rfl)(d:∀c a w,Q (.panic c) (a.put x1 undef) w->Q (.panic c) a w:=by exact λ_ _ _ h=>h)
  (e:Region.wanted {dst:=x1,op:=x2,type:=x3,pos:=x4,after:=x5,guard:=x6} (yielded ops a.tmps)=false:=by rfl) (f:S w:=by assumption):wpAnyH P .any ops Q S (fuel+1) L.toArray a w:=by
 obtain⟨g,i,j⟩:=Q3e b;refine wpAnyH_take hi g i j d (.inr ⟨e,rfl⟩) f ?_;rw[qa];exact h
theorem rgW{L:List Bool}{k:Nat}(_:k=k){x1 x2 x3 x4 x5 x6}(h:∀b:Act->World->Prop,Shut (∀a w,S w->(S w->wpAnyH P .any ops Q S fuel (L.set k true).toArray a w)->b a w)->if Region.wanted {dst:=x1,op:=x2,type:=x3,pos:=x4,after:=x5,guard:=x6} (yielded ops a.tmps)=true then Oper.wp P {dst:=x1,op:=x2,type:=x3,pos:=x4,after:=x5,guard:=x6} a w b Q else b (a.put x1 undef) w)(hi:ops[k]? =some {dst:=x1,op:=x2,type:=x3,pos:=x4,after:=x5,guard:=x6}:=by exact rfl)(c:Region.ready .any ops L.toArray=[k]:=by kernel_rfl):wpAnyH P .any ops Q S (fuel+1) L.toArray a w:=
 wpAnyH_ready c (by simp) (AllReadyH.cons hi (by rw[qa];exact h) AllReadyH.nil)
theorem rgF{L:List Bool}(h:Q .normal a w)(b:Region.ready .any ops L.toArray=[]:=by kernel_rfl):wpAnyH P .any ops Q S fuel L.toArray a w:=wpAnyH_done b h fuel
theorem Ua(k:Nat){p q:Prop}(h:q)(g:k=k->(True->q)->p:=by
 intro b h;refine rg.rgU b ?_ ?_ ?_;rotate_left;(focus(intro c a;(try dsimp only at a);go_simp;(try with_reducible rfl)))
 (try simp only[Go.Act.put,rg.qa,rg.qb,rg.qc])
 exact h trivial):p:=g rfl λ_=>h
theorem Va(k:Nat){p q:Prop}(h:q)(g:k=k->(True->q)->p:=by
 intro a h;refine rg.rgV a ?_;(try simp only[Go.Act.put,rg.qa,rg.qb,rg.qc])
 exact h trivial):p:=g rfl λ_=>h
theorem Wa(k:Nat){p q:Prop}(h:q)(g:k=k->(True->q)->p:=by
 intro a h;refine rg.rgW a (λK b=>?_);rw[if_pos (by rfl)];go_simp
 revert b;revert K;exact h trivial):p:=g rfl λ_=>h
theorem Ta{p q:Prop}(h:q)(g:(True->q)->p:=by
 intro h;refine rg.rgT ?_ ?_ ?_;rotate_left;(focus(intro b a;(try dsimp only at a);go_simp;(try with_reducible rfl)))
 (try simp only[Go.Act.put,rg.qa,rg.qb,rg.qc])
 exact h trivial):p:=g λ_=>h
theorem Sa{p q:Prop}(h:q)(g:(True->q)->p:=by
 intro h;refine rg.rgS ?_;(try simp only[Go.Act.put,rg.qa,rg.qb,rg.qc])
 exact h trivial):p:=g λ_=>h
end rg
end Go.Proofs.YtfialjmemcobjaaGreatDoor
