/- A part of the proof. -/
import Derived.Test.YtfialjmemcobjaaGreatDoorPrFlB
import Derived.BigQuiet
import Derived.Deep.QuietTactic
set_option linter.unusedVariables false
set_option linter.unusedSimpArgs false
namespace Go.Proofs.YtfialjmemcobjaaGreatDoor
namespace nd
open Go.RowKit er
structure Mis where
 at_:Int
 kind:Int
 keep:Int
 junk:ByteArray
structure Blk where
 pages:List ByteArray
 worn:Int
 bad:Bool
structure Nand where
 blocks:Nat
 per:Nat
 b:List Blk
 ops:Int
 plan:List Mis
 down:Bool
def Vg:Mis:=⟨0,0,0,⟨#[]⟩⟩
def P8 (m:Mis) (s:ByteArray):Nat:=(max (min m.keep s.size) 0).toNat
def I7 (t:ByteArray):ByteArray:=t.extract 0 (min t.size 128)
def spoilt (m:Mis) (s:ByteArray):ByteArray:=I7 (s.extract 0 (P8 m s)++m.junk)
def Xt (l:List Mis) (k:Int):Option Nat:=l.findIdx? (fun m=>m.at_ == k)
def waits (l:List Mis) (k:Int):Mis:=(l.find? (fun m=>m.at_ == k)).getD Vg
def Nand.count (s:Nand):Nand:={s with ops:=s.ops+1}
def Nand.blk (s:Nand) (i:Nat):Blk:=s.b.getD i ⟨[],0,false⟩
def Nand.setB (s:Nand) (i:Nat) (b:Blk):Nand:={s with b:=s.b.set i b}
def Nand.program (s:Nand) (page:Int) (t:ByteArray):Int×Nand:=
 if s.down then (9,s)
 else if ¬(0≤page∧page < s.blocks * s.per∧t.size≤128) then (1,s)
 else
  let i:=page.toNat / s.per
  let b:=s.blk i
  if b.bad then (41,s)
  else if page.toNat % s.per≠b.pages.length then (40,s)
  else
   let m:=waits s.plan (s.ops+1)
   if m.kind=1 then (9,{s.count.setB i {b with pages:=b.pages++[spoilt m t]} with down:=true})
   else if m.kind=2 then (41,s.count.setB i {b with pages:=b.pages++[spoilt m t],bad:=true})
   else (0,s.count.setB i {b with pages:=b.pages++[t]})
def Nand.read (s:Nand) (page:Int):Int×ByteArray:=
 if s.down then (9,⟨#[]⟩)
 else if ¬(0≤page∧page < s.blocks * s.per) then (1,⟨#[]⟩)
 else match (s.blk (page.toNat / s.per)).pages[page.toNat % s.per]? with
  |none=>(42,⟨#[]⟩)
  |some t=>(0,t)
def Nand.has (s:Nand) (i:Int):Bool:=decide (0≤i) && decide (i < (s.blocks:Int))
def Nand.next (s:Nand) (i:Int):Int:=if s.has i then (s.blk i.toNat).pages.length else 0
def Nand.badB (s:Nand) (i:Int):Bool:=s.has i && (s.blk i.toNat).bad
def Nand.wornB (s:Nand) (i:Int):Int:=if s.has i then (s.blk i.toNat).worn else 0
def Jg (blocks per:Nat):Nand:=⟨blocks,per,List.replicate blocks ⟨[],0,false⟩,0,[],false⟩
structure Nand.Ok (s:Nand):Prop where
 b0:16≤s.blocks
 b1:s.blocks≤64
 p0:8≤s.per
 p1:s.per≤32
 bl:s.b.length=s.blocks
 pl:∀(i:Nat) (b:Blk),s.b[i]? =some b→b.pages.length≤s.per∧0≤b.worn∧b.worn≤s.ops
 o0:0≤s.ops
 jk:∀m∈s.plan,m.junk.size≤140737488351232
def Jl (l:List Mis):List Value:=l.flatMap fun m=>[.int .i64 m.at_,.int .i64 m.kind,.int .i64 m.keep,.string m.junk]
theorem Oz:∀(l:List Mis) (j:Nat) (m:Mis),l[j]? =some m→
  (Jl l)[j * 4]? =some (.int .i64 m.at_)∧(Jl l)[j * 4+1]? =some (.int .i64 m.kind)∧(Jl l)[j * 4+2]? =some (.int .i64 m.keep)∧(Jl l)[j * 4+3]? =some (.string m.junk)
 |[],_,_,h=>by simp at h
 |x::r,0,m,h=>by
  simp at h
  subst h
  simp [Jl]
 |x::r,j+1,m,h=>by
  have ih:=Oz r j m (by simpa using h)
  have e:Jl (x::r)= .int .i64 x.at_::.int .i64 x.kind::.int .i64 x.keep::.string x.junk::Jl r:=by simp [Jl]
  rw [e,show (j+1) * 4=j * 4+4 from by omega]
  simpa using ih
def Qv:List Value→List Blk→List Value
 |v::vs,b::bs=>v::.int .i64 b.worn::.bool b.bad::Qv vs bs
 |_,_=>[]
theorem Kz:∀(vs:List Value) (bs:List Blk) (j:Nat) (v:Value) (b:Blk),vs[j]? =some v→bs[j]? =some b→
  (Qv vs bs)[j * 3]? =some v∧(Qv vs bs)[j * 3+1]? =some (.int .i64 b.worn)∧(Qv vs bs)[j * 3+2]? =some (.bool b.bad)
 |[],_,_,_,_,h,_=>by simp at h
 |_::_,[],_,_,_,_,h=>by simp at h
 |x::vs,y::bs,0,v,b,h,h'=>by
  simp at h h'
  subst h h'
  simp [Qv]
 |x::vs,y::bs,j+1,v,b,h,h'=>by
  have ih:=Kz vs bs j v b (by simpa using h) (by simpa using h')
  have e:Qv (x::vs) (y::bs)=x::.int .i64 y.worn::.bool y.bad::Qv vs bs:=rfl
  rw [e,show (j+1) * 3=j * 3+3 from by omega]
  simpa using ih
theorem Dp:∀(vs:List Value) (bs:List Blk),vs.length=bs.length→(Qv vs bs).length=bs.length * 3
 |[],[],_=>rfl
 |[],_::_,h=>by simp at h
 |_::_,[],h=>by simp at h
 |x::vs,y::bs,h=>by
  have ih:=Dp vs bs (by simpa using h)
  simp only [Qv,List.length_cons,ih]
  omega
structure NandIn (w:World) (F:Nat→Prop) (p:Nat) (s:Nand) (pb:Nat) (pv:Value) (vs:List Value):Prop where
 ok:s.Ok
 obj:Whole w p 164 #[.int .i64 s.blocks,.int .i64 s.per,.slice (some ⟨pb,0,none⟩) s.blocks s.blocks,.int .i64 s.ops,pv,.bool s.down]
 blk:Whole w pb 192 (Qv vs s.b).toArray
 len:vs.length=s.b.length
 row:∀(i:Nat) (b:Blk) (v:Value),s.b[i]? =some b→vs[i]? =some v→w.ownsRow 0 9 1 v b.pages.length (b.pages.map .string)
 sep:∀(i j:Nat) (v u:Value) (g:Nat),i≠j→vs[i]? =some v→vs[j]? =some u→v.ownBlock=some g→u.ownBlock≠some g
 plan:w.ownsRow 0 78 4 pv s.plan.length (Jl s.plan)
 fp:F p
 fb:F pb
 fr:∀(i:Nat) (v:Value) (g:Nat),vs[i]? =some v→v.ownBlock=some g→F g
 fl:∀(g:Nat),pv.ownBlock=some g→F g
 lt:∀(g:Nat),F g→g < w.heap.size
def NandAt (w:World) (F:Nat→Prop) (p:Nat) (s:Nand):Prop:=∃pb pv vs,NandIn w F p s pb pv vs
theorem NandIn.keep {G F:Nat→Prop} {w w':World} {p:Nat} {s:Nand} {pb:Nat} {pv:Value} {vs:List Value} (h:NandIn w F p s pb pv vs) (hk:Keep G w w') (hd:∀k,F k→¬G k):NandIn w' F p s pb pv vs:=
 ⟨h.ok,h.obj.keep hk (hd _ h.fp),h.blk.keep hk (hd _ h.fb),h.len,fun i b v hb hv=>Qj (h.row i b v hb hv) hk (fun g hg=>hd _ (h.fr i v g hv hg)),h.sep,Qj h.plan hk (fun g hg=>hd _ (h.fl g hg)),h.fp,h.fb,h.fr,h.fl,fun g hg=>Nat.lt_of_lt_of_le (h.lt g hg) hk.size⟩
theorem NandAt.keep {G F:Nat→Prop} {w w':World} {p:Nat} {s:Nand} (h:NandAt w F p s) (hk:Keep G w w') (hd:∀k,F k→¬G k):NandAt w' F p s:=by
 obtain ⟨pb,pv,vs,h⟩:=h
 exact ⟨pb,pv,vs,h.keep hk hd⟩
theorem NandAt.below {F:Nat→Prop} {w w':World} {p:Nat} {s:Nand} (h:NandAt w F p s) (hb:Below w.heap.size w w'):NandAt w' F p s:=h.keep (G:=fun _=>False) (Keep.below hb) (fun _ _=>id)
theorem NandAt.ok {w:World} {F:Nat→Prop} {p:Nat} {s:Nand} (h:NandAt w F p s):s.Ok:=by
 obtain ⟨pb,pv,vs,h⟩:=h
 exact h.ok
end nd
end Go.Proofs.YtfialjmemcobjaaGreatDoor
