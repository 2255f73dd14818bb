/- A part of the proof. -/
import Derived.Test.YtfialjmemcobjaaGreatDoorPbYyMa
import Derived.Deep.AppendSrc
import Derived.Laws.Externs
import Derived.Laws.NewBlocks
import Derived.Lib.AppendZerosOnto
import Derived.Lib.Overlaps
set_option maxRecDepth 100000
set_option maxHeartbeats 16000000
set_option linter.unusedVariables false
set_option linter.unusedSimpArgs false
namespace Go.Proofs.YtfialjmemcobjaaGreatDoor
namespace tr
open Go.RowKit er
theorem Jp{P:Program}(w:World)(l n ty elem:TypeId)(i:TypeInfo)(k:Nat)(b o c e:Nat)(a:Addr)(d f:Nat)(m:Nat)(cs:List Value)
  (p:P.underlying l=some (.slice elem)) (hi:P.info? elem=some i) (q:i.size=k) (r:Nat.min d c=m) (s:cs.length=m*k)
  (g:∀j v,cs[j]? =some v->w.cell? (a.add j)=some v) (t:∀j,j<cs.length->(w.cell? (b,o+j)).isSome=true) (u:∀j,j<cs.length->w.frozen? (b,o+j)=false) (h1:∀v∈cs,v.oneCell'=true):
  (Builtin.copy_ #[l,n] ty #[.slice (some (b,o)) c e,.slice (some a) d f]).run P w= .ok (goInt m) (w.setCells b o cs):=by
 have x:=run_loadCells_list (P:=P) w a cs g;have h:=run_storeCells_cells (P:=P) b o cs 0 w (by simpa using t) (by simpa using u) h1;simp[Builtin.copy_,run_underlying p,Builtin.lenOf,Builtin.firstCells,sizeOf,typeInfo,hi,q,r,<-s,x,h]
theorem Gz{P:Program}{ops:Array Oper}{o:Oper}{a:Act}{w:World}{K:Act->World->Prop}{Q:Exit->Act->World->Prop}{E:Prop}
  (g:o.guard=none) (d x:Operand) (c e:TypeId) (b:o.op=Op.call {callee:=Callee.builtin Builtin.copy,args:=#[d,x],argTypes:=#[c,e]})
  (v u:Value) (h:a.eval d=v) (i:a.eval x=u) {f:Value} {w':World} (j:(Builtin.copy_ #[c,e] o.type #[v,u]).run P w= .ok f w') (k:K (a.put o.dst f) w'):
  if Region.wanted o (yielded ops a.tmps)=true then Oper.wp P o a w K Q else E:=by
 have l:Region.wanted o (yielded ops a.tmps)=true:=by simp[Region.wanted,g]
 rw[QqH l];unfold Oper.wp;simp[execOp,b,resolve,invoke,builtin,h,i,j,Result.andThen];exact k
structure LaidIn(cs:Array Value)(o:Nat)(vs:List Value)(cs':Array Value):Prop where
 size:cs'.size=cs.size
 front:∀j,j<o->cs'[j]? =cs[j]?
 mid:∀j,j<vs.length->o+j<cs.size->cs'[o+j]? =vs[j]?
 back:∀j,o+vs.length<=j->cs'[j]? =cs[j]?
theorem Zp{g:Nat}{t:TypeId}:∀(vs:List Value) (o:Nat) (w:World) (cs:Array Value),Whole w g t cs->∃cs',Whole (w.setCells g o vs) g t cs'/\LaidIn cs o vs cs'
 |[],o,w,cs,h=>⟨cs,h,rfl,λ_ _=>rfl,λj a=>by simp at a,λ_ _=>rfl⟩
 |v::r,o,w,cs,h=>by
  obtain⟨cs',h1,h2,h3,h4,h5⟩:=Zp r (o+1) (w.setCell (g,o) v) _ (h.set o v);rw[World.setCells];refine⟨cs',h1,by rw[h2];simp,λj a=>?_,λj a b=>?_,λj a=>?_⟩
  ·rw[h3 j O,Array.getElem?_setIfInBounds_ne O]
  ·cases j with
   |zero=>
    rw[h3 (o+0) O];simp at b;simp[b]
   |succ j=>
    have:=h4 j (by simpa using a) (by simp;omega);rw[show o+(j+1)=o+1+j by omega,this];simp
  ·rw[h5 j (by simp at a ⊢;omega),Array.getElem?_setIfInBounds_ne (by simp at a;omega)]
theorem Kk{G:Nat->Prop}{g:Nat}:∀(vs:List Value) (o:Nat) (a w:World),Keep G a w->(G g\/a.heap.size<=g)->Keep G a (w.setCells g o vs)
 |[],o,a,w,h,_=>h
 |v::r,o,a,w,h,hg=>Kk r (o+1) a _ (h.setCell (p:=(g,o)) hg v) hg
theorem Row.of{w:World}{g c k:Nat}{t:TypeId}{xs:List Value}{cs:Array Value}(h:Whole w g t cs)(h1:c*k<=cs.size)(h2:c<=maxLen)(h3:xs.length<=c*k)(h4:∀j,j<xs.length->cs[j]? =xs[j]?):Row w g c k t xs:=by
 refine⟨⟨cs,h,h1,?_⟩,h2,h3⟩;refine QyR λj=>?_;rw[QxE];by_cases a:j<xs.length
 ·rw[QqH a,<-h4 j a];simp
 ·rw[QqE a,QkY O]
theorem Q1m{cs e f:Array Value}{xs ys:List Value}{o:Nat}(l:o<=xs.length)(g:cs.toList.take xs.length=xs)(h1:LaidIn cs (o+ys.length) (xs.drop o) e)(h2:LaidIn e o ys f)(m:xs.length+ys.length<=cs.size):
  ∀j,j<(xs.take o++ys++xs.drop o).length->f[j]? =(xs.take o++ys++xs.drop o)[j]? :=by
 intro j h;have c:(xs.take o).length=o:=by rw[QzJ];omega
 have i:(xs.drop o).length=xs.length-o:=QkJ;by_cases a:j<o
 ·rw[h2.front j a,h1.front j O,QqU,QzM O,QxG a];have:(cs.toList.take xs.length)[j]? =xs[j]? :=by rw[g]
  rw[QxG O]at this;simpa using this
 ·by_cases b:j<o+ys.length
  ·obtain⟨d,rfl⟩:∃d,j=o+d:=⟨j-o,O⟩;rw[h2.mid d O (by rw[h1.size];omega),QqU,QzH O,c,QzM O];congr 1;omega
  ·obtain⟨d,rfl⟩:∃d,j=o+ys.length+d:=⟨j-(o+ys.length),O⟩;have k:d<(xs.drop o).length:=by simp at h;omega
   rw[h2.back _ O,h1.mid d k O,QzH (by rw[QqK,c];omega)];congr 1;rw[QqK,c];omega
def Jn(T:TypeId)(k g n:Nat)(ys:List Value)(w:World)(e:Ending)(w':World):Prop:=∃g' c',e= .returned (.slice (some (g',0)) (n+1) c')/\Row w' g' c' k T ys/\Keep (λb=>b=g) w w'/\(g'=g\/w.heap.size<=g')
theorem O8{T:TypeId}{k g c n i:Nat}{xs ys:List Value}{w w1:World}(h:Row w g c k T xs)(z:xs.length=n*k)(s:ys.length=1*k)(hi:i<=n)(t:n+1<=c)(d:w1.heap=w.heap/\w1.os=w.os/\w1.tape=w.tape/\w1.output=w.output):
  Jn T k g n (xs.take (i*k)++ys++xs.drop (i*k)) w (.returned (.slice (some (g,0)) (n+1) c)) ((w1.setCells g ((i+1)*k) (xs.drop (i*k))).setCells g (i*k) ys):=by
 obtain⟨cs,hb,h1,h2⟩:=h.blk;have f:Whole w1 g T cs:=by unfold Whole at hb ⊢;rw[d.1];exact hb
 obtain⟨l,m,a⟩:=Zp (xs.drop (i*k)) ((i+1)*k) w1 cs f;obtain⟨u,p,e⟩:=Zp ys (i*k) _ l m;have v:=QkV k hi;have q:=QkV k t;rw[QxZ]at q;have x:(i+1)*k=i*k+ys.length:=by rw[QxZ,s]
 rw[x]at a;have y:=Q1m (o:=i*k) O h2 a e O;have r:Keep (λb=>b=g) w w1:=⟨d.2.1,d.2.2.1,d.2.2.2,by rw[d.1];exact QqB _,λj _ _=>by rw[d.1]⟩;refine⟨g,c,rfl,Row.of p (by rw[e.size,a.size];exact h1) h.cap ?_ y,Kk _ _ _ _ (Kk _ _ _ _ r (.inl rfl)) (.inl rfl),.inl rfl⟩;simp only[QqK,QzJ,QkJ];omega
theorem Qx1{T:TypeId}{k g n i G H:Nat}{xs ys:List Value}{w h:World}{R:Array Value}(y:Whole h H T R)(m:w.heap.size<=H)(hb:Below w w h)(z:R.size=G*k)(V:xs.length=n*k)(F:ys.length=1*k)(hi:i<=n)(K:n+1<=G)(o:G<=maxLen)
  (L:∀j,j<i*k->R[j]? =xs[j]?) (u v:World) (h2:u=(h.setCells H (i*k) ys).drew) (h3:v=u.setCells H ((i+1)*k) (xs.drop (i*k))):
  Jn T k g n (xs.take (i*k)++ys++xs.drop (i*k)) w (.returned (.slice (some (H,0)) (n+1) G)) v:=by
 subst h2 h3;obtain⟨x,p,e⟩:=Zp ys (i*k) h R y;have l:Whole (h.setCells H (i*k) ys).drew H T x:=p;obtain⟨W,q,c⟩:=Zp (xs.drop (i*k)) ((i+1)*k) _ x l;have M:i*k<=n*k:=QkV k hi;have r:(n+1)*k<=G*k:=QkV k K;rw[QxZ]at r;have N:(i+1)*k=i*k+ys.length:=by rw[QxZ,F]
 rw[N]at c;have s:Keep (λb=>b=g) w h:=⟨hb.os,hb.tape,hb.output,hb.size,λj t _=>hb.block j t⟩;refine⟨H,G,rfl,Row.of q (by rw[c.size,e.size,z];exact QqB _) o ?_ ?_,Kk _ _ _ _ (Keep.drew (Kk _ _ _ _ s (.inr m))) (.inr m),.inr m⟩
 ·simp only[QqK,QzJ,QkJ];omega
 ·intro j t;have f:(xs.take (i*k)).length=i*k:=by rw[QzJ];omega
  have Q:(xs.drop (i*k)).length=xs.length-i*k:=QkJ;by_cases a:j<i*k
  ·rw[c.front j O,e.front j a,L j a,QqU,QzM O,QxG a]
  ·by_cases b:j<i*k+ys.length
   ·obtain⟨d,rfl⟩:∃d,j=i*k+d:=⟨j-i*k,O⟩;rw[c.front _ O,e.mid d O O,QqU,QzH O,f,QzM O];congr 1;omega
   ·obtain⟨d,rfl⟩:∃d,j=i*k+ys.length+d:=⟨j-(i*k+ys.length),O⟩;have S:d<(xs.drop (i*k)).length:=by simp at t;omega
    rw[c.mid d S (by rw[e.size];omega),QzH (by rw[QqK,f];omega)];congr 1;rw[QqK,f];omega
theorem Qx3{T:TypeId}{k g n G H:Nat}{xs ys:List Value}{w a:World}{R:Array Value}(d:Whole a H T R)(e:w.heap.size<=H)(hb:Below w w a)(l:R.size=G*k)(m:xs.length=n*k)(o:ys.length=1*k)(f:n+1<=G)(b:G<=maxLen)
  (h:∀j,j<(xs++ys).length->R[j]? =(xs++ys)[j]?):
  Jn T k g n (xs.take (n*k)++ys++xs.drop (n*k)) w (.returned (.slice (some (H,0)) (n+1) G)) a:=by
 rw[QkT O,List.drop_of_length_le O,QzT];have c:=QkV k f;rw[QxZ]at c;exact⟨H,G,rfl,Row.of d O b (by rw[QqK];omega) h,⟨hb.os,hb.tape,hb.output,hb.size,λj i _=>hb.block j i⟩,.inr e⟩
theorem Du{w:World}{g:Nat}{t:TypeId}{cs:Array Value}(h:Whole w g t cs):w.shape? g=some (t,cs.size):=by
 unfold Whole at h;simp[World.shape?,h]
theorem Qak(n c g i p:Nat)(xs ys:List Value)(w:World)(h:Row w g c 4 255 xs)(hn:xs.length=n*4)(hi:i<n)(hm:n<=1000)(a:n+1<=c)(y:Whole w p 255 ys.toArray)(hy:ys.length=1*4)(H:p≠g)(K:∀u∈xs,u.oneCell'=true)(M:∀u∈ys,u.oneCell'=true):
  C 322 #[.slice (some ⟨g,0,none⟩) n c,I i,.slice (some ⟨p,0,none⟩) 1 1] w (Jn 255 4 g n (xs.take (i*4)++ys++xs.drop (i*4)) w):=by
 obtain⟨i0,l,ac,m,N⟩:=QzX Np;have Q:∀w,(sizeOf 255).run Tryz.prog w= .ok 4 w:=λw=>by simp[sizeOf,typeInfo,l,m]
 have ad:=h.cap;unfold maxLen at ad;have ae:∃tB kB,w.shape? g=some (tB,kB)/\kB≠0:=by
  obtain⟨cs,hb,h1,h2⟩:=h.blk;exact⟨_,_,Du hb,by have:=QkV 4 a;omega⟩
 obtain⟨tB,kB,R,S⟩:=ae;have T:∀lb cb,(callFunc 332 #[.slice (some ⟨p,0,none⟩) 1 1,.slice (some ⟨g,(i+1)*4,none⟩) lb cb]).run Tryz.prog w= .ok (.value (.bool false)) w:=λlb cb=>by
  rw[QzV Tryz.func332 J J J (e:=Extern.SlicesOverlaps.overlaps #[261,261] #[4]) J,
   Lib.run_overlaps_apart w 261 4 255 Tryz.underlying261 4 Q ⟨p,0,none⟩ ⟨g,(i+1)*4,none⟩ 1 1 lb cb H _ _ _ _ (Du y) R S (y.fz 0) (y.fz _)]
  rfl
 have V:∀j v,ys[j]? =some v->w.cell? ⟨p,0+j,none⟩=some v:=λj v d=>by rw[QkG,y.cell];simpa using d
 have af:(n+1)*4<=c*4:=QkV 4 a;have o:∀j,j<(n+1)*4->(w.cell? ⟨g,j,none⟩).isSome=true:=λj d=>h.room O;have X:(xs.drop (i*4)).length=(n-i)*4:=by rw[QkJ,hn,QyL]
 have ag:(n-i)*4=n*4-i*4:=QyL _ _ _;have Y:(i+1)*4=i*4+4:=Nat.succ_mul _ _;have Z:(n+1)*4=n*4+4:=Nat.succ_mul _ _;have A:i*4+4<=n*4:=by rw[<-Nat.succ_mul];exact QkV 4 hi
 have f:∀ty z sc,(Builtin.copy_ #[261,261] ty #[.slice (some ⟨g,(i+1)*4,none⟩) (n-i) z,.slice (some ⟨g,i*4,none⟩) (n+1-i) sc]).run Tryz.prog w.drew= .ok (goInt ((n-i:Nat):Int)) (w.drew.setCells g ((i+1)*4) (xs.drop (i*4))):=λty z sc=>
  Jp w.drew _ _ ty 255 i0 4 g ((i+1)*4) (n-i) z ⟨g,i*4,none⟩ (n+1-i) sc (n-i) (xs.drop (i*4)) Tryz.underlying261 l m (by simp only[Nat.min_def];split<;>omega) X
   (λj v d=>by rw[QxH];rw[QjY]at d;have:=h.cell d;(try rw[QkN]at this);exact this)
   (λj d=>o _ O) (λj _=>h.fz _) (λv y=>K v (QjG y))
 obtain⟨F,b⟩:∃F,F=w.drew.setCells g ((i+1)*4) (xs.drop (i*4)):=⟨_,rfl⟩;have r:∀k,k<(n+1)*4->(F.cell? ⟨g,k,none⟩).isSome=true:=λq hq=>by
  rw[b];by_cases ah:(i+1)*4<=q/\q<(i+1)*4+(xs.drop (i*4)).length
  ·have:=World.cell?_setCells_in g (xs.drop (i*4)) ((i+1)*4) w.drew (λj d=>o _ O) (q-((i+1)*4)) O;rw[show(i+1)*4+(q-((i+1)*4))=q by omega]at this;rw[this];rfl
  ·rw[World.cell?_setCells_out g _ _ w.drew ⟨g,q,none⟩ (λ_ _=>by show q<(i+1)*4\/(i+1)*4+_<=q;omega)];exact o q hq
 have s:∀(W:World),(∀x,W.cell? x=F.cell? x)->(∀x,W.frozen? x=F.frozen? x)->∀ty z,(Builtin.copy_ #[261,261] ty #[.slice (some ⟨g,i*4,none⟩) (n+1-i) z,.slice (some ⟨p,0,none⟩) 1 1]).run Tryz.prog W= .ok (goInt 1) (W.setCells g (i*4) ys):=λW B ai ty z=>
  Jp W _ _ ty 255 i0 4 g (i*4) (n+1-i) z ⟨p,0,none⟩ 1 1 1 ys Tryz.underlying261 l m (by simp only[Nat.min_def];split<;>omega) hy
   (λj v d=>by
    rw[QxH,B,b,World.cell?_setCells_out g _ _ _ _ (λh _=>absurd h H)];exact V j v d)
   (λj d=>by rw[B];exact r _ O) (λj d=>by rw[ai,b,World.frozen?_setCells];exact h.fz _) M
 have t:Hid (Jn 255 4 g n (xs.take (i*4)++ys++xs.drop (i*4)) w (.returned (.slice (some ⟨g,0,none⟩) (n+1) c)) (F.setCells g (i*4) ys)):=by
  rw[b];have:=O8 (i:=i) (w1:=w.drew) h hn hy O a ⟨rfl,rfl,rfl,rfl⟩;(try simp only[QkN]at this);(try simp only[QkN])
  exact this
 obtain⟨L,hL⟩:∃L,xs.take (i*4)++ys++xs.drop (i*4)=L:=⟨_,rfl⟩;rw[hL]at t ⊢;rw[<-b]at f;have aa:=Q7h f;have ab:=Q7h (s F (λ_=>rfl) (λ_=>rfl));have N:¬((i:Int)=(n:Int)):=O;have ak:(0:Int)<=(i:Int)+1:=O;have al:IntKind.i64.wrap ((i:Int)+1)=(i:Int)+1:=by rw[QqN];omega
 have ah:i<=n:=O;have am:((i:Int)+1).toNat=i+1:=O;have an:¬(c=i+1):=O;have ao:(i:Int)<=(n:Int)+1:=O;have ap:¬(c=i):=O;have aq:(n:Int)+1<=(c:Int):=O;clear hL h hn y hy K M f s r b X ag Y Z A o af V R S l ac m N Q;go_enter Tryz.func322,Tryz.ntmps322
 go_wp2_with (simp only[T])
 clear T;go_region_law (refine Gz rfl (.tmp 73) (.tmp 76) 261 261 rfl (.slice (some ⟨g,(i+1)*4,none⟩) (n-i) (c-(i+1))) (.slice (some ⟨g,i*4,none⟩) (n+1-i) (c-i)) (by simp[Act.eval,Act.put]) (by simp[Act.eval,Act.put]) (aa.out 3 (c-(i+1)) (c-i)) ?_)
 have aj:=ab.out 3 (c-i);go_wp2_with fail
 go_ret
 exact t.out
theorem Qnm(n c g l:Nat)(xs ys:List Value)(w:World)(h:Row w g c 4 255 xs)(s:xs.length=n*4)(hm:n<=1000)(T:Whole w l 255 ys.toArray)(r:ys.length=1*4)(Q:∀u∈xs,u.oneCell'=true)(m:∀u∈ys,u.oneCell'=true):
  C 322 #[.slice (some ⟨g,0,none⟩) n c,I n,.slice (some ⟨l,0,none⟩) 1 1] w (Jn 255 4 g n (xs.take (n*4)++ys++xs.drop (n*4)) w):=by
 obtain⟨t,o,x,b,y⟩:=QzX Np;have R:=h.cap;have p:∀j v,ys[j]? =some v->w.cell? ((⟨l,0,none⟩:Addr).add j)=some v:=λj v q=>by rw[QxH,QkG,T.cell];simpa using q
 obtain⟨L,M⟩:∃L,xs.take (n*4)++ys++xs.drop (n*4)=L:=⟨_,rfl⟩;have A:n<=c:=by have:=h.fit;omega
 have V:Hid (∀ty,∃N w',(Builtin.append_ #[261,261] ty #[.slice (some ⟨g,0,none⟩) n c,.slice (some ⟨l,0,none⟩) 1 1]).run Tryz.prog w= .ok N w'/\Jn 255 4 g n L w (.returned N) w'/\∃W X,N= .slice W (n+1) X):=by
  intro ty;by_cases a:n+1<=c
  ·have B:(n+1)*4<=c*4:=QkV 4 a;have Y:(n+1)*4=n*4+4:=Nat.succ_mul _ _;refine⟨_,_,run_append_room_cells w (ty:=ty) 261 255 t Tryz.underlying261 o g 0 n c ⟨l,0,none⟩ 1 1 ys (by rw[b];exact r) p m a (λj q=>?_) (λj q=>h.fz _),?_,_,_,rfl⟩
   ·rw[QkG,b];exact h.room O
   ·have:=O8 (i:=n) (w1:=w) h s r (QqB _) a ⟨rfl,rfl,rfl,rfl⟩;rw[M]at this;rw[List.drop_of_length_le O]at this;rw[QkG,b];exact this
  ·have hold:(Builtin.firstCells t.size n (.slice (some ⟨g,0,none⟩) n c)).run Tryz.prog w.drew= .ok xs.toArray w.drew:=
    run_firstCells_some w.drew t.size n ⟨g,0,none⟩ n c xs (by rw[b];exact s) (λj v q=>by rw[QxH,QkG];exact h.cell q)
   have z:Src Tryz.prog t.size 261 (.slice (some ⟨l,0,none⟩) 1 1) 1 ys w:=Src.ofSlice w Tryz.underlying261 ⟨l,0,none⟩ 1 1 ys (by rw[b];exact r) p m;refine⟨_,_,run_append_grow_src (ty:=ty) w 261 261 255 t _ Tryz.underlying261 o x (some ⟨g,0,none⟩) n c xs hold _ 1 ys z O O (by rw[y];exact growslice_fits O O),?_,_,_,rfl⟩;have F:=grownCap_ge w (n+1) c 255;have S:=QyZ w (n+1) c 255 (by unfold maxLen;omega);have:=Qx3 (k:=4) (g:=g) (n:=n) (xs:=xs) (ys:=ys) (w:=w) (G:=grownCap w (n+1) c 255) (Whole.new w.drew 255 ((xs++ys).toArray++Builtin.zeroCells (Value.cells (.agg #[I 0,I 0,I 0,I 0])) (grownCap w (n+1) c 255-(n+1)))) (QqB _) ((QqZ (QqA _ _)).alloc (QqB _) _) (by
    rw[QyE,QxS];show(xs++ys).toArray.size+_*4=_;rw[QjR,QqK,s,r,QyL];have:=QkV 4 F;have e:=Nat.succ_mul n 4;omega) s r F S (λj q=>by rw[Array.getElem?_append_left (by simpa using q)];simp)
   rw[M]at this;exact this
 obtain⟨N,w',d,f,W,X,rfl⟩:=V.out 261;have⟨H,K⟩:=Q2 d f;rw[M];unfold maxLen at R;have Z:((n:Int)==(n:Int))=true:=U;clear M h s T r Q m p d f V o x b y;go_enter Tryz.func322,Tryz.ntmps322
 go_wp2_with (at_builtin;refine Lib.wpList_append_run _ rfl _ _ _ _ rfl _ _ rfl rfl _ _ H.out ?_)
 all_goals (go_ret;exact K.out)
theorem Qcc(n c g i vb:Nat)(xs ys:List Value)(w:World)(h:Row w g c 4 255 xs)(hn:xs.length=n*4)(hi:i<n)(hm:n<=1000)(af:c<n+1)(S:Whole w vb 255 ys.toArray)(hy:ys.length=1*4)(T:∀u∈xs,u.oneCell'=true)(V:∀u∈ys,u.oneCell'=true):
  C 322 #[.slice (some (g,0)) n c,I i,.slice (some (vb,0)) 1 1] w (Jn 255 4 g n (xs.take (i*4)++ys++xs.drop (i*4)) w):=by
 obtain⟨W,p,X,b,K⟩:=QzX Np;have aj:n<=c:=by have:=h.fit;omega
 have Y:=S.lt;have ag:i*4+(n-i)*4=n*4:=by rw[<-QxZ];congr 1;omega
 have hold:(Builtin.firstCells W.size i (.slice (some (g,0)) i c)).run Tryz.prog w.drew= .ok (xs.take (i*4)).toArray w.drew:=
  run_firstCells_some w.drew W.size i (g,0) i c (xs.take (i*4)) (by rw[QzJ,b];omega) (λj v a=>by
   rw[QxH,QkG];rw[QxE]at a;split at a
   ·exact h.cell a
   ·cases a)
 have Z:(n:Int)+1-(i:Int)=((n+1-i:Nat):Int):=O;have d:∀ty,(Builtin.append_ #[261,3] ty #[.slice (some (g,0)) i c,I ((n:Int)+1-(i:Int))]).run Tryz.prog w=
   .ok (.slice (some (w,0)) (n+1) (grownCap w (n+1) c 255)) (w.drew.alloc (.cells ((xs.take (i*4)).toArray++Builtin.zeroCells (Value.cells (.agg #[I 0,I 0,I 0,I 0])) (n+1-i)++Builtin.zeroCells (Value.cells (.agg #[I 0,I 0,I 0,I 0])) (grownCap w (n+1) c 255-(n+1))) 255)):=λty=>by
  have hh:=Lib.run_append_grow_zeros w 261 3 ty 255 W _ .i64 .i64 Tryz.underlying261 Tryz.underlying3 p X (some (g,0)) i c (xs.take (i*4)) hold (n+1-i) O (by rw[b];omega) O O (by rw[K];omega) (by rw[K];exact growslice_fits O O);rw[show i+(n+1-i)=n+1 by omega]at hh;rw[Z];exact hh
 have M:=grownCap_ge w (n+1) c 255;have N:=QyZ w (n+1) c 255 (by unfold maxLen;omega);obtain⟨G,hG⟩:=Zx (grownCap w (n+1) c 255);rw[hG]at d M N;obtain⟨R,hR⟩:∃R:Array Value,(xs.take (i*4)).toArray++Builtin.zeroCells (Value.cells (.agg #[I 0,I 0,I 0,I 0])) (n+1-i)++Builtin.zeroCells (Value.cells (.agg #[I 0,I 0,I 0,I 0])) (G-(n+1))=R:=⟨_,rfl⟩;rw[hR]at d;have q:R.size=G*4:=by
  rw[<-hR,QyE,QyE,QxS,QxS];show(xs.take (i*4)).toArray.size+(n+1-i)*4+(G-(n+1))*4=_;rw[QjR,QzJ,hn,QuR O,<-QxZ,<-QxZ];congr 1;omega
 have A:∀j,j<i*4->R[j]? =xs[j]? :=λj a=>by
  rw[<-hR,Array.append_assoc,Array.getElem?_append_left (by rw[QjR,QzJ];omega),QyG,QxG a]
 obtain⟨x,r⟩:=Zx (w.drew.alloc (.cells R 255));have e:Whole x w.heap.size 255 R:=by rw[<-r];exact Whole.new w.drew 255 R
 have s:Below w w x:=by rw[<-r];exact(QqZ B0).alloc N0 _
 obtain⟨L,hL⟩:=Zx (xs.take (i*4)++ys++xs.drop (i*4));have B:(xs.drop (i*4)).length=(n-i)*4:=by rw[QkJ,hn,QyL]
 -- the first copy:what comes
 have y:∀ty Q,(Builtin.copy_ #[261,261] ty #[.slice (some (w.heap.size,i*4)) (n+1-i) Q,.slice (some (vb,0)) 1 1]).run Tryz.prog x= .ok (goInt ((1:Nat):Int)) (x.setCells w.heap.size (i*4) ys):=λty Q=>
  Jp x _ _ ty 255 W 4 w.heap.size (i*4) (n+1-i) Q (vb,0) 1 1 1 ys Tryz.underlying261 p b (by simp only[Nat.min_def];split<;>omega) hy
   (λj v a=>by rw[QxH,QkG,(S.below s Y).cell];simpa using a)
   (λj a=>by rw[e.cell];simp[q];omega) (λj a=>e.fz _) V
 obtain⟨R1,z,aa⟩:=Zp ys (i*4) x R e;obtain⟨F,t⟩:=Zx ((x.setCells w.heap.size (i*4) ys).drew);have f:Whole F w.heap.size 255 R1:=by rw[<-t];exact z
 have ab:Below w w F:=by
  rw[<-t];have hk:=Kk (G:=λ_=>False) (g:=w.heap.size) ys (i*4) w x (Keep.below s) (.inr N0);exact QqZ ⟨hk.os,hk.tape,hk.output,hk.size,λj a=>hk.block j a (λhf=>hf)⟩
 have l:∀j u,xs[j]? =some u->F.cell? (g,j)=some u:=λj u a=>(h.below ab).cell a;have H:∀ty Q sc,(Builtin.copy_ #[261,261] ty #[.slice (some (w.heap.size,(i+1)*4)) (n-i) Q,.slice (some (g,i*4)) (n-i) sc]).run Tryz.prog F= .ok (goInt ((n-i:Nat):Int)) (F.setCells w.heap.size ((i+1)*4) (xs.drop (i*4))):=λty Q sc=>
  Jp F _ _ ty 255 W 4 w.heap.size ((i+1)*4) (n-i) Q (g,i*4) (n-i) sc (n-i) (xs.drop (i*4)) Tryz.underlying261 p b (by simp[Nat.min_def]) B
   (λj v a=>by rw[QxH];rw[QjY]at a;have:=l _ _ a;(try rw[QkN]at this);exact this)
   (λj a=>by rw[f.cell];simp[aa.size,q];omega) (λj a=>f.fz _) (λv S=>T v (QjG S))
 have m:Hid (Jn 255 4 g n L w (.returned (.slice (some (w,0)) (n+1) G)) (F.setCells w.heap.size ((i+1)*4) (xs.drop (i*4)))):=by
  have:=Qx1 (k:=4) (g:=g) (n:=n) (i:=i) (xs:=xs) (ys:=ys) e N0 s q hn hy O M N A F _ (by(try rw[QkN]);exact t.symm) rfl;rw[hL]at this;(try simp only[QkN]at this);(try simp only[QkN])
  exact this
 subst t;rw[r]at d;have⟨ah,ac,ad⟩:=Q3 (d 261) y H;rw[hL];have ak:¬(G=i):=O;have ai:¬(G=i+1):=O;have al:¬(c=i):=O;have am:(c:Int)<(n:Int)+1:=O;have an:IntKind.i64.wrap ((i:Int)+1)=(i:Int)+1:=by rw[QqN];omega
 have ao:(0:Int)<=(i:Int)+1:=O;have ap:((i:Int)+1).toNat=i+1:=O;have aq:(i:Int)<=(n:Int):=O;clear l ab f aa z B hL s e r A q hR N M hG d Z hold ag y H h hn S hy T V p X b K Y;go_in
 have ae:=ac.o 3 (G-i);go_wp2_with (at_builtin;refine Lib.wpList_append_run _ rfl _ _ _ _ rfl _ _ rfl rfl _ _ ah.o ?_)
 clear ae;go_region_law (refine Gz rfl (.tmp 50) (.tmp 53) 261 261 rfl (.slice (some (w.heap.size,(i+1)*4)) (n-i) (G-(i+1))) (.slice (some (g,i*4)) (n-i) (c-i)) (by simp[Act.eval,Act.put]) (by simp[Act.eval,Act.put]) (ad.o 3 (G-(i+1)) (c-i)) ?_)
 go_wp2_with fail
 go_ret
 first|exact m.o|(simp only[QkN]at m;exact m.o)
theorem Qnf(n c g i d:Nat)(xs ys:List Value)(w:World)(h:Row w g c 4 255 xs)(e:xs.length=n*4)(hi:i<=n)(f:n<=1000)(j:Whole w d 255 ys.toArray)(k:ys.length=1*4)(l:d≠g)(a:∀u∈xs,u.oneCell'=true)(b:∀u∈ys,u.oneCell'=true):
  C 322 #[.slice (some (g,0)) n c,I i,.slice (some (d,0)) 1 1] w (Jn 255 4 g n (xs.take (i*4)++ys++xs.drop (i*4)) w):=by
 by_cases h1:i=n
 ·subst h1;exact Qnm i c g d xs ys w h e f j k a b
 ·by_cases h2:n+1<=c
  ·exact Qak n c g i d xs ys w h e O f h2 j k l a b
  ·exact Qcc n c g i d xs ys w h e O f O j k a b
theorem Mq{P:Program}(w:World)(t e ty:TypeId)(z:Value)(k:Nat)(h:P.underlying t=some (.slice e))(l:∀w,(zeroValue e).run P w= .ok z w)(hz:z.cells.size=k)(s:0<k)(h1:∀u∈z.cells.toList,u.oneCell'=true)(b o n c:Nat)(v:0<n)
  (p:∀j,j<n*k->(w.cell? (b,o+j)).isSome=true) (q:∀j,j<n*k->w.frozen? (b,o+j)=false):
  (Builtin.clear_ #[t] ty #[.slice (some (b,o)) n c]).run P w= .ok (.tuple #[]) (w.setCells b o (Builtin.zeroCells z.cells n).toList):=by
 have g:(Builtin.zeroCells z.cells n).toList.length=n*k:=by rw[Array.length_toList,QxS,hz]
 have d:∀u∈(Builtin.zeroCells z.cells n).toList,u.oneCell'=true:=by
  intro u f;simp only[Builtin.zeroCells]at f;simp at f;obtain⟨i,hi,rfl⟩:=f;have r:i%z.cells.size<z.cells.size:=Nat.mod_lt _ O;refine h1 _ ?_;simp[r]
 have a:=run_storeCells_cells (P:=P) b o (Builtin.zeroCells z.cells n).toList 0 w (by rw[g];simpa using p) (by rw[g];simpa using q) d;simp only[Nat.add_zero]at a;obtain⟨m,rfl⟩:∃m,n=m+1:=⟨n-1,O⟩;simp[Builtin.clear_,run_underlying h,l,a]
theorem Dw(l:List Ext)(s:Int)(j:Nat)(e:Ext)(h:l[j]? =some e):del (l.take (j+1)) s=del (l.take j) s++(if e.fr=s then[]else[e]):=by
 have a:j<l.length:=(QqD.1 h).1;have b:l[j]=e:=by rw[QqC a]at h;injection h
 rw[QkC a,b];unfold del;rw[QjZ];congr 1;by_cases c:e.fr=s<;>simp[c]
def DelSt(T:TypeId)(g c:Nat)(l:List Ext)(s:Int)(w:World)(j:Nat)(wr:World):Prop:=
 ∃cs:Array Value,Whole wr g T cs/\c*4<=cs.size/\(∀(q:Nat) (x:Value),(Qz (del (l.take j) s))[q]? =some x->cs[q]? =some x)/\(∀(q:Nat) (x:Value),j*4<=q->(Qz l)[q]? =some x->cs[q]? =some x)/\Keep (λb=>b=g) w wr
theorem DelSt.cell{T:TypeId}{g c:Nat}{l:List Ext}{s:Int}{w:World}{j:Nat}{wr:World}(h:DelSt T g c l s w j wr){e:Ext}(a:l[j]? =some e):ExtAt wr g (j*4) e:=by
 obtain⟨cs,h1,h2,h3,h4,h5⟩:=h;obtain⟨b,d,f,i⟩:=Jo l j e a;exact⟨by rw[h1.cell];exact h4 _ _ O b,by rw[h1.cell];exact h4 _ _ O d,by rw[h1.cell];exact h4 _ _ O f,by rw[h1.cell];exact h4 _ _ O i⟩
theorem DelSt.below{T:TypeId}{g c:Nat}{l:List Ext}{s:Int}{w:World}{j:Nat}{wr a:World}(h:DelSt T g c l s w j wr)(hb:Below wr wr a):DelSt T g c l s w j a:=by
 obtain⟨cs,h1,h2,h3,h4,h5⟩:=h;exact⟨cs,h1.below hb h1.lt,h2,h3,h4,h5.transBelow hb⟩
theorem DelSt.skip{T:TypeId}{g c:Nat}{l:List Ext}{s:Int}{w:World}{j:Nat}{wr:World}(h:DelSt T g c l s w j wr){e:Ext}(a:l[j]? =some e)(b:e.fr=s):DelSt T g c l s w (j+1) wr:=by
 obtain⟨cs,h1,h2,h3,h4,h5⟩:=h;refine⟨cs,h1,h2,λq x hq=>?_,λq x hq=>h4 q x O,h5⟩;rw[Dw l s j e a,QqH b,QzT]at hq;exact h3 q x hq
theorem DelSt.room{T:TypeId}{g c:Nat}{l:List Ext}{s:Int}{w:World}{j:Nat}{wr:World}(h:DelSt T g c l s w j wr)(q:Nat)(hq:q<c*4):(∃v,wr.cell? (g,q)=some v)/\wr.frozen? (g,q)=false:=by
 obtain⟨cs,h1,h2,h3,h4,h5⟩:=h;refine⟨⟨cs[q]'O,?_⟩,h1.fz _⟩;rw[h1.cell,Array.getElem?_eq_getElem O]
theorem Qo3(w:World)(g o:Nat)(a b c d:Value):w.setCells g o [a,b,c,d]=(((w.setCell (g,o) a).setCell (g,o+1) b).setCell (g,o+2) c).setCell (g,o+3) d:=rfl
theorem DelSt.put{T:TypeId}{g c:Nat}{l:List Ext}{s:Int}{w:World}{i j:Nat}{wr:World}(h:DelSt T g c l s w j wr){e:Ext}(f:l[j]? =some e)(k:e.fr≠s)(hi:(del (l.take j) s).length=i)(m:i<=j)(o:j<c):
  DelSt T g c l s w (j+1) (wr.setCells g (i*4) [I e.fr,I e.n,I e.kind,I e.at_]):=by
 obtain⟨cs,h1,h2,h3,h4,h5⟩:=h;obtain⟨cs',p,b⟩:=Zp [I e.fr,I e.n,I e.kind,I e.at_] (i*4) wr cs h1;have a:=Zy (del (l.take j) s);rw[hi]at a;refine⟨cs',p,by rw[b.size];exact h2,λq x hq=>?_,λq x hq r=>?_,Kk _ _ _ _ h5 (.inl rfl)⟩
 ·rw[Dw l s j e f,QqE k,Zn]at hq;by_cases d:q<i*4
  ·rw[b.front q d];rw[QzM O]at hq;exact h3 q x hq
  ·rw[QzH O]at hq;have t:=(QqD.1 hq).1;have:(Qz [e]).length=4:=by rw[Zy];rfl
   have u:q=i*4+(q-i*4):=O;rw[u,b.mid (q-i*4) (by simp;omega) O];rw[a]at hq;simpa[Qz,Ext.cells]using hq
 ·rw[b.back q (by simp;omega)];exact h4 q x O r
theorem DelSt.fin{T:TypeId}{g c:Nat}{l:List Ext}{s:Int}{w:World}{wr:World}(h:DelSt T g c l s w l.length wr)(i:c<=maxLen)(m:l.length<=c)(a:List Value)(o:Nat)(n:(del l s).length*4<=o):
  Row (wr.setCells g o a) g c 4 T (Qz (del l s))/\Keep (λb=>b=g) w (wr.setCells g o a):=by
 obtain⟨cs,h1,h2,h3,h4,h5⟩:=h;obtain⟨cs',k,d⟩:=Zp a o wr cs h1;rw[QzU]at h3;have p:(del l s).length<=l.length:=QkE _ _;have e:=Zy (del l s);refine⟨Row.of k (by rw[d.size];exact h2) i O (λj f=>?_),Kk _ _ _ _ h5 (.inl rfl)⟩;rw[d.front j O];rw[QqC f];exact h3 j _ (QqC f)
def Rc(T:TypeId)(g c:Nat)(l:List Ext)(s:Int)(w:World)(e:Ending)(w':World):Prop:=e= .returned (.slice (some (g,0)) (del l s).length c)/\Row w' g c 4 T (Qz (del l s))/\Keep (λb=>b=g) w w'
theorem Qpg{l:List Ext}{s:Int}{j:Nat}{e:Ext}(h:∀i x,i<j->l[i]? =some x->(decide (x.fr=s))=false):del (l.take j) s=l.take j:=by
 unfold del;rw[QjD];intro x a;obtain⟨i,hi,rfl⟩:=QkL.1 a;rw[QzJ]at hi;rw[List.getElem_take];have:=h i _ O (QqC O);simpa using this
theorem Qgj(p:Ext->Bool)(l:List Ext):(Co p l= -1/\∀x∈l,p x=false)\/∃j e,Co p l=(j:Nat)/\l[j]? =some e/\p e=true/\∀i x,i<j->l[i]? =some x->p x=false:=by
 unfold Co;cases h:l.findIdx? p with
 |none=>
  rw[QjV]at h;exact .inl ⟨rfl,λx a=>by simpa using h x a⟩
 |some j=>
  obtain⟨b,h1,h2⟩:=QkP.1 h;refine .inr ⟨j,l[j],rfl,QqC b,h1,λi x hi a=>?_⟩;obtain⟨h3,rfl⟩:=QqD.1 a;simpa using h2 i hi
theorem Qlr:∀w,(zeroValue 255).run Tryz.prog w= .ok (.agg #[I 0,I 0,I 0,I 0]) w:=λw=>J
theorem Qgv (l:List Ext) (g c p:Nat) (s:Int) (w:World) (h:Row w g c 4 255 (Qz l)) (hm:l.length≤1000) (hp:w.cell? ⟨p,0,none⟩=some (.int .i64 s)) (ad:p≠g):
  Calls Tryz.prog 317 #[.slice (some ⟨g,0,none⟩) l.length c,.func (.func 318) #[] #[.pointer (some ⟨p,0,none⟩)]] w (Rc 255 g c l s w):=by
 have ae:=h.cap
 have af:l.length≤c:=by have:=h.fit;rw [Zy] at this;omega
 have L:ExtsAt w (.slice (some ⟨g,0,none⟩) l.length c) l:=⟨_,c,rfl,fun _=>⟨g,0,rfl,fun j e he=>by
  obtain ⟨k0,k1,k2,k3⟩:=Jo l j e he
  simp only [Nat.zero_add]
  exact ⟨h.cell k0,h.cell k1,h.cell k2,h.cell k3⟩⟩⟩
 have m:=Q7h (Q8i (fun e=>decide (e.fr=s)) 318 #[.pointer (some ⟨p,0,none⟩)] l _ w (fun _ _=>by kernel_rfl) L (by omega) (fun e wq he hb=>Qxn e p s wq (Qq hb hp)))
 have ag:=Q7h (fun (e:Ext) (wq:World) (hq:wq.cell? ⟨p,0,none⟩=some (.int .i64 s))=>Qxn e p s wq hq)
 obtain ⟨n,V⟩:∃n,l.length=n:=⟨_,rfl⟩
 have W:=Q7h V
 rw [V] at m hm af
 rw [V]
 unfold maxLen at ae
 have HP:Hid (∀wr,Keep (fun b=>b=g) w wr→wr.cell? ⟨p,0,none⟩=some (.int .i64 s)):=fun wr hk=>hk.cell hp (by simpa using ad)
 rcases Qgj (fun e=>decide (e.fr=s)) l with ⟨hi,ha⟩|⟨a,e0,hi,F,M,X⟩
 ·have hd:del l s=l:=by
   unfold del
   rw [List.filter_eq_self]
   intro x Y
   have:=ha x Y
   simpa using this
  have r:Hid (∀w',Below w.heap.size w w'→Rc 255 g c l s w (.returned (.slice (some ⟨g,0,none⟩) n c)) w'):=fun w' hb=>⟨by rw [hd,W.out],by rw [hd];exact h.below hb,Keep.below hb⟩
  rw [hi] at m
  clear hd ha hi h L hp V
  go_enter Tryz.func317,Tryz.ntmps317
  go_wp2_with fail
  refine m.out.mono ?_
  rintro e w1 ⟨rfl,u⟩
  have ah:=Q7h u
  clear u
  go_wp2_with fail
  go_ret
  exact r.out _ ah.out
 ·rw [hi] at m
  have au:a < n:=by rw [←V];exact (List.getElem?_eq_some_iff.1 F).1
  have N:del (l.take a) s=l.take a:=Qpg (e:=e0) X
  have Z:(del (l.take a) s).length=a:=by rw [N,List.length_take];omega
  have ai:Hid (∀w1,Below w.heap.size w w1→DelSt 255 g c l s w (a+1) w1):=fun w1 hb=>by
   obtain ⟨cs,hw,q1,q2⟩:=h.blk
   have q3:∀(q:Nat) (x:Value),(Qz l)[q]? =some x→cs[q]? =some x:=fun q x hq=>by
    have aj:=(List.getElem?_eq_some_iff.1 hq).1
    rw [←q2,List.getElem?_take_of_lt aj] at hq
    simpa using hq
   have h0:DelSt 255 g c l s w a w:=by
    refine ⟨cs,hw,q1,fun q x hq=>?_,fun q x _ hq=>q3 q x hq,Keep.refl _ _⟩
    rw [N] at hq
    refine q3 q x ?_
    rw [←List.take_append_drop a l,Zn,List.getElem?_append_left (List.getElem?_eq_some_iff.1 hq).1]
    exact hq
   exact (h0.skip F (by simpa using M)).below hb
  have ak:Hid ((del (l.take (a+1)) s).length=a):=by
   show _=_
   rw [Dw l s a e0 F,if_pos (by simpa using M),List.append_nil];exact Z
  have av:(a:Int)+1≤(n:Int):=by omega
  have aw:¬((a:Int)= -1):=by omega
  have ax:((a:Int) == -1)=false:=beq_eq_false_iff_ne.2 (by omega)
  have ay:=h.lt
  have az:Hid (∀j,(del (l.take j) s).length≤j):=fun j=>Nat.le_trans (List.length_filter_le _ _) (by rw [List.length_take];omega)
  clear N Z h L hp V F M X hi
  go_enter Tryz.func317,Tryz.ntmps317
  go_wp2_with fail
  refine m.out.mono ?_
  rintro e w1 ⟨rfl,u⟩
  have al:=Q7h (ai.out _ u)
  clear u
  go_wp2_with fail
  go_loopw [5,6,7] (fun s5 s6 s7 wr=>∃(i j:Nat),i < j∧j≤n∧s5= .int .i64 i∧s6= .int .i64 j∧Hid ((del (l.take j) s).length=i)∧Hid (DelSt 255 g c l s w j wr)) (fun _ s6 _ _=>n - (intOf s6).toNat)
  case atStart=>exact ⟨a,a+1,by omega,by omega,rfl,by go_num,ak,al⟩
  case round=>
   obtain⟨i,j,aF,aH,rfl,rfl,HI,A⟩:=hrel;by_cases aK:j<n
   ·have aL:(j:Int) < (n:Int):=by omega
    obtain ⟨e,Y⟩:∃e,l[j]? =some e:=⟨l[j]'(by have:=W.out;omega),List.getElem?_eq_getElem (by have:=W.out;omega)⟩
    obtain ⟨c0,c1,c2,c3⟩:=A.out.cell Y
    have HX:=Q7h Y
    have aM:g < wr.heap.size:=World.block_lt_of_cell? _ _ c0
    have B:=HP.out wr (by obtain ⟨cs,_,_,_,_,hk⟩:=A.out;exact hk)
    obtain ⟨f,Q,k,t⟩:=e
    simp only at c0 c1 c2 c3
    have R:Hid (Below wr.heap.size wr (wr.alloc (.cells #[.int .i64 f,.int .i64 Q,.int .i64 k,.int .i64 t] 255))):=(Below.refl _ _).alloc (Nat.le_refl _) _
    have am:=Q7h (Whole.new wr 255 #[.int .i64 f,.int .i64 Q,.int .i64 k,.int .i64 t])
    have aa:Hid (Calls Tryz.prog 318 #[.agg #[.int .i64 f,.int .i64 Q,.int .i64 k,.int .i64 t],.pointer (some ⟨p,0,none⟩)] (wr.alloc (.cells #[.int .i64 f,.int .i64 Q,.int .i64 k,.int .i64 t] 255)) fun x w'=>x= .returned (.bool (decide (f=s)))∧Below (wr.heap.size+1) (wr.alloc (.cells #[.int .i64 f,.int .i64 Q,.int .i64 k,.int .i64 t] 255)) w'):=(ag.out ⟨f,Q,k,t⟩ _ (Qq R.out B)).mono fun x w' ⟨q1,q2⟩=>⟨q1,q2.mono (by simp)⟩
    clear B Y
    by_cases H:f=s
    ·have HT:Hid (decide (f=s)=true):=by show _=_;simpa using H
     have S:Hid ((del (l.take (j+1)) s).length=i):=by show _=_;rw[Dw l s j _ HX.o,QqH H,QzT];exact HI.o
     have an:=Q7h (A.o.skip HX.o H);clear H;go_wp2_with fail
     refine aa.o.mono ?_;rw[HT.o];rintro e w5 ⟨rfl,d⟩;have T:=Q7h (R.o.trans (d.mono O));clear d;go_wp2_with fail
     go_roundw
     case rel=>exact⟨i,j+1,O,O,rfl,by go_num,S,an.o.below T.o⟩
     case measure=>simp[intOf];omega
    ·have HT:Hid (decide (f=s)=false):=by show _=_;simpa using H
     have S:Hid ((del (l.take (j+1)) s).length=i+1):=by show _=_;rw[Dw l s j _ HX.o,QqE H,QqK,HI.o];rfl
     have ao:=Q7h H;clear H;go_wp2_with fail
     refine aa.o.mono ?_;rw[HT.o];rintro e w5 ⟨rfl,d⟩;have T:=Q7h (R.o.trans (d.mono O));have y:=Q7h (A.o.below T.o);obtain⟨⟨q0,q1,q2,q3⟩,_⟩:=K7 (am.o.below d O);have ap:i<c:=O;obtain⟨⟨v0,r0⟩,z0⟩:=y.o.room (i*4) O;obtain⟨⟨v1,r1⟩,z1⟩:=y.o.room (i*4+1) O;obtain⟨⟨v2,r2⟩,z2⟩:=y.o.room (i*4+2) O;obtain⟨⟨v3,r3⟩,z3⟩:=y.o.room (i*4+3) O;have ab:Hid (DelSt 255 g c l s w (j+1) ((((w5.setCell (g,i*4) (I f)).setCell (g,i*4+1) (I Q)).setCell (g,i*4+2) (I k)).setCell (g,i*4+3) (I t))):=by
      have K:=y.o.put HX.o ao.o HI.o O O;rw[Qo3]at K;exact K
     have aq:(i:Int)<(n:Int):=O;clear d c0 c1 c2 c3;go_wp2_with fail
     go_roundw
     case rel=>exact⟨i+1,j+1,O,O,by go_num,by go_num,S,ab.o⟩
     case measure=>simp[intOf];omega
   ·obtain rfl:j=n:=O;have z:l.take j=l:=by rw[<-W.o];exact QzU
    have hS:=A.o;have hI:=HI.o;rw[z]at hI;have ap:i<c:=O;have aN:¬(c=i):=O;have aq:(i:Int)<=(j:Int):=O;have ar:∀ty,(Builtin.clear_ #[261] ty #[.slice (some (g,i*4)) (j-i) (c-i)]).run Tryz.prog wr= .ok (.tuple #[]) (wr.setCells g (i*4) (Builtin.zeroCells (Value.cells (.agg #[I 0,I 0,I 0,I 0])) (j-i)).toList):=λty=>
     Mq wr _ _ ty _ 4 Tryz.underlying261 Qlr rfl O (by simp[Value.cells,Value.oneCell']) g (i*4) (j-i) (c-i) O (λq hq=>by obtain⟨⟨v,hv⟩,_⟩:=hS.room (i*4+q) O;rw[hv];rfl) (λq hq=>(hS.room (i*4+q) O).2)
    obtain⟨ZS,ac⟩:=Zx ((Builtin.zeroCells (Value.cells (.agg #[I 0,I 0,I 0,I 0])) (j-i)).toList);rw[ac]at ar;have r:Hid (Rc 255 g c l s w (.returned (.slice (some (g,0)) i c)) (wr.setCells g (i*4) ZS)):=by
     have hl:=W.out
     have:=DelSt.fin (by rw [hl];exact hS) (by unfold maxLen;omega) (by omega) ZS (i * 4) (by omega)
     exact ⟨by rw [hI],this⟩
    clear ac hS hI z
    go_wp2_with fail
    go_ret
    exact r.out
theorem Qel:∀w,(zeroValue 226).run Tryz.prog w= .ok .nilIface w:=λw=>J
def Fj(T:TypeId)(g c n i:Nat)(xs:List Value)(w:World)(e:Ending)(w':World):Prop:=e= .returned (.slice (some (g,0)) (n-1) c)/\Row w' g c 1 T (xs.eraseIdx i)/\Keep (λb=>b=g) w w'
theorem Qzd{T:TypeId}{g c n i:Nat}{xs:List Value}{w:World}(h:Row w g c 1 T xs)(r:xs.length=n)(hi:i<n)(k:List Value):
  Row ((w.drew.setCells g i (xs.drop (i+1))).setCells g (n-1) k) g c 1 T (xs.eraseIdx i)/\Keep (λb=>b=g) w ((w.drew.setCells g i (xs.drop (i+1))).setCells g (n-1) k):=by
 obtain⟨cs,hb,h1,h2⟩:=h.blk;have l:=hb;obtain⟨m,o,a⟩:=Zp (xs.drop (i+1)) i w.drew cs l;obtain⟨s,p,f⟩:=Zp k (n-1) _ m o;have x:=h.fit;have t:(xs.eraseIdx i).length=n-1:=by rw[List.length_eraseIdx];simp[r,hi]
 refine⟨Row.of p (by rw[f.size,a.size];exact h1) h.cap O (λj y=>?_),Kk _ _ _ _ (Kk _ _ _ _ (Keep.drew (Keep.refl _ _)) (.inl rfl)) (.inl rfl)⟩;rw[f.front j O,List.getElem?_eraseIdx];have u:∀q,q<n->cs[q]? =xs[q]? :=λq hq=>by
  have:(cs.toList.take xs.length)[q]? =xs[q]? :=by rw[h2]
  rw[QxG O]at this;simpa using this
 by_cases e:j<i
 ·rw[QqH e,a.front j e,u j O]
 ·rw[QqE e];obtain⟨d,rfl⟩:∃d,j=i+d:=⟨j-i,O⟩;have v:(xs.drop (i+1)).length=n-(i+1):=by rw[QkJ,r]
  rw[a.mid d O O,QjY];congr 1;omega
theorem Qgt(n g c i:Nat)(a b:Int)(xs:List Value)(w:World)(h:Row w g c 1 226 xs)(K:xs.length=n)(hi:i<n)(hm:n<=1000)(ha:a=i)(hb:b=(i:Int)+1)(h1:∀u∈xs,u.oneCell'=true):
  C 342 #[.slice (some (g,0)) n c,I a,I b] w (Fj 226 g c n i xs w):=by
 subst ha hb;obtain⟨W,s,L,v,M⟩:=QzX Bw;have X:n<=c:=by have:=h.fit;omega
 obtain⟨d,e⟩:=Zx (xs.drop (i+1));have f:d.length=n-(i+1):=by rw[<-e,QkJ,K]
 obtain⟨A,hA,x⟩:∃A:Addr,(if c=i+1 then some ((g,0):Addr)else some (g,i+1))=some A/\Hid (∀t u,d[t]? =some u->w.drew.cell? (A.add t)=some u):=by
  by_cases R:c=i+1
  ·refine⟨(g,0),by simp[R],λt u m=>?_⟩;have Y:d.length=0:=by rw[f];omega
   rw[List.length_eq_zero_iff.1 Y]at m;simp at m
  ·refine⟨(g,i+1),by simp[R],λt u m=>?_⟩;rw[<-e,QjY]at m;rw[QxH];exact h.cell m
 have s1:Hid (d.length=(n-(i+1))*1):=by show _=_;rw[QkN];exact f
 have s2:Hid (∀u∈d,u.oneCell'=true):=λu m=>h1 u (by rw[<-e]at m;exact QjG m);have s3:Hid (∀t,t<d.length->(w.drew.cell? (g,0+i*1+t)).isSome=true/\w.drew.frozen? (g,0+i*1+t)=false):=by
  intro t Z;rw[f]at Z;rw[QkN,QkG];exact⟨h.room O,h.fz _⟩
 obtain⟨p,r⟩:∃p,p=w.drew.setCells g (0+i*1) d:=⟨_,rfl⟩;have j:p=w.drew.setCells g i (xs.drop (i+1)):=by rw[r,e,QkN,QkG]
 have N:Row p g c 1 226 (xs.eraseIdx i):=by
  have:=(Qzd h K hi []).1;rw[j];exact this
 have y:∀ty,(Builtin.clear_ #[291] ty #[.slice (some (g,n-1)) (n-(n-1)) (c-(n-1))]).run Tryz.prog p= .ok (.tuple #[]) (p.setCells g (n-1) (Builtin.zeroCells (Value.cells .nilIface) (n-(n-1))).toList):=λty=>
  Mq p _ _ ty _ 1 Tryz.underlying291 Qel rfl O (by simp[Value.cells,Value.oneCell']) g (n-1) (n-(n-1)) (c-(n-1)) O (λq hq=>N.room O) (λq hq=>N.fz _)
 have k:Hid (Fj 226 g c n i xs w (.returned (.slice (some (g,0)) (n-1) c)) (p.setCells g (n-1) (Builtin.zeroCells (Value.cells .nilIface) (n-(n-1))).toList)):=by
  rw[j];exact⟨rfl,Qzd h K hi _⟩
 obtain⟨ZS,z⟩:=Zx ((Builtin.zeroCells (Value.cells .nilIface) (n-(n-1))).toList);rw[z]at y k;have B:=Q7h r;obtain⟨l,rfl⟩:∃l,n=l+1:=⟨n-1,O⟩;have S:l+1-1=l:=O;have T:l+1-l=1:=O;simp only[S,T]at y k ⊢;have aa:(0:Int)<=(i:Int)+1:=O;have ab:(i:Int)+1<=(l:Int)+1:=O;have ac:(i:Int)<=(c:Int):=O;have ad:¬((i:Int)=(i:Int)+1):=O;have V:=beq_eq_false_iff_ne.2 O;have ae:((i:Int)+1).toNat=i+1:=O;have af:¬(c=l):=O;have⟨F,H⟩:=Q2 s v;have Q:i+(l-i)=l:=O;clear r j N z h K h1 e f S T s L v M;go_in
 go_wp2_with fail
 go_region_law (refine step_append_room rfl (.tmp 22) (.tmp 25) 291 rfl 226 W 1 Tryz.underlying291 F.o H.o g 0 i c (by simp[Act.eval,Act.put]) A (l+1-(i+1)) (c-(i+1)) d (by simp[Act.eval,Act.put]) s1.o x.o s2.o O s3.o ?_;rw[<-B.o])
 go_wp2_with fail
 go_ret
 exact k.o
end tr
end Go.Proofs.YtfialjmemcobjaaGreatDoor
