/- A part of the proof. -/
import Derived.Test.YtfialjmemcobjaaGreatDoorPbFlB
import Derived.Deep.AppendLies
set_option maxRecDepth 100000
set_option maxHeartbeats 16000000
set_option linter.unusedVariables false
set_option linter.unusedSimpArgs false
namespace Go.Proofs.YtfialjmemcobjaaGreatDoor
namespace vo
open Go.RowKit er
theorem Qlw:(Tryz.prog.info? 5).map (λi=>(i.zero,i.size,i.bytes))=some (some (.int .u8 0),1,1):=J
theorem Rs(b:Int)(w:World)(h0:0<=b)(h1:b<256):
  C 52 #[I 1,.int .u8 b] w λe w'=>e= .returned (.string (strOfNums (List.replicate 32 b)))/\Below w w w':=by
 have W:IntKind.u8.wrap (b+0)=b:=by show(b+0)%256=b;omega
 have X:IntKind.u8.wrap b=b:=by show b%256=b;omega
 obtain⟨Y,k,l,m,n⟩:=QzX Qlw;have⟨x,y,z,F⟩:=Q4 k l m n;clear k l m n;go_in
 go_wp2_with fail
 go_loopw [5,6] (λZ iv wr=>∃(j:Nat) (A:Option Addr) (c:Nat),j<=32/\iv= I j/\Z= .slice A j c/\Hid (wr.ownsRow w.heap.size 5 1 (.slice A j c) j ((List.replicate j b).map (Value.int .u8)))/\Hid (Below w w wr)) (λ_ iv _=>32-(intOf iv).toNat)
 case atStart=>exact⟨0,none,0,O,rfl,rfl,⟨rfl,.inl ⟨rfl,rfl⟩⟩,QqA _ _⟩
 case round=>
  obtain⟨j,A,c,hj,rfl,rfl,t,v⟩:=hrel;by_cases B:j<32
  ·have aa:(j:Int)<32:=O;have H:(0:Int)<=(j:Int):=QkD _;have hq:(j:Int).tdiv 32=0:=by rw[Int.tdiv_eq_ediv_of_nonneg H];omega
   have K:=Q7h (t.o.alloc (.cells #[.int .u8 b] 5));have L:Hid (∀(T:Nat) (u:Value),([.int .u8 b]:List Value)[T]? =some u->(wr.alloc (.cells #[.int .u8 b] 5)).cell? (((wr,0):Addr).add T)=some u):=World.news_of_block (by simpa using QzY wr (.cells #[.int .u8 b] 5));have d:∀u∈([.int .u8 b]:List Value),u.oneCell'=true:=by simp[Value.oneCell']
   have p:=Q7h d;have q:Hid (w.heap.size<=(wr.alloc (.cells #[.int .u8 b] 5)).heap.size):=by
    show _<=_;have:=v.o.size;simp only[QqW];omega
   have r:=Q7h v.o.size;clear d;go_wp2_with (at_builtin;go_must (refine QkW _ rfl (.tmp 13) (.tmp 19) 127 rfl w.heap.size 5 Y _ 1 1 Tryz.underlying127 x.o y.o z.o F.o rfl O (.slice A j c) j ((List.replicate j b).map (Value.int .u8)) rfl K.o (wr,0) 1 1 [.int .u8 b] rfl rfl L.o p.o (by simp only[maxLen];omega) O q.o ?_;intro v2 w6 a s _;have⟨M,N⟩:=Q2 a (Qy t.o s r.o);obtain⟨A2,Q,e2⟩:=Qk a;subst e2;clear a s))
   have f:32-(intOf (I ((j:Int)+1))).toNat<32-(intOf (I (j:Int))).toNat:=by simp[intOf];omega
   refine⟨⟨j+1,A2,Q,?_,?_,rfl,?_,?_⟩,f⟩
   ·omega
   ·go_num
   ·rw[List.replicate_succ',QqY,QzE,QjE];with_reducible exact M
   ·exact v.o.trans N.o
  ·obtain rfl:j=32:=O;obtain⟨g,rfl,_,R,S,V,_⟩:=Qx t.o O;have ab:=QyY (P:=Tryz.prog) wr 127 5 Tryz.underlying127 Tryz.underlying5 g 0 32 c (List.replicate 32 b) U (λi hi=>by
    have h:i<(List.replicate 32 b).length:=by simpa using hi
    have:=V i (.int .u8 ((List.replicate 32 b)[i]'h)) (by rw[QzF,QqC h];rfl);rw[QkG,this,QkH,QqC h];rfl) 9 Tryz.underlying9
   clear V R S t;go_wp2_with fail
   go_ret
   exact⟨rfl,v.o⟩
end vo
namespace er
open Go.RowKit Go.Extern.Stop Go.Stop Go.Extern
theorem Qra:(Tryz.prog.info? 185).map (λi=>(i.zero,i.size,i.bytes))=some (some (.agg #[.string ByteArray.empty,I 0]),2,24):=J
def Pz(l:List (ByteArray×Int)):List Value:=l.flatMap λs=>[.string s.1,I s.2]
theorem Qbq(l:List (ByteArray×Int))(s:ByteArray×Int):Pz (l++[s])=Pz l++[.string s.1,I s.2]:=by simp[Pz]
theorem ErrAt.len{w:World}:∀{a:List Nat} {l:List (ByteArray×Int)} {c:Int} {v:Value},ErrAt w a l c v->a.length=l.length
 |[],[],_,_,_=>rfl
 |b::a,s::l,c,v,⟨_,x,_,h3⟩=>by simp[ErrAt.len h3]
 |[],_::_,_,_,h=>h.elim
 |_::_,[],_,_,h=>h.elim
theorem Qe3(bs:List Nat)(l:List (ByteArray×Int))(c:Int)(v:Value)(w:World)(z:ErrAt w bs l c v)(hg:LaidT w)(hl:l.length<=1000):
  C 170 #[v] w λe w'=>∃s,e= .returned s/\w'.ownsRow w.heap.size 185 2 s l.length (Pz l)/\Below w w w':=by
 obtain⟨i0,R,S,T,V⟩:=QzX Qra;have⟨ak,al,am,an,ER,HG⟩:=Q6 R S T V z hg;have W:=hg.lt;clear z hg R S T V;go_in
 go_wp2_with fail
 go_loopg [0,3] l.length (λk s o wr=>∃(D:List (ByteArray×Int)) (L:List Nat) (l':List (ByteArray×Int)) (A:Option Addr) (H:Nat),Hid (D++l'=l)/\l'.length=k/\o= .slice A D.length H/\Hid (ErrAt w L l' c s)/\(∃old,wr.cell? (w,0)=some old)/\wr.frozen? (w,0)=false/\w.heap.size<wr.heap.size/\Hid (Below w w wr)/\Hid (wr.ownsRow (w.heap.size+1) 185 2 (.slice A D.length H) D.length (Pz D)))
 case atStart=>exact⟨[],bs,l,none,0,rfl,rfl,rfl,ER.o,⟨_,by simp;rfl⟩,U,U,B0.alloc N0 _,⟨rfl,.inl ⟨rfl,rfl⟩⟩⟩
 case round=>
  obtain⟨D,L,l',A,H,HD,X,rfl,HE,⟨old,hold⟩,M,aK,f,HO⟩:=hrel;have Y:=Q7h (HG.o.below f.o W);have d:=HE.o.keep (F:=λk=>k=w.heap.size\/w.heap.size<=k) (w:=w) (w':=wr) ⟨f.o.os,f.o.tape,f.o.output,f.o.size,λk X hF=>f.o.block k X⟩ (λb hb h=>by have:=HE.o.lt b hb;omega);have⟨Z,K,B⟩:=Q3 d hold M;obtain⟨tx,y,ao⟩:=d.iface;subst ao;have aa:D.length+l'.length=l.length:=by rw[<-HD.o,QqK]
  have ap:D.length<=1000:=O;obtain⟨m,hm⟩:=Zx D.length;rw[hm]at HO ap;have HM:=Q7h hm;cases L with
  |nil=>
   have aq:Hid (l'=[]):=by
    have:=d.len;show _=_;cases l' with
    |nil=>rfl
    |cons _ _=>simp at this
   clear d hold M hm aa;rw[HM.o];go_wp2_with (go_at_call 78;refine(Q5y [] l' c _ _ w.heap.size old Z.o K.o B.o Y.o).mono ?_;rintro e w' ⟨rfl,hb⟩;have ab:=Q7h hb;clear hb)
   go_ret
   have ac:D=l:=by have:=HD.o;rw[aq.o,QzT]at this;exact this
   refine⟨_,rfl,?_,f.o.trans (ab.o.mono f.o.size)⟩;rw[<-ac,HM.o];exact Qr (own_below HO.o ab.o) O
  |cons b bs''=>
   cases l' with
   |nil=>have:=d.len;simp at this
   |cons s l''=>
    have ar:=HE.o;obtain⟨aL,x,t,hx⟩:=ar;obtain⟨op,at_⟩:=s;simp only at t;obtain⟨tz,yz,hz⟩:=hx.iface;subst hz;have HX:=Q7h hx;have au:=t.lt;have av:Hid (∀w',wr.grownBy w' (some w.heap.size)->w'.cell? (b,0)=some (.string op)/\w'.cell? (b,1)=some (I at_)/\w'.cell? (b,2)=some (.iface tz yz)):=λw' hq=>by
     have h1:=t.below f.o au;have h2:=h1.grown hq (λe=>by injection e with e;omega);exact⟨h2.cell 0,h2.cell 1,h2.cell 2⟩
    have aw:Hid (∀w':World,wr.grownBy w' (some w.heap.size)->w'.ownsRow (w.heap.size+1) 185 2 (.slice A m H) m (Pz D)):=λw' hq=>HO.o.kept hq (by
     cases ho:(Value.slice A m H).ownBlock with
     |none=>exact .inl rfl
     |some g=>exact .inr (λe=>by injection e with e;have:=(HO.o.lt g ho).1;omega))
    have ad:Hid (∀w':World,w'.ownsRow (w.heap.size+1) 185 2 (.slice A m H) m (Pz D)->∀k,k<=w.heap.size->some k≠(Value.slice A m H).ownBlock):=λw' ho k X e=>by
     have:=(ho.lt k e.symm).1;omega
    have HK:Hid (l''.length<gk):=by show _<_;simp at X;omega
    clear d hold M hm aa X t hx;rw[HM.o];go_wp2_with (first|(go_at_call 78;refine(Q5y (b::bs'') ((op,at_)::l'') c _ _ w.heap.size old Z.o K.o B.o Y.o).mono ?_;rintro e w1 ⟨rfl,⟨hc,ae⟩,i⟩;have ax:=Q7h ae;clear ae;have ay:=Q7h i;have az:=av.o _ i;obtain⟨aF,aH,af⟩:=az;have N:=Q7h (aw.o _ i);have aM:=i.size;clear i)|(at_builtin;go_must (refine QkW _ rfl (.tmp 16) (.tmp 21) 266 rfl (w.heap.size+1) 185 i0 _ 2 24 Tryz.underlying266 ak.out al.out am.out an.out rfl O (.slice A m H) m (Pz D) rfl (N.out.alloc _) ⟨w1.heap.size,0,none⟩ 1 1 [.string op,I at_] rfl rfl (World.news_of_block (by simpa using QzY w1 (.cells #[.string op,I at_] 185))) (by simp[Value.oneCell']) (by simp only[maxLen];omega) O (by simp;omega) ?_;intro v2 w2 n u _;have Q:=ad.out w1 N.out;have ag:w.heap.size<w1.heap.size:=O;have d0:=u.cell (a:=⟨w.heap.size,0,none⟩) (v:= .pointer (some ⟨b,0,none⟩)) (by rw[QkK _ _ _ (by simpa using ag)];exact hc) (Q _ (QqB _));have d1:=u.cell (a:=⟨b,2,none⟩) (v:= .iface tz yz) (by rw[QkK _ _ _ (by simp;omega)];exact af) (Q _ (by simp;omega));have⟨ah,q⟩:=Q2 n u;clear n u Q hc aF aH af)))
    obtain⟨A2,c2,e2⟩:=Qk ah.out;subst e2;go_roundg l''.length
    case measure=>exact HK.out
    case rel=>
     have r:Below (w.heap.size+1) (w1.alloc (.cells #[.string op,I at_] 185)) w2:=
      ⟨q.out.os,q.out.tape,q.out.output,q.out.size,λj hj=>q.out.block j (by simp;omega) (ad.out w1 N.out j O)⟩
     have ai:Below w.heap.size wr w1:=Tt ay.out (QqB _) f.out.size;have aj:Below w.heap.size w w2:=(f.out.trans ai).trans (((QqA _ _).alloc O _).trans (r.mono O));refine⟨D++[(op,at_)],bs'',l'',A2,c2,?_,rfl,?_,HX.out,⟨_,d0⟩,?_,?_,aj,?_⟩
     ·show D++[(op,at_)]++l''=l;rw[<-HD.out,QqU];rfl
     ·rw[QqK,HM.out];rfl
     ·have e1:w1.frozen? ⟨w.heap.size,0,none⟩=false:=ax.out;rw[r.frozen (p:=⟨w.heap.size,0,none⟩) U,QgA _ _ _ (by simp;omega)];exact e1
     ·have:=r.size;simp at this;omega
     ·show w2.ownsRow _ _ _ _ _ _;rw[QqK,HM.out,Qbq];exact ah.out
end er
end Go.Proofs.YtfialjmemcobjaaGreatDoor
