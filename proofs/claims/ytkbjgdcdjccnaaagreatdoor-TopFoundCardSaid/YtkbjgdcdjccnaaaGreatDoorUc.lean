/- Texts of this claim, joined. -/
import Derived.Test.YtkbjgdcdjccnaaaGreatDoorRows
import Derived.Lib.Walk
import Derived.Lib.SliceRun
import Derived.Lib.JoinLaws
import Derived.Lib.AppendZeros
import Derived.WalkSpells
import Derived.Test.YtkbjgdcdjccnaaaGreatDoorYAbsK
import Derived.Shelf.SlSortCmp.NoneTotal
import Derived.Shelf.SlGeneric
import Derived.Test.YtkbjgdcdjccnaaaGreatDoorProg
import Derived.WalkKit
import Derived.Lib.Strings
import Derived.Lib.Slices
import Derived.Lib.Bytealg
import Derived.Test.YtkbjgdcdjccnaaaGreatDoorUa
import Derived.Test.YtkbjgdcdjccnaaaGreatDoorUb
set_option linter.unusedSimpArgs false
set_option linter.unusedVariables false
namespace Go.Proofs.YtkbjgdcdjccnaaaGreatDoor
open Go.RowKit Pl
theorem N9(n a b:Int):Fun Tryz.prog 216 [.c (.v (.int .i64 n)),.c (.v (.int .i64 a)),.c (.v (.int .i64 b))] [.c (.v (.bool (wi n a b)))]:=by
 refine A4 S6 rfl ?_;refine G0 ?_;(refine Ag (fun h=>?_) (fun h=>?_)<;>rw[h])
 ·refine G0 ?_;rw[Axi h];(exact⟨[],aI⟩)
 ·refine G0 ?_;rw[Ax2 h];(exact⟨[],aI⟩)
theorem Uy(s:ByteArray)(hs:s.size≤9223372036854775807):Fun Tryz.prog 215 [.c (.v (.string s))] [.c (.v (.bool (Wg s)))]:=by
 refine A4 Tt rfl ?_;refine G0 ?_;(refine Ag (fun h=>?_) (fun h=>?_)<;>rw[h])
 ·refine G0 ?_;rw[show Wg s=true by unfold Wg;rw[show emp s=true from h];rfl];(exact⟨[],aI⟩)
 ·refine G0 ?_;refine .inl (cX (C2 _ hs) ?_);refine G1 ?_;intro gg;rw[show Wg s=lab s.data.toList by unfold Wg;rw[show emp s=false from h];rfl];(exact⟨[],aI⟩)
theorem Xs(m:Sv)(hm:m.ok):Fun Tryz.prog 160 [.c (.agg m.row)] [.c (.v (.int .i64 m.err))]:=by
 obtain⟨o1,o2,o3,o4⟩:=hm;refine A4 Yc rfl ?_;refine G1 ?_;intro gg;refine .inl (cX (C2 _ o1) ?_);refine G1 ?_;intro gg;(refine Ag (fun h1=>?_) (fun h1=>?_)<;>rw[h1])
 ·refine G0 ?_
  (rw[show m.err=1 from by(first|(simp_all;done)|(unfold Sv.err;simp_all))];(exact⟨[],aI⟩))
 ·refine G0 ?_;refine .inl (cX (C2 _ o2) ?_);refine G1 ?_;intro gg;(refine Ag (fun h2=>?_) (fun h2=>?_)<;>rw[h2])
  ·refine G0 ?_
   (rw[show m.err=1 from by(first|(simp_all;done)|(unfold Sv.err;simp_all))];(exact⟨[],aI⟩))
  ·refine G0 ?_;refine .inl (cX (C2 _ o3) ?_);refine G1 ?_;intro gg;(refine Ag (fun h3=>?_) (fun h3=>?_)<;>rw[h3])
   ·refine G0 ?_
    (rw[show m.err=1 from by(first|(simp_all;done)|(unfold Sv.err;simp_all))];(exact⟨[],aI⟩))
   ·refine G0 ?_;refine .inl (cX (Uy _ o4) ?_);refine G1 ?_;intro gg;(refine Ag (fun h4=>?_) (fun h4=>?_)<;>rw[h4])
    ·refine G0 ?_
     (rw[show m.err=1 from by(first|(simp_all;done)|(unfold Sv.err;simp_all))];(exact⟨[],aI⟩))
    ·refine G0 ?_;refine .inl (cX (N9 _ _ _) ?_);refine G1 ?_;intro gg;(refine Ag (fun h5=>?_) (fun h5=>?_)<;>rw[h5])
     ·refine G0 ?_
      (rw[show m.err=3 from by(first|(simp_all;done)|(unfold Sv.err;simp_all))];(exact⟨[],aI⟩))
     ·refine G0 ?_;refine .inl (cX (N9 _ _ _) ?_);refine G1 ?_;intro gg;(refine Ag (fun h6=>?_) (fun h6=>?_)<;>rw[h6])
      ·refine G0 ?_
       (rw[show m.err=3 from by(first|(simp_all;done)|(unfold Sv.err;simp_all))];(exact⟨[],aI⟩))
      ·refine G0 ?_;refine .inl (cX (N9 _ _ _) ?_);refine G1 ?_;intro gg;(refine Ag (fun h7=>?_) (fun h7=>?_)<;>rw[h7])
       ·refine G0 ?_
        (rw[show m.err=3 from by(first|(simp_all;done)|(unfold Sv.err;simp_all))];(exact⟨[],aI⟩))
       ·refine G0 ?_
        (rw[show m.err=0 from by(first|(simp_all;done)|(unfold Sv.err;simp_all))];(exact⟨[],aI⟩))
theorem Amb(g x:Sv):Fun Tryz.prog 214 [.c (.agg g.row),.c (.agg x.row)] [.c (.v (.int .i64 (Sv.cf x.nd x.id g)))]:=by
 refine A4 Uq rfl ?_;(refine goI ?_;repeat (intro gg;refine goI ?_));(refine⟨_,_,false,aI,Xq _ _,Ad,nI,?_⟩);refine G1 ?_;intro gg;refine .inl (cX (Xq _ _) ?_);(refine goI ?_;repeat (intro gg;refine goI ?_));(refine .inl ⟨_,_,true,[],aI,Ars false [D4 g.nd x.nd,D4 g.id x.id] (by simp),(fun _=>fI),nI,?_⟩);refine G1 ?_;intro gg;(exact⟨[],aI⟩)
def Avp(l:List Sv):List V:=[.sl false (l.map Sv.row)]
theorem Qm(c:Bool)(ls:List (List Sv))(hls:ls.length≤9223372036854775807)(hl:∀l∈ls,l.length≤9223372036854775807)(hw:∀l∈ls,∀m∈l,m.ok):Fun Tryz.prog 159 [.c (.sl c (ls.map Avp))] [.c (.v (.int .i64 (firstErr ckSv ls)))]:=by
 refine A4 Dj rfl ?_;refine G0 ?_;rw[ZE];(refine⟨[],none,{k:Nat//k≤ls.length∧∀j,(h:j<ls.length)→j<k→ckSv (ls[j])=0},[9,10],fun⟨k,hk,h0⟩=>[(11,.v (.int .i64 k))],[],fun⟨k,hk,h0⟩=>[],fun⟨k,hk,h0⟩=>ls.length-k,trivial,fun _=>⟨trivial,fun _=>⟨⟨0,by omega,fun j _ h=>by omega⟩,tI,A2 _ _,tI,A3 _ _⟩⟩,fun⟨k,hk,h0⟩=>?_⟩);refine G0 ?_;(refine Ag (fun h=>?_) (fun h=>?_)<;>rw[h])
 ·have hlt:k<ls.length:=by simpa using h
  refine G0 ?_;refine⟨k,_,rfl,A7 hlt,?_⟩;refine G0 ?_;have HL:=hl _ (ZK hlt);have HW:=hw _ (ZK hlt);have HE:=G5 (e:=ckSv) hlt h0;have HN:ckSv ls[k]=0→∀j,(h:j<ls.length)→j<k+1→ckSv (ls[j])=0:=fun e=>up1 (p:=fun j h=>ckSv (ls[j])=0) h0 (fun _=>e);generalize ls[k]=l at *;rw[ZE];(refine Ag (fun h1=>?_) (fun h1=>?_)<;>rw[h1])
  ·refine G0 ?_;have e:ckSv l=2:=Afd (by have:=ZV h1;omega);rw[HE (by rw[e];decide),e];(exact⟨[],aI⟩)
  ·have h1':¬40<l.length:=(by have:=ZW h1;omega);refine G0 ?_;rw[ZE];(refine⟨[],none,{q:Nat//q≤l.length∧∀j,(h:j<l.length)→j<q→(l[j]).err=0},[4,9,10,11,18,19],fun⟨q,hq,g0⟩=>[(20,.v (.int .i64 q))],[],fun⟨q,hq,g0⟩=>[],fun⟨q,hq,g0⟩=>l.length-q,trivial,fun _=>⟨trivial,fun _=>⟨⟨0,by omega,fun j _ h=>by omega⟩,tI,A2 _ _,tI,A3 _ _⟩⟩,fun⟨q,hq,g0⟩=>?_⟩);refine G0 ?_;(refine Ag (fun h2=>?_) (fun h2=>?_)<;>rw[h2])
   ·have hlt2:q<l.length:=(by have:=ZV h2;omega);refine G0 ?_;refine⟨q,_,rfl,A7 hlt2,?_⟩;refine G1 ?_;intro gg;refine .inl (cX (Xs _ (HW _ (ZK hlt2))) ?_);refine G1 ?_;intro gg;(refine Ag (fun h3=>?_) (fun h3=>?_)<;>rw[h3])
    ·have h3':(l[q]).err≠0:=by simpa using h3
     have e0:=G5 hlt2 g0 h3';refine G0 ?_;have e:ckSv l=(l[q]).err:=(Af2 h1' (by rw[e0];exact h3')).trans e0;rw[HE (by rw[e];exact h3'),e];(exact⟨[],aI⟩)
    ·refine G0 ?_;(exact⟨none,trivial,fun _=>⟨⟨q+1,by omega,up1 (p:=fun j h=>(l[j]).err=0) g0 (fun _=>by simpa using h3)⟩,by show l.length-(q+1)<l.length-q;omega,tI,tI,tI,tI⟩⟩)
   ·have hge2:¬q<l.length:=(by have:=ZW h2;omega);have h2':firstErr Sv.err l=0:=D3 fun i hi=>g0 i hi (by omega);refine G0 ?_;(refine⟨[],none,{k:Nat//(k<l.length∨k=0)∧∀i,(h:i+1<l.length)→i<k→Sv.lt l[i] l[i+1]=true},[4,9,10,11],fun⟨q,hq,g0⟩=>[(8,.v (.int .i64 ((q:Int)+1)))],[],fun⟨q,hq,g0⟩=>[],fun⟨q,hq,g0⟩=>l.length-q,trivial,fun _=>⟨trivial,fun _=>⟨⟨0,by omega,fun j _ h=>by omega⟩,tI,A2 _ _,tI,A3 _ _⟩⟩,fun⟨q,hq,g0⟩=>?_⟩);refine G0 ?_;rw[ZE];(refine Ag (fun h3=>?_) (fun h3=>?_)<;>rw[h3])
    ·have hlt3:q+1<l.length:=(by have:=ZV h3;omega);refine G0 ?_;refine⟨q,_,by omega,A7 (by omega),?_⟩;refine G0 ?_;refine⟨q+1,_,by omega,A7 hlt3,?_⟩;refine G0 ?_;refine .inl (cX (Amb _ _) ?_);refine G1 ?_;intro gg;(refine Ag (fun h4=>?_) (fun h4=>?_)<;>rw[h4])
     ·refine G0 ?_;have e:ckSv l=4:=Aqx h1' h2' (Qt hlt3 (ZY (by have:=ZV h4;show¬Sv.cf l[q+1].nd l[q+1].id l[q]<0;omega)));rw[HE (by rw[e];decide),e];(exact⟨[],aI⟩)
     ·refine G0 ?_;(exact⟨none,trivial,fun _=>⟨⟨q+1,by omega,up2 (p:=fun i h=>Sv.lt l[i] l[i+1]=true) g0 (fun _=>ZX (by have:=ZW h4;show Sv.cf l[q+1].nd l[q+1].id l[q]<0;omega))⟩,by show l.length-(q+1)<l.length-q;omega,tI,tI,tI,tI⟩⟩)
    ·have hge3:¬q+1<l.length:=(by have:=ZW h3;omega);refine G0 ?_;have e:ckSv l=0:=Am6 h1' h2' (Pd fun i hi=>g0 i hi (by omega));(exact⟨none,trivial,fun _=>⟨⟨k+1,by omega,HN e⟩,by show ls.length-(k+1)<ls.length-k;omega,tI,tI,tI,tI⟩⟩)
 ·have hge:¬k<ls.length:=by simpa using h
  refine G0 ?_;rw[D3 (l:=ls) (fun i hi=>h0 i hi (by omega))];(exact⟨[],aI⟩)
theorem Z6(l:List Sv)(hl:l.length≤9223372036854775807)(hw:∀m∈l,m.ok):Fun Tryz.prog 154 [.c (.sl false (l.map Sv.row))] [.c (.v (.int .i64 (ckSv l)))]:=by
 refine A4 Lm rfl ?_;refine G1 ?_;intro gg;(refine .inl ⟨_,_,true,[],aI,Qm false [l] (by simp) (by simpa using hl) (by simpa using hw),(fun _=>fI),nI,?_⟩);rw[Jj];refine G1 ?_;intro gg;(exact⟨[],aI⟩)
theorem Axe:(Tryz.prog.info? 74).map (fun i=>(i.zero,i.size,i.bytes))=some (some (.agg #[.string ⟨#[]⟩,.int .i64 0,.int .i64 0]),3,32):=by kernel_rfl
def Azh(base n:Nat)(xs:List Value)(w:World)(e:Ending)(w':World):Prop:=
 ∃A' c',e=.returned (.slice A' n c')∧w'.ownsRow base 74 3 (.slice A' n c') n xs∧Below base w w'∧w.drawn≤w'.drawn
set_option maxRecDepth 100000 in
theorem An9(A:Option Addr)(n c:Nat)(xs:List Value)(w:World)(hA:A=none→n=0)(hn:n≤1000)(hxl:xs.length=n*3)(hx:∀ad,A=some ad→∀j u,xs[j]? =some u→w.cell? (ad.add j)=some u)(h1:∀v∈xs,v.oneCell'=true):
  Calls Tryz.prog 118 #[.slice A n c] w (Azh w.heap.size n xs w):=by
 obtain⟨i0,hi0,hz0,hzs,hzb⟩:=info_parts Axe;cases A with
 |none=>
  obtain rfl:=hA rfl;obtain rfl:xs=[]:=XR (by simpa using hxl);clear hx hxl hi0 hz0 hzs hzb h1;have hnl:=fun(w:World)=>Lib.run_eql_slice_nil (P:=Tryz.prog) w 54 74 none 0 c 0 0 Tryz.underlying54
  go_enter Tryz.func118,Tryz.ntmps118
  go_wp2
  go_ret
  exact⟨none,0,rfl,World.ownsRow_nil _ _ _ _,Below.refl _ _,ZT _⟩
 |some ad=>
  have HX:=hid (hx ad rfl);have HXL:=hid hxl;have HZ0:=hid hz0;have HZS:=hid hzs;have HZB:=hid hzb;have HI0:=hid hi0;clear hx hxl hA hi0 hz0 hzs hzb;have hnl:=fun(w:World)=>Lib.run_eql_slice_nil (P:=Tryz.prog) w 54 74 (some ad) n c 0 0 Tryz.underlying54
  go_enter Tryz.func118,Tryz.ntmps118
  have hown0:(w.alloc (.cells #[] 74)).ownsRow w.heap.size 74 3 (.slice (some ⟨w.heap.size,0,none⟩) 0 0) 0 []:=
   ⟨by simp,.inr ⟨w.heap.size,0, #[],rfl,ZT _,heap_alloc_new w _,by omega,by simp[maxLen],by simp,by simp⟩⟩
  have HO:=hid hown0;have HX1:=hid (fun j u (hj:xs[j]? =some u)=>(World.cell?_alloc_lt w (.cells #[] 74) (ad.add j) (Wu (HX.out j u hj))).trans (HX.out j u hj));clear hown0
  go_wp2_with (at_builtin;refine Ha _ rfl _ _ 54 rfl w.heap.size 74 i0 _ 3 32 Tryz.underlying54 HI0.out HZ0.out HZS.out HZB.out rfl (by decide) _ _ _ rfl HO.out ad n c xs rfl HXL.out HX1.out h1 (by simp only[maxLen];omega) (by omega) (by simp) ?_;intro v1 w1 hown1 hg1 hd1 hat1)
  go_ret
  rw[Nat.zero_add,List.nil_append]at hown1;obtain⟨A',c',rfl⟩:=Iy hown1;exact⟨A',c',rfl,hown1,((Below.refl _ _).alloc (ZT _) _).grown hg1 (by simp) (Eu HO.out),hd1⟩
theorem Agw{α:Type}(enc:α→List Value)(he:∀x,(enc x).length=3)(h1:∀x,∀v∈enc x,v.oneCell'=true)(cl:Bool)(l:List α)(hl:l.length≤1000):
  Fun Tryz.prog 118 [.c (.sl cl (l.map fun x=>(enc x).map .v))] [.o 74 3 (l.map fun x=>(enc x).map .v)]:=by
 refine⟨Cn Tryz.func118 (by kernel_rfl) (by kernel_rfl),fun w R xs hlt hp=>?_⟩;obtain⟨v,rfl,hv⟩:=Rm hp;obtain⟨A,c,rfl,hA,hx⟩:=Ri he hv;have hone:∀v∈l.flatMap enc,v.oneCell'=true:=fun v hv=>by
  obtain⟨g,_,hg⟩:=List.mem_flatMap.1 hv;exact h1 g v hg
 refine(An9 A l.length c (l.flatMap enc) w hA hl (J8 he l) hx hone).mono ?_
 rintro e w' ⟨A',c',rfl,hown,hb,hd⟩
 exact H8 he h1 (by decide) hlt hown (G7 hb) (fun k hk=>.inr (Eu hown k hk)) (fun k hk=>by have:=Eu hown k hk;intro h;have:=hlt k h;omega)

end Go.Proofs.YtkbjgdcdjccnaaaGreatDoor

namespace Go.Proofs.YtkbjgdcdjccnaaaGreatDoor
open Go.RowKit Pl
theorem Ob(n a b:Int):Fun Tryz.prog 213 [.c (.v (.int .i64 n)),.c (.v (.int .i64 a)),.c (.v (.int .i64 b))] [.c (.v (.bool (wi n a b)))]:=by
 refine A4 Dw rfl ?_;refine G0 ?_;(refine Ag (fun h=>?_) (fun h=>?_)<;>rw[h])
 ·refine G0 ?_;rw[Axi h];(exact⟨[],aI⟩)
 ·refine G0 ?_;rw[Ax2 h];(exact⟨[],aI⟩)
theorem Zg(n:Int):Fun Tryz.prog 212 [.c (.v (.int .i64 n))] [.c (.v (.bool (wi n (-10000000) 10000000)))]:=by
 refine A4 Fu rfl ?_;refine G0 ?_;refine .inl (cX (Ob _ _ _) ?_);refine G1 ?_;intro gg;(exact⟨[],aI⟩)
theorem Axq{x y z h s:Int}(h1:wi x (-10000000) 10000000=true)(h2:wi y (-10000000) 10000000=true)(h3:wi z (-10000000) 10000000=true)(h4:wi h 0 1000000=true)(h5:wi s 0 1000=true):Ahk x y z h s=0:=by simp[Ahk,Aek,h1,h2,h3,h4,h5]
theorem Zv{x y z h s:Int}(h1:wi x (-10000000) 10000000=false∨wi y (-10000000) 10000000=false∨wi z (-10000000) 10000000=false∨wi h 0 1000000=false∨wi s 0 1000=false):Ahk x y z h s=3:=by
 rcases h1 with h|h|h|h|h<;>simp[Ahk,Aek,h]
theorem Mm(p:Pc):Fun Tryz.prog 156 [.c (.agg p.row)] [.c (.v (.int .i64 p.err))]:=by
 refine A4 Oo rfl ?_;refine G1 ?_;intro gg;refine .inl (cX (Zg _) ?_);refine G1 ?_;intro gg;(refine Ag (fun h1=>?_) (fun h1=>?_)<;>rw[h1])
 ·refine G0 ?_;rw[show p.err=3 from Zv (.inl (L5 h1))];(exact⟨[],aI⟩)
 ·refine G0 ?_;refine .inl (cX (Zg _) ?_);refine G1 ?_;intro gg;(refine Ag (fun h2=>?_) (fun h2=>?_)<;>rw[h2])
  ·refine G0 ?_;rw[show p.err=3 from Zv (.inr (.inl (L5 h2)))];(exact⟨[],aI⟩)
  ·refine G0 ?_;refine .inl (cX (Zg _) ?_);refine G1 ?_;intro gg;(refine Ag (fun h3=>?_) (fun h3=>?_)<;>rw[h3])
   ·refine G0 ?_;rw[show p.err=3 from Zv (.inr (.inr (.inl (L5 h3))))];(exact⟨[],aI⟩)
   ·refine G0 ?_;refine .inl (cX (Ob _ _ _) ?_);refine G1 ?_;intro gg;(refine Ag (fun h4=>?_) (fun h4=>?_)<;>rw[h4])
    ·refine G0 ?_;rw[show p.err=3 from Zv (.inr (.inr (.inr (.inl (L5 h4)))))];(exact⟨[],aI⟩)
    ·refine G0 ?_;refine .inl (cX (Ob _ _ _) ?_);refine G1 ?_;intro gg;(refine Ag (fun h5=>?_) (fun h5=>?_)<;>rw[h5])
     ·refine G0 ?_;rw[show p.err=3 from Zv (.inr (.inr (.inr (.inr (L5 h5)))))];(exact⟨[],aI⟩)
     ·refine G0 ?_;rw[show p.err=0 from Axq (Fb h1) (Fb h2) (Fb h3) (Fb h4) (Fb h5)];(exact⟨[],aI⟩)
theorem Zr{n x:Int}(h:0≤n):n.tdiv x=n/x:=Int.tdiv_eq_ediv_of_nonneg h
theorem Apc(n:Int)(h0:0≤n)(hm:n≤9223372036854775807):Fun Tryz.prog 288 [.c (.v (.int .i64 n))] [.c (.v (.int .i64 (rt n)))]:=by
 refine A4 Aa6 rfl ?_;refine G0 ?_;(refine Ag (fun h=>?_) (fun h=>?_)<;>rw[h])
 ·have h2:n<2:=by simpa using h
  have hr:rt n=n:=Asr h0 (by rcases(by omega:n=0∨n=1)with rfl|rfl<;>decide) (by rcases(by omega:n=0∨n=1)with rfl|rfl<;>decide);refine G0 ?_;rw[hr];(exact⟨[],aI⟩)
 ·have h2:¬n<2:=by simpa using h
  refine G0 ?_;(refine⟨[],none,{k:Int//1≤k∧k≤6074000998},[0],fun⟨k,hk1,hk2⟩=>[(3,.v (.int .i64 k))],[],fun⟨k,hk1,hk2⟩=>[],fun⟨k,hk1,hk2⟩=>(12148001996-k).toNat,trivial,fun _=>⟨trivial,fun _=>⟨⟨1,by omega,by omega⟩,tI,A2 _ _,tI,A3 _ _⟩⟩,fun⟨k,hk1,hk2⟩=>?_⟩);have hd:=Ie h0 hk1;have hq:n/k≤n:=Int.ediv_le_self _ h0;refine G0 ?_;refine⟨by omega,n/k,by rw[Zr h0];exact D7 (by omega) (by omega),?_⟩;refine G0 ?_;(refine Ag (fun h3=>?_) (fun h3=>?_)<;>rw[h3])
  ·have hc:k≤n/k:=(by have:=ZV h3;omega);have hb:=Ba4 h0 hm hk1 hc;refine G0 ?_;(exact⟨none,trivial,fun _=>⟨⟨k*2,by omega,by omega⟩,by show(12148001996-k*2).toNat<(12148001996-k).toNat;omega,tI,tI,tI,tI⟩⟩)
  ·have hc:¬k≤n/k:=(by have:=ZW h3;omega);have hb:=Ax9 h0 hk1 (by omega);refine G0 ?_;(refine⟨[],none,{k:Int//1≤k∧k≤6074000998∧rt n≤k},[0],fun⟨x,hx1,hx2,hx3⟩=>[(3,.v (.int .i64 x))],[],fun⟨x,hx1,hx2,hx3⟩=>[],fun⟨x,hx1,hx2,hx3⟩=>x.toNat,trivial,fun _=>⟨trivial,fun _=>⟨⟨k,by omega,by omega,hb⟩,tI,A2 _ _,tI,A3 _ _⟩⟩,fun⟨x,hx1,hx2,hx3⟩=>?_⟩);have q1:=Ie h0 hx1;have q2:=Ax6 (by omega) hx1 hx3;have q3:=Axy n h0 hm;have q4:=Atg h0 hx1;have q5:1≤rt n:=Ake (by omega) (by omega);have q6:=q1.1;clear q1;refine G0 ?_;refine⟨by omega,n/x,by rw[Zr h0];exact D7 (by omega) (by omega),?_⟩;refine G0 ?_;refine⟨by omega,(x+n/x)/2,by rw[Zr (by omega)];exact D7 (by omega) (by omega),?_⟩;refine G0 ?_;(refine Ag (fun h4=>?_) (fun h4=>?_)<;>rw[h4])
   ·have hc:x≤(x+n/x)/2:=(by have:=ZV h4;omega);refine G0 ?_;rw[show V.v (Value.int .i64 (rt n))=V.v (Value.int .i64 x)by rw[←Aqc h0 hx1 hx3 hc]];(exact⟨[],aI⟩)
   ·have hc:¬x≤(x+n/x)/2:=(by have:=ZW h4;omega);refine G0 ?_;(exact⟨none,trivial,fun _=>⟨⟨(x+n/x)/2,by omega,by omega,by omega⟩,by show((x+n/x)/2).toNat<x.toNat;omega,tI,tI,tI,tI⟩⟩)

theorem Ii(c:Bool)(l:List Mb)(hl:l.length≤1000):Fun Tryz.prog 41 [.c (.sl c (l.map Mb.row))] [.o 24 5 (l.map Mb.row)]:=
 Afh Mb.enc Mb.enc_len Mb.enc_one c l hl
theorem Vp(l:List Mb)(x:Mb)(i:Nat)(hi:i≤l.length)(hl:l.length≤1000):Fun Tryz.prog 97 [.o 24 5 (l.map Mb.row),.c (.v (.int .i64 i)),.o 24 5 [x.row]] [.o 24 5 ((l.take i++[x]++l.drop i).map Mb.row)]:=
 Ads Mb.enc Mb.enc_len Mb.enc_one l x i hi hl
namespace Pl
def Sv.at_(s:Sv)(v:Int):Sv:=⟨s.nd,s.id,s.nm,s.tg,s.ad,s.pt,s.ps,v,s.gn⟩
def Sv.sought(name tag:ByteArray)(x:Sv):Bool:=(x.nm.toList==name.toList)&&((emp tag||(x.tg.toList==tag.toList))&&(x.ps&& !x.gn))
def Er(l:List Sv)(name tag:ByteArray):List Sv:=l.filter (Sv.sought name tag)
theorem Xc{l:List Sv}{name tag:ByteArray}{k:Nat}(hk:k<l.length):Er (l.take (k+1)) name tag=if Sv.sought name tag l[k]=true then Er (l.take k) name tag++[l[k]]else Er (l.take k) name tag:=by
 unfold Er;rw[Ahs hk,List.filter_append];split<;>rename_i h<;>simp[h]
theorem T6(l:List Sv)(name tag:ByteArray):(Er l name tag).length≤l.length:=List.length_filter_le _ _
def Ck(l:List Sv)(name tag:ByteArray):Int×List Sv:=if ckSv l≠0 then(ckSv l,[])else if lab name.data.toList=false then(1,[])else if Wg tag=false then(1,[])else(0,Er l name tag)
end Pl
theorem Zj(c:Bool)(l:List Sv)(hl:l.length≤1000):Fun Tryz.prog 117 [.c (.sl c (l.map Sv.row))] [.o 77 9 (l.map Sv.row)]:=
 Agp Sv.enc Sv.enc_len Sv.enc_one c l hl
theorem Agi(l:List Sv)(x:Sv)(i:Nat)(hi:i≤l.length)(hl:l.length≤1000):Fun Tryz.prog 165 [.o 77 9 (l.map Sv.row),.c (.v (.int .i64 i)),.o 77 9 [x.row]] [.o 77 9 ((l.take i++[x]++l.drop i).map Sv.row)]:=
 Aea Sv.enc Sv.enc_len Sv.enc_one l x i hi hl
theorem Aj3(c:Bool)(l:List Gw)(hl:l.length≤1000):Fun Tryz.prog 118 [.c (.sl c (l.map Gw.row))] [.o 74 3 (l.map Gw.row)]:=
 Agw Gw.enc Gw.enc_len Gw.enc_one c l hl
theorem Aw5:(Tryz.prog.info? 152).map (fun i=>(i.zero,i.size,i.bytes))=some (some (.agg #[.string ⟨#[]⟩,.int .i64 0,.int .i64 0,.int .i64 0,.int .i64 0,.int .i64 0]),6,56):=by kernel_rfl
def Ayf(base n:Nat)(xs:List Value)(w:World)(e:Ending)(w':World):Prop:=
 ∃A' c',e=.returned (.slice A' n c')∧w'.ownsRow base 152 6 (.slice A' n c') n xs∧Below base w w'∧w.drawn≤w'.drawn
set_option maxRecDepth 100000 in
theorem Am8(A:Option Addr)(n c:Nat)(xs:List Value)(w:World)(hA:A=none→n=0)(hn:n≤1000)(hxl:xs.length=n*6)(hx:∀ad,A=some ad→∀j u,xs[j]? =some u→w.cell? (ad.add j)=some u)(h1:∀v∈xs,v.oneCell'=true):
  Calls Tryz.prog 119 #[.slice A n c] w (Ayf w.heap.size n xs w):=by
 obtain⟨i0,hi0,hz0,hzs,hzb⟩:=info_parts Aw5;cases A with
 |none=>
  obtain rfl:=hA rfl;obtain rfl:xs=[]:=XR (by simpa using hxl);clear hx hxl hi0 hz0 hzs hzb h1;have hnl:=fun(w:World)=>Lib.run_eql_slice_nil (P:=Tryz.prog) w 57 152 none 0 c 0 0 Tryz.underlying57
  go_enter Tryz.func119,Tryz.ntmps119
  go_wp2
  go_ret
  exact⟨none,0,rfl,World.ownsRow_nil _ _ _ _,Below.refl _ _,ZT _⟩
 |some ad=>
  have HX:=hid (hx ad rfl);have HXL:=hid hxl;have HZ0:=hid hz0;have HZS:=hid hzs;have HZB:=hid hzb;have HI0:=hid hi0;clear hx hxl hA hi0 hz0 hzs hzb;have hnl:=fun(w:World)=>Lib.run_eql_slice_nil (P:=Tryz.prog) w 57 152 (some ad) n c 0 0 Tryz.underlying57
  go_enter Tryz.func119,Tryz.ntmps119
  have hown0:(w.alloc (.cells #[] 152)).ownsRow w.heap.size 152 6 (.slice (some ⟨w.heap.size,0,none⟩) 0 0) 0 []:=
   ⟨by simp,.inr ⟨w.heap.size,0, #[],rfl,ZT _,heap_alloc_new w _,by omega,by simp[maxLen],by simp,by simp⟩⟩
  have HO:=hid hown0;have HX1:=hid (fun j u (hj:xs[j]? =some u)=>(World.cell?_alloc_lt w (.cells #[] 152) (ad.add j) (Wu (HX.out j u hj))).trans (HX.out j u hj));clear hown0
  go_wp2_with (at_builtin;refine Ha _ rfl _ _ 57 rfl w.heap.size 152 i0 _ 6 56 Tryz.underlying57 HI0.out HZ0.out HZS.out HZB.out rfl (by decide) _ _ _ rfl HO.out ad n c xs rfl HXL.out HX1.out h1 (by simp only[maxLen];omega) (by omega) (by simp) ?_;intro v1 w1 hown1 hg1 hd1 hat1)
  go_ret
  rw[Nat.zero_add,List.nil_append]at hown1;obtain⟨A',c',rfl⟩:=Iy hown1;exact⟨A',c',rfl,hown1,((Below.refl _ _).alloc (ZT _) _).grown hg1 (by simp) (Eu HO.out),hd1⟩
theorem Agv{α:Type}(enc:α→List Value)(he:∀x,(enc x).length=6)(h1:∀x,∀v∈enc x,v.oneCell'=true)(cl:Bool)(l:List α)(hl:l.length≤1000):
  Fun Tryz.prog 119 [.c (.sl cl (l.map fun x=>(enc x).map .v))] [.o 152 6 (l.map fun x=>(enc x).map .v)]:=by
 refine⟨Cn Tryz.func119 (by kernel_rfl) (by kernel_rfl),fun w R xs hlt hp=>?_⟩;obtain⟨v,rfl,hv⟩:=Rm hp;obtain⟨A,c,rfl,hA,hx⟩:=Ri he hv;have hone:∀v∈l.flatMap enc,v.oneCell'=true:=fun v hv=>by
  obtain⟨g,_,hg⟩:=List.mem_flatMap.1 hv;exact h1 g v hg
 refine(Am8 A l.length c (l.flatMap enc) w hA hl (J8 he l) hx hone).mono ?_
 rintro e w' ⟨A',c',rfl,hown,hb,hd⟩
 exact H8 he h1 (by decide) hlt hown (G7 hb) (fun k hk=>.inr (Eu hown k hk)) (fun k hk=>by have:=Eu hown k hk;intro h;have:=hlt k h;omega)
theorem Avv{w:World}{R R':Nat→Prop}{T:TypeId}{sz:Nat}{rows:List (List V)}{x:Value}(h:P3 w R (.o T sz rows) x)(hR:∀b,R b→R' b)(hb:∀b,x.ownBlock=some b→R' b):RV w R' noG (.sl false rows) x:=by
 obtain⟨hsz,xs,g5,g6⟩:=h;have g5':w.ownsRow 0 T (Ent.mk 0 (.t T) sz rows).sz (Loc.mk 0 sz x false none).val (Ent.mk 0 (.t T) sz rows).rows.length xs:=g5;rcases Gn g5' with⟨hv,h0⟩|⟨b,cap,hv,hbk⟩
 ·have hv:x=.slice none 0 0:=hv;rw[hv];have:rows=[]:=h0;subst this;exact .nil _ _ _ (by simp)
 ·have hv:x=.slice (some ⟨b,0,none⟩) rows.length cap:=hv;have hbk:x.ownBlock=some b:=hbk;rw[hv];have hcapn:rows.length≤cap:=by
   rcases g5.2 with⟨q,_⟩|⟨g',cap',cur,q,_,_,hnc,_⟩
   ·rw[hv]at q;cases q
   ·rw[hv]at q;injection q with _ _ q;omega
  refine .sl _ rows b 0 cap sz (fun i j=>(xs[i*sz+j]?).getD undef) (hb b hbk) hcapn (by simp) g6.1 ?_ ?_
  ·intro i j row u h1 h2;obtain⟨y,q1,_,q2⟩:=g6.2 i j row u h1 h2;show w.cell? ⟨b,0+i*sz+j,none⟩=some ((xs[i*sz+j]?).getD undef);rw[q1,Nat.zero_add];exact Ff g5' hbk q1
  ·intro i j row u h1 h2;obtain⟨y,q1,_,q2⟩:=g6.2 i j row u h1 h2;show RV w R' noG u ((xs[i*sz+j]?).getD undef);rw[q1];exact q2.mono (fun b hb=>⟨hR b hb,rfl⟩) (Gle.refl _)
def frz:Par→Par
 |.c u=>.c u
 |.o _ _ rows=>.c (.sl false rows)
theorem Fun.frz{P:Program}{f:FuncId}{ps rs:List Par}(h:Fun P f ps rs):Fun P f ps (rs.map frz):=by
 refine⟨h.1,fun w R xs hlt hp=>(h.2 w R xs hlt hp).mono ?_⟩
 rintro e w' ⟨ys,R',he,hfr,h1,h2,h3,h4⟩
 have no:∀(i:Nat) (T:TypeId) (sz:Nat) (rows:List (List V)),(rs.map Go.Proofs.YtkbjgdcdjccnaaaGreatDoor.frz)[i]?≠some (.o T sz rows):=fun i T sz rows q=>by
  rw[XJ]at q;cases hr:rs[i]? with
  |none=>rw[hr]at q;cases q
  |some r=>
   rw[hr]at q;cases r<;>cases q
 refine⟨ys,fun b=>R' b∨Ax rs ys b,he,hfr,fun b hb=>.inl (h1 b hb),?_,⟨by rw[ZE];exact h3.len,?_,?_,?_⟩,?_⟩
 ·rintro b (hb|hb)
  ·exact h2 b hb
  ·refine .inr ⟨?_,h4 b hb⟩;obtain⟨i,T,sz,rows,x,q1,q2,q3⟩:=hb;obtain⟨_,xs',g,_⟩:=h3.ok i _ x q1 q2;exact K9 g q3
 ·intro i p x hp1 hx;rw[XJ]at hp1;cases hr:rs[i]? with
  |none=>rw[hr]at hp1;cases hp1
  |some r=>
   rw[hr]at hp1;have ho:=h3.ok i r x hr hx;cases r with
   |c u=>
    injection hp1 with hp1;subst hp1;exact RV.mono ho (fun b hb=>⟨.inl hb,rfl⟩) (Gle.refl _)
   |o T sz rows=>
    injection hp1 with hp1;subst hp1;exact Avv ho (fun b hb=>.inl hb) (fun b hb=>.inr ⟨i,T,sz,rows,x,hr,hx,hb⟩)
 ·intro i j T sz rows T' sz' rows' x y b hij h1;exact absurd h1 (no i T sz rows)
 ·rintro b ⟨i,T,sz,rows,x,q1,_⟩
  exact absurd q1 (no i T sz rows)
 ·rintro b ⟨i,T,sz,rows,x,q1,_⟩
  exact absurd q1 (no i T sz rows)
theorem Agl(c:Bool)(l:List Wh)(hl:l.length≤1000):Fun Tryz.prog 119 [.c (.sl c (l.map Wh.row))] [.o 152 6 (l.map Wh.row)]:=
 Agv Wh.enc Wh.enc_len Wh.enc_one c l hl
namespace Pl
structure Pk where
 fr:ByteArray
 wo:Bool
 ms:List Mb
 sv:List Sv
 gs:List Gw
 wh:List Wh
def Pk.row(p:Pk):List V:=[.v (.string p.fr),.v (.bool p.wo),.sl false (p.ms.map Mb.row),.sl false (p.sv.map Sv.row),.sl false (p.gs.map Gw.row),.sl false (p.wh.map Wh.row)]
structure Pk.ok(p:Pk):Prop where
 fr:p.fr.size≤9223372036854775807
 msl:p.ms.length≤9223372036854775807
 ms:∀x∈p.ms,x.ok
 svl:p.sv.length≤1000000000000000
 sv:∀x∈p.sv,x.ok
 gsl:p.gs.length≤1000000000000000
 gs:∀x∈p.gs,x.ok
 whl:p.wh.length≤1000000000000000
 wh:∀x∈p.wh,x.ok
end Pl
open Go
theorem Afv {P : Program} {f : FuncId} {fn : Func} {code : Code} {rc : Aj} {ps rs : List Par} {rts : List RT} (hf : P.funcs[f]? = some fn) (hb : fn.body = some code) (hname : (fn.name == "runtime.NumGoroutine") = false) (hres : Ap P fn.ntmps code = some (Du rc))
  (hlen:ps.length≤fn.ntmps) (hts:Nf P fn.results.toList=some rts) (h:wpv P rc (Akv rts rs) (P8 ps)):Fun P f ps rs:=by
 refine⟨⟨fn,hf,hname,by rw[hb];rfl⟩,fun w R xs hlt hp=>?_⟩;refine calls_of_wp hf hb ?_;obtain⟨G0,hrel⟩:=Ug (n:=fn.ntmps) hlt hp hlen;refine wp_mono (C7 (c:=⟨w,R,Ax ps xs,fn.ntmps,noD,G0⟩) rfl rc hres h hrel) fun e a' w' he=>?_;have fin:∀st,Avq rts rs st→Rel ⟨w,R,Ax ps xs,fn.ntmps,noD,G0⟩ st a' w'→a'.defers=[]∧∃v,(results fn a'.tmps).run P w'=.ok v w'∧∃(ys:List Value) (R':Nat→Prop),Ending.returned v=.returned (Fx ys)∧Fr (Ax ps xs) w w'∧(∀b,R b→R' b)∧
   (∀b,R' b→R b∨(b<w'.heap.size∧(Ax ps xs b∨w.heap.size≤b)))∧Ik w' R' rs ys∧(∀b,Ax rs ys b→Ax ps xs b∨w.heap.size≤b):=fun st ⟨us,gone,hG,hA⟩ ⟨R2,G,hR⟩=>by
  obtain⟨zs,z1,z2,z3⟩:=Im hR _ hts hG;refine⟨hR.defers,_,Hk z1,zs,RB R2 G st.H gone true,rfl,hR.fr,fun b hb=>.inl (hR.old b hb),?_,?_⟩
  ·rintro b (hb|⟨_,id,e,l,_,q1,q2,q3,q4⟩)
   ·rcases hR.src b hb with q|q
    ·exact .inl q
    ·exact .inr ⟨hR.lt b hb,q⟩
   ·exact .inr ⟨hR.hr.lt q1 q2 q3 q4,(hR.hr.mine id e l b q1 q2 q3 q4).2⟩
  ·obtain⟨h1,h2⟩:=G4 hR (bor0:=true) (xs:=zs) hA (fun e=>e) z2.symm (fun i u x h3 h4=>z3 i u x h3 h4) (fun id hid=>hid);refine⟨h1,fun b hb=>?_⟩;obtain⟨id,_,e,l,q1,q2,q3,q4⟩:=h2 b hb;exact(hR.hr.mine id e l b q1 q2 q3 q4).2
 cases e with
 |normal=>obtain⟨st,h1,h2⟩:=he;exact fin st h1 h2
 |ret=>obtain⟨st,h1,h2⟩:=he;exact fin st h1 h2
 |exit id=>obtain⟨st,h1,h2⟩:=he;exact h1.elim
 |goto l=>exact he.elim
 |panic ch=>obtain⟨v,_,h2,_⟩:=he;exact h2.elim
 |outgrown=>exact he.elim
theorem Aqn{P:Program}{f:FuncId}{np:Nat}{rc rcD:Aj}{ts:List RT}{ps rs:List Par}(hc:Cb P f np=some (rc,ts))(hs:Du rcD=rc)(hn:ps.length=np)(h:wpv P rcD (Akv ts rs) (P8 ps)):Fun P f ps rs:=by
 unfold Cb at hc;split at hc
 ·cases hc
 ·rename_i fn hf;split at hc
  ·cases hc
  ·rename_i code hb;split at hc
   ·cases hc
   ·rename_i hk;simp only[Bool.or_eq_true,not_or,Bool.not_eq_true',Bool.not_eq_true,decide_eq_false_iff_not,Classical.not_not]at hk;split at hc
    ·rename_i rc' ts' h1 h2;simp only[ZD,Prod.mk.injEq]at hc;obtain⟨rfl,rfl⟩:=hc;refine Afv hf hb ?_ (h1.trans (by rw[hs])) ?_ h2 h
     ·exact hk.1
     ·rw[hn];simpa using hk.2
    ·cases hc
theorem Atn{P:Program}{f:FuncId}{np:Nat}{rc rcD:Aj}{ts:List RT}{ps rs:List Par}(hc:Cb P f np=some (rc,ts))(hs:Du rcD=rc)(hn:ps.length=np)(h:wpx P noD rcD (Aq1 ts rs) (Ho ps) (Mx ps)):Fun P f ps rs:=by
 refine Aqn hc hs hn (Cm rcD (fun e env H h=>?_) h);cases e with
 |normal=>exact h
 |exit j=>exact h
 |ret=>exact h
set_option maxRecDepth 100000
theorem bT{b:Bool}{p q:Prop}(k:p)(h:b=true:=by first|rfl|(subst_vars;rfl)|(subst_vars;simp only[ByteArray.toList_eq]<;>rfl)):bIf b p q:=Gj h k
theorem bF{b:Bool}{p q:Prop}(k:q)(h:b=false:=by first|rfl|(subst_vars;rfl)|(subst_vars;simp only[ByteArray.toList_eq]<;>rfl)):bIf b p q:=Fs h k
theorem o4{A B C D:Prop}(h:D):A∨B∨C∨D:=.inr (.inr (.inr h))
theorem Ht{P:Program}{f:FuncId}{np:Nat}{rc:Aj}{ts:List RT}{ps rs:List Par}(m:Nat)(hc:Cb P f np=some (rc,ts))(hn:ps.length=np)(h:wpx P noD (Eo m rc) (Aq1 ts rs) (Ho ps) (Mx ps)):Fun P f ps rs:=by
 obtain⟨fn,code,h1,h2,h3,h4,h5,h6⟩:=W7 hc;exact Atn hc ((Dv m rc).trans (E4 code h4)) hn h
theorem Bbq{env:Nat→V}{H:Nat→Option Ent}{ts:List RT}{cs cs' ds ds':List V}{v:V}(hG:Hy env H ts [.agg cs,.agg ds,v])(hc:Cj H [] cs cs')(hd:Cj H [] ds ds')(hv:Cl v):∃us gone,Hy env H ts us∧Av H gone true gone us [.c (.agg cs'),.c (.agg ds'),.c v]:=⟨_,[],hG,.bora hc (.bora hd (.same hv (.nil _)))⟩
theorem Avo{T:TypeId}{sz:Nat}{rows:List (List V)}{ps:List Par}(h:Ajs rows=true)(h2:flB ps=true):Ds (.o T sz rows::ps):=by
 intro r hr;rcases XC.1 hr with rfl|hr
 ·exact fun row hr u hu=>Acz h row hr u hu
 ·exact T3 h2 r hr
theorem fJ{rs:List Par}(h:Ds rs:=by first|exact T3 rfl|exact Avo rfl rfl):Ds rs:=h
theorem aJ{H:Nat→Option Ent}{all gone:List Nat}{bor:Bool}{us:List V}{ps:List Par}(h:Av H all bor gone us ps:=by(repeat' (first|exact Av.nil _|exact Ml (by assumption)|refine Av.same (by first|exact A9 rfl|exact Dt|exact cl_nil|exact Agx (Ec rfl)|exact cl_one|exact cl_ll1|exact cl_ll2|exact Tp (by assumption)|exact O4 (by repeat' (first|exact Lt|refine Jm (by first|exact A9 rfl|exact Dt|exact cl_nil|exact Agx (Ec rfl)|assumption) ?_))) ?_|refine Av.nilsl _ ?_|refine Av.nilown _ _ (by decide) ?_|refine Av.borp rfl rfl rfl (Fz rfl) (by decide) ?_|refine Av.borc (by(repeat' (first|exact Aez|refine Aka rfl rfl rfl (by first|exact Fz rfl|exact cl_r1 rfl|exact cl_r1b) ?_ ?_|refine cap_m rfl (by decide) ?_|refine cap_c (by first|exact A9 rfl|exact Dt|exact cl_nil|exact cl_one|exact cl_ll1|exact cl_ll2|exact Tp (by assumption)|exact O4 (by repeat' (first|exact Lt|refine Jm (by first|exact A9 rfl|exact Dt|exact cl_nil|assumption) ?_))) ?_|decide))) ?_|refine Av.bora (by(repeat' (first|exact Cj.nil|refine Cj.same (by first|exact A9 rfl|exact Dt|exact cl_nil|exact Agx (Ec rfl)|assumption) ?_|refine Cj.nilsl _ ?_|refine Aiq rfl rfl (by first|exact Ec rfl|exact Bx|exact cl_setB rfl|exact cl_setG (cl_setB rfl) rfl|exact Gl Bx (Ec rfl)|exact Lg|exact cl_rl2) (by decide) ?_))) ?_|refine Av.bor rfl rfl (Qv (by first|exact Ec rfl|exact Bx|exact cl_setB rfl|exact cl_setG (cl_setB rfl) rfl|exact Gl Bx (Ec rfl)|exact Lg|exact cl_rl2)) (by decide) ?_|refine Apo rfl (by first|exact Ec rfl|exact Bx|exact cl_setB rfl|exact cl_setG (cl_setB rfl) rfl|exact Gl Bx (Ec rfl)|exact Lg|exact cl_rl2) (by decide) (by decide) ?_))):Av H all bor gone us ps:=h
theorem cJ{H:Nat→Option Ent}{gone:List Nat}{cs cs':List V}(h:Cj H gone cs cs':=by(repeat' (first|exact Cj.nil|refine Cj.same (by first|exact A9 rfl|exact Dt|exact cl_nil|exact Agx (Ec rfl)|assumption) ?_|refine Cj.nilsl _ ?_|refine Aiq rfl rfl (by first|exact Ec rfl|exact Bx|exact cl_setB rfl|exact cl_setG (cl_setB rfl) rfl|exact Gl Bx (Ec rfl)|exact Lg|exact cl_rl2) (by decide) ?_))):Cj H gone cs cs':=h
abbrev xA(a:ByteArray):List V:=[.v (.string a),.v (.int .i64 1),.v (.int .i64 1),.v (.int .i64 1),.v (.bool false)]
abbrev xB(b:ByteArray):List V:=[.v (.string b),.v (.int .i64 1),.v (.int .i64 1),.v (.int .i64 2),.v (.bool true)]
abbrev xC(b:ByteArray):List V:=[.v (.string b),.v (.int .i64 2),.v (.int .i64 1),.v (.int .i64 2),.v (.bool true)]
abbrev xR(b:ByteArray):List V:=[.v (.string b),.v (.int .i64 1),.v (.int .i64 1),.v (.int .i64 2),.v (.bool true),.v (.int .i64 0)]
abbrev xS(b:ByteArray):List V:=[.v (.string b),.v (.int .i64 2),.v (.int .i64 1),.v (.int .i64 2),.v (.bool true),.v (.int .i64 0)]
abbrev xZ:Par:=.c (.v (.int .i64 0))
abbrev yA(a c:ByteArray):List V:=[.v (.string a),.v (.string c),.sl false [(xA a)],.sl false [],.sl false [],.sl false [],.v (.int .i64 0),.v (.int .i64 0),.v (.int .i64 0),.v (.int .i64 0),.v (.int .i64 1000),.sl false []]
abbrev yB(b c:ByteArray):List V:=[.v (.string b),.v (.string c),.sl false [(xB b)],.sl false [],.sl false [],.sl false [],.v (.int .i64 0),.v (.int .i64 0),.v (.int .i64 0),.v (.int .i64 0),.v (.int .i64 1000),.sl false []]
abbrev yC(a b c:ByteArray):List V:=[.v (.string a),.v (.string c),.sl false [(xA a),(xB b)],.sl false [(xR b)],.sl false [],.sl false [],.v (.int .i64 0),.v (.int .i64 0),.v (.int .i64 0),.v (.int .i64 0),.v (.int .i64 1000),.sl false []]
abbrev yD(a b c:ByteArray):List V:=[.v (.string a),.v (.string c),.sl false [(xA a),(xC b)],.sl false [(xS b)],.sl false [],.sl false [],.v (.int .i64 0),.v (.int .i64 0),.v (.int .i64 0),.v (.int .i64 0),.v (.int .i64 1000),.sl false []]
section
variable {a b c:ByteArray} (ha:(⟨#[97]⟩:ByteArray)=a) (hb:(⟨#[98]⟩:ByteArray)=b) (hc:(⟨#[99]⟩:ByteArray)=c)
include ha hb hc
omit ha hb hc in
theorem kA:Fun Tryz.prog 41 [.c (.sl false [(xA a)])] [.o 24 5 [(xA a)]]:=Ii false [⟨a,1,1,1,false⟩] (Nat.le_of_ble_eq_true rfl)
omit ha hb hc in
theorem kB:Fun Tryz.prog 41 [.c (.sl false [(xB b)])] [.o 24 5 [(xB b)]]:=Ii false [⟨b,1,1,2,true⟩] (Nat.le_of_ble_eq_true rfl)
omit ha hb hc in
theorem kAB:Fun Tryz.prog 41 [.c (.sl false [(xA a),(xB b)])] [.o 24 5 [(xA a),(xB b)]]:=Ii false [⟨a,1,1,1,false⟩,⟨b,1,1,2,true⟩] (Nat.le_of_ble_eq_true rfl)
omit ha hb hc in
theorem Bbw:Fun Tryz.prog 41 [.c (.sl false [(xA a),(xC b)])] [.o 24 5 [(xA a),(xC b)]]:=Ii false [⟨a,1,1,1,false⟩,⟨b,2,1,2,true⟩] (Nat.le_of_ble_eq_true rfl)
omit ha hb hc in
theorem cr0:Fun Tryz.prog 47 [.c (.sl false [])] [.o 91 6 []]:=K4 false [] (Nat.le_of_ble_eq_true rfl)
omit ha hb hc in
theorem crB:Fun Tryz.prog 47 [.c (.sl false [(xR b)])] [.o 91 6 [(xR b)]]:=K4 false [⟨⟨b,1,1,2,true⟩,0⟩] (Nat.le_of_ble_eq_true rfl)
omit ha hb hc in
theorem Aym:Fun Tryz.prog 47 [.c (.sl false [(xS b)])] [.o 91 6 [(xS b)]]:=K4 false [⟨⟨b,2,1,2,true⟩,0⟩] (Nat.le_of_ble_eq_true rfl)
omit ha hb hc in
theorem cs0:Fun Tryz.prog 117 [.c (.sl false [])] [.o 77 9 []]:=Zj false [] (Nat.le_of_ble_eq_true rfl)
omit ha hb hc in
theorem cg0:Fun Tryz.prog 118 [.c (.sl false [])] [.o 74 3 []]:=Aj3 false [] (Nat.le_of_ble_eq_true rfl)
omit ha hb hc in
theorem cw0:Fun Tryz.prog 119 [.c (.sl false [])] [.o 152 6 []]:=Agl false [] (Nat.le_of_ble_eq_true rfl)
omit ha hb hc in
theorem Bbj:Fun Tryz.prog 97 [.o 24 5 [(xA a)],.c (.v (.int .i64 1)),.o 24 5 [(xB b)]] [.o 24 5 [(xA a),(xB b)]]:=Vp [⟨a,1,1,1,false⟩] ⟨b,1,1,2,true⟩ 1 (ZT _) (Nat.le_of_ble_eq_true rfl)
omit ha hb hc in
theorem Bb7:Fun Tryz.prog 94 [.o 91 6 [(xR b)],xZ,.c (.v (.int .i64 1))] [.o 91 6 []]:=Ant [⟨⟨b,1,1,2,true⟩,0⟩] 0 (Nat.lt_succ_self 0) (Nat.le_of_ble_eq_true rfl)
omit hb hc in
theorem Aob:Fun Tryz.prog 88 [.c (.v (.string a))] [.c (.v (.bool true))]:=(by have h:=C2 a (by subst_vars;decide);rw[show Pl.lab a.data.toList=true by subst_vars;rfl]at h;exact h)
omit ha hc in
theorem S7:Fun Tryz.prog 88 [.c (.v (.string b))] [.c (.v (.bool true))]:=(by have h:=C2 b (by subst_vars;decide);rw[show Pl.lab b.data.toList=true by subst_vars;rfl]at h;exact h)
omit ha hb in
theorem Aip:Fun Tryz.prog 88 [.c (.v (.string c))] [.c (.v (.bool true))]:=(by have h:=C2 c (by subst_vars;decide);rw[show Pl.lab c.data.toList=true by subst_vars;rfl]at h;exact h)
omit hb hc in
theorem Aat:Fun Tryz.prog 39 [.c (.agg (xA a))] [xZ]:=by
 refine B4 9 Gd rfl ?_;refine G1 ?_;intro gg;refine .inl ⟨_,_,false,[],aJ,Aob ha,Ad,nI,?_⟩;refine G1 ?_;intro gg;refine o4 (Ab 2000 9 Be rfl ?_);refine G0 ?_;refine o4 (Ab 3000 9 Be rfl ?_);refine G0 ?_;refine o4 (Ab 4000 9 Be rfl ?_);refine G0 ?_;(exact⟨[],aJ⟩)
omit ha hc in
theorem Aoh:Fun Tryz.prog 39 [.c (.agg (xB b))] [xZ]:=by
 refine B4 9 Gd rfl ?_;refine G1 ?_;intro gg;refine .inl ⟨_,_,false,[],aJ,S7 hb,Ad,nI,?_⟩;refine G1 ?_;intro gg;refine o4 (Ab 2000 9 Be rfl ?_);refine G0 ?_;refine o4 (Ab 3000 9 Be rfl ?_);refine G0 ?_;refine o4 (Ab 4000 9 Be rfl ?_);refine G0 ?_;(exact⟨[],aJ⟩)
omit ha hc in
theorem Agf:Fun Tryz.prog 39 [.c (.agg (xC b))] [xZ]:=by
 refine B4 9 Gd rfl ?_;refine G1 ?_;intro gg;refine .inl ⟨_,_,false,[],aJ,S7 hb,Ad,nI,?_⟩;refine G1 ?_;intro gg;refine o4 (Ab 2000 9 Be rfl ?_);refine G0 ?_;refine o4 (Ab 3000 9 Be rfl ?_);refine G0 ?_;refine o4 (Ab 4000 9 Be rfl ?_);refine G0 ?_;(exact⟨[],aJ⟩)
omit hb hc in
theorem Awr:Fun Tryz.prog 153 [.c (.sl false [(xA a)])] [xZ]:=by
 refine B4 9 Db rfl ?_;refine G1 ?_;intro gg;refine o4 (Ab 1000 9 Bs rfl ?_);refine G0 ?_;refine⟨0,_,by kernel_rfl,rfl,?_⟩;refine G0 ?_;refine o4 (Ab 3000 9 B8 rfl ?_);refine G0 ?_;refine⟨0,_,by kernel_rfl,rfl,?_⟩;refine G1 ?_;intro gg;refine .inl ⟨_,_,false,[],aJ,Aat ha,Ad,nI,?_⟩;refine G1 ?_;intro gg;(exact⟨[],aJ⟩)
omit ha hc in
theorem Bab:Fun Tryz.prog 153 [.c (.sl false [(xB b)])] [xZ]:=by
 refine B4 9 Db rfl ?_;refine G1 ?_;intro gg;refine o4 (Ab 1000 9 Bs rfl ?_);refine G0 ?_;refine⟨0,_,by kernel_rfl,rfl,?_⟩;refine G0 ?_;refine o4 (Ab 3000 9 B8 rfl ?_);refine G0 ?_;refine⟨0,_,by kernel_rfl,rfl,?_⟩;refine G1 ?_;intro gg;refine .inl ⟨_,_,false,[],aJ,Aoh hb,Ad,nI,?_⟩;refine G1 ?_;intro gg;(exact⟨[],aJ⟩)
omit hc in
theorem Ayt:Fun Tryz.prog 153 [.c (.sl false [(xA a),(xB b)])] [xZ]:=by
 refine B4 9 Db rfl ?_;refine G1 ?_;intro gg;refine o4 (Ab 1000 9 Bs rfl ?_);refine G0 ?_;refine⟨0,_,by kernel_rfl,rfl,?_⟩;refine G0 ?_;refine o4 (Ab 3000 9 B8 rfl ?_);refine G0 ?_;refine⟨0,_,by kernel_rfl,rfl,?_⟩;refine G1 ?_;intro gg;refine .inl ⟨_,_,false,[],aJ,Aat ha,Ad,nI,?_⟩;refine G1 ?_;intro gg;refine⟨1,_,by kernel_rfl,rfl,?_⟩;refine G1 ?_;intro gg;refine .inl ⟨_,_,false,[],aJ,Aoh hb,Ad,nI,?_⟩;refine G1 ?_;intro gg;refine⟨1,_,by kernel_rfl,rfl,?_⟩;refine G0 ?_;refine⟨0,_,by kernel_rfl,rfl,?_⟩;refine G0 ?_;refine bF ?_;refine G0 ?_;(exact⟨[],aJ⟩)
omit hc in
theorem Avw:Fun Tryz.prog 153 [.c (.sl false [(xA a),(xC b)])] [xZ]:=by
 refine B4 9 Db rfl ?_;refine G1 ?_;intro gg;refine o4 (Ab 1000 9 Bs rfl ?_);refine G0 ?_;refine⟨0,_,by kernel_rfl,rfl,?_⟩;refine G0 ?_;refine o4 (Ab 3000 9 B8 rfl ?_);refine G0 ?_;refine⟨0,_,by kernel_rfl,rfl,?_⟩;refine G1 ?_;intro gg;refine .inl ⟨_,_,false,[],aJ,Aat ha,Ad,nI,?_⟩;refine G1 ?_;intro gg;refine⟨1,_,by kernel_rfl,rfl,?_⟩;refine G1 ?_;intro gg;refine .inl ⟨_,_,false,[],aJ,Agf hb,Ad,nI,?_⟩;refine G1 ?_;intro gg;refine⟨1,_,by kernel_rfl,rfl,?_⟩;refine G0 ?_;refine⟨0,_,by kernel_rfl,rfl,?_⟩;refine G0 ?_;refine bF ?_;refine G0 ?_;(exact⟨[],aJ⟩)
omit ha hb hc in
theorem Anw:Fun Tryz.prog 42 [.c (.sl false [])] [xZ]:=by
 refine B4 9 Hm rfl ?_;refine G1 ?_;intro gg;refine o4 (Ab 1000 9 Ba rfl ?_);refine G0 ?_;refine o4 (Ab 2000 9 Aq rfl ?_);refine G0 ?_;(exact⟨[],aJ⟩)
omit ha hc in
theorem Ba0:Fun Tryz.prog 42 [.c (.sl false [(xR b)])] [xZ]:=by
 refine B4 9 Hm rfl ?_;refine G1 ?_;intro gg;refine⟨0,_,by kernel_rfl,rfl,?_⟩;refine G1 ?_;intro gg;refine o4 (Ab 2000 9 Ez rfl ?_);refine G1 ?_;intro gg;refine .inl ⟨_,_,false,[],aJ,Aoh hb,Ad,nI,?_⟩;refine G1 ?_;intro gg;refine⟨_,_,rfl,A9 rfl,rfl,?_⟩;refine G0 ?_;refine o4 (Ab 5000 9 Ba rfl ?_);refine G0 ?_;refine o4 (Ab 6000 9 Aq rfl ?_);refine G0 ?_;refine⟨0,_,by kernel_rfl,rfl,?_⟩;refine G0 ?_;refine o4 (Ab 8000 9 H7 rfl ?_);refine G1 ?_;intro gg;(exact⟨[],aJ⟩)
omit ha hc in
theorem Avd:Fun Tryz.prog 42 [.c (.sl false [(xS b)])] [xZ]:=by
 refine B4 9 Hm rfl ?_;refine G1 ?_;intro gg;refine⟨0,_,by kernel_rfl,rfl,?_⟩;refine G1 ?_;intro gg;refine o4 (Ab 2000 9 Ez rfl ?_);refine G1 ?_;intro gg;refine .inl ⟨_,_,false,[],aJ,Agf hb,Ad,nI,?_⟩;refine G1 ?_;intro gg;refine⟨_,_,rfl,A9 rfl,rfl,?_⟩;refine G0 ?_;refine o4 (Ab 5000 9 Ba rfl ?_);refine G0 ?_;refine o4 (Ab 6000 9 Aq rfl ?_);refine G0 ?_;refine⟨0,_,by kernel_rfl,rfl,?_⟩;refine G0 ?_;refine o4 (Ab 8000 9 H7 rfl ?_);refine G1 ?_;intro gg;(exact⟨[],aJ⟩)
omit ha hb hc in
theorem Ao8:Fun Tryz.prog 154 [.c (.sl false [])] [xZ]:=by
 refine B4 9 Lm rfl ?_;refine G1 ?_;intro gg;refine o4 (Ab 1000 9 Dj rfl ?_);refine G0 ?_;refine⟨0,_,by kernel_rfl,rfl,?_⟩;refine G0 ?_;(exact⟨[],aJ⟩)
omit ha hb hc in
theorem Ad5:Fun Tryz.prog 155 [.c (.sl false [])] [xZ]:=by
 refine B4 9 Wj rfl ?_;refine G1 ?_;intro gg;refine o4 (Ab 1000 9 Nb rfl ?_);refine G0 ?_;refine⟨0,_,by kernel_rfl,rfl,?_⟩;refine G0 ?_;(exact⟨[],aJ⟩)
omit ha hb hc in
theorem Acj:Fun Tryz.prog 157 [.c (.sl false [])] [xZ]:=by
 refine B4 9 Ub rfl ?_;refine G0 ?_;(exact⟨[],aJ⟩)
omit ha hb hc in
theorem Ajt:Fun Tryz.prog 156 [.c (.agg [.v (.int .i64 0),.v (.int .i64 0),.v (.int .i64 0),.v (.int .i64 0),.v (.int .i64 1000)])] [xZ]:=by
 refine B4 9 Oo rfl ?_;refine G1 ?_;intro gg;refine o4 (Ab 1000 9 Fu rfl ?_);refine G0 ?_;refine o4 (Ab 2000 9 Dw rfl ?_);refine G0 ?_;refine o4 (Ab 3000 9 Fu rfl ?_);refine G0 ?_;refine o4 (Ab 4000 9 Dw rfl ?_);refine G0 ?_;refine o4 (Ab 5000 9 Fu rfl ?_);refine G0 ?_;refine o4 (Ab 6000 9 Dw rfl ?_);refine G0 ?_;refine o4 (Ab 7000 9 Dw rfl ?_);refine G0 ?_;refine o4 (Ab 8000 9 Dw rfl ?_);refine G0 ?_;(exact⟨[],aJ⟩)
omit ha hb hc in
theorem Bai:Fun Tryz.prog 93 [.c (.agg (xB b)),.c (.agg (xB b))] [xZ]:=(by have h:=Sg (⟨b,1,1,2,true⟩:Pl.Mb) (⟨b,1,1,2,true⟩:Pl.Mb);rw[show Pl.Mb.cmp ⟨b,1,1,2,true⟩ ⟨b,1,1,2,true⟩=0 by kernel_rfl]at h;exact h)
omit ha hb hc in
theorem Azc:Fun Tryz.prog 93 [.c (.agg (xC b)),.c (.agg (xC b))] [xZ]:=(by have h:=Sg (⟨b,2,1,2,true⟩:Pl.Mb) (⟨b,2,1,2,true⟩:Pl.Mb);rw[show Pl.Mb.cmp ⟨b,2,1,2,true⟩ ⟨b,2,1,2,true⟩=0 by kernel_rfl]at h;exact h)
omit ha hb hc in
theorem Auy:Fun Tryz.prog 93 [.c (.agg (xC b)),.c (.agg (xB b))] [.c (.v (.int .i64 1))]:=(by have h:=Sg (⟨b,2,1,2,true⟩:Pl.Mb) (⟨b,1,1,2,true⟩:Pl.Mb);rw[show Pl.Mb.cmp ⟨b,2,1,2,true⟩ ⟨b,1,1,2,true⟩=1 by kernel_rfl]at h;exact h)
omit ha hb hc in
theorem Azx:Fun Tryz.prog 84 [.c (.sl false []),.c (.sl false [])] [.o 77 9 [],xZ]:=by
 refine B4 9 Ng rfl ?_;refine G1 ?_;intro gg;refine o4 (Ab 1000 9 Dj rfl ?_);refine G0 ?_;refine⟨0,_,by kernel_rfl,rfl,?_⟩;refine G0 ?_;refine⟨1,_,by kernel_rfl,rfl,?_⟩;refine G0 ?_;refine .inl ⟨_,_,false,[],aJ,cs0,Ad,nI,?_⟩;refine G1 ?_;intro gg;(exact⟨[320],aJ⟩)
omit ha hb hc in
theorem Av3:Fun Tryz.prog 85 [.c (.sl false []),.c (.sl false [])] [.o 74 3 [],xZ]:=by
 refine B4 9 Xk rfl ?_;refine G1 ?_;intro gg;refine o4 (Ab 1000 9 Nb rfl ?_);refine G0 ?_;refine⟨0,_,by kernel_rfl,rfl,?_⟩;refine G0 ?_;refine⟨1,_,by kernel_rfl,rfl,?_⟩;refine G0 ?_;refine .inl ⟨_,_,false,[],aJ,cg0,Ad,nI,?_⟩;refine G1 ?_;intro gg;(exact⟨[320],aJ⟩)
omit hb in
theorem ckA:Fun Tryz.prog 79 [.c (.agg (yA a c))] [xZ]:=by
 refine B4 9 D2 rfl ?_;refine G1 ?_;intro gg;refine .inl ⟨_,_,false,[],aJ,Aob ha,Ad,nI,?_⟩;refine G1 ?_;intro gg;refine .inl ⟨_,_,false,[],aJ,Aip hc,Ad,nI,?_⟩;refine G1 ?_;intro gg;refine⟨_,_,false,aJ,Awr ha,Ad,nI,?_⟩;refine G1 ?_;intro gg;refine⟨_,_,false,aJ,Anw,Ad,nI,?_⟩;refine G1 ?_;intro gg;refine⟨_,_,false,aJ,Ao8,Ad,nI,?_⟩;refine G1 ?_;intro gg;refine⟨_,_,false,aJ,Ad5,Ad,nI,?_⟩;refine G1 ?_;intro gg;refine⟨_,_,false,aJ,Ajt,Ad,nI,?_⟩;refine G1 ?_;intro gg;refine⟨_,_,false,aJ,Acj,Ad,nI,?_⟩;(refine goI ?_;repeat (intro gg;refine goI ?_));refine⟨0,_,by kernel_rfl,rfl,?_⟩;refine G0 ?_;refine⟨1,_,by kernel_rfl,rfl,?_⟩;refine G0 ?_;refine⟨2,_,by kernel_rfl,rfl,?_⟩;refine G0 ?_;refine⟨3,_,by kernel_rfl,rfl,?_⟩;refine G0 ?_;refine⟨4,_,by kernel_rfl,rfl,?_⟩;refine G0 ?_;refine⟨5,_,by kernel_rfl,rfl,?_⟩;refine G0 ?_;refine o4 (Ab 15000 9 A5 rfl ?_);refine G0 ?_;refine o4 (Ab 16000 9 Ac rfl ?_);refine G0 ?_;refine⟨1,by kernel_rfl,?_⟩;refine G0 ?_;refine⟨0,_,by kernel_rfl,rfl,?_⟩;refine G0 ?_;refine o4 (Ab 19000 9 Ah rfl ?_);refine G1 ?_;intro gg;refine o4 (Ab 20000 9 Af rfl ?_);refine G0 ?_;refine o4 (Ab 21000 9 Aa rfl ?_);refine G0 ?_;refine o4 (Ab 22000 9 Aa rfl ?_);refine G0 ?_;refine bF ?_;refine G0 ?_;refine bF ?_;refine G0 ?_;refine bF ?_;refine G0 ?_;refine bF ?_;refine G0 ?_;refine⟨0,_,by kernel_rfl,rfl,?_⟩;refine G0 ?_;refine o4 (Ab 28000 9 Ah rfl ?_);refine G1 ?_;intro gg;refine o4 (Ab 29000 9 Af rfl ?_);refine G0 ?_;refine o4 (Ab 30000 9 Aa rfl ?_);refine G0 ?_;refine o4 (Ab 31000 9 Aa rfl ?_);refine G0 ?_;refine bF ?_;refine G0 ?_;refine bF ?_;refine G0 ?_;refine bF ?_;refine G0 ?_;refine bF ?_;refine G0 ?_;refine⟨0,_,by kernel_rfl,rfl,?_⟩;refine G0 ?_;refine⟨0,_,by kernel_rfl,rfl,?_⟩;refine G0 ?_;refine o4 (Ab 38000 9 Dn rfl ?_);refine G1 ?_;intro gg;(exact⟨[],aJ⟩)
omit ha in
theorem ckB:Fun Tryz.prog 79 [.c (.agg (yB b c))] [xZ]:=by
 refine B4 9 D2 rfl ?_;refine G1 ?_;intro gg;refine .inl ⟨_,_,false,[],aJ,S7 hb,Ad,nI,?_⟩;refine G1 ?_;intro gg;refine .inl ⟨_,_,false,[],aJ,Aip hc,Ad,nI,?_⟩;refine G1 ?_;intro gg;refine⟨_,_,false,aJ,Bab hb,Ad,nI,?_⟩;refine G1 ?_;intro gg;refine⟨_,_,false,aJ,Anw,Ad,nI,?_⟩;refine G1 ?_;intro gg;refine⟨_,_,false,aJ,Ao8,Ad,nI,?_⟩;refine G1 ?_;intro gg;refine⟨_,_,false,aJ,Ad5,Ad,nI,?_⟩;refine G1 ?_;intro gg;refine⟨_,_,false,aJ,Ajt,Ad,nI,?_⟩;refine G1 ?_;intro gg;refine⟨_,_,false,aJ,Acj,Ad,nI,?_⟩;(refine goI ?_;repeat (intro gg;refine goI ?_));refine⟨0,_,by kernel_rfl,rfl,?_⟩;refine G0 ?_;refine⟨1,_,by kernel_rfl,rfl,?_⟩;refine G0 ?_;refine⟨2,_,by kernel_rfl,rfl,?_⟩;refine G0 ?_;refine⟨3,_,by kernel_rfl,rfl,?_⟩;refine G0 ?_;refine⟨4,_,by kernel_rfl,rfl,?_⟩;refine G0 ?_;refine⟨5,_,by kernel_rfl,rfl,?_⟩;refine G0 ?_;refine o4 (Ab 15000 9 A5 rfl ?_);refine G0 ?_;refine o4 (Ab 16000 9 Ac rfl ?_);refine G0 ?_;refine⟨1,by kernel_rfl,?_⟩;refine G0 ?_;refine⟨0,_,by kernel_rfl,rfl,?_⟩;refine G0 ?_;refine o4 (Ab 19000 9 Ah rfl ?_);refine G1 ?_;intro gg;refine o4 (Ab 20000 9 Af rfl ?_);refine G0 ?_;refine o4 (Ab 21000 9 Aa rfl ?_);refine G0 ?_;refine o4 (Ab 22000 9 Aa rfl ?_);refine G0 ?_;refine bF ?_;refine G0 ?_;refine bF ?_;refine G0 ?_;refine bF ?_;refine G0 ?_;refine bF ?_;refine G0 ?_;refine⟨0,_,by kernel_rfl,rfl,?_⟩;refine G0 ?_;refine o4 (Ab 28000 9 Ah rfl ?_);refine G1 ?_;intro gg;refine o4 (Ab 29000 9 Af rfl ?_);refine G0 ?_;refine o4 (Ab 30000 9 Aa rfl ?_);refine G0 ?_;refine o4 (Ab 31000 9 Aa rfl ?_);refine G0 ?_;refine bF ?_;refine G0 ?_;refine bF ?_;refine G0 ?_;refine bF ?_;refine G0 ?_;refine bF ?_;refine G0 ?_;refine⟨0,_,by kernel_rfl,rfl,?_⟩;refine G0 ?_;refine⟨0,_,by kernel_rfl,rfl,?_⟩;refine G0 ?_;refine o4 (Ab 38000 9 Dn rfl ?_);refine G1 ?_;intro gg;(exact⟨[],aJ⟩)
theorem Bbc:Fun Tryz.prog 79 [.c (.agg (yC a b c))] [xZ]:=by
 refine B4 9 D2 rfl ?_;refine G1 ?_;intro gg;refine .inl ⟨_,_,false,[],aJ,Aob ha,Ad,nI,?_⟩;refine G1 ?_;intro gg;refine .inl ⟨_,_,false,[],aJ,Aip hc,Ad,nI,?_⟩;refine G1 ?_;intro gg;refine⟨_,_,false,aJ,Ayt ha hb,Ad,nI,?_⟩;refine G1 ?_;intro gg;refine⟨_,_,false,aJ,Ba0 hb,Ad,nI,?_⟩;refine G1 ?_;intro gg;refine⟨_,_,false,aJ,Ao8,Ad,nI,?_⟩;refine G1 ?_;intro gg;refine⟨_,_,false,aJ,Ad5,Ad,nI,?_⟩;refine G1 ?_;intro gg;refine⟨_,_,false,aJ,Ajt,Ad,nI,?_⟩;refine G1 ?_;intro gg;refine⟨_,_,false,aJ,Acj,Ad,nI,?_⟩;(refine goI ?_;repeat (intro gg;refine goI ?_));refine⟨0,_,by kernel_rfl,rfl,?_⟩;refine G0 ?_;refine⟨1,_,by kernel_rfl,rfl,?_⟩;refine G0 ?_;refine⟨2,_,by kernel_rfl,rfl,?_⟩;refine G0 ?_;refine⟨3,_,by kernel_rfl,rfl,?_⟩;refine G0 ?_;refine⟨4,_,by kernel_rfl,rfl,?_⟩;refine G0 ?_;refine⟨5,_,by kernel_rfl,rfl,?_⟩;refine G0 ?_;refine o4 (Ab 15000 9 A5 rfl ?_);refine G0 ?_;refine o4 (Ab 16000 9 Ac rfl ?_);refine G0 ?_;refine⟨2,by kernel_rfl,?_⟩;refine G0 ?_;refine⟨1,_,by kernel_rfl,rfl,?_⟩;refine G0 ?_;refine o4 (Ab 19000 9 Ah rfl ?_);refine G1 ?_;intro gg;refine o4 (Ab 20000 9 Af rfl ?_);refine G0 ?_;refine o4 (Ab 21000 9 Aa rfl ?_);refine G0 ?_;refine o4 (Ab 22000 9 Aa rfl ?_);refine G0 ?_;refine bF ?_;refine G0 ?_;refine bF ?_;refine G0 ?_;refine bF ?_;refine G0 ?_;refine bT ?_;refine G0 ?_;refine⟨0,_,by kernel_rfl,rfl,?_⟩;refine G0 ?_;refine o4 (Ab 28000 9 Ah rfl ?_);refine G1 ?_;intro gg;refine o4 (Ab 29000 9 Af rfl ?_);refine G0 ?_;refine o4 (Ab 30000 9 Aa rfl ?_);refine G0 ?_;refine o4 (Ab 31000 9 Aa rfl ?_);refine G0 ?_;refine bF ?_;refine G0 ?_;refine bF ?_;refine G0 ?_;refine bF ?_;refine G0 ?_;refine bF ?_;refine G0 ?_;refine⟨0,_,by kernel_rfl,rfl,?_⟩;refine G0 ?_;refine o4 (Ab 37000 9 Ah rfl ?_);refine G1 ?_;intro gg;refine o4 (Ab 38000 9 Af rfl ?_);refine G0 ?_;refine o4 (Ab 39000 9 Aa rfl ?_);refine G0 ?_;refine o4 (Ab 40000 9 Aa rfl ?_);refine G0 ?_;refine bF ?_;refine G0 ?_;refine bF ?_;refine G0 ?_;refine bF ?_;refine G0 ?_;refine bF ?_;refine G0 ?_;refine⟨0,_,by kernel_rfl,rfl,?_⟩;refine G0 ?_;refine⟨0,_,by kernel_rfl,rfl,?_⟩;refine G0 ?_;refine o4 (Ab 47000 9 Dn rfl ?_);refine G1 ?_;intro gg;refine⟨0,_,by kernel_rfl,rfl,?_⟩;refine G1 ?_;intro gg;refine o4 (Ab 49000 9 A5 rfl ?_);refine G0 ?_;refine o4 (Ab 50000 9 Ac rfl ?_);refine G0 ?_;refine⟨2,by kernel_rfl,?_⟩;refine G0 ?_;refine⟨1,_,by kernel_rfl,rfl,?_⟩;refine G0 ?_;refine o4 (Ab 53000 9 Ah rfl ?_);refine G1 ?_;intro gg;refine o4 (Ab 54000 9 Af rfl ?_);refine G0 ?_;refine o4 (Ab 55000 9 Aa rfl ?_);refine G0 ?_;refine o4 (Ab 56000 9 Aa rfl ?_);refine G0 ?_;refine bF ?_;refine G0 ?_;refine bF ?_;refine G0 ?_;refine bF ?_;refine G0 ?_;refine bF ?_;refine G0 ?_;refine⟨0,_,by kernel_rfl,rfl,?_⟩;refine G0 ?_;refine o4 (Ab 62000 9 Ah rfl ?_);refine G1 ?_;intro gg;refine o4 (Ab 63000 9 Af rfl ?_);refine G0 ?_;refine o4 (Ab 64000 9 Aa rfl ?_);refine G0 ?_;refine o4 (Ab 65000 9 Aa rfl ?_);refine G0 ?_;refine bF ?_;refine G0 ?_;refine bF ?_;refine G0 ?_;refine bT ?_;refine G0 ?_;refine⟨1,_,by kernel_rfl,rfl,?_⟩;refine G0 ?_;refine o4 (Ab 70000 9 Ah rfl ?_);refine G1 ?_;intro gg;refine o4 (Ab 71000 9 Af rfl ?_);refine G0 ?_;refine o4 (Ab 72000 9 Aa rfl ?_);refine G0 ?_;refine o4 (Ab 73000 9 Aa rfl ?_);refine G0 ?_;refine bF ?_;refine G0 ?_;refine bF ?_;refine G0 ?_;refine bF ?_;refine G0 ?_;refine bF ?_;refine G0 ?_;refine⟨1,_,by kernel_rfl,rfl,?_⟩;refine G0 ?_;refine .inl ⟨_,_,false,[],aJ,Bai,Ad,nI,?_⟩;refine G1 ?_;intro gg;(exact⟨[],aJ⟩)
theorem Bbv:Fun Tryz.prog 79 [.c (.agg (yD a b c))] [xZ]:=by
 refine B4 9 D2 rfl ?_;refine G1 ?_;intro gg;refine .inl ⟨_,_,false,[],aJ,Aob ha,Ad,nI,?_⟩;refine G1 ?_;intro gg;refine .inl ⟨_,_,false,[],aJ,Aip hc,Ad,nI,?_⟩;refine G1 ?_;intro gg;refine⟨_,_,false,aJ,Avw ha hb,Ad,nI,?_⟩;refine G1 ?_;intro gg;refine⟨_,_,false,aJ,Avd hb,Ad,nI,?_⟩;refine G1 ?_;intro gg;refine⟨_,_,false,aJ,Ao8,Ad,nI,?_⟩;refine G1 ?_;intro gg;refine⟨_,_,false,aJ,Ad5,Ad,nI,?_⟩;refine G1 ?_;intro gg;refine⟨_,_,false,aJ,Ajt,Ad,nI,?_⟩;refine G1 ?_;intro gg;refine⟨_,_,false,aJ,Acj,Ad,nI,?_⟩;(refine goI ?_;repeat (intro gg;refine goI ?_));refine⟨0,_,by kernel_rfl,rfl,?_⟩;refine G0 ?_;refine⟨1,_,by kernel_rfl,rfl,?_⟩;refine G0 ?_;refine⟨2,_,by kernel_rfl,rfl,?_⟩;refine G0 ?_;refine⟨3,_,by kernel_rfl,rfl,?_⟩;refine G0 ?_;refine⟨4,_,by kernel_rfl,rfl,?_⟩;refine G0 ?_;refine⟨5,_,by kernel_rfl,rfl,?_⟩;refine G0 ?_;refine o4 (Ab 15000 9 A5 rfl ?_);refine G0 ?_;refine o4 (Ab 16000 9 Ac rfl ?_);refine G0 ?_;refine⟨2,by kernel_rfl,?_⟩;refine G0 ?_;refine⟨1,_,by kernel_rfl,rfl,?_⟩;refine G0 ?_;refine o4 (Ab 19000 9 Ah rfl ?_);refine G1 ?_;intro gg;refine o4 (Ab 20000 9 Af rfl ?_);refine G0 ?_;refine o4 (Ab 21000 9 Aa rfl ?_);refine G0 ?_;refine o4 (Ab 22000 9 Aa rfl ?_);refine G0 ?_;refine bF ?_;refine G0 ?_;refine bF ?_;refine G0 ?_;refine bF ?_;refine G0 ?_;refine bT ?_;refine G0 ?_;refine⟨0,_,by kernel_rfl,rfl,?_⟩;refine G0 ?_;refine o4 (Ab 28000 9 Ah rfl ?_);refine G1 ?_;intro gg;refine o4 (Ab 29000 9 Af rfl ?_);refine G0 ?_;refine o4 (Ab 30000 9 Aa rfl ?_);refine G0 ?_;refine o4 (Ab 31000 9 Aa rfl ?_);refine G0 ?_;refine bF ?_;refine G0 ?_;refine bF ?_;refine G0 ?_;refine bF ?_;refine G0 ?_;refine bF ?_;refine G0 ?_;refine⟨0,_,by kernel_rfl,rfl,?_⟩;refine G0 ?_;refine o4 (Ab 37000 9 Ah rfl ?_);refine G1 ?_;intro gg;refine o4 (Ab 38000 9 Af rfl ?_);refine G0 ?_;refine o4 (Ab 39000 9 Aa rfl ?_);refine G0 ?_;refine o4 (Ab 40000 9 Aa rfl ?_);refine G0 ?_;refine bF ?_;refine G0 ?_;refine bF ?_;refine G0 ?_;refine bF ?_;refine G0 ?_;refine bF ?_;refine G0 ?_;refine⟨0,_,by kernel_rfl,rfl,?_⟩;refine G0 ?_;refine⟨0,_,by kernel_rfl,rfl,?_⟩;refine G0 ?_;refine o4 (Ab 47000 9 Dn rfl ?_);refine G1 ?_;intro gg;refine⟨0,_,by kernel_rfl,rfl,?_⟩;refine G1 ?_;intro gg;refine o4 (Ab 49000 9 A5 rfl ?_);refine G0 ?_;refine o4 (Ab 50000 9 Ac rfl ?_);refine G0 ?_;refine⟨2,by kernel_rfl,?_⟩;refine G0 ?_;refine⟨1,_,by kernel_rfl,rfl,?_⟩;refine G0 ?_;refine o4 (Ab 53000 9 Ah rfl ?_);refine G1 ?_;intro gg;refine o4 (Ab 54000 9 Af rfl ?_);refine G0 ?_;refine o4 (Ab 55000 9 Aa rfl ?_);refine G0 ?_;refine o4 (Ab 56000 9 Aa rfl ?_);refine G0 ?_;refine bF ?_;refine G0 ?_;refine bF ?_;refine G0 ?_;refine bF ?_;refine G0 ?_;refine bF ?_;refine G0 ?_;refine⟨0,_,by kernel_rfl,rfl,?_⟩;refine G0 ?_;refine o4 (Ab 62000 9 Ah rfl ?_);refine G1 ?_;intro gg;refine o4 (Ab 63000 9 Af rfl ?_);refine G0 ?_;refine o4 (Ab 64000 9 Aa rfl ?_);refine G0 ?_;refine o4 (Ab 65000 9 Aa rfl ?_);refine G0 ?_;refine bF ?_;refine G0 ?_;refine bF ?_;refine G0 ?_;refine bT ?_;refine G0 ?_;refine⟨1,_,by kernel_rfl,rfl,?_⟩;refine G0 ?_;refine o4 (Ab 70000 9 Ah rfl ?_);refine G1 ?_;intro gg;refine o4 (Ab 71000 9 Af rfl ?_);refine G0 ?_;refine o4 (Ab 72000 9 Aa rfl ?_);refine G0 ?_;refine o4 (Ab 73000 9 Aa rfl ?_);refine G0 ?_;refine bF ?_;refine G0 ?_;refine bF ?_;refine G0 ?_;refine bF ?_;refine G0 ?_;refine bF ?_;refine G0 ?_;refine⟨1,_,by kernel_rfl,rfl,?_⟩;refine G0 ?_;refine .inl ⟨_,_,false,[],aJ,Azc,Ad,nI,?_⟩;refine G1 ?_;intro gg;(exact⟨[],aJ⟩)
omit hb in
theorem Au6:Fun Tryz.prog 32 [.c (.v (.string a)),.c (.v (.string c)),.c (.v (.int .i64 1)),.c (.v (.bool false))] [.c (.agg (yA a c)),xZ]:=by
 refine Ht 9 Oh rfl ?_;(refine goI ?_;repeat (intro gg;refine goI ?_));refine .inl ⟨_,_,true,[],aJ,ckA ha hc,(fun _=>fJ),nI,?_⟩;refine G1 ?_;intro gg;(exact⟨_,[],.cell1 rfl rfl rfl rfl rfl rfl (.tmp1 rfl .nil),aJ⟩)
omit ha in
theorem Bb4:Fun Tryz.prog 32 [.c (.v (.string b)),.c (.v (.string c)),.c (.v (.int .i64 2)),.c (.v (.bool true))] [.c (.agg (yB b c)),xZ]:=by
 refine Ht 9 Oh rfl ?_;(refine goI ?_;repeat (intro gg;refine goI ?_));refine .inl ⟨_,_,true,[],aJ,ckB hb hc,(fun _=>fJ),nI,?_⟩;refine G1 ?_;intro gg;(exact⟨_,[],.cell1 rfl rfl rfl rfl rfl rfl (.tmp1 rfl .nil),aJ⟩)
omit ha in
theorem Bb1:Fun Tryz.prog 34 [.c (.agg (yB b c))] [.c (.agg [.v (.string b),.v (.bool true),.sl false [(xB b)],.sl false [],.sl false [],.sl false []]),xZ]:=by
 refine Ht 9 Qd rfl ?_;(refine goI ?_;repeat (intro gg;refine goI ?_));refine o4 (Ab 1000 9 De rfl ?_);refine G1 ?_;intro gg;refine .inl ⟨_,_,false,[],aJ,ckB hb hc,Ad,nI,?_⟩;refine G1 ?_;intro gg;refine⟨_,_,false,aJ,kB,Ad,nI,?_⟩;refine G1 ?_;intro gg;refine⟨_,_,false,aJ,cr0,Ad,nI,?_⟩;refine G1 ?_;intro gg;refine⟨_,_,false,aJ,cs0,Ad,nI,?_⟩;refine G1 ?_;intro gg;refine⟨_,_,false,aJ,cg0,Ad,nI,?_⟩;refine G1 ?_;intro gg;refine⟨_,_,false,aJ,cw0,Ad,nI,?_⟩;(refine goI ?_;repeat (intro gg;refine goI ?_));(exact⟨_,[],.cell1 rfl rfl rfl rfl rfl rfl (.tmp1 rfl .nil),aJ⟩)
omit hc in
theorem Bam:Fun Tryz.prog 10 [.c (.sl false [(xA a)]),.c (.agg (xB b))] [.o 24 5 [(xA a),(xB b)],.c (.v (.bool true)),xZ]:=by
 refine B4 9 Jt rfl ?_;(refine goI ?_;repeat (intro gg;refine goI ?_));refine o4 (Ab 1000 9 Bs rfl ?_);refine G0 ?_;refine⟨0,_,by kernel_rfl,rfl,?_⟩;refine G0 ?_;refine o4 (Ab 3000 9 B8 rfl ?_);refine G0 ?_;refine⟨0,_,by kernel_rfl,rfl,?_⟩;refine G1 ?_;intro gg;refine .inl ⟨_,_,false,[],aJ,Aat ha,Ad,nI,?_⟩;refine G1 ?_;intro gg;refine .inl ⟨_,_,false,[],aJ,Aoh hb,Ad,nI,?_⟩;refine G1 ?_;intro gg;refine⟨_,_,false,aJ,kA,Ad,nI,?_⟩;refine G1 ?_;intro gg;refine o4 (Ab 8000 9 Lj rfl ?_);refine G1 ?_;intro gg;refine o4 (Ab 9000 9 A5 rfl ?_);refine G0 ?_;refine o4 (Ab 10000 9 Ac rfl ?_);refine G0 ?_;refine⟨1,by kernel_rfl,?_⟩;refine G0 ?_;refine⟨0,_,by kernel_rfl,rfl,?_⟩;refine G0 ?_;refine o4 (Ab 13000 9 Ah rfl ?_);refine G1 ?_;intro gg;refine o4 (Ab 14000 9 Af rfl ?_);refine G0 ?_;refine o4 (Ab 15000 9 Aa rfl ?_);refine G0 ?_;refine o4 (Ab 16000 9 Aa rfl ?_);refine G0 ?_;refine bF ?_;refine G0 ?_;refine bF ?_;refine G0 ?_;refine bT ?_;refine G1 ?_;intro gg;refine .inl ⟨_,_,true,[336,128336],aJ,Bbj,(fun _=>fJ),nI,?_⟩;refine G1 ?_;intro gg;(exact⟨[128352],aJ⟩)
omit ha hc in
theorem Aze:Fun Tryz.prog 37 [.c (.sl false []),.c (.agg (xB b))] [.o 91 6 [(xR b)],xZ]:=by
 refine B4 9 Mz rfl ?_;refine G1 ?_;intro gg;refine .inl ⟨_,_,false,[],aJ,Anw,Ad,nI,?_⟩;refine G1 ?_;intro gg;refine o4 (Ab 2000 9 Ez rfl ?_);refine G1 ?_;intro gg;refine .inl ⟨_,_,false,[],aJ,Aoh hb,Ad,nI,?_⟩;refine G1 ?_;intro gg;refine .inl ⟨_,_,false,[],aJ,cr0,Ad,nI,?_⟩;refine G1 ?_;intro gg;refine o4 (Ab 5000 9 Aq rfl ?_);refine G1 ?_;intro gg;refine⟨lI,lI,?_⟩;refine G1 ?_;intro gg;(exact⟨[288],aJ⟩)
theorem Ayn:Fun Tryz.prog 35 [.c (.agg (yA a c)),.c (.agg [.v (.string b),.v (.bool true),.sl false [(xB b)],.sl false [],.sl false [],.sl false []])] [.c (.agg (yC a b c)),xZ]:=by
 refine Ht 9 R6 rfl ?_;(refine goI ?_;repeat (intro gg;refine goI ?_));refine o4 (Ab 1000 9 De rfl ?_);refine G1 ?_;intro gg;refine .inl ⟨_,_,false,[],aJ,ckA ha hc,Ad,nI,?_⟩;refine G1 ?_;intro gg;refine⟨_,_,false,aJ,kA,Ad,nI,?_⟩;refine G1 ?_;intro gg;refine⟨_,_,false,aJ,cr0,Ad,nI,?_⟩;refine G1 ?_;intro gg;refine⟨_,_,false,aJ,cs0,Ad,nI,?_⟩;refine G1 ?_;intro gg;refine⟨_,_,false,aJ,cg0,Ad,nI,?_⟩;refine G1 ?_;intro gg;refine⟨_,_,false,aJ,cw0,Ad,nI,?_⟩;(refine goI ?_;repeat (intro gg;refine goI ?_));refine o4 (Ab 8000 9 Ni rfl ?_);refine G1 ?_;intro gg;refine .inl ⟨_,_,false,[],aJ,S7 hb,Ad,nI,?_⟩;refine G1 ?_;intro gg;refine⟨_,_,false,aJ,Bab hb,Ad,nI,?_⟩;refine G1 ?_;intro gg;refine⟨_,_,false,aJ,Ao8,Ad,nI,?_⟩;refine G1 ?_;intro gg;refine⟨_,_,false,aJ,Ad5,Ad,nI,?_⟩;refine G1 ?_;intro gg;refine⟨_,_,false,aJ,Acj,Ad,nI,?_⟩;(refine goI ?_;repeat (intro gg;refine goI ?_));refine⟨0,_,by kernel_rfl,rfl,?_⟩;refine G0 ?_;refine⟨1,_,by kernel_rfl,rfl,?_⟩;refine G0 ?_;refine⟨2,_,by kernel_rfl,rfl,?_⟩;refine G0 ?_;refine⟨3,_,by kernel_rfl,rfl,?_⟩;refine G0 ?_;refine⟨0,_,by kernel_rfl,rfl,?_⟩;refine G1 ?_;intro gg;refine o4 (Ab 19000 9 E8 rfl ?_);refine G1 ?_;intro gg;refine .inl ⟨_,_,true,[],aJ,Bam ha hb,(fun _=>fJ),nI,?_⟩;refine G1 ?_;intro gg;refine o4 (Ab 21000 9 Gv rfl ?_);refine G0 ?_;refine o4 (Ab 22000 9 A5 rfl ?_);refine G0 ?_;refine o4 (Ab 23000 9 Ac rfl ?_);refine G0 ?_;refine⟨2,by kernel_rfl,?_⟩;refine G0 ?_;refine⟨1,_,by kernel_rfl,rfl,?_⟩;refine G0 ?_;refine o4 (Ab 26000 9 Ah rfl ?_);refine G1 ?_;intro gg;refine o4 (Ab 27000 9 Af rfl ?_);refine G0 ?_;refine o4 (Ab 28000 9 Aa rfl ?_);refine G0 ?_;refine o4 (Ab 29000 9 Aa rfl ?_);refine G0 ?_;refine bF ?_;refine G0 ?_;refine bF ?_;refine G0 ?_;refine bF ?_;refine G0 ?_;refine bF ?_;refine G0 ?_;refine⟨0,_,by kernel_rfl,rfl,?_⟩;refine G0 ?_;refine o4 (Ab 35000 9 Ah rfl ?_);refine G1 ?_;intro gg;refine o4 (Ab 36000 9 Af rfl ?_);refine G0 ?_;refine o4 (Ab 37000 9 Aa rfl ?_);refine G0 ?_;refine o4 (Ab 38000 9 Aa rfl ?_);refine G0 ?_;refine bF ?_;refine G0 ?_;refine bF ?_;refine G0 ?_;refine bT ?_;refine G0 ?_;refine⟨1,_,by kernel_rfl,rfl,?_⟩;refine G0 ?_;refine o4 (Ab 43000 9 Ah rfl ?_);refine G1 ?_;intro gg;refine o4 (Ab 44000 9 Af rfl ?_);refine G0 ?_;refine o4 (Ab 45000 9 Aa rfl ?_);refine G0 ?_;refine o4 (Ab 46000 9 Aa rfl ?_);refine G0 ?_;refine bF ?_;refine G0 ?_;refine bF ?_;refine G0 ?_;refine bF ?_;refine G0 ?_;refine bF ?_;refine G0 ?_;refine⟨1,_,by kernel_rfl,rfl,?_⟩;refine G0 ?_;refine .inl ⟨_,_,true,[],aJ,Aze hb,(fun _=>fJ),nI,?_⟩;refine G1 ?_;intro gg;refine bT ?_;refine G0 ?_;refine⟨_,_,true,aJ,Azx,(fun _=>fJ),nI,?_⟩;refine G1 ?_;intro gg;refine⟨_,_,true,aJ,Av3,(fun _=>fJ),nI,?_⟩;refine G1 ?_;intro gg;(exact⟨_,[],.cell1 rfl rfl rfl rfl rfl rfl (.tmp1 rfl .nil),aJ⟩)
omit hc in
theorem Bbn:Fun Tryz.prog 10 [.c (.sl false [(xA a),(xB b)]),.c (.agg (xC b))] [.o 24 5 [(xA a),(xC b)],.c (.v (.bool true)),xZ]:=by
 refine B4 9 Jt rfl ?_;(refine goI ?_;repeat (intro gg;refine goI ?_));refine o4 (Ab 1000 9 Bs rfl ?_);refine G0 ?_;refine⟨0,_,by kernel_rfl,rfl,?_⟩;refine G0 ?_;refine o4 (Ab 3000 9 B8 rfl ?_);refine G0 ?_;refine⟨0,_,by kernel_rfl,rfl,?_⟩;refine G1 ?_;intro gg;refine .inl ⟨_,_,false,[],aJ,Aat ha,Ad,nI,?_⟩;refine G1 ?_;intro gg;refine⟨1,_,by kernel_rfl,rfl,?_⟩;refine G1 ?_;intro gg;refine .inl ⟨_,_,false,[],aJ,Aoh hb,Ad,nI,?_⟩;refine G1 ?_;intro gg;refine⟨1,_,by kernel_rfl,rfl,?_⟩;refine G0 ?_;refine⟨0,_,by kernel_rfl,rfl,?_⟩;refine G0 ?_;refine bF ?_;refine G0 ?_;refine .inl ⟨_,_,false,[],aJ,Agf hb,Ad,nI,?_⟩;refine G1 ?_;intro gg;refine⟨_,_,false,aJ,kAB,Ad,nI,?_⟩;refine G1 ?_;intro gg;refine o4 (Ab 13000 9 Lj rfl ?_);refine G1 ?_;intro gg;refine o4 (Ab 14000 9 A5 rfl ?_);refine G0 ?_;refine o4 (Ab 15000 9 Ac rfl ?_);refine G0 ?_;refine⟨2,by kernel_rfl,?_⟩;refine G0 ?_;refine⟨1,_,by kernel_rfl,rfl,?_⟩;refine G0 ?_;refine o4 (Ab 18000 9 Ah rfl ?_);refine G1 ?_;intro gg;refine o4 (Ab 19000 9 Af rfl ?_);refine G0 ?_;refine o4 (Ab 20000 9 Aa rfl ?_);refine G0 ?_;refine o4 (Ab 21000 9 Aa rfl ?_);refine G0 ?_;refine bF ?_;refine G0 ?_;refine bF ?_;refine G0 ?_;refine bF ?_;refine G0 ?_;refine bF ?_;refine G0 ?_;refine⟨0,_,by kernel_rfl,rfl,?_⟩;refine G0 ?_;refine o4 (Ab 27000 9 Ah rfl ?_);refine G1 ?_;intro gg;refine o4 (Ab 28000 9 Af rfl ?_);refine G0 ?_;refine o4 (Ab 29000 9 Aa rfl ?_);refine G0 ?_;refine o4 (Ab 30000 9 Aa rfl ?_);refine G0 ?_;refine bF ?_;refine G0 ?_;refine bF ?_;refine G0 ?_;refine bT ?_;refine G0 ?_;refine⟨1,_,by kernel_rfl,rfl,?_⟩;refine G0 ?_;refine o4 (Ab 35000 9 Ah rfl ?_);refine G1 ?_;intro gg;refine o4 (Ab 36000 9 Af rfl ?_);refine G0 ?_;refine o4 (Ab 37000 9 Aa rfl ?_);refine G0 ?_;refine o4 (Ab 38000 9 Aa rfl ?_);refine G0 ?_;refine bF ?_;refine G0 ?_;refine bF ?_;refine G0 ?_;refine bF ?_;refine G0 ?_;refine bF ?_;refine G0 ?_;refine⟨1,_,by kernel_rfl,rfl,?_⟩;refine G0 ?_;refine .inl ⟨_,_,false,[],aJ,Auy,Ad,nI,?_⟩;refine G1 ?_;intro gg;refine⟨1,_,by kernel_rfl,rfl,?_⟩;refine G0 ?_;(exact⟨[336],aJ⟩)
omit ha hc in
theorem Baz:Fun Tryz.prog 37 [.c (.sl false [(xR b)]),.c (.agg (xC b))] [.o 91 6 [(xS b)],xZ]:=by
 refine B4 9 Mz rfl ?_;refine G1 ?_;intro gg;refine .inl ⟨_,_,false,[],aJ,Ba0 hb,Ad,nI,?_⟩;refine G1 ?_;intro gg;refine o4 (Ab 2000 9 Ez rfl ?_);refine G1 ?_;intro gg;refine .inl ⟨_,_,false,[],aJ,Agf hb,Ad,nI,?_⟩;refine G1 ?_;intro gg;refine .inl ⟨_,_,false,[],aJ,crB,Ad,nI,?_⟩;refine G1 ?_;intro gg;refine o4 (Ab 5000 9 Aq rfl ?_);refine G0 ?_;refine⟨0,_,by kernel_rfl,rfl,?_⟩;refine G0 ?_;refine o4 (Ab 7000 9 Y2 rfl ?_);refine G1 ?_;intro gg;refine bT ?_;refine G0 ?_;refine⟨0,_,by kernel_rfl,rfl,?_⟩;refine G0 ?_;refine .inl ⟨_,_,false,[],aJ,Auy,Ad,nI,?_⟩;refine G1 ?_;intro gg;refine .inl ⟨_,_,true,[288],aJ,Bb7,(fun _=>fJ),nI,?_⟩;(refine goI ?_;repeat (intro gg;refine goI ?_));refine⟨lI,lI,?_⟩;refine G1 ?_;intro gg;(exact⟨[592],aJ⟩)
theorem Bbr:Fun Tryz.prog 71 [.c (.agg (yC a b c)),.c (.v (.string b))] [.c (.agg (yD a b c)),xZ]:=by
 refine Ht 9 Aaf rfl ?_;(refine goI ?_;repeat (intro gg;refine goI ?_));refine o4 (W3 1000 9 Adw rfl ?_);(refine goI ?_;repeat (intro gg;refine goI ?_));refine o4 (Ab 2000 9 De rfl ?_);refine G1 ?_;intro gg;refine .inl ⟨_,_,false,[],aJ,Bbc ha hb hc,Ad,nI,?_⟩;refine G1 ?_;intro gg;refine⟨_,_,false,aJ,kAB,Ad,nI,?_⟩;refine G1 ?_;intro gg;refine⟨_,_,false,aJ,crB,Ad,nI,?_⟩;refine G1 ?_;intro gg;refine⟨_,_,false,aJ,cs0,Ad,nI,?_⟩;refine G1 ?_;intro gg;refine⟨_,_,false,aJ,cg0,Ad,nI,?_⟩;refine G1 ?_;intro gg;refine⟨_,_,false,aJ,cw0,Ad,nI,?_⟩;(refine goI ?_;repeat (intro gg;refine goI ?_));refine o4 (Ab 9000 9 A5 rfl ?_);refine G0 ?_;refine o4 (Ab 10000 9 Ac rfl ?_);refine G0 ?_;refine⟨2,by kernel_rfl,?_⟩;refine G0 ?_;refine⟨1,_,by kernel_rfl,rfl,?_⟩;refine G0 ?_;refine o4 (Ab 13000 9 Ah rfl ?_);refine G1 ?_;intro gg;refine o4 (Ab 14000 9 Af rfl ?_);refine G0 ?_;refine o4 (Ab 15000 9 Aa rfl ?_);refine G0 ?_;refine o4 (Ab 16000 9 Aa rfl ?_);refine G0 ?_;refine bF ?_;refine G0 ?_;refine bF ?_;refine G0 ?_;refine bF ?_;refine G0 ?_;refine bF ?_;refine G0 ?_;refine⟨0,_,by kernel_rfl,rfl,?_⟩;refine G0 ?_;refine o4 (Ab 22000 9 Ah rfl ?_);refine G1 ?_;intro gg;refine o4 (Ab 23000 9 Af rfl ?_);refine G0 ?_;refine o4 (Ab 24000 9 Aa rfl ?_);refine G0 ?_;refine o4 (Ab 25000 9 Aa rfl ?_);refine G0 ?_;refine bF ?_;refine G0 ?_;refine bF ?_;refine G0 ?_;refine bT ?_;refine G0 ?_;refine⟨1,_,by kernel_rfl,rfl,?_⟩;refine G0 ?_;refine o4 (Ab 30000 9 Ah rfl ?_);refine G1 ?_;intro gg;refine o4 (Ab 31000 9 Af rfl ?_);refine G0 ?_;refine o4 (Ab 32000 9 Aa rfl ?_);refine G0 ?_;refine o4 (Ab 33000 9 Aa rfl ?_);refine G0 ?_;refine bF ?_;refine G0 ?_;refine bF ?_;refine G0 ?_;refine bF ?_;refine G0 ?_;refine bF ?_;refine G0 ?_;refine .inl ⟨_,_,false,[],aJ,S7 hb,Ad,nI,?_⟩;refine G1 ?_;intro gg;refine bF ?_;refine G0 ?_;refine⟨1,_,by kernel_rfl,rfl,?_⟩;refine G0 ?_;refine⟨1,_,by kernel_rfl,rfl,?_⟩;refine G1 ?_;intro gg;refine o4 (Ab 42000 9 E8 rfl ?_);refine G1 ?_;intro gg;refine .inl ⟨_,_,true,[],aJ,Bbn ha hb,(fun _=>fJ),nI,?_⟩;refine G1 ?_;intro gg;refine o4 (Ab 44000 9 Gv rfl ?_);refine G0 ?_;refine o4 (Ab 45000 9 A5 rfl ?_);refine G0 ?_;refine o4 (Ab 46000 9 Ac rfl ?_);refine G0 ?_;refine⟨2,by kernel_rfl,?_⟩;refine G0 ?_;refine⟨1,_,by kernel_rfl,rfl,?_⟩;refine G0 ?_;refine o4 (Ab 49000 9 Ah rfl ?_);refine G1 ?_;intro gg;refine o4 (Ab 50000 9 Af rfl ?_);refine G0 ?_;refine o4 (Ab 51000 9 Aa rfl ?_);refine G0 ?_;refine o4 (Ab 52000 9 Aa rfl ?_);refine G0 ?_;refine bF ?_;refine G0 ?_;refine bF ?_;refine G0 ?_;refine bF ?_;refine G0 ?_;refine bF ?_;refine G0 ?_;refine⟨0,_,by kernel_rfl,rfl,?_⟩;refine G0 ?_;refine o4 (Ab 58000 9 Ah rfl ?_);refine G1 ?_;intro gg;refine o4 (Ab 59000 9 Af rfl ?_);refine G0 ?_;refine o4 (Ab 60000 9 Aa rfl ?_);refine G0 ?_;refine o4 (Ab 61000 9 Aa rfl ?_);refine G0 ?_;refine bF ?_;refine G0 ?_;refine bF ?_;refine G0 ?_;refine bT ?_;refine G0 ?_;refine⟨1,_,by kernel_rfl,rfl,?_⟩;refine G0 ?_;refine o4 (Ab 66000 9 Ah rfl ?_);refine G1 ?_;intro gg;refine o4 (Ab 67000 9 Af rfl ?_);refine G0 ?_;refine o4 (Ab 68000 9 Aa rfl ?_);refine G0 ?_;refine o4 (Ab 69000 9 Aa rfl ?_);refine G0 ?_;refine bF ?_;refine G0 ?_;refine bF ?_;refine G0 ?_;refine bF ?_;refine G0 ?_;refine bF ?_;refine G0 ?_;refine⟨1,_,by kernel_rfl,rfl,?_⟩;refine G0 ?_;refine .inl ⟨_,_,true,[],aJ,Baz hb,(fun _=>fJ),nI,?_⟩;refine G1 ?_;intro gg;refine bT ?_;refine G0 ?_;refine o4 (W3 77000 9 F8 rfl ?_);refine G1 ?_;intro gg;(exact⟨_,[],.cell1 rfl rfl rfl rfl rfl rfl (.tmp1 rfl .nil),aJ⟩)
theorem Bbl:Fun Tryz.prog 72 [.c (.agg (yD a b c))] [.c (.agg [.v (.string a),.v (.string c),.sl false [(xA a),(xC b)],.sl false [[.v (.string b),.v (.int .i64 2),.v (.int .i64 1),.v (.int .i64 2),.v (.bool true),.v (.int .i64 1)]],.sl false [],.sl false [],.v (.int .i64 0),.v (.int .i64 0),.v (.int .i64 0),.v (.int .i64 0),.v (.int .i64 1000),.sl false []]),.c (.agg [.v (.string a),.v (.bool false),.sl false [(xC b)],.sl false [],.sl false [],.sl false []]),xZ]:=by
 refine Ht 9 Aeb rfl ?_;(refine goI ?_;repeat (intro gg;refine goI ?_));refine o4 (Ab 1000 9 De rfl ?_);refine G1 ?_;intro gg;refine .inl ⟨_,_,false,[],aJ,Bbv ha hb hc,Ad,nI,?_⟩;refine G1 ?_;intro gg;refine⟨_,_,false,aJ,Bbw,Ad,nI,?_⟩;refine G1 ?_;intro gg;refine⟨_,_,false,aJ,Aym,Ad,nI,?_⟩;refine G1 ?_;intro gg;refine⟨_,_,false,aJ,cs0,Ad,nI,?_⟩;refine G1 ?_;intro gg;refine⟨_,_,false,aJ,cg0,Ad,nI,?_⟩;refine G1 ?_;intro gg;refine⟨_,_,false,aJ,cw0,Ad,nI,?_⟩;(refine goI ?_;repeat (intro gg;refine goI ?_));refine o4 (Ab 8000 9 Z1 rfl ?_);refine G1 ?_;intro gg;refine o4 (Ab 9000 9 Bs rfl ?_);refine G0 ?_;refine⟨0,_,by kernel_rfl,rfl,?_⟩;refine G0 ?_;refine o4 (Ab 11000 9 B8 rfl ?_);refine G0 ?_;refine⟨0,_,by kernel_rfl,rfl,?_⟩;refine G1 ?_;intro gg;refine .inl ⟨_,_,false,[],aJ,Aat ha,Ad,nI,?_⟩;refine G1 ?_;intro gg;refine⟨1,_,by kernel_rfl,rfl,?_⟩;refine G1 ?_;intro gg;refine .inl ⟨_,_,false,[],aJ,Agf hb,Ad,nI,?_⟩;refine G1 ?_;intro gg;refine⟨1,_,by kernel_rfl,rfl,?_⟩;refine G0 ?_;refine⟨0,_,by kernel_rfl,rfl,?_⟩;refine G0 ?_;refine bF ?_;refine G0 ?_;refine⟨0,_,by kernel_rfl,rfl,?_⟩;(refine goI ?_;repeat (intro gg;refine goI ?_));refine⟨lI,lI,?_⟩;refine G1 ?_;intro gg;refine⟨1,_,by kernel_rfl,rfl,?_⟩;(refine goI ?_;repeat (intro gg;refine goI ?_));refine⟨lI,lI,?_⟩;refine G1 ?_;intro gg;refine o4 (Ab 23000 9 Yf rfl ?_);refine G0 ?_;refine⟨by omega,1,by kernel_rfl,?_⟩;refine G0 ?_;refine⟨by omega,2,by kernel_rfl,?_⟩;refine G0 ?_;refine⟨by omega,4,by kernel_rfl,?_⟩;refine G0 ?_;refine o4 (Ab 27000 9 Aal rfl ?_);(refine goI ?_;repeat (intro gg;refine goI ?_));refine .inl ⟨_,_,true,[],aJ,Avd hb,(fun _=>fJ),nI,?_⟩;refine G1 ?_;intro gg;refine⟨1,by kernel_rfl,?_⟩;refine G0 ?_;refine⟨by decide,by decide,?_⟩;refine G1 ?_;intro gg;refine⟨0,_,by kernel_rfl,rfl,?_⟩;refine G0 ?_;refine o4 (Ab 32000 9 Kd rfl ?_);refine G0 ?_;refine⟨1,by kernel_rfl,?_⟩;refine G0 ?_;refine o4 (Ab 34000 9 Lv rfl ?_);refine G0 ?_;refine o4 (Ab 35000 9 Kk rfl ?_);refine G0 ?_;refine⟨1,by kernel_rfl,?_⟩;refine G0 ?_;refine⟨1,_,by kernel_rfl,rfl,?_⟩;refine G0 ?_;refine⟨1,by kernel_rfl,?_⟩;refine G0 ?_;refine o4 (Ab 39000 9 I4 rfl ?_);refine G0 ?_;refine⟨1,by kernel_rfl,?_⟩;refine G0 ?_;refine o4 (Ab 41000 9 Gy rfl ?_);refine G0 ?_;refine .inl ⟨_,_,true,[],aJ,Aym,(fun _=>fJ),nI,?_⟩;refine G1 ?_;intro gg;refine⟨0,0,1,rfl,rfl,⟨.i64,rfl⟩,ZU _,Nat.le_of_ble_eq_true rfl,rfl,rfl,fun gg=>?_⟩;refine G0 ?_;refine⟨0,_,by kernel_rfl,rfl,?_⟩;refine G0 ?_;refine⟨0,_,by kernel_rfl,rfl,?_⟩;refine G1 ?_;intro gg;refine⟨lI,lI,?_⟩;refine G1 ?_;intro gg;refine⟨0,_,by kernel_rfl,rfl,?_⟩;refine G0 ?_;refine⟨0,_,by kernel_rfl,rfl,?_⟩;refine G0 ?_;refine o4 (Ab 49000 9 E9 rfl ?_);refine G0 ?_;refine o4 (Ab 50000 9 Aq rfl ?_);refine G0 ?_;refine⟨0,_,by kernel_rfl,rfl,?_⟩;refine G0 ?_;refine o4 (Ab 52000 9 Wi rfl ?_);refine G1 ?_;intro gg;refine o4 (Ab 53000 9 E7 rfl ?_);refine G0 ?_;refine⟨1,by kernel_rfl,?_⟩;refine G0 ?_;refine o4 (Ab 55000 9 Lv rfl ?_);refine G0 ?_;refine o4 (Ab 56000 9 Kk rfl ?_);refine G0 ?_;refine⟨1,by kernel_rfl,?_⟩;refine G0 ?_;refine⟨1,_,by kernel_rfl,rfl,?_⟩;refine G0 ?_;refine⟨1,by kernel_rfl,?_⟩;refine G0 ?_;refine o4 (Ab 60000 9 Ge rfl ?_);refine G0 ?_;refine⟨1,by kernel_rfl,?_⟩;refine G0 ?_;refine o4 (Ab 62000 9 Et rfl ?_);refine G0 ?_;(exact Bbq (.cell1 rfl rfl rfl rfl rfl rfl (.cell1 rfl rfl rfl rfl rfl rfl (.tmp1 rfl .nil))) cJ cJ (A9 rfl))
end
theorem Yr:Fun Tryz.prog 25 [] [.c (.v (.bool true))]:=by
 obtain⟨a,ha⟩:∃s,(⟨#[97]⟩:ByteArray)=s:=⟨_,rfl⟩;obtain⟨b,hb⟩:∃s,(⟨#[98]⟩:ByteArray)=s:=⟨_,rfl⟩;obtain⟨c,hc⟩:∃s,(⟨#[99]⟩:ByteArray)=s:=⟨_,rfl⟩;refine A4 L2 rfl ?_;refine G0 ?_;rw[ha];rw[hb];rw[hc];refine .inl ⟨_,_,false,[],aJ,Au6 ha hc,Ad,nI,?_⟩;(refine goI ?_;repeat (intro gg;refine goI ?_));refine .inl ⟨_,_,false,[],aJ,Bb4 hb hc,Ad,nI,?_⟩;(refine goI ?_;repeat (intro gg;refine goI ?_));refine .inl ⟨_,_,false,[],aJ,Bb1 hb hc,Ad,nI,?_⟩;(refine goI ?_;repeat (intro gg;refine goI ?_));refine .inl ⟨_,_,false,[],aJ,Ayn ha hb hc,Ad,nI,?_⟩;refine G1 ?_;intro gg;refine .inl ⟨_,_,false,[],aJ,Bbr ha hb hc,Ad,nI,?_⟩;refine G1 ?_;intro gg;refine .inl ⟨_,_,false,[],aJ,Bbl ha hb hc,Ad,nI,?_⟩;(refine goI ?_;repeat (intro gg;refine goI ?_));refine⟨0,_,by kernel_rfl,rfl,?_⟩;refine G0 ?_;(exact⟨[],aJ⟩)
set_option maxRecDepth 100000
abbrev zA(a:ByteArray):List V:=[.v (.string a),.v (.int .i64 1),.v (.int .i64 1),.v (.int .i64 1),.v (.bool false)]
abbrev zB(b:ByteArray):List V:=[.v (.string b),.v (.int .i64 1),.v (.int .i64 1),.v (.int .i64 2),.v (.bool false)]
abbrev zR(a:ByteArray):List V:=[.v (.string a),.v (.int .i64 1),.v (.int .i64 1),.v (.int .i64 1),.v (.bool false),.v (.int .i64 0)]
abbrev zS(a i n t:ByteArray)(ad pt:Int):List V:=[.v (.string a),.v (.string i),.v (.string n),.v (.string t),.v (.int .i64 ad),.v (.int .i64 pt),.v (.bool true),.v (.int .i64 1),.v (.bool false)]
abbrev zT(a i n t:ByteArray)(ad pt v0:Int)(g0:Bool):List V:=[.v (.string a),.v (.string i),.v (.string n),.v (.string t),.v (.int .i64 ad),.v (.int .i64 pt),.v (.bool true),.v (.int .i64 v0),.v (.bool g0)]
abbrev zZ:Par:=.c (.v (.int .i64 0))
abbrev wA(a c:ByteArray):List V:=[.v (.string a),.v (.string c),.sl false [(zA a)],.sl false [],.sl false [],.sl false [],.v (.int .i64 0),.v (.int .i64 0),.v (.int .i64 0),.v (.int .i64 0),.v (.int .i64 1000),.sl false []]
abbrev wB(b c:ByteArray):List V:=[.v (.string b),.v (.string c),.sl false [(zB b)],.sl false [],.sl false [],.sl false [],.v (.int .i64 0),.v (.int .i64 0),.v (.int .i64 0),.v (.int .i64 0),.v (.int .i64 1000),.sl false []]
abbrev wC(a c i n t:ByteArray)(ad pt:Int):List V:=[.v (.string a),.v (.string c),.sl false [(zA a)],.sl false [],.sl false [(zS a i n t ad pt)],.sl false [],.v (.int .i64 0),.v (.int .i64 0),.v (.int .i64 0),.v (.int .i64 0),.v (.int .i64 1000),.sl false []]
abbrev wD(a b c i n t:ByteArray)(ad pt:Int):List V:=[.v (.string b),.v (.string c),.sl false [(zA a),(zB b)],.sl false [(zR a)],.sl false [(zS a i n t ad pt)],.sl false [],.v (.int .i64 0),.v (.int .i64 0),.v (.int .i64 0),.v (.int .i64 0),.v (.int .i64 1000),.sl false []]
abbrev wP(a i n t:ByteArray)(ad pt:Int):List V:=[.v (.string a),.v (.bool true),.sl false [(zA a)],.sl false [(zS a i n t ad pt)],.sl false [],.sl false []]
section
variable {a b c i n t:ByteArray} {ad pt:Int} (ha:(⟨#[97]⟩:ByteArray)=a) (hb:(⟨#[98]⟩:ByteArray)=b) (hc:(⟨#[99]⟩:ByteArray)=c) (hs:(⟨a,i,n,t,ad,pt,true,1,false⟩:Pl.Sv).err=0) (ho:(⟨a,i,n,t,ad,pt,true,1,false⟩:Pl.Sv).ok) (v0:Int) (g0:Bool)
include ha hb hc hs ho v0 g0
omit ha hb hc hs ho v0 g0 in
theorem kBf:Fun Tryz.prog 41 [.c (.sl false [(zB b)])] [.o 24 5 [(zB b)]]:=Ii false [⟨b,1,1,2,false⟩] (Nat.le_of_ble_eq_true rfl)
omit ha hb hc hs ho v0 g0 in
theorem Bby:Fun Tryz.prog 41 [.c (.sl false [(zA a),(zB b)])] [.o 24 5 [(zA a),(zB b)]]:=Ii false [⟨a,1,1,1,false⟩,⟨b,1,1,2,false⟩] (Nat.le_of_ble_eq_true rfl)
omit ha hb hc hs ho v0 g0 in
theorem crA:Fun Tryz.prog 47 [.c (.sl false [(zR a)])] [.o 91 6 [(zR a)]]:=K4 false [⟨⟨a,1,1,1,false⟩,0⟩] (Nat.le_of_ble_eq_true rfl)
omit ha hb hc hs ho v0 g0 in
theorem kS:Fun Tryz.prog 117 [.c (.sl false [(zS a i n t ad pt)])] [.o 77 9 [(zS a i n t ad pt)]]:=Zj false [(⟨a,i,n,t,ad,pt,true,1,false⟩:Pl.Sv)] (Nat.le_of_ble_eq_true rfl)
omit ha hb hc hs ho v0 g0 in
theorem Aya:Fun Tryz.prog 165 [.o 77 9 [],zZ,.o 77 9 [(zS a i n t ad pt)]] [.o 77 9 [(zS a i n t ad pt)]]:=Agi [] (⟨a,i,n,t,ad,pt,true,1,false⟩:Pl.Sv) 0 (ZT _) (Nat.le_of_ble_eq_true rfl)
omit ha hb hc hs ho v0 g0 in
theorem Ba7:Fun Tryz.prog 97 [.o 24 5 [(zB b)],zZ,.o 24 5 [(zA a)]] [.o 24 5 [(zA a),(zB b)]]:=Vp [⟨b,1,1,2,false⟩] ⟨a,1,1,1,false⟩ 0 (ZU _) (Nat.le_of_ble_eq_true rfl)
omit ha hb hc v0 g0 in
theorem Av9:Fun Tryz.prog 160 [.c (.agg (zS a i n t ad pt))] [zZ]:=(by have h:=Xs (⟨a,i,n,t,ad,pt,true,1,false⟩:Pl.Sv) ho;rw[hs]at h;exact h)
omit ha hb hc v0 g0 in
theorem Awn:Fun Tryz.prog 154 [.c (.sl false [(zS a i n t ad pt)])] [zZ]:=(by have h:=Z6 [(⟨a,i,n,t,ad,pt,true,1,false⟩:Pl.Sv)] (Nat.le_of_ble_eq_true rfl) (fun x hx=>by rw[XN.1 hx];exact ho);rw[show Pl.ckSv [(⟨a,i,n,t,ad,pt,true,1,false⟩:Pl.Sv)]=0 by simp[Pl.ckSv,Pl.ckL,Pl.firstErr,Pl.sorted,hs]]at h;exact h)
omit ha hb hc hs ho v0 g0 in
theorem Azt:Fun Tryz.prog 93 [.c (.agg (zA a)),.c (.agg (zA a))] [zZ]:=(by have h:=Sg (⟨a,1,1,1,false⟩:Pl.Mb) (⟨a,1,1,1,false⟩:Pl.Mb);rw[show Pl.Mb.cmp ⟨a,1,1,1,false⟩ ⟨a,1,1,1,false⟩=0 by kernel_rfl]at h;exact h)
omit ha hc hs ho v0 g0 in
theorem Aq6:Fun Tryz.prog 39 [.c (.agg (zB b))] [zZ]:=by
 refine B4 9 Gd rfl ?_;refine G1 ?_;intro gg;refine .inl ⟨_,_,false,[],aJ,S7 hb,Ad,nI,?_⟩;refine G1 ?_;intro gg;refine o4 (Ab 2000 9 Be rfl ?_);refine G0 ?_;refine o4 (Ab 3000 9 Be rfl ?_);refine G0 ?_;refine o4 (Ab 4000 9 Be rfl ?_);refine G0 ?_;(exact⟨[],aJ⟩)
omit ha hc hs ho v0 g0 in
theorem Azp:Fun Tryz.prog 153 [.c (.sl false [(zB b)])] [zZ]:=by
 refine B4 9 Db rfl ?_;refine G1 ?_;intro gg;refine o4 (Ab 1000 9 Bs rfl ?_);refine G0 ?_;refine⟨0,_,by kernel_rfl,rfl,?_⟩;refine G0 ?_;refine o4 (Ab 3000 9 B8 rfl ?_);refine G0 ?_;refine⟨0,_,by kernel_rfl,rfl,?_⟩;refine G1 ?_;intro gg;refine .inl ⟨_,_,false,[],aJ,Aq6 hb,Ad,nI,?_⟩;refine G1 ?_;intro gg;(exact⟨[],aJ⟩)
omit hc hs ho v0 g0 in
theorem Ax7:Fun Tryz.prog 153 [.c (.sl false [(zA a),(zB b)])] [zZ]:=by
 refine B4 9 Db rfl ?_;refine G1 ?_;intro gg;refine o4 (Ab 1000 9 Bs rfl ?_);refine G0 ?_;refine⟨0,_,by kernel_rfl,rfl,?_⟩;refine G0 ?_;refine o4 (Ab 3000 9 B8 rfl ?_);refine G0 ?_;refine⟨0,_,by kernel_rfl,rfl,?_⟩;refine G1 ?_;intro gg;refine .inl ⟨_,_,false,[],aJ,Aat ha,Ad,nI,?_⟩;refine G1 ?_;intro gg;refine⟨1,_,by kernel_rfl,rfl,?_⟩;refine G1 ?_;intro gg;refine .inl ⟨_,_,false,[],aJ,Aq6 hb,Ad,nI,?_⟩;refine G1 ?_;intro gg;refine⟨1,_,by kernel_rfl,rfl,?_⟩;refine G0 ?_;refine⟨0,_,by kernel_rfl,rfl,?_⟩;refine G0 ?_;refine bF ?_;refine G0 ?_;(exact⟨[],aJ⟩)
omit hb hc hs ho v0 g0 in
theorem Bbb:Fun Tryz.prog 42 [.c (.sl false [(zR a)])] [zZ]:=by
 refine B4 9 Hm rfl ?_;refine G1 ?_;intro gg;refine⟨0,_,by kernel_rfl,rfl,?_⟩;refine G1 ?_;intro gg;refine o4 (Ab 2000 9 Ez rfl ?_);refine G1 ?_;intro gg;refine .inl ⟨_,_,false,[],aJ,Aat ha,Ad,nI,?_⟩;refine G1 ?_;intro gg;refine⟨_,_,rfl,A9 rfl,rfl,?_⟩;refine G0 ?_;refine o4 (Ab 5000 9 Ba rfl ?_);refine G0 ?_;refine o4 (Ab 6000 9 Aq rfl ?_);refine G0 ?_;refine⟨0,_,by kernel_rfl,rfl,?_⟩;refine G0 ?_;refine o4 (Ab 8000 9 H7 rfl ?_);refine G1 ?_;intro gg;(exact⟨[],aJ⟩)
omit ha hs ho v0 g0 in
theorem Ba5:Fun Tryz.prog 79 [.c (.agg (wB b c))] [zZ]:=by
 refine B4 9 D2 rfl ?_;refine G1 ?_;intro gg;refine .inl ⟨_,_,false,[],aJ,S7 hb,Ad,nI,?_⟩;refine G1 ?_;intro gg;refine .inl ⟨_,_,false,[],aJ,Aip hc,Ad,nI,?_⟩;refine G1 ?_;intro gg;refine⟨_,_,false,aJ,Azp hb,Ad,nI,?_⟩;refine G1 ?_;intro gg;refine⟨_,_,false,aJ,Anw,Ad,nI,?_⟩;refine G1 ?_;intro gg;refine⟨_,_,false,aJ,Ao8,Ad,nI,?_⟩;refine G1 ?_;intro gg;refine⟨_,_,false,aJ,Ad5,Ad,nI,?_⟩;refine G1 ?_;intro gg;refine⟨_,_,false,aJ,Ajt,Ad,nI,?_⟩;refine G1 ?_;intro gg;refine⟨_,_,false,aJ,Acj,Ad,nI,?_⟩;(refine goI ?_;repeat (intro gg;refine goI ?_));refine⟨0,_,by kernel_rfl,rfl,?_⟩;refine G0 ?_;refine⟨1,_,by kernel_rfl,rfl,?_⟩;refine G0 ?_;refine⟨2,_,by kernel_rfl,rfl,?_⟩;refine G0 ?_;refine⟨3,_,by kernel_rfl,rfl,?_⟩;refine G0 ?_;refine⟨4,_,by kernel_rfl,rfl,?_⟩;refine G0 ?_;refine⟨5,_,by kernel_rfl,rfl,?_⟩;refine G0 ?_;refine o4 (Ab 15000 9 A5 rfl ?_);refine G0 ?_;refine o4 (Ab 16000 9 Ac rfl ?_);refine G0 ?_;refine⟨1,by kernel_rfl,?_⟩;refine G0 ?_;refine⟨0,_,by kernel_rfl,rfl,?_⟩;refine G0 ?_;refine o4 (Ab 19000 9 Ah rfl ?_);refine G1 ?_;intro gg;refine o4 (Ab 20000 9 Af rfl ?_);refine G0 ?_;refine o4 (Ab 21000 9 Aa rfl ?_);refine G0 ?_;refine o4 (Ab 22000 9 Aa rfl ?_);refine G0 ?_;refine bF ?_;refine G0 ?_;refine bF ?_;refine G0 ?_;refine bF ?_;refine G0 ?_;refine bF ?_;refine G0 ?_;refine⟨0,_,by kernel_rfl,rfl,?_⟩;refine G0 ?_;refine o4 (Ab 28000 9 Ah rfl ?_);refine G1 ?_;intro gg;refine o4 (Ab 29000 9 Af rfl ?_);refine G0 ?_;refine o4 (Ab 30000 9 Aa rfl ?_);refine G0 ?_;refine o4 (Ab 31000 9 Aa rfl ?_);refine G0 ?_;refine bF ?_;refine G0 ?_;refine bF ?_;refine G0 ?_;refine bF ?_;refine G0 ?_;refine bF ?_;refine G0 ?_;refine⟨0,_,by kernel_rfl,rfl,?_⟩;refine G0 ?_;refine⟨0,_,by kernel_rfl,rfl,?_⟩;refine G0 ?_;refine o4 (Ab 38000 9 Dn rfl ?_);refine G1 ?_;intro gg;(exact⟨[],aJ⟩)
omit hb v0 g0 in
theorem Bbd:Fun Tryz.prog 79 [.c (.agg (wC a c i n t ad pt))] [zZ]:=by
 refine B4 9 D2 rfl ?_;refine G1 ?_;intro gg;refine .inl ⟨_,_,false,[],aJ,Aob ha,Ad,nI,?_⟩;refine G1 ?_;intro gg;refine .inl ⟨_,_,false,[],aJ,Aip hc,Ad,nI,?_⟩;refine G1 ?_;intro gg;refine⟨_,_,false,aJ,Awr ha,Ad,nI,?_⟩;refine G1 ?_;intro gg;refine⟨_,_,false,aJ,Anw,Ad,nI,?_⟩;refine G1 ?_;intro gg;refine⟨_,_,false,aJ,Awn hs ho,Ad,nI,?_⟩;refine G1 ?_;intro gg;refine⟨_,_,false,aJ,Ad5,Ad,nI,?_⟩;refine G1 ?_;intro gg;refine⟨_,_,false,aJ,Ajt,Ad,nI,?_⟩;refine G1 ?_;intro gg;refine⟨_,_,false,aJ,Acj,Ad,nI,?_⟩;(refine goI ?_;repeat (intro gg;refine goI ?_));refine⟨0,_,by kernel_rfl,rfl,?_⟩;refine G0 ?_;refine⟨1,_,by kernel_rfl,rfl,?_⟩;refine G0 ?_;refine⟨2,_,by kernel_rfl,rfl,?_⟩;refine G0 ?_;refine⟨3,_,by kernel_rfl,rfl,?_⟩;refine G0 ?_;refine⟨4,_,by kernel_rfl,rfl,?_⟩;refine G0 ?_;refine⟨5,_,by kernel_rfl,rfl,?_⟩;refine G0 ?_;refine o4 (Ab 15000 9 A5 rfl ?_);refine G0 ?_;refine o4 (Ab 16000 9 Ac rfl ?_);refine G0 ?_;refine⟨1,by kernel_rfl,?_⟩;refine G0 ?_;refine⟨0,_,by kernel_rfl,rfl,?_⟩;refine G0 ?_;refine o4 (Ab 19000 9 Ah rfl ?_);refine G1 ?_;intro gg;refine o4 (Ab 20000 9 Af rfl ?_);refine G0 ?_;refine o4 (Ab 21000 9 Aa rfl ?_);refine G0 ?_;refine o4 (Ab 22000 9 Aa rfl ?_);refine G0 ?_;refine bF ?_;refine G0 ?_;refine bF ?_;refine G0 ?_;refine bF ?_;refine G0 ?_;refine bF ?_;refine G0 ?_;refine⟨0,_,by kernel_rfl,rfl,?_⟩;refine G0 ?_;refine o4 (Ab 28000 9 Ah rfl ?_);refine G1 ?_;intro gg;refine o4 (Ab 29000 9 Af rfl ?_);refine G0 ?_;refine o4 (Ab 30000 9 Aa rfl ?_);refine G0 ?_;refine o4 (Ab 31000 9 Aa rfl ?_);refine G0 ?_;refine bF ?_;refine G0 ?_;refine bF ?_;refine G0 ?_;refine bF ?_;refine G0 ?_;refine bF ?_;refine G0 ?_;refine⟨0,_,by kernel_rfl,rfl,?_⟩;refine G0 ?_;refine⟨0,_,by kernel_rfl,rfl,?_⟩;refine G0 ?_;refine o4 (Ab 38000 9 Dn rfl ?_);refine G1 ?_;intro gg;(exact⟨[],aJ⟩)
omit v0 g0 in
theorem Bb8:Fun Tryz.prog 79 [.c (.agg (wD a b c i n t ad pt))] [zZ]:=by
 refine B4 9 D2 rfl ?_;refine G1 ?_;intro gg;refine .inl ⟨_,_,false,[],aJ,S7 hb,Ad,nI,?_⟩;refine G1 ?_;intro gg;refine .inl ⟨_,_,false,[],aJ,Aip hc,Ad,nI,?_⟩;refine G1 ?_;intro gg;refine⟨_,_,false,aJ,Ax7 ha hb,Ad,nI,?_⟩;refine G1 ?_;intro gg;refine⟨_,_,false,aJ,Bbb ha,Ad,nI,?_⟩;refine G1 ?_;intro gg;refine⟨_,_,false,aJ,Awn hs ho,Ad,nI,?_⟩;refine G1 ?_;intro gg;refine⟨_,_,false,aJ,Ad5,Ad,nI,?_⟩;refine G1 ?_;intro gg;refine⟨_,_,false,aJ,Ajt,Ad,nI,?_⟩;refine G1 ?_;intro gg;refine⟨_,_,false,aJ,Acj,Ad,nI,?_⟩;(refine goI ?_;repeat (intro gg;refine goI ?_));refine⟨0,_,by kernel_rfl,rfl,?_⟩;refine G0 ?_;refine⟨1,_,by kernel_rfl,rfl,?_⟩;refine G0 ?_;refine⟨2,_,by kernel_rfl,rfl,?_⟩;refine G0 ?_;refine⟨3,_,by kernel_rfl,rfl,?_⟩;refine G0 ?_;refine⟨4,_,by kernel_rfl,rfl,?_⟩;refine G0 ?_;refine⟨5,_,by kernel_rfl,rfl,?_⟩;refine G0 ?_;refine o4 (Ab 15000 9 A5 rfl ?_);refine G0 ?_;refine o4 (Ab 16000 9 Ac rfl ?_);refine G0 ?_;refine⟨2,by kernel_rfl,?_⟩;refine G0 ?_;refine⟨1,_,by kernel_rfl,rfl,?_⟩;refine G0 ?_;refine o4 (Ab 19000 9 Ah rfl ?_);refine G1 ?_;intro gg;refine o4 (Ab 20000 9 Af rfl ?_);refine G0 ?_;refine o4 (Ab 21000 9 Aa rfl ?_);refine G0 ?_;refine o4 (Ab 22000 9 Aa rfl ?_);refine G0 ?_;refine bF ?_;refine G0 ?_;refine bF ?_;refine G0 ?_;refine bF ?_;refine G0 ?_;refine bF ?_;refine G0 ?_;refine⟨0,_,by kernel_rfl,rfl,?_⟩;refine G0 ?_;refine o4 (Ab 28000 9 Ah rfl ?_);refine G1 ?_;intro gg;refine o4 (Ab 29000 9 Af rfl ?_);refine G0 ?_;refine o4 (Ab 30000 9 Aa rfl ?_);refine G0 ?_;refine o4 (Ab 31000 9 Aa rfl ?_);refine G0 ?_;refine bF ?_;refine G0 ?_;refine bF ?_;refine G0 ?_;refine bT ?_;refine G0 ?_;refine⟨1,_,by kernel_rfl,rfl,?_⟩;refine G0 ?_;refine o4 (Ab 36000 9 Ah rfl ?_);refine G1 ?_;intro gg;refine o4 (Ab 37000 9 Af rfl ?_);refine G0 ?_;refine o4 (Ab 38000 9 Aa rfl ?_);refine G0 ?_;refine o4 (Ab 39000 9 Aa rfl ?_);refine G0 ?_;refine bF ?_;refine G0 ?_;refine bF ?_;refine G0 ?_;refine bF ?_;refine G0 ?_;refine bF ?_;refine G0 ?_;refine⟨1,_,by kernel_rfl,rfl,?_⟩;refine G0 ?_;refine⟨1,_,by kernel_rfl,rfl,?_⟩;refine G0 ?_;refine o4 (Ab 46000 9 Dn rfl ?_);refine G1 ?_;intro gg;refine⟨0,_,by kernel_rfl,rfl,?_⟩;refine G1 ?_;intro gg;refine o4 (Ab 48000 9 A5 rfl ?_);refine G0 ?_;refine o4 (Ab 49000 9 Ac rfl ?_);refine G0 ?_;refine⟨2,by kernel_rfl,?_⟩;refine G0 ?_;refine⟨1,_,by kernel_rfl,rfl,?_⟩;refine G0 ?_;refine o4 (Ab 52000 9 Ah rfl ?_);refine G1 ?_;intro gg;refine o4 (Ab 53000 9 Af rfl ?_);refine G0 ?_;refine o4 (Ab 54000 9 Aa rfl ?_);refine G0 ?_;refine o4 (Ab 55000 9 Aa rfl ?_);refine G0 ?_;refine bF ?_;refine G0 ?_;refine bF ?_;refine G0 ?_;refine bF ?_;refine G0 ?_;refine bT ?_;refine G0 ?_;refine⟨0,_,by kernel_rfl,rfl,?_⟩;refine G0 ?_;refine o4 (Ab 61000 9 Ah rfl ?_);refine G1 ?_;intro gg;refine o4 (Ab 62000 9 Af rfl ?_);refine G0 ?_;refine o4 (Ab 63000 9 Aa rfl ?_);refine G0 ?_;refine o4 (Ab 64000 9 Aa rfl ?_);refine G0 ?_;refine bF ?_;refine G0 ?_;refine bF ?_;refine G0 ?_;refine bF ?_;refine G0 ?_;refine bF ?_;refine G0 ?_;refine⟨0,_,by kernel_rfl,rfl,?_⟩;refine G0 ?_;refine o4 (Ab 70000 9 Ah rfl ?_);refine G1 ?_;intro gg;refine o4 (Ab 71000 9 Af rfl ?_);refine G0 ?_;refine o4 (Ab 72000 9 Aa rfl ?_);refine G0 ?_;refine o4 (Ab 73000 9 Aa rfl ?_);refine G0 ?_;refine bF ?_;refine G0 ?_;refine bF ?_;refine G0 ?_;refine bF ?_;refine G0 ?_;refine bF ?_;refine G0 ?_;refine⟨0,_,by kernel_rfl,rfl,?_⟩;refine G0 ?_;refine .inl ⟨_,_,false,[],aJ,Azt,Ad,nI,?_⟩;refine G1 ?_;intro gg;(exact⟨[],aJ⟩)
omit ha hs ho v0 g0 in
theorem Arj:Fun Tryz.prog 32 [.c (.v (.string b)),.c (.v (.string c)),.c (.v (.int .i64 2)),.c (.v (.bool false))] [.c (.agg (wB b c)),zZ]:=by
 refine Ht 9 Oh rfl ?_;(refine goI ?_;repeat (intro gg;refine goI ?_));refine .inl ⟨_,_,true,[],aJ,Ba5 hb hc,(fun _=>fJ),nI,?_⟩;refine G1 ?_;intro gg;(exact⟨_,[],.cell1 rfl rfl rfl rfl rfl rfl (.tmp1 rfl .nil),aJ⟩)
omit ha hb hc in
theorem Bb5:Fun Tryz.prog 80 [.c (.sl false []),.c (.agg (zT a i n t ad pt v0 g0))] [.o 77 9 [(zS a i n t ad pt)],zZ]:=by
 refine B4 9 Ja rfl ?_;(refine goI ?_;repeat (intro gg;refine goI ?_));refine o4 (Ab 1000 9 Dj rfl ?_);refine G0 ?_;refine⟨0,_,by kernel_rfl,rfl,?_⟩;refine G0 ?_;refine .inl ⟨_,_,false,[],aJ,Av9 hs ho,Ad,nI,?_⟩;refine G1 ?_;intro gg;refine o4 (Ab 4000 9 Xd rfl ?_);refine G1 ?_;intro gg;refine .inl ⟨_,_,false,[],aJ,cs0,Ad,nI,?_⟩;refine G1 ?_;intro gg;refine o4 (Ab 6000 9 Na rfl ?_);refine G0 ?_;refine o4 (Ab 7000 9 Bi rfl ?_);(refine goI ?_;repeat (intro gg;refine goI ?_));refine .inl ⟨_,_,true,[64144,64736],aJ,Aya,(fun _=>fJ),nI,?_⟩;refine G1 ?_;intro gg;(exact⟨[64752],aJ⟩)
omit hb in
theorem Avu:Fun Tryz.prog 33 [.c (.agg (wA a c)),.c (.agg (zT a i n t ad pt v0 g0))] [.c (.agg (wC a c i n t ad pt)),zZ]:=by
 refine Ht 9 Qe rfl ?_;(refine goI ?_;repeat (intro gg;refine goI ?_));refine o4 (Ab 1000 9 De rfl ?_);refine G1 ?_;intro gg;refine .inl ⟨_,_,false,[],aJ,ckA ha hc,Ad,nI,?_⟩;refine G1 ?_;intro gg;refine⟨_,_,false,aJ,kA,Ad,nI,?_⟩;refine G1 ?_;intro gg;refine⟨_,_,false,aJ,cr0,Ad,nI,?_⟩;refine G1 ?_;intro gg;refine⟨_,_,false,aJ,cs0,Ad,nI,?_⟩;refine G1 ?_;intro gg;refine⟨_,_,false,aJ,cg0,Ad,nI,?_⟩;refine G1 ?_;intro gg;refine⟨_,_,false,aJ,cw0,Ad,nI,?_⟩;(refine goI ?_;repeat (intro gg;refine goI ?_));refine bF ?_;refine G0 ?_;refine⟨_,_,true,aJ,Bb5 hs ho v0 g0,(fun _=>fJ),nI,?_⟩;refine G1 ?_;intro gg;refine o4 (W3 10000 9 F8 rfl ?_);refine G1 ?_;intro gg;(exact⟨_,[],.cell1 rfl rfl rfl rfl rfl rfl (.tmp1 rfl .nil),aJ⟩)
omit hb v0 g0 in
theorem Bbe:Fun Tryz.prog 34 [.c (.agg (wC a c i n t ad pt))] [.c (.agg (wP a i n t ad pt)),zZ]:=by
 refine Ht 9 Qd rfl ?_;(refine goI ?_;repeat (intro gg;refine goI ?_));refine o4 (Ab 1000 9 De rfl ?_);refine G1 ?_;intro gg;refine .inl ⟨_,_,false,[],aJ,Bbd ha hc hs ho,Ad,nI,?_⟩;refine G1 ?_;intro gg;refine⟨_,_,false,aJ,kA,Ad,nI,?_⟩;refine G1 ?_;intro gg;refine⟨_,_,false,aJ,cr0,Ad,nI,?_⟩;refine G1 ?_;intro gg;refine⟨_,_,false,aJ,kS,Ad,nI,?_⟩;refine G1 ?_;intro gg;refine⟨_,_,false,aJ,cg0,Ad,nI,?_⟩;refine G1 ?_;intro gg;refine⟨_,_,false,aJ,cw0,Ad,nI,?_⟩;(refine goI ?_;repeat (intro gg;refine goI ?_));(exact⟨_,[],.cell1 rfl rfl rfl rfl rfl rfl (.tmp1 rfl .nil),aJ⟩)
omit hc hs ho v0 g0 in
theorem Bbi:Fun Tryz.prog 10 [.c (.sl false [(zB b)]),.c (.agg (zA a))] [.o 24 5 [(zA a),(zB b)],.c (.v (.bool true)),zZ]:=by
 refine B4 9 Jt rfl ?_;(refine goI ?_;repeat (intro gg;refine goI ?_));refine o4 (Ab 1000 9 Bs rfl ?_);refine G0 ?_;refine⟨0,_,by kernel_rfl,rfl,?_⟩;refine G0 ?_;refine o4 (Ab 3000 9 B8 rfl ?_);refine G0 ?_;refine⟨0,_,by kernel_rfl,rfl,?_⟩;refine G1 ?_;intro gg;refine .inl ⟨_,_,false,[],aJ,Aq6 hb,Ad,nI,?_⟩;refine G1 ?_;intro gg;refine .inl ⟨_,_,false,[],aJ,Aat ha,Ad,nI,?_⟩;refine G1 ?_;intro gg;refine⟨_,_,false,aJ,kBf,Ad,nI,?_⟩;refine G1 ?_;intro gg;refine o4 (Ab 8000 9 Lj rfl ?_);refine G1 ?_;intro gg;refine o4 (Ab 9000 9 A5 rfl ?_);refine G0 ?_;refine o4 (Ab 10000 9 Ac rfl ?_);refine G0 ?_;refine⟨1,by kernel_rfl,?_⟩;refine G0 ?_;refine⟨0,_,by kernel_rfl,rfl,?_⟩;refine G0 ?_;refine o4 (Ab 13000 9 Ah rfl ?_);refine G1 ?_;intro gg;refine o4 (Ab 14000 9 Af rfl ?_);refine G0 ?_;refine o4 (Ab 15000 9 Aa rfl ?_);refine G0 ?_;refine o4 (Ab 16000 9 Aa rfl ?_);refine G0 ?_;refine bF ?_;refine G0 ?_;refine bF ?_;refine G0 ?_;refine bF ?_;refine G0 ?_;refine bT ?_;refine G0 ?_;refine⟨0,_,by kernel_rfl,rfl,?_⟩;refine G0 ?_;refine o4 (Ab 22000 9 Ah rfl ?_);refine G1 ?_;intro gg;refine o4 (Ab 23000 9 Af rfl ?_);refine G0 ?_;refine o4 (Ab 24000 9 Aa rfl ?_);refine G0 ?_;refine o4 (Ab 25000 9 Aa rfl ?_);refine G0 ?_;refine bF ?_;refine G0 ?_;refine bF ?_;refine G0 ?_;refine bF ?_;refine G0 ?_;refine bT ?_;refine G1 ?_;intro gg;refine .inl ⟨_,_,true,[336,128336],aJ,Ba7,(fun _=>fJ),nI,?_⟩;refine G1 ?_;intro gg;(exact⟨[128352],aJ⟩)
omit hb hc hs ho v0 g0 in
theorem Bbt:Fun Tryz.prog 37 [.c (.sl false []),.c (.agg (zA a))] [.o 91 6 [(zR a)],zZ]:=by
 refine B4 9 Mz rfl ?_;refine G1 ?_;intro gg;refine .inl ⟨_,_,false,[],aJ,Anw,Ad,nI,?_⟩;refine G1 ?_;intro gg;refine o4 (Ab 2000 9 Ez rfl ?_);refine G1 ?_;intro gg;refine .inl ⟨_,_,false,[],aJ,Aat ha,Ad,nI,?_⟩;refine G1 ?_;intro gg;refine .inl ⟨_,_,false,[],aJ,cr0,Ad,nI,?_⟩;refine G1 ?_;intro gg;refine o4 (Ab 5000 9 Aq rfl ?_);refine G1 ?_;intro gg;refine⟨lI,lI,?_⟩;refine G1 ?_;intro gg;(exact⟨[288],aJ⟩)
omit ha hb hc v0 g0 in
theorem Az0:Fun Tryz.prog 84 [.c (.sl false []),.c (.sl false [(zS a i n t ad pt)])] [.o 77 9 [(zS a i n t ad pt)],zZ]:=by
 refine B4 9 Ng rfl ?_;refine G1 ?_;intro gg;refine o4 (Ab 1000 9 Dj rfl ?_);refine G0 ?_;refine⟨0,_,by kernel_rfl,rfl,?_⟩;refine G0 ?_;refine⟨1,_,by kernel_rfl,rfl,?_⟩;refine G0 ?_;refine⟨0,_,by kernel_rfl,rfl,?_⟩;refine G1 ?_;intro gg;refine .inl ⟨_,_,false,[],aJ,Av9 hs ho,Ad,nI,?_⟩;refine G1 ?_;intro gg;refine .inl ⟨_,_,false,[],aJ,cs0,Ad,nI,?_⟩;refine G1 ?_;intro gg;refine⟨0,_,by kernel_rfl,rfl,?_⟩;refine G1 ?_;intro gg;refine o4 (Ab 8000 9 Na rfl ?_);refine G0 ?_;refine o4 (Ab 9000 9 Bi rfl ?_);(refine goI ?_;repeat (intro gg;refine goI ?_));refine .inl ⟨_,_,true,[320,672],aJ,Aya,(fun _=>fJ),nI,?_⟩;refine G1 ?_;intro gg;(exact⟨[688],aJ⟩)
omit v0 g0 in
theorem Aye:Fun Tryz.prog 35 [.c (.agg (wB b c)),.c (.agg (wP a i n t ad pt))] [.c (.agg (wD a b c i n t ad pt)),zZ]:=by
 refine Ht 9 R6 rfl ?_;(refine goI ?_;repeat (intro gg;refine goI ?_));refine o4 (Ab 1000 9 De rfl ?_);refine G1 ?_;intro gg;refine .inl ⟨_,_,false,[],aJ,Ba5 hb hc,Ad,nI,?_⟩;refine G1 ?_;intro gg;refine⟨_,_,false,aJ,kBf,Ad,nI,?_⟩;refine G1 ?_;intro gg;refine⟨_,_,false,aJ,cr0,Ad,nI,?_⟩;refine G1 ?_;intro gg;refine⟨_,_,false,aJ,cs0,Ad,nI,?_⟩;refine G1 ?_;intro gg;refine⟨_,_,false,aJ,cg0,Ad,nI,?_⟩;refine G1 ?_;intro gg;refine⟨_,_,false,aJ,cw0,Ad,nI,?_⟩;(refine goI ?_;repeat (intro gg;refine goI ?_));refine o4 (Ab 8000 9 Ni rfl ?_);refine G1 ?_;intro gg;refine .inl ⟨_,_,false,[],aJ,Aob ha,Ad,nI,?_⟩;refine G1 ?_;intro gg;refine⟨_,_,false,aJ,Awr ha,Ad,nI,?_⟩;refine G1 ?_;intro gg;refine⟨_,_,false,aJ,Awn hs ho,Ad,nI,?_⟩;refine G1 ?_;intro gg;refine⟨_,_,false,aJ,Ad5,Ad,nI,?_⟩;refine G1 ?_;intro gg;refine⟨_,_,false,aJ,Acj,Ad,nI,?_⟩;(refine goI ?_;repeat (intro gg;refine goI ?_));refine⟨0,_,by kernel_rfl,rfl,?_⟩;refine G0 ?_;refine⟨1,_,by kernel_rfl,rfl,?_⟩;refine G0 ?_;refine⟨2,_,by kernel_rfl,rfl,?_⟩;refine G0 ?_;refine⟨3,_,by kernel_rfl,rfl,?_⟩;refine G0 ?_;refine⟨0,_,by kernel_rfl,rfl,?_⟩;refine G1 ?_;intro gg;refine o4 (Ab 19000 9 E8 rfl ?_);refine G1 ?_;intro gg;refine .inl ⟨_,_,true,[],aJ,Bbi ha hb,(fun _=>fJ),nI,?_⟩;refine G1 ?_;intro gg;refine o4 (Ab 21000 9 Gv rfl ?_);refine G0 ?_;refine o4 (Ab 22000 9 A5 rfl ?_);refine G0 ?_;refine o4 (Ab 23000 9 Ac rfl ?_);refine G0 ?_;refine⟨2,by kernel_rfl,?_⟩;refine G0 ?_;refine⟨1,_,by kernel_rfl,rfl,?_⟩;refine G0 ?_;refine o4 (Ab 26000 9 Ah rfl ?_);refine G1 ?_;intro gg;refine o4 (Ab 27000 9 Af rfl ?_);refine G0 ?_;refine o4 (Ab 28000 9 Aa rfl ?_);refine G0 ?_;refine o4 (Ab 29000 9 Aa rfl ?_);refine G0 ?_;refine bF ?_;refine G0 ?_;refine bF ?_;refine G0 ?_;refine bF ?_;refine G0 ?_;refine bT ?_;refine G0 ?_;refine⟨0,_,by kernel_rfl,rfl,?_⟩;refine G0 ?_;refine o4 (Ab 35000 9 Ah rfl ?_);refine G1 ?_;intro gg;refine o4 (Ab 36000 9 Af rfl ?_);refine G0 ?_;refine o4 (Ab 37000 9 Aa rfl ?_);refine G0 ?_;refine o4 (Ab 38000 9 Aa rfl ?_);refine G0 ?_;refine bF ?_;refine G0 ?_;refine bF ?_;refine G0 ?_;refine bF ?_;refine G0 ?_;refine bF ?_;refine G0 ?_;refine⟨0,_,by kernel_rfl,rfl,?_⟩;refine G0 ?_;refine o4 (Ab 44000 9 Ah rfl ?_);refine G1 ?_;intro gg;refine o4 (Ab 45000 9 Af rfl ?_);refine G0 ?_;refine o4 (Ab 46000 9 Aa rfl ?_);refine G0 ?_;refine o4 (Ab 47000 9 Aa rfl ?_);refine G0 ?_;refine bF ?_;refine G0 ?_;refine bF ?_;refine G0 ?_;refine bF ?_;refine G0 ?_;refine bF ?_;refine G0 ?_;refine⟨0,_,by kernel_rfl,rfl,?_⟩;refine G0 ?_;refine .inl ⟨_,_,true,[],aJ,Bbt ha,(fun _=>fJ),nI,?_⟩;refine G1 ?_;intro gg;refine bT ?_;refine G0 ?_;refine⟨_,_,true,aJ,Az0 hs ho,(fun _=>fJ),nI,?_⟩;refine G1 ?_;intro gg;refine⟨_,_,true,aJ,Av3,(fun _=>fJ),nI,?_⟩;refine G1 ?_;intro gg;(exact⟨_,[],.cell1 rfl rfl rfl rfl rfl rfl (.tmp1 rfl .nil),aJ⟩)
end
theorem Ams(l:List Sv)(name tag:ByteArray)(hl:l.length≤9223372036854775807)(hw:∀x∈l,x.ok)(hname:name.size≤9223372036854775807)(htag:tag.size≤9223372036854775807):Fun Tryz.prog 211 [.c (.sl false (l.map Sv.row)),.c (.v (.string name)),.c (.v (.string tag))] [.c (.sl false ((Ck l name tag).2.map Sv.row)),.c (.v (.int .i64 (Ck l name tag).1))]:=by
 refine A4 Nc rfl ?_;refine G1 ?_;intro gg;(refine .inl ⟨_,_,true,[],aI,Qm false [l] (by simp) (by simpa using hl) (by simpa using hw),(fun _=>fI),nI,?_⟩);rw[Jj];refine G1 ?_;intro gg;(refine Ag (fun h1=>?_) (fun h1=>?_)<;>rw[h1])
 ·have h1':ckSv l≠0:=by simpa using h1
  refine G0 ?_;rw[show Ck l name tag=(ckSv l,[])by simp[Ck,h1']];(exact⟨[],aI⟩)
 ·have hc:ckSv l=0:=by simpa using h1
  have hi:=Nw hc;clear h1;refine G0 ?_;refine .inl (cX (C2 name hname) ?_);refine G1 ?_;intro gg;(refine Ag (fun h2=>?_) (fun h2=>?_)<;>rw[h2])
  ·refine G0 ?_;rw[show Ck l name tag=(1,[])by simp[Ck,hc,L5 h2]];(exact⟨[],aI⟩)
  ·refine G0 ?_;refine .inl (cX (Uy tag htag) ?_);refine G1 ?_;intro gg;(refine Ag (fun h3=>?_) (fun h3=>?_)<;>rw[h3])
   ·refine G0 ?_;rw[show Ck l name tag=(1,[])by simp[Ck,hc,Fb h2,L5 h3]];(exact⟨[],aI⟩)
   ·have hF:Ck l name tag=(0,Er l name tag):=by simp[Ck,hc,Fb h2,Fb h3]
    clear h2 h3;refine G0 ?_;rw[ZE];(refine⟨[(9,144,77,9)],none,{p:Nat×Nat//p.1≤l.length},[1,2,26,27],fun⟨⟨k,g⟩,hk⟩=>[(9,.own 144 g),(28,.v (.int .i64 k))],[],fun⟨⟨k,g⟩,hk⟩=>[(144,⟨g,77,9,(Er (l.take k) name tag).map Sv.row⟩)],fun⟨⟨k,g⟩,hk⟩=>l.length-k,(by exact⟨rfl,by decide,(fun _ _ _ _ h=>by cases h),trivial⟩),fun gs=>⟨trivial,fun _=>⟨⟨(0,gs 144),by omega⟩,tI,tI,tI,tI⟩⟩,fun⟨⟨k,g⟩,hk⟩=>?_⟩);have hk':k≤l.length:=hk;have hlen:=T6 (l.take k) name tag;rw[ZM]at hlen;refine G0 ?_;(refine Ag (fun h0=>?_) (fun h0=>?_)<;>rw[h0])
    ·have hlt:k<l.length:=(by have:=ZV h0;omega);have hn:=Xc (name:=name) (tag:=tag) hlt;refine G0 ?_;refine⟨k,_,rfl,A7 hlt,?_⟩;refine G1 ?_;intro gg;(refine Ag (fun h1=>?_) (fun h1=>?_)<;>rw[h1])
     ·refine G0 ?_;(refine Ag (fun h2=>?_) (fun h2=>?_)<;>rw[h2])
      ·have h2':emp tag=true:=h2;refine G0 ?_;(refine Ag (fun h4=>?_) (fun h4=>?_)<;>rw[h4])
       ·refine G0 ?_;(refine Ag (fun h5=>?_) (fun h5=>?_)<;>rw[h5])
        ·skip
         have hs:Sv.sought name tag l[k]=true:=by unfold Sv.sought;rw[h1,h2',h4,h5];rfl
         rw[if_pos hs]at hn;refine G1 ?_;intro gg;refine⟨lI,lI,?_⟩;refine G1 ?_;intro gg;have hn':(Er (l.take (k+1)) name tag).map Sv.row=(Er (l.take k) name tag).map Sv.row++[[.v (.string l[k].nd),.v (.string l[k].id),.v (.string l[k].nm),.v (.string l[k].tg),.v (.int .i64 l[k].ad),.v (.int .i64 l[k].pt),.v (.bool true),.v (.int .i64 l[k].vs),.v (.bool l[k].gn)]]:=by
          rw[hn,ZI];show _++[Sv.row l[k]]=_;unfold Sv.row;rw[h4]
         (exact⟨none,trivial,fun gr=>⟨⟨(k+1,gg),by dsimp only;omega⟩,by show l.length-(k+1)<l.length-k;omega,hxI hn',hxI hn',hxI hn',hxI hn'⟩⟩)
        ·skip
         have hs:Sv.sought name tag l[k]=false:=by unfold Sv.sought;rw[h1,h2',h4,h5];rfl
         rw[if_neg (by rw[hs];decide)]at hn;refine G0 ?_;(exact⟨none,trivial,fun gr=>⟨⟨(k+1,g),by dsimp only;omega⟩,by show l.length-(k+1)<l.length-k;omega,hxI hn,hxI hn,hxI hn,hxI hn⟩⟩)
       ·skip
        have hs:Sv.sought name tag l[k]=false:=by unfold Sv.sought;rw[h1,h2',h4];rfl
        rw[if_neg (by rw[hs];decide)]at hn;refine G0 ?_;(exact⟨none,trivial,fun gr=>⟨⟨(k+1,g),by dsimp only;omega⟩,by show l.length-(k+1)<l.length-k;omega,hxI hn,hxI hn,hxI hn,hxI hn⟩⟩)
      ·have h2':emp tag=false:=h2;refine G0 ?_;(refine Ag (fun h3=>?_) (fun h3=>?_)<;>rw[h3])
       ·have h3':=h3;refine G0 ?_;(refine Ag (fun h4=>?_) (fun h4=>?_)<;>rw[h4])
        ·refine G0 ?_;(refine Ag (fun h5=>?_) (fun h5=>?_)<;>rw[h5])
         ·skip
          have hs:Sv.sought name tag l[k]=true:=by unfold Sv.sought;rw[h1,h2',h3',h4,h5];rfl
          rw[if_pos hs]at hn;refine G1 ?_;intro gg;refine⟨lI,lI,?_⟩;refine G1 ?_;intro gg;have hn':(Er (l.take (k+1)) name tag).map Sv.row=(Er (l.take k) name tag).map Sv.row++[[.v (.string l[k].nd),.v (.string l[k].id),.v (.string l[k].nm),.v (.string l[k].tg),.v (.int .i64 l[k].ad),.v (.int .i64 l[k].pt),.v (.bool true),.v (.int .i64 l[k].vs),.v (.bool l[k].gn)]]:=by
           rw[hn,ZI];show _++[Sv.row l[k]]=_;unfold Sv.row;rw[h4]
          (exact⟨none,trivial,fun gr=>⟨⟨(k+1,gg),by dsimp only;omega⟩,by show l.length-(k+1)<l.length-k;omega,hxI hn',hxI hn',hxI hn',hxI hn'⟩⟩)
         ·skip
          have hs:Sv.sought name tag l[k]=false:=by unfold Sv.sought;rw[h1,h2',h3',h4,h5];rfl
          rw[if_neg (by rw[hs];decide)]at hn;refine G0 ?_;(exact⟨none,trivial,fun gr=>⟨⟨(k+1,g),by dsimp only;omega⟩,by show l.length-(k+1)<l.length-k;omega,hxI hn,hxI hn,hxI hn,hxI hn⟩⟩)
        ·skip
         have hs:Sv.sought name tag l[k]=false:=by unfold Sv.sought;rw[h1,h2',h3',h4];rfl
         rw[if_neg (by rw[hs];decide)]at hn;refine G0 ?_;(exact⟨none,trivial,fun gr=>⟨⟨(k+1,g),by dsimp only;omega⟩,by show l.length-(k+1)<l.length-k;omega,hxI hn,hxI hn,hxI hn,hxI hn⟩⟩)
       ·have h3':=h3;have hs:Sv.sought name tag l[k]=false:=by unfold Sv.sought;rw[h1,h2',h3'];rfl
        rw[if_neg (by rw[hs];decide)]at hn;refine G0 ?_;(exact⟨none,trivial,fun gr=>⟨⟨(k+1,g),by dsimp only;omega⟩,by show l.length-(k+1)<l.length-k;omega,hxI hn,hxI hn,hxI hn,hxI hn⟩⟩)
     ·skip
      have hs:Sv.sought name tag l[k]=false:=by unfold Sv.sought;rw[h1];rfl
      rw[if_neg (by rw[hs];decide)]at hn;refine G0 ?_;(exact⟨none,trivial,fun gr=>⟨⟨(k+1,g),by dsimp only;omega⟩,by show l.length-(k+1)<l.length-k;omega,hxI hn,hxI hn,hxI hn,hxI hn⟩⟩)
    ·have hge:l.length≤k:=(by have:=ZW h0;omega);obtain rfl:k=l.length:=by omega
     refine G0 ?_;rw[hF,show Er l name tag=Er (l.take l.length) name tag by rw[XF]];(exact⟨[],aI⟩)
theorem Aim(l:List Sv)(name tag:ByteArray)(hl:l.length≤9223372036854775807)(hw:∀x∈l,x.ok)(hname:name.size≤9223372036854775807)(htag:tag.size≤9223372036854775807):Fun Tryz.prog 211 [.c (.sl false (l.map Sv.row)),.c (.v (.string name)),.c (.v (.string tag))] [.o 77 9 ((Ck l name tag).2.map Sv.row),.c (.v (.int .i64 (Ck l name tag).1))]:=by
 refine A4 Nc rfl ?_;refine G1 ?_;intro gg;(refine .inl ⟨_,_,true,[],aI,Qm false [l] (by simp) (by simpa using hl) (by simpa using hw),(fun _=>fI),nI,?_⟩);rw[Jj];refine G1 ?_;intro gg;(refine Ag (fun h1=>?_) (fun h1=>?_)<;>rw[h1])
 ·have h1':ckSv l≠0:=by simpa using h1
  refine G0 ?_;rw[show Ck l name tag=(ckSv l,[])by simp[Ck,h1']];(exact⟨[],aI⟩)
 ·have hc:ckSv l=0:=by simpa using h1
  have hi:=Nw hc;clear h1;refine G0 ?_;refine .inl (cX (C2 name hname) ?_);refine G1 ?_;intro gg;(refine Ag (fun h2=>?_) (fun h2=>?_)<;>rw[h2])
  ·refine G0 ?_;rw[show Ck l name tag=(1,[])by simp[Ck,hc,L5 h2]];(exact⟨[],aI⟩)
  ·refine G0 ?_;refine .inl (cX (Uy tag htag) ?_);refine G1 ?_;intro gg;(refine Ag (fun h3=>?_) (fun h3=>?_)<;>rw[h3])
   ·refine G0 ?_;rw[show Ck l name tag=(1,[])by simp[Ck,hc,Fb h2,L5 h3]];(exact⟨[],aI⟩)
   ·have hF:Ck l name tag=(0,Er l name tag):=by simp[Ck,hc,Fb h2,Fb h3]
    clear h2 h3;refine G0 ?_;rw[ZE];(refine⟨[(9,144,77,9)],none,{p:Nat×Nat//p.1≤l.length},[1,2,26,27],fun⟨⟨k,g⟩,hk⟩=>[(9,.own 144 g),(28,.v (.int .i64 k))],[],fun⟨⟨k,g⟩,hk⟩=>[(144,⟨g,77,9,(Er (l.take k) name tag).map Sv.row⟩)],fun⟨⟨k,g⟩,hk⟩=>l.length-k,(by exact⟨rfl,by decide,(fun _ _ _ _ h=>by cases h),trivial⟩),fun gs=>⟨trivial,fun _=>⟨⟨(0,gs 144),by omega⟩,tI,tI,tI,tI⟩⟩,fun⟨⟨k,g⟩,hk⟩=>?_⟩);have hk':k≤l.length:=hk;have hlen:=T6 (l.take k) name tag;rw[ZM]at hlen;refine G0 ?_;(refine Ag (fun h0=>?_) (fun h0=>?_)<;>rw[h0])
    ·have hlt:k<l.length:=(by have:=ZV h0;omega);have hn:=Xc (name:=name) (tag:=tag) hlt;refine G0 ?_;refine⟨k,_,rfl,A7 hlt,?_⟩;refine G1 ?_;intro gg;(refine Ag (fun h1=>?_) (fun h1=>?_)<;>rw[h1])
     ·refine G0 ?_;(refine Ag (fun h2=>?_) (fun h2=>?_)<;>rw[h2])
      ·have h2':emp tag=true:=h2;refine G0 ?_;(refine Ag (fun h4=>?_) (fun h4=>?_)<;>rw[h4])
       ·refine G0 ?_;(refine Ag (fun h5=>?_) (fun h5=>?_)<;>rw[h5])
        ·skip
         have hs:Sv.sought name tag l[k]=true:=by unfold Sv.sought;rw[h1,h2',h4,h5];rfl
         rw[if_pos hs]at hn;refine G1 ?_;intro gg;refine⟨lI,lI,?_⟩;refine G1 ?_;intro gg;have hn':(Er (l.take (k+1)) name tag).map Sv.row=(Er (l.take k) name tag).map Sv.row++[[.v (.string l[k].nd),.v (.string l[k].id),.v (.string l[k].nm),.v (.string l[k].tg),.v (.int .i64 l[k].ad),.v (.int .i64 l[k].pt),.v (.bool true),.v (.int .i64 l[k].vs),.v (.bool l[k].gn)]]:=by
          rw[hn,ZI];show _++[Sv.row l[k]]=_;unfold Sv.row;rw[h4]
         (exact⟨none,trivial,fun gr=>⟨⟨(k+1,gg),by dsimp only;omega⟩,by show l.length-(k+1)<l.length-k;omega,hxI hn',hxI hn',hxI hn',hxI hn'⟩⟩)
        ·skip
         have hs:Sv.sought name tag l[k]=false:=by unfold Sv.sought;rw[h1,h2',h4,h5];rfl
         rw[if_neg (by rw[hs];decide)]at hn;refine G0 ?_;(exact⟨none,trivial,fun gr=>⟨⟨(k+1,g),by dsimp only;omega⟩,by show l.length-(k+1)<l.length-k;omega,hxI hn,hxI hn,hxI hn,hxI hn⟩⟩)
       ·skip
        have hs:Sv.sought name tag l[k]=false:=by unfold Sv.sought;rw[h1,h2',h4];rfl
        rw[if_neg (by rw[hs];decide)]at hn;refine G0 ?_;(exact⟨none,trivial,fun gr=>⟨⟨(k+1,g),by dsimp only;omega⟩,by show l.length-(k+1)<l.length-k;omega,hxI hn,hxI hn,hxI hn,hxI hn⟩⟩)
      ·have h2':emp tag=false:=h2;refine G0 ?_;(refine Ag (fun h3=>?_) (fun h3=>?_)<;>rw[h3])
       ·have h3':=h3;refine G0 ?_;(refine Ag (fun h4=>?_) (fun h4=>?_)<;>rw[h4])
        ·refine G0 ?_;(refine Ag (fun h5=>?_) (fun h5=>?_)<;>rw[h5])
         ·skip
          have hs:Sv.sought name tag l[k]=true:=by unfold Sv.sought;rw[h1,h2',h3',h4,h5];rfl
          rw[if_pos hs]at hn;refine G1 ?_;intro gg;refine⟨lI,lI,?_⟩;refine G1 ?_;intro gg;have hn':(Er (l.take (k+1)) name tag).map Sv.row=(Er (l.take k) name tag).map Sv.row++[[.v (.string l[k].nd),.v (.string l[k].id),.v (.string l[k].nm),.v (.string l[k].tg),.v (.int .i64 l[k].ad),.v (.int .i64 l[k].pt),.v (.bool true),.v (.int .i64 l[k].vs),.v (.bool l[k].gn)]]:=by
           rw[hn,ZI];show _++[Sv.row l[k]]=_;unfold Sv.row;rw[h4]
          (exact⟨none,trivial,fun gr=>⟨⟨(k+1,gg),by dsimp only;omega⟩,by show l.length-(k+1)<l.length-k;omega,hxI hn',hxI hn',hxI hn',hxI hn'⟩⟩)
         ·skip
          have hs:Sv.sought name tag l[k]=false:=by unfold Sv.sought;rw[h1,h2',h3',h4,h5];rfl
          rw[if_neg (by rw[hs];decide)]at hn;refine G0 ?_;(exact⟨none,trivial,fun gr=>⟨⟨(k+1,g),by dsimp only;omega⟩,by show l.length-(k+1)<l.length-k;omega,hxI hn,hxI hn,hxI hn,hxI hn⟩⟩)
        ·skip
         have hs:Sv.sought name tag l[k]=false:=by unfold Sv.sought;rw[h1,h2',h3',h4];rfl
         rw[if_neg (by rw[hs];decide)]at hn;refine G0 ?_;(exact⟨none,trivial,fun gr=>⟨⟨(k+1,g),by dsimp only;omega⟩,by show l.length-(k+1)<l.length-k;omega,hxI hn,hxI hn,hxI hn,hxI hn⟩⟩)
       ·have h3':=h3;have hs:Sv.sought name tag l[k]=false:=by unfold Sv.sought;rw[h1,h2',h3'];rfl
        rw[if_neg (by rw[hs];decide)]at hn;refine G0 ?_;(exact⟨none,trivial,fun gr=>⟨⟨(k+1,g),by dsimp only;omega⟩,by show l.length-(k+1)<l.length-k;omega,hxI hn,hxI hn,hxI hn,hxI hn⟩⟩)
     ·skip
      have hs:Sv.sought name tag l[k]=false:=by unfold Sv.sought;rw[h1];rfl
      rw[if_neg (by rw[hs];decide)]at hn;refine G0 ?_;(exact⟨none,trivial,fun gr=>⟨⟨(k+1,g),by dsimp only;omega⟩,by show l.length-(k+1)<l.length-k;omega,hxI hn,hxI hn,hxI hn,hxI hn⟩⟩)
    ·have hge:l.length≤k:=(by have:=ZW h0;omega);obtain rfl:k=l.length:=by omega
     refine G0 ?_;rw[hF,show Er l name tag=Er (l.take l.length) name tag by rw[XF]];(exact⟨[144],aI⟩)

section
open Go.Sort Go.Shelf
theorem Wn{P:Program}{f:FuncId}(h:Es P f):∀args w,(callFunc f args).run P w=.ok (.enter f args) w:=fun args w=>by
 obtain⟨fn,h1,h2,h3⟩:=h
 have h2' : fn.name ≠ "runtime.NumGoroutine" := by simpa using h2
 have h3':¬fn.body=none:=by intro q;rw[q]at h3;simp at h3
 simp[callFunc,h1,h2',h3']
section
variable {α:Type} [Inhabited α] {enc:α→Value}
theorem Ani{w:World}{g:Nat}{cur:Array Value}{e:TypeId}{ss:List α}(hb:w.heap[g]? =some (.cells cur e (0,0)))(ht:cur.toList.take ss.length=ss.map enc):Holds enc w g 0 ss.toArray:=by
 intro j hj;have hj':j<ss.length:=by simpa using hj
 refine⟨?_,by simp[World.frozen?,hb]⟩;have h1:(cur.toList.take ss.length)[j]? =(ss.map enc)[j]? :=by rw[ht]
 rw[XA hj']at h1;simp only[World.cell?,hb,Nat.zero_add];simp only[Option.isSome_none,Bool.false_eq_true,if_false];rw[←Array.getElem?_toList,h1];simp[hj']
theorem Apq{w:World}{g n:Nat}{os:Array Obj}{cur:Array Value}{e:TypeId}{fr:Nat×Nat}(d:Array α)(hb:w.heap[g]? =some (.cells cur e fr)):
  (sortWorld enc w g 0 n d os).heap[g]? =some (.cells (putCells enc 0 d cur) e fr):=by
 have hg:g<w.heap.size:=(XL.1 hb).1;unfold sortWorld;rw[heap_grow_old _ _ (by simpa using hg)];simp[putRow,mapBlock,Sort.ahead,Array.getElem?_modify,hb,onCells]
theorem Th{w:World}{g n k:Nat}{os:Array Obj}(d:Array α)(hk:k<w.heap.size)(hne:k≠g):(sortWorld enc w g 0 n d os).heap[k]? =w.heap[k]? :=by
 unfold sortWorld;rw[heap_grow_old _ _ (by simpa using hk)];have:g≠k:=fun e=>hne e.symm;simp[putRow,mapBlock,Sort.ahead,Array.getElem?_modify,this]
theorem Af4{w:World}{g n:Nat}{os:Array Obj}(d:Array α):w.heap.size≤(sortWorld enc w g 0 n d os).heap.size:=by
 unfold sortWorld Go.Sort.grow;simp
theorem Ai5(cur:Array Value)(ts:List α)(h:ts.length≤cur.size):(putCells enc 0 ts.toArray cur).toList.take ts.length=ts.map enc:=by
 apply List.ext_getElem?;intro j;by_cases hj:j<ts.length
 ·rw[XA hj,Array.getElem?_toList];simp[putCells,hj,show j<cur.size by omega]
 ·rw[List.getElem?_take_eq_none (by omega),XK (by simp;omega)]
def Fk(enc:α→Value)(x:α):List V:=[.v (enc x)]
def Kp(cf:α→α→Int)(d:List α):List α:=d.mergeSort fun x y=> !(ltOf cf) y x
omit [Inhabited α]in
theorem Ar0{w:World}{R:Nat→Prop}{G:Nat→Option Loc}{d:List α}{vs:List Value}(hl:vs.length=d.length*1)(h:Ci w R G vs 1 (d.map (Fk enc))):vs=d.map enc:=by
 apply List.ext_getElem?;intro i;by_cases hi:i<d.length
 ·obtain⟨x,h1,_,h2⟩:=h.2 i 0 (Fk enc d[i]) (.v (enc d[i])) (by simp[hi]) rfl;rw[Nat.mul_one,Nat.add_zero]at h1;rw[h1,Bt h2];simp[hi]
 ·rw[XK (by omega),XK (by simp;omega)]
omit [Inhabited α]in
theorem Ar4(h1:OneCell enc){w:World}{R:Nat→Prop}{G:Nat→Option Loc}(d:List α):Ci w R G (d.map enc) 1 (d.map (Fk enc)):=by
 refine⟨fun row hr=>?_,fun i j row u hi hj=>?_⟩
 ·obtain⟨x,_,rfl⟩:=XO.1 hr;rfl
 ·have hi':i<d.length:=by have:=(ZB.1 hi).1;simpa using this
  have e:row=Fk enc d[i]:=by rw[XJ,ZC hi']at hi;simpa using hi.symm
  subst e;cases j with
  |succ j=>simp[Fk]at hj
  |zero=>
   have e2:u=.v (enc d[i]):=by simpa[Fk]using hj.symm
   subst e2;exact⟨enc d[i],by simp[hi'],h1 _,.v _⟩
theorem Aod{P:Program}{ρ:Ren}(L:SlLaysF.n6 P ρ)(hcall:Es P (ρ.f 6))(T:TypeId)(h1:OneCell enc)(cf:α→α→Int)(hO:SWO (ltOf cf))(hT:∀x y,ltOf cf x y=false→ltOf cf y x=false→x=y)(f:FuncId)(caps:List V)(hfc:Es P f)(d:List α)(hsz:d.length<4611686018427387904)(hf:d≠[]→∀(x y:α) (w:World) (R:Nat→Prop) (zs:List Value),(∀b,R b→b<w.heap.size)→Ik w R (.c (.v (enc x)):: .c (.v (enc y))::caps.map .c) zs→Calls P f zs.toArray w fun e w'=>e=.returned (.int .i64 (cf x y))∧∃q os,w'=Go.Sort.grow (w.drewN q) os):
  Hz P (ρ.f 6) [.ms T 1 (d.map (Fk enc)) ((Kp cf d).map (Fk enc)),.p (.c (.clo f caps))] []:=by
 refine⟨hcall,fun w R xs F hlt hp=>?_⟩
 match xs,hp with
 |[x0,x1],hp=>
  obtain⟨F1,F2,⟨⟨hpos,vs,hown,hrows⟩,hF1⟩,⟨F3,F4,⟨hx1,hF3⟩,hnil,hd34,hF2⟩,hd12,hF⟩:=hp;have hx1:RV w R noG (.clo f caps) x1:=hx1;have hF3':∀k,¬F3 k:=fun k hk=>by
   obtain⟨i,T',sz,rows,x,q1,_⟩:=(hF3 k).1 hk;cases i with
   |zero=>simp at q1
   |succ i=>simp at q1
  have hFF:∀b,F b↔F1 b:=fun b=>by
   rw[hF b,hF2 b];constructor
   ·rintro (q|q|q)
    ·exact q
    ·exact absurd q (hF3' b)
    ·exact absurd q (hnil b)
   ·exact .inl
  cases hx1 with
  |clo f cs xs' hl hcs=>
   have hvs:=Ar0 (by simpa using hown.1) hrows;subst hvs;have hlen:(d.map (Fk enc)).length=d.length:=by simp
   have hslen:(Kp cf d).length=d.length:=List.length_mergeSort d;have fin:∀w',Fr F w w'→(∀b,R b→w'.heap[b]? =w.heap[b]?)→w'.ownsRow 0 T 1 x0 (Kp cf d).length ((Kp cf d).map enc)→
     ∃(ys:List Value) (R' F':Nat→Prop),Ending.returned (Value.tuple #[])=.returned (Fx ys)∧([]:List Bj).length=ys.length∧Fr F w w'∧(∀b,R b→R' b)∧(∀b,R' b→R b∨(b<w'.heap.size∧(F b∨w.heap.size≤b)))∧
      Cy w' R' (([]:List Bj)++B5 [.ms T 1 (d.map (Fk enc)) ((Kp cf d).map (Fk enc)),.p (.c (.clo f caps))]) (ys++Dq [.ms T 1 (d.map (Fk enc)) ((Kp cf d).map (Fk enc)),.p (.c (.clo f caps))] [x0,.func (.func f) #[] xs'.toArray]) F'∧(∀b,F' b→F b∨w.heap.size≤b):=fun w' hfr hR ho=>by
    refine⟨[],R,F1,rfl,rfl,hfr,fun b hb=>hb,fun b hb=>.inl hb,?_,fun b hb=>.inl ((hFF b).2 hb)⟩;refine⟨F1,fun _=>False,⟨⟨hpos,(Kp cf d).map enc,by rw[ZE];exact ho,Ar4 h1 _⟩,fun k=>?_⟩,fun b hb=>hb,fun b hb=>⟨fun q=>q,(hd12 b hb).2⟩,fun b=>by simp⟩;rw[hF1 k];constructor
    ·rintro ⟨i,T',sz,rows,x,q1,q2,q3⟩
     cases i with
     |zero=>simp at q1 q2;exact⟨0,T,1,_,x,rfl,by simpa using q2,q3⟩
     |succ i=>simp at q1
    ·rintro ⟨i,T',sz,rows,x,q1,q2,q3⟩
     cases i with
     |zero=>simp at q1 q2;exact⟨0,T,1,_,x,rfl,by simpa using q2,q3⟩
     |succ i=>simp at q1
   have hnone:∀(p:Option Addr) (cap:Nat),d=[]→x0=.slice p 0 cap→Calls P (ρ.f 6) [x0,.func (.func f) #[] xs'.toArray].toArray w fun e w'=>∃(ys:List Value) (R' F':Nat→Prop),e=.returned (Fx ys)∧([]:List Bj).length=ys.length∧Fr F w w'∧(∀b,R b→R' b)∧(∀b,R' b→R b∨(b<w'.heap.size∧(F b∨w.heap.size≤b)))∧
      Cy w' R' (([]:List Bj)++B5 [.ms T 1 (d.map (Fk enc)) ((Kp cf d).map (Fk enc)),.p (.c (.clo f caps))]) (ys++Dq [.ms T 1 (d.map (Fk enc)) ((Kp cf d).map (Fk enc)),.p (.c (.clo f caps))] [x0,.func (.func f) #[] xs'.toArray]) F'∧(∀b,F' b→F b∨w.heap.size≤b):=fun p cap hd0 hx=>by
    have hs0:Kp cf d=[]:=XR (by rw[hslen,hd0];rfl);have h:=AnyF.slices_SortFunc_none (P:=P) (ρ:=ρ) {L with} p cap (.func (.func f) #[] xs'.toArray) w;rw[←hx]at h;refine h.mono ?_
    rintro e w' ⟨rfl,rfl⟩
    refine fin w' (Fr.refl _ _) (fun _ _=>rfl) ?_;rw[hs0];rw[hd0]at hown;exact hown
   rcases hown.2 with⟨hx,hz⟩|⟨g,cap,cur,hx,hbase,hb,hnc,hcm,hcs2,htake⟩
   ·exact hnone none 0 (XR (by omega)) hx
   ·by_cases hd0:d=[]
    ·exact hnone _ cap hd0 (by rw[hx,hd0];rfl)
    ·have hgR:∀b,R b→b≠g:=fun b hb e=>by
      have:F1 g:=(hF1 g).2 ⟨0,T,1,_,x0,rfl,rfl,by rw[hx];rfl⟩;exact(hd12 g this).2 (e▸hb)
     have hgF:F g:=(hFF g).2 ((hF1 g).2 ⟨0,T,1,_,x0,rfl,rfl,by rw[hx];rfl⟩);have hgs:g<w.heap.size:=(XL.1 hb).1;have hH:Holds enc w g 0 d.toArray:=Ani hb (by simpa using htake);have hcmp:CmpLays1 P f xs'.toArray enc cf g 0 d.toArray.size w:=fun m os dk hs x y=>by
      have hW:∀b,R b→(sortWorld enc w g 0 m dk os).heap[b]? =w.heap[b]? :=fun b hb=>Th dk (hlt b hb) (hgR b hb);have hlt':∀b,R b→b<(sortWorld enc w g 0 m dk os).heap.size:=fun b hb=>XH (hlt b hb) (Af4 dk);have hpars:Ik (sortWorld enc w g 0 m dk os) R (.c (.v (enc x)):: .c (.v (enc y))::caps.map .c) (enc x::enc y::xs'):=by
       have hc:∀p∈(.c (.v (enc x)):: .c (.v (enc y))::caps.map .c:List Par),∃u,p=.c u:=fun p hp=>by
        simp only[XC,XO]at hp;rcases hp with rfl|rfl|⟨u,_,rfl⟩<;>exact⟨_,rfl⟩
       refine⟨by simp[hl],fun i p z q1 q2=>?_,fun i j T1 s1 r1 T2 s2 r2 z1 z2 b _ q1=>?_,fun b hb=>absurd hb (Li hc)⟩
       ·match i with
        |0=>simp at q1 q2;subst q1 q2;exact .v _
        |1=>simp at q1 q2;subst q1 q2;exact .v _
        |i+2=>
         simp only[List.getElem?_cons_succ,XJ]at q1 q2;cases hu:caps[i]? with
         |none=>rw[hu]at q1;cases q1
         |some u=>
          rw[hu]at q1;injection q1 with q1;subst q1
          exact(hcs i u z hu q2).mono (fun b hb=>⟨hb,hW b hb⟩) (Gle.refl _)
       ·obtain⟨u,hu⟩:=hc _ (ZH q1);cases hu
      have e0:(#[enc x,enc y]++xs'.toArray:Array Value)=(enc x::enc y::xs').toArray:=by simp
      rw[e0];exact hf hd0 x y _ R _ hlt' hpars
     have h:=Any.slices_SortFunc_total L enc h1 cf hO f xs'.toArray g 0 cap d.toArray w (Wn hfc) hcmp hH hgs (by simpa using hsz) hT;have e1:x0=.slice (some ⟨g,0,none⟩) d.toArray.size cap:=by rw[hx];simp
     rw[←e1]at h;refine h.mono ?_
     rintro e w' ⟨rfl,n,os,rfl⟩
     have hto:d.toArray.toList=d:=by simp
     rw[hto];refine fin _ ⟨rfl,rfl,rfl,Af4 _,fun k hk hn=>Th _ hk (fun e=>hn (e▸hgF))⟩ (fun b hb=>Th _ (hlt b hb) (hgR b hb)) ?_;rw[hx,hlen,←hslen];refine⟨by simp,.inr ⟨g,cap,_,rfl,ZU _,Apq _ hb,by rw[hslen];rw[hlen]at hnc;exact hnc,hcm,by simp[putCells,hcs2],?_⟩⟩;rw[Nat.mul_one];exact Ai5 cur _ (by rw[hslen,hcs2];rw[hlen]at hnc;omega)
end
end
namespace Pl
open Go.Sort Go.Shelf
section
variable {α:Type} {c:α→α→Int}
theorem Good.self(g:Good c)(x:α):c x x=0:=by have:=g.anti x x;omega
theorem Aw4(g:Good c):SWO (ltOf c) where
 irrefl x:=by unfold ltOf;rw[g.self];rfl
 trans x y z h1 h2:=by
  unfold ltOf at *;have h1:=ZV h1;have h2:=ZV h2;have a1:=g.anti x y;have a2:=g.anti y z;have a3:=g.anti x z;have:=g.pp z y x (by omega) (by omega);exact ZX (by omega)
 ntrans x y z h1 h2:=by
  unfold ltOf at *;have h1:=ZW h1;have h2:=ZW h2;refine ZY ?_;by_cases p1:c x y=0
  ·by_cases p2:c y z=0
   ·have:=g.zz x y z p1 p2;omega
   ·have:=g.zp x y z p1 (by omega);omega
  ·by_cases p2:c y z=0
   ·have:=g.pz x y z (by omega) p2;omega
   ·have:=g.pp x y z (by omega) (by omega);omega
theorem Ax4(g:Good c)(h0:∀x y,c x y=0→x=y):∀x y,ltOf c x y=false→ltOf c y x=false→x=y:=fun x y h1 h2=>by
 unfold ltOf at *;have h1:=ZW h1;have h2:=ZW h2;have:=g.anti x y;exact h0 x y (by omega)
end
def rkN(K:ByteArray→Option Int)(a:ByteArray):Int:=if(K a).isSome then 0 else 1
def frN(K:ByteArray→Option Int)(a:ByteArray):Int:=(K a).getD 0
def cfN(K:ByteArray→Option Int)(a b:ByteArray):Int:=Cc [Dy (rkN K a) (rkN K b),Dy (frN K a) (frN K b),D4 a b]
theorem Ahd(K:ByteArray→Option Int):Good (cfN K):=Abu [fun a b=>Dy (rkN K a) (rkN K b),fun a b=>Dy (frN K a) (frN K b),fun a b=>D4 a b] (by
 intro c hc;simp only[XC,XD,or_false]at hc;rcases hc with rfl|rfl|rfl
 ·exact Afj (rkN K)
 ·exact Afj (frN K)
 ·exact Aq5 fun a=>a)
theorem Arl{K:ByteArray→Option Int}{a b:ByteArray}(h:cfN K a b=0):a=b:=E2.1 (Aly h _ (by simp))
end Pl
namespace Pl
def Wh.perr(w:Wh):Int:=w.pl.err
def Fw(f:Pc):List Wh→ByteArray→Option Int
 |[],_=>none
 |w::l,a=>if a=w.nd then some (f.far w.pl)else Fw f l a
theorem Ue(f:Pc)(w:Wh)(a:ByteArray):∀l:List Wh,Fw f (l++[w]) a=(Fw f l a).or (if a=w.nd then some (f.far w.pl)else none)
 |[]=>by simp[Fw]
 |v::l=>by
  show(if a=v.nd then some (f.far v.pl)else Fw f (l++[w]) a)=(if a=v.nd then some (f.far v.pl)else Fw f l a).or _;split
  ·rfl
  ·exact Ue f w a l
def iV(n:Int):V:=.v (.int .i64 n)
theorem Ah7(k:ByteArray)(v:V)(a:ByteArray):∀(E:List (ByteArray×V)) (i:Nat),look a (E++[(k,v)]) i=(look a E i).or (if a=k then some (i+E.length,v)else none)
 |[],i=>by simp[look]
 |(b,u)::E,i=>by
  show(if a=b then some (i,u)else look a (E++[(k,v)]) (i+1))=(if a=b then some (i,u)else look a E (i+1)).or _;split
  ·rfl
  ·rw[Ah7 k v a E (i+1)];congr 2;simp[Nat.add_assoc,Nat.add_comm 1]
def Gi(f:Pc)(l:List Wh)(E:List (ByteArray×V)):Prop:=∀a,(look a E 0).map (·.2)=(Fw f l a).map iV
theorem Gi.nil(f:Pc):Gi f [] []:=fun a=>rfl
theorem Gi.old{f:Pc}{l:List Wh}{E:List (ByteArray×V)}(h:Gi f l E){w:Wh}(hw:look w.nd E 0≠none):Gi f (l++[w]) E:=fun a=>by
 rw[h a,Ue];by_cases e:a=w.nd
 ·subst e;have:=h w.nd;cases q:look w.nd E 0 with
  |none=>exact absurd q hw
  |some r=>
   rw[q]at this;cases q2:Fw f l w.nd with
   |none=>rw[q2]at this;cases this
   |some x=>rfl
 ·rw[if_neg e];cases Fw f l a<;>rfl
theorem Gi.new{f:Pc}{l:List Wh}{E:List (ByteArray×V)}(h:Gi f l E){w:Wh}(hw:look w.nd E 0=none):Gi f (l++[w]) (put E w.nd (iV (f.far w.pl))):=fun a=>by
 have e:put E w.nd (iV (f.far w.pl))=E++[(w.nd,iV (f.far w.pl))]:=by unfold put;rw[hw]
 have hn:Fw f l w.nd=none:=by
  have:=h w.nd;rw[hw]at this;cases q2:Fw f l w.nd with
  |none=>rfl
  |some x=>rw[q2]at this;cases this
 rw[e,Ah7,Ue];by_cases q:a=w.nd
 ·subst q;rw[hw,hn];simp
 ·rw[if_neg q,if_neg q];have:=h a;cases q1:look a E 0<;>cases q2:Fw f l a<;>rw[q1,q2]at this<;>first|rfl|cases this|exact this
theorem Gi.at_none{f:Pc}{l:List Wh}{E:List (ByteArray×V)}(h:Gi f l E){a:ByteArray}(hf:Fw f l a=none):look a E 0=none:=by
 have:=h a;rw[hf]at this;cases q:look a E 0 with
 |none=>rfl
 |some r=>rw[q]at this;cases this
theorem Gi.at_some {f : Pc} {l : List Wh} {E : List (ByteArray × V)} (h : Gi f l E) {a : ByteArray} {x : Int} (hf : Fw f l a = some x) : ∃ i, look a E 0 = some (i, iV x) := by
  have := h a
  rw [hf] at this
  cases q : look a E 0 with
  | none => rw [q] at this; cases this
  | some r =>
    rw [q] at this
    obtain ⟨i, u⟩ := r
    exact ⟨i, by have e : u = iV x := by simpa using this
                 rw [e]⟩
theorem Gi.val{f:Pc}{l:List Wh}{E:List (ByteArray×V)}(h:Gi f l E){a:ByteArray}{i:Nat}{v:V}(q:look a E 0=some (i,v)):∃x,v=iV x:=by
 have:=h a;rw[q]at this;cases q2:Fw f l a with
 |none=>rw[q2]at this;cases this
 |some x=>rw[q2]at this;exact⟨x,by simpa using this⟩
def Nz(s:ByteArray):List V:=[.v (.string s)]
instance:FlatRow Nz:=⟨fun x u hu=>by simp[Nz]at hu;exact⟨_,hu⟩⟩
instance:OneRow Nz 1:=⟨fun _=>rfl,fun x u hu=>by simp[Nz]at hu;exact⟨_,hu,rfl⟩⟩
noncomputable def Gr(f:Pc)(l:List Wh)(names:List ByteArray):Int:=if 100<l.length∨100<names.length then 2 else if f.err≠0 then f.err else firstErr Wh.perr l
end Pl
theorem Wv{p:Pc}:p.okb=true↔(-10000000≤p.x∧p.x≤10000000)∧(-10000000≤p.y∧p.y≤10000000)∧(-10000000≤p.z∧p.z≤10000000)∧(0≤p.h∧p.h≤1000000)∧(0≤p.s∧p.s≤1000):=N4
theorem Aok(a b:Pc)(ha:a.okb=true)(hb:b.okb=true):Fun Tryz.prog 283 [.c (.agg a.row),.c (.agg b.row)] [.c (.v (.int .i64 (a.flat b)))]:=by
 obtain⟨⟨a1,a2⟩,⟨a3,a4⟩,⟨a5,a6⟩,_,_⟩:=Wv.1 ha;obtain⟨⟨b1,b2⟩,⟨b3,b4⟩,⟨b5,b6⟩,_,_⟩:=Wv.1 hb;have q1:=O8 a1 a2 b1 b2;have q2:=O8 a3 a4 b3 b4;have q3:=O8 a5 a6 b5 b6;refine A4 Y1 rfl ?_;(refine goI ?_;repeat (intro gg;refine goI ?_));(refine .inl ⟨_,_,false,[],aI,Apc ((a.x-b.x)*(a.x-b.x)+(a.y-b.y)*(a.y-b.y)+(a.z-b.z)*(a.z-b.z)) (by omega) (by omega),Ad,nI,?_⟩);refine G1 ?_;intro gg;(exact⟨[],aI⟩)
theorem Aix(a b:Pc)(ha:a.okb=true)(hb:b.okb=true):Fun Tryz.prog 270 [.c (.agg a.row),.c (.agg b.row)] [.c (.v (.int .i64 (a.far b)))]:=by
 obtain⟨_,_,_,⟨a7,a8⟩,_⟩:=Wv.1 ha;obtain⟨_,_,_,⟨b7,b8⟩,_⟩:=Wv.1 hb;obtain⟨f1,f2⟩:=(Aw8 ha hb).1;refine A4 V8 rfl ?_;(refine goI ?_;repeat (intro gg;refine goI ?_));(refine⟨_,_,false,aI,Aok a b ha hb,Ad,nI,?_⟩);refine G1 ?_;intro gg;(exact⟨[],aI⟩)
section
open Go.Shelf
def Tryz.sortI_ren:Go.Shelf.Ren:=⟨fun|6=>43|15=>101|14=>100|28=>187|29=>188|20=>179|21=>180|22=>181|23=>182|24=>183|25=>184|26=>185|27=>186|46=>228|47=>229|48=>230|49=>231|50=>232|57=>258|n=>n,fun|22=>96|24=>3|25=>71|3=>3|39=>165|0=>0|53=>236|55=>238|4=>4|46=>230|45=>229|50=>122|5=>5|9=>9|66=>271|70=>275|76=>292|77=>293|n=>n,fun|n=>n⟩
def Tryz.sortS_ren:Go.Shelf.Ren:=⟨fun|6=>272|15=>101|14=>284|28=>187|29=>188|20=>289|21=>290|22=>291|23=>292|24=>293|25=>294|26=>295|27=>296|46=>297|47=>229|48=>230|49=>298|50=>299|57=>300|n=>n,fun|22=>171|24=>9|25=>191|3=>3|39=>165|0=>0|53=>236|55=>238|4=>4|46=>230|45=>229|50=>122|5=>5|9=>9|66=>271|70=>275|76=>292|77=>293|n=>n,fun|n=>n⟩
theorem Tryz.sortS:Go.Proofs.SlLaysF.n6 Tryz.prog Tryz.sortS_ren:={
 mixed:=by kernel_rfl
 f6:=⟨Tryz.f272.name,by decide,Tryz.func272.trans (congrArg some (by kernel_rfl))⟩
 f14:=⟨Tryz.f284.name,by decide,Tryz.func284.trans (congrArg some (by kernel_rfl))⟩
 f15:=Tryz.func101.trans (congrArg some (by kernel_rfl))
 f20:=⟨Tryz.f289.name,by decide,Tryz.func289.trans (congrArg some (by kernel_rfl))⟩
 f21:=⟨Tryz.f290.name,by decide,Tryz.func290.trans (congrArg some (by kernel_rfl))⟩
 f22:=⟨Tryz.f291.name,by decide,Tryz.func291.trans (congrArg some (by kernel_rfl))⟩
 f23:=⟨Tryz.f292.name,by decide,Tryz.func292.trans (congrArg some (by kernel_rfl))⟩
 f24:=⟨Tryz.f293.name,by decide,Tryz.func293.trans (congrArg some (by kernel_rfl))⟩
 f25:=⟨Tryz.f294.name,by decide,Tryz.func294.trans (congrArg some (by kernel_rfl))⟩
 f26:=⟨Tryz.f295.name,by decide,Tryz.func295.trans (congrArg some (by kernel_rfl))⟩
 f27:=⟨Tryz.f296.name,by decide,Tryz.func296.trans (congrArg some (by kernel_rfl))⟩
 f28:=Tryz.func187.trans (congrArg some (by kernel_rfl))
 f29:=Tryz.func188.trans (congrArg some (by kernel_rfl))
 f46:=⟨Tryz.f297.name,by decide,Tryz.func297.trans (congrArg some (by kernel_rfl))⟩
 f47:=Tryz.func229.trans (congrArg some (by kernel_rfl))
 f48:=Tryz.func230.trans (congrArg some (by kernel_rfl))
 f49:=⟨Tryz.f298.name,by decide,Tryz.func298.trans (congrArg some (by kernel_rfl))⟩
 f50:=⟨Tryz.f299.name,by decide,Tryz.func299.trans (congrArg some (by kernel_rfl))⟩
 f57:=⟨Tryz.f300.name,by decide,Tryz.func300.trans (congrArg some (by kernel_rfl))⟩
 t0:=Tryz.underlying0
 a0:=Tryz.isAgg0
 z0:=Tryz.sizeOf0
 v0:=Tryz.zeroValue0
 t3:=Tryz.underlying3
 a3:=Tryz.isAgg3
 z3:=Tryz.sizeOf3
 v3:=Tryz.zeroValue3
 t4:=Tryz.underlying4
 a4:=Tryz.isAgg4
 z4:=Tryz.sizeOf4
 v4:=Tryz.zeroValue4
 t5:=Tryz.underlying5
 a5:=Tryz.isAgg5
 z5:=Tryz.sizeOf5
 v5:=Tryz.zeroValue5
 t9:=Tryz.underlying9
 a9:=Tryz.isAgg9
 z9:=Tryz.sizeOf9
 v9:=Tryz.zeroValue9
 t22:=Tryz.underlying171
 a22:=Tryz.isAgg171
 z22:=Tryz.sizeOf171
 v22:=Tryz.zeroValue171
 a24:=Tryz.isAgg9
 z24:=Tryz.sizeOf9
 t25:=Tryz.underlying191
 a25:=Tryz.isAgg191
 z25:=Tryz.sizeOf191
 v25:=Tryz.zeroValue191
 t39:=Tryz.underlying165
 a39:=Tryz.isAgg165
 z39:=Tryz.sizeOf165
 v39:=Tryz.zeroValue165
 t45:=Tryz.underlying229
 a45:=Tryz.isAgg229
 z45:=Tryz.sizeOf229
 v45:=Tryz.zeroValue229
 t46:=Tryz.underlying230
 a46:=Tryz.isAgg230
 z46:=Tryz.sizeOf230
 v46:=Tryz.zeroValue230
 t50:=Tryz.underlying122
 a50:=Tryz.isAgg122
 z50:=Tryz.sizeOf122
 v50:=Tryz.zeroValue122
 t53:=Tryz.underlying236
 a53:=Tryz.isAgg236
 z53:=Tryz.sizeOf236
 v53:=Tryz.zeroValue236
 t55:=Tryz.underlying238
 a55:=Tryz.isAgg238
 z55:=Tryz.sizeOf238
 v55:=Tryz.zeroValue238
 t66:=Tryz.underlying271
 a66:=Tryz.isAgg271
 z66:=Tryz.sizeOf271
 v66:=Tryz.zeroValue271
 t70:=Tryz.underlying275
 a70:=Tryz.isAgg275
 z70:=Tryz.sizeOf275
 v70:=Tryz.zeroValue275
 t76:=Tryz.underlying292
 a76:=Tryz.isAgg292
 z76:=Tryz.sizeOf292
 v76:=Tryz.zeroValue292
 t77:=Tryz.underlying293
 a77:=Tryz.isAgg293
 z77:=Tryz.sizeOf293
 v77:=Tryz.zeroValue293}
end
section
open Go.Sort Go.Shelf
theorem Ai4(cl:Bool)(l:List ByteArray)(hl:l.length≤1000):Fun Tryz.prog 271 [.c (.sl cl (l.map Nz))] [.o 9 1 (l.map Nz)]:=by
 refine A4 Ir rfl ?_;(refine goI ?_;repeat (intro gg;refine goI ?_));rename_i b;have hb:=gg;cases b with
 |true=>
  have e:l.map Nz=[]:=hb rfl;refine G0 ?_;rw[e];(exact⟨[],aI⟩)
 |false=>
  refine G1 ?_;intro gg;refine⟨Ac5,?_⟩;refine G0 ?_;refine⟨lI,lI,?_⟩;refine G1 ?_;intro gg;(exact⟨[80],aI⟩)
theorem Bae{K:ByteArray→Option Int}{a b:ByteArray}(h1:K a=none)(h2:K b=none):cfN K a b=Cc [Dy 0 0,D4 a b]:=by simp[cfN,rkN,frN,h1,h2,Pi,Dy]
theorem Ayh{K:ByteArray→Option Int}{a b:ByteArray}{x y:Int}(h1:K a=some x)(h2:K b=some y):cfN K a b=Cc [Dy x y,D4 a b]:=by simp[cfN,rkN,frN,h1,h2,Pi,Dy]
theorem Ba6{K:ByteArray→Option Int}{a b:ByteArray}{x:Int}(h1:K a=some x)(h2:K b=none):cfN K a b= -1:=by simp[cfN,rkN,frN,h1,h2,Pi,Dy]
theorem Baf{K:ByteArray→Option Int}{a b:ByteArray}{y:Int}(h1:K a=none)(h2:K b=some y):cfN K a b=1:=by simp[cfN,rkN,frN,h1,h2,Pi,Dy]
end
def Ay5(a b:ByteArray)(x y:Int)(ok is:Bool):Int:=bif ok&& !is then -1 else bif is&& !ok then 1 else Cc [Dy x y,D4 a b]
theorem Aoj(w:World):∃q os,w=Go.Sort.grow (w.drewN q) os:=⟨0, #[],by simp[Go.Sort.grow,World.drewN]⟩
theorem Ajn(w:World)(o:Obj):∃q os,w.alloc o=Go.Sort.grow (w.drewN q) os:=⟨0, #[o],by simp[Go.Sort.grow,World.drewN,World.alloc,-World.alloc_eq]⟩
set_option maxRecDepth 100000 in
theorem Ami(a b:ByteArray)(bx o mb:Nat)(w:World)(ha:w.cell? ⟨bx,o,none⟩=some (.map (some mb)))(x y:Int)(ok is:Bool)(h1:(Instr.lookup 306 (.map (some mb)) (.string a) true).run Tryz.prog w=.ok (.tuple #[.int .i64 x,.bool ok]) w)(h2:(Instr.lookup 306 (.map (some mb)) (.string b) true).run Tryz.prog w=.ok (.tuple #[.int .i64 y,.bool is]) w):Calls Tryz.prog 273 #[.string a,.string b,.pointer (some ⟨bx,o,none⟩)] w fun e w'=>e=.returned (.int .i64 (Ay5 a b x y ok is))∧∃q os,w'=Go.Sort.grow (w.drewN q) os:=by
 have hnot:∀(x:Bool) (w:World),(Op.unary .not (.bool x)).run Tryz.prog w=.ok (.bool (!x)) w:=fun _ _=>rfl;cases ok<;>cases is
 all_goals
  go_enter Tryz.func273,Tryz.ntmps273
  go_wp2_with (first|(go_at_call 46;refine(Agq x y _).mono ?_;rintro e w' ⟨rfl,rfl⟩)|(go_at_call 136;refine(Ael a b _).mono ?_;rintro e w' ⟨rfl,rfl⟩)|(go_at_call 45;refine(Avx _ [Dy x y,D4 a b] _ (Blk.new _ _ _) (by simp)).mono ?_;rintro e w' ⟨rfl,rfl⟩))
  refine bodyPost_ret (results_tmp rfl _ _ _) rfl ⟨rfl,?_⟩
  first|exact Ajn _ _|exact Aoj _
theorem Af6{w:World}{R:Nat→Prop}{E:List (Value×V)}{x:Value}{k:ByteArray}{r:Option (Nat×V)}(hx:RV w R noG (.rmap E) x)(hf:Fy .string (.string k) E 0=some r):
  ∃(mb:Nat) (val:Value) (b:Bool),x=.map (some mb)∧(Instr.lookup 306 x (.string k) true).run Tryz.prog w=.ok (.tuple #[val,.bool b]) w∧(r=none→val=.int .i64 0∧b=false)∧∀j u,r=some (j,u)→b=true∧RV w R noG u val:=by
 cases hx with
 |rmap ents mb clock es hR hb hl hk hv=>
  obtain⟨s,g1,g2,g3⟩:=Mk es.toList E 0 (by simpa using hl) (fun j e p q1 q2=>hk j e p (by simpa using q1) q2) r hf;have hck:=fun em=>Jg (P:=Tryz.prog) (w:=w) (em:=em) (n:=9999) (v:=.string k) Tryz.underlying9 rfl;have hget:(Instr.lookup 306 (.map (some mb)) (.string k) true).run Tryz.prog w=(do
    let (v,b')←match s with
     |some (_,v)=>pure (v,true)
     |none=>pure (←zeroValue 3,false)
    pure (.tuple #[v,.bool b']):Sem Value).run Tryz.prog w:=by
   simp only[Instr.lookup,Sem.run_bind,run_underlying Tryz.underlying306,Result.andThen_ok,Sem.run_pure,Go.MapKept.run_getObj_map hb,hck,Ip Tryz.underlying9 g1];rfl
  have hi:(Tryz.prog.info? 3).map (fun i=>i.zero)=some (some (.int .i64 0)):=by kernel_rfl
  obtain⟨i,hi1,hi2⟩:=Option.map_eq_some_iff.1 hi;cases r with
  |none=>
   obtain rfl:=g2 rfl;refine⟨mb,.int .i64 0,false,rfl,?_,fun _=>⟨rfl,rfl⟩,fun j u h=>(by cases h)⟩;rw[hget];simp[zeroValue,typeInfo,hi1,hi2]
  |some q=>
   obtain⟨j,u⟩:=q;obtain⟨v,rfl,_,e,p,k1,k2,k3,k4⟩:=g3 j u rfl;refine⟨mb,v,true,rfl,?_,fun h=>(by cases h),fun j' u' h=>?_⟩
   ·rw[hget];simp
   ·cases h;refine⟨rfl,?_⟩;rw[k3,k4];exact hv (j-0) e p (by simpa using k1) k2
theorem Axs(f:Pc)(l:List Wh)(E:List (ByteArray×V))(hE:Gi f l E)(a b:ByteArray)(w:World)(R:Nat→Prop)(zs:List Value)(hlt:∀b,R b→b<w.heap.size)(hp:Ik w R [.c (.v (.string a)),.c (.v (.string b)),.c (.rptr [.rmap (ents E)] 0)] zs):Calls Tryz.prog 273 zs.toArray w fun e w'=>e=.returned (.int .i64 (cfN (Fw f l) a b))∧∃q os,w'=Go.Sort.grow (w.drewN q) os:=by
 have hl:=hp.len
 match zs,hl,hp with
 |[z0,z1,z2],_,hp=>
  have e0:z0=.string a:=Bt (hp.ok 0 _ _ rfl rfl);have e1:z1=.string b:=Bt (hp.ok 1 _ _ rfl rfl);subst e0 e1;have h2:RV w R noG (.rptr [.rmap (ents E)] 0) z2:=hp.ok 2 _ _ rfl rfl;cases h2 with
  |rptr row off bx o g hR hcell hh=>
   have hm:=hh 0 _ rfl;have hc:=hcell 0 _ rfl;have key:∀c:ByteArray,∃(mb:Nat) (val:Int) (bb:Bool),g 0=.map (some mb)∧(Instr.lookup 306 (g 0) (.string c) true).run Tryz.prog w=.ok (.tuple #[.int .i64 val,.bool bb]) w∧(Fw f l c=none→val=0∧bb=false)∧∀x,Fw f l c=some x→val=x∧bb=true:=by
    intro c;cases hk:Fw f l c with
    |none=>
     have q:=hE.at_none hk;obtain⟨mb,val,bb,k1,k2,k3,_⟩:=Af6 (r:=none) hm ((Di _ _ _).trans (by rw[q]));obtain⟨rfl,rfl⟩:=k3 rfl;exact⟨mb,0,false,k1,k2,fun _=>⟨rfl,rfl⟩,fun x h=>(by cases h)⟩
    |some x=>
     obtain⟨j,q⟩:=hE.at_some hk;obtain⟨mb,val,bb,k1,k2,_,k3⟩:=Af6 (r:=some (j,iV x)) hm ((Di _ _ _).trans (by rw[q]));obtain⟨rfl,hv⟩:=k3 j _ rfl;obtain rfl:=Bt hv;exact⟨mb,x,true,k1,k2,fun h=>(by cases h),fun y h=>by cases h;exact⟨rfl,rfl⟩⟩
   obtain⟨mb,x,ok,m1,l1,n1,s1⟩:=key a;obtain⟨mb2,y,is,m2,l2,n2,s2⟩:=key b;rw[m1]at l1 l2 hc;have h:=Ami a b bx o mb w hc x y ok is l1 l2;have er:Ay5 a b x y ok is=cfN (Fw f l) a b:=by
    cases h1:Fw f l a with
    |none=>
     obtain⟨rfl,rfl⟩:=n1 h1;cases h2:Fw f l b with
     |none=>obtain⟨rfl,rfl⟩:=n2 h2;rw[Bae h1 h2];rfl
     |some v=>obtain⟨rfl,rfl⟩:=s2 v h2;rw[Baf h1 h2];rfl
    |some u=>
     obtain⟨rfl,rfl⟩:=s1 u h1;cases h2:Fw f l b with
     |none=>obtain⟨rfl,rfl⟩:=n2 h2;rw[Ba6 h1 h2];rfl
     |some v=>obtain⟨rfl,rfl⟩:=s2 v h2;rw[Ayh h1 h2];rfl
   rw[er]at h;exact h
theorem Amn(f:Pc)(l:List Wh)(E:List (ByteArray×V))(hE:Gi f l E)(names:List ByteArray)(hn:names.length≤1000):Hz Tryz.prog 272 [.ms 9 1 (names.map Nz) ((Kp (cfN (Fw f l)) names).map Nz),.p (.c (.clo 273 [.rptr [.rmap (ents E)] 0]))] []:=
 Aod (enc:=fun s:ByteArray=>Value.string s) Tryz.sortS (Cn Tryz.func272 (by kernel_rfl) (by kernel_rfl)) 9 (fun _=>rfl) (cfN (Fw f l)) (Aw4 (Ahd _)) (Ax4 (Ahd _) fun _ _=>Arl) 273 [.rptr [.rmap (ents E)] 0]
  (Cn Tryz.func273 (by kernel_rfl) (by kernel_rfl)) names (by omega) (fun _ a b w R zs hlt hp=>Axs f l E hE a b w R zs hlt hp)
section
open Go.Sort Go.Shelf
noncomputable def Agj(f:Pc)(l:List Wh)(names:List ByteArray):List ByteArray:=if Gr f l names=0 then Kp (cfN (Fw f l)) names else []
theorem Rh{f:Pc}{l:List Wh}{names:List ByteArray}(h:100<l.length∨100<names.length):Gr f l names=2:=by simp[Gr,h]
theorem Ade{f:Pc}{l:List Wh}{names:List ByteArray}(h:¬(100<l.length∨100<names.length))(h2:f.err≠0):Gr f l names=f.err:=by simp[Gr,h,h2]
theorem Sj{f:Pc}{l:List Wh}{names:List ByteArray}(h:¬(100<l.length∨100<names.length))(h2:f.err=0):Gr f l names=firstErr Wh.perr l:=by simp[Gr,h,h2]
theorem Rw{f:Pc}{l:List Wh}{names:List ByteArray}(h:Gr f l names≠0):Agj f l names=[]:=by simp[Agj,h]
theorem Ags{f:Pc}{l:List Wh}{names:List ByteArray}(h:Gr f l names=0):Agj f l names=Kp (cfN (Fw f l)) names:=by simp[Agj,h]
theorem Aog(f:Pc)(l:List Wh)(names:List ByteArray)(hl:l.length≤9223372036854775807)(hn:names.length≤9223372036854775807):Fun Tryz.prog 252 [.c (.agg f.row),.c (.sl false (l.map Wh.row)),.c (.sl false (names.map Nz))]
  [.o 9 1 ((Agj f l names).map Nz),.c (.v (.int .i64 (Gr f l names)))]:=by
 refine A4 Z9 rfl ?_;refine G1 ?_;intro gg;rw[ZE];(refine Ag (fun h1=>?_) (fun h1=>?_)<;>rw[h1])
 ·have h1':100<l.length:=(by have:=ZV h1;omega);have e:=Rh (f:=f) (l:=l) (names:=names) (.inl h1');rw[e,Rw (by rw[e];decide)];refine G0 ?_;(exact⟨[],aI⟩)
 ·have h1':¬100<l.length:=(by have:=ZW h1;omega);refine G0 ?_;rw[ZE];(refine Ag (fun h2=>?_) (fun h2=>?_)<;>rw[h2])
  ·have h2':100<names.length:=(by have:=ZV h2;omega);have e:=Rh (f:=f) (l:=l) (names:=names) (.inr h2');rw[e,Rw (by rw[e];decide)];refine G0 ?_;(exact⟨[],aI⟩)
  ·have h2':¬100<names.length:=(by have:=ZW h2;omega);have h12:¬(100<l.length∨100<names.length):=by omega
   refine G0 ?_;refine .inl (cX (Mm f) ?_);refine G1 ?_;intro gg;(refine Ag (fun h3=>?_) (fun h3=>?_)<;>rw[h3])
   ·have h3':f.err≠0:=by simpa using h3
    have e:=Ade (f:=f) (l:=l) (names:=names) h12 h3';rw[e,Rw (by rw[e];exact h3')];refine G0 ?_;(exact⟨[],aI⟩)
   ·have h3':f.err=0:=by simpa using h3
    have e:=Sj (f:=f) (l:=l) (names:=names) h12 h3';(refine goI ?_;repeat (intro gg;refine goI ?_));rename_i gm
    rename Nat=>gb
    have hf:f.okb=true:=Pc.err_iff.1 h3';refine⟨[],rfl,?_⟩;refine G0 ?_;(refine⟨[],none,{q:Nat×List (ByteArray×V)//q.1≤l.length∧(∀j,(h:j<l.length)→j<q.1→Wh.perr l[j]=0)∧Gi f (l.take q.1) q.2},[1,2,3,9,30,31],fun⟨⟨k,E⟩,hk,h0,hE⟩=>[(32,.v (.int .i64 k))],[48,144],fun⟨⟨k,E⟩,hk,h0,hE⟩=>[(464,⟨gm,.q (Ov (ents E)),0,[]⟩)],fun⟨⟨k,E⟩,hk,h0,hE⟩=>l.length-k,trivial,fun _=>⟨trivial,fun _=>⟨⟨(0,[]),ZU _,fun j _ h=>absurd h (Nat.not_lt_zero _),Gi.nil f⟩,tI,A2 _ _,tI,A3 _ _⟩⟩,fun⟨⟨k,E⟩,hk,h0,hE⟩=>?_⟩);refine G0 ?_;(refine Ag (fun h4=>?_) (fun h4=>?_)<;>rw[h4])
    ·have hlt:k<l.length:=by have:=ZV h4;simpa using this
     refine G0 ?_;refine⟨k,_,rfl,A7 hlt,?_⟩;refine G1 ?_;intro gg;refine .inl (cX (Mm (l[k]).pl) ?_);refine G1 ?_;intro gg;(refine Ag (fun h5=>?_) (fun h5=>?_)<;>rw[h5])
     ·have h5':Wh.perr l[k]≠0:=by simpa[Wh.perr]using h5
      have e2:=e.trans (G5 hlt h0 h5');rw[e2,Rw (by rw[e2];exact h5')];refine G0 ?_;(exact⟨[],aI⟩)
     ·have h5':Wh.perr l[k]=0:=by simpa[Wh.perr]using h5
      have hp:(l[k]).pl.okb=true:=Pc.err_iff.1 h5';have et:l.take (k+1)=l.take k++[l[k]]:=by rw[XT,ZC hlt];rfl
      refine G0 ?_;cases hlk:Pl.look (l[k]).nd E 0 with
      |some r=>
       obtain⟨ri,rv⟩:=r;obtain⟨x,rfl⟩:=hE.val hlk;refine⟨some (ri,iV x),(Di _ _ _).trans (by rw[hlk]),?_⟩;refine G0 ?_;have hE':Gi f (l.take (k+1)) E:=by rw[et];exact hE.old (by rw[hlk];simp)
       (exact⟨none,trivial,fun _=>⟨⟨(k+1,E),by dsimp only;omega,up1 (p:=fun j h=>Wh.perr l[j]=0) h0 (fun _=>h5'),hE'⟩,by show l.length-(k+1)<l.length-k;omega,tI,tI,tI,tI⟩⟩)
      |none=>
       refine⟨none,(Di _ _ _).trans (by rw[hlk]),?_⟩;refine G0 ?_;(refine⟨_,_,false,aI,Aix f (l[k]).pl hf hp,Ad,nI,?_⟩);refine G1 ?_;intro gg;refine⟨_,none,rfl,A9 rfl,(Di _ _ _).trans (by rw[hlk]),?_⟩;refine G0 ?_;have e:=Yv E (l[k]).nd (iV (f.far (l[k]).pl));rw[hlk]at e;have hE':Gi f (l.take (k+1)) (put E (l[k]).nd (iV (f.far (l[k]).pl))):=by rw[et];exact hE.new hlk
       (exact⟨none,trivial,fun gr=>⟨⟨(k+1,put E (l[k]).nd (iV (f.far (l[k]).pl))),by dsimp only;omega,up1 (p:=fun j h=>Wh.perr l[j]=0) h0 (fun _=>h5'),hE'⟩,by show l.length-(k+1)<l.length-k;omega,tI,tI,⟨congrArg (fun x=>some (Ent.mk gm (.q (Ov x)) 0 [])) e,trivial⟩,tI⟩⟩)
    ·have hge:¬k<l.length:=by have:=ZW h4;simpa using this
     have hz:Gr f l names=0:=e.trans (D3 (fun i hi=>h0 i hi (by dsimp only;omega)));rw[List.take_of_length_le (by dsimp only;omega)]at hE;have hE:Gi f l E:=hE;rw[hz,Ags hz];refine G0 ?_;(refine .inl ⟨_,_,false,[],aI,Ai4 false names (by omega),Ad,nI,?_⟩);refine G1 ?_;intro gg;refine .inr (.inl ⟨_,_,true,[960],Aun rfl Bx (by decide) (by decide) (by rw[ZE,ZE];exact List.length_mergeSort _) (Al3 (Awk rfl rfl (by decide) (by decide) Aez) (.nil _)),Amn f l E hE names (by omega),(fun _=>mfI),oI,(by exact(by decide:([960]:List Nat).Nodup)),?_⟩);refine G1 ?_;intro gg;(exact⟨[960],aI⟩)
end
section
open Go.Sort Go.Shelf

end
set_option maxHeartbeats 1000000 in
set_option maxRecDepth 100000 in
theorem Amx(s:ByteArray)(c:UInt8)(w:World):
  Calls Tryz.prog 246 #[.string s,.string ⟨#[c]⟩] w fun e w'=>e=.returned (.int .i64 (Lib.countByte s.data.toList c))∧w'=w:=by
 go_enter Tryz.func246,Tryz.ntmps246
 go_wp2
 rw[run_callFunc_extern Tryz.func265 (by kernel_rfl) (by kernel_rfl) (by kernel_rfl) (e:=Extern.BytealgCount.count) (by kernel_rfl),Lib.run_countString];simp only[Result.andThen];rw[Oper.upon_value]
 go_wp2
 go_ret
 exact⟨rfl,rfl⟩
set_option maxHeartbeats 1000000 in
set_option maxRecDepth 100000 in
theorem Aab(s:ByteArray)(c:Int)(w:World):
  Calls Tryz.prog 279 #[.string s,.int .u8 c] w fun e w'=>e=.returned (.int .i64 (Lib.indexByte s.data.toList c.toNat.toUInt8))∧w'=w:=by
 go_enter Tryz.func279,Tryz.ntmps279
 go_wp2
 rw[run_callFunc_extern Tryz.func286 (by kernel_rfl) (by kernel_rfl) (by kernel_rfl) (e:=Extern.BytealgIndexByte.indexByte) (by kernel_rfl),Lib.run_indexByteString];simp only[Result.andThen];rw[Oper.upon_value]
 go_wp2
 go_ret
 exact⟨rfl,rfl⟩
set_option maxHeartbeats 2000000 in
set_option maxRecDepth 100000 in
theorem Aav(s:ByteArray)(c:UInt8)(w:World):
  Calls Tryz.prog 266 #[.string s,.string ⟨#[c]⟩] w fun e w'=>e=.returned (.int .i64 (Lib.indexByte s.data.toList c))∧w'=w:=by
 go_enter Tryz.func266,Tryz.ntmps266
 go_wp2_with (go_at_call 279;refine(Aab _ _ _).mono ?_;rintro e w' ⟨rfl,rfl⟩)
 ·have h:([c]==s.toList)=true:=by assumption
  go_ret
  refine⟨?_,rfl⟩;have e:s.data.toList=[c]:=by rw[←Lib.toList_data];exact(ZR.1 h).symm
  rw[e];simp[Lib.indexByte]
 ·go_ret
  exact⟨rfl,rfl⟩
set_option maxHeartbeats 1000000 in
theorem Anh(s:ByteArray)(c:UInt8)(w:World):
  Calls Tryz.prog 247 #[.string s,.string ⟨#[c]⟩] w fun e w'=>e=.returned (.int .i64 (Lib.indexByte s.data.toList c))∧w'=w:=by
 go_enter Tryz.func247,Tryz.ntmps247
 go_wp2_with (go_at_call 266;refine(Aav _ _ _).mono ?_;rintro e w' ⟨rfl,rfl⟩)
 go_ret
 exact⟨rfl,rfl⟩
namespace Pl
def ixb(r:ByteArray)(c:UInt8):Int:=Lib.indexByte r.data.toList c
def cnb(r:ByteArray)(c:UInt8):Nat:=Lib.countByte r.data.toList c
theorem Avl{l:List UInt8}{c:UInt8}:Lib.indexByte l c= -1↔l.count c=0:=by
 induction l with
 |nil=>simp[Lib.indexByte]
 |cons b l ih=>
  unfold Lib.indexByte;have hg:=Lib.indexByte_ge l c;by_cases hb:(b==c)=true
  ·rw[if_pos hb];have:b=c:=by simpa using hb
   subst this;simp
  ·rw[if_neg hb];have hne:b≠c:=fun e=>hb (by simpa using e);rw[List.count_cons_of_ne hne];split
   ·rename_i h;have h':Lib.indexByte l c= -1:=by simpa using h
    simp[ih.1 h']
   ·rename_i h;have h':¬Lib.indexByte l c= -1:=by simpa using h
    constructor
    ·intro e;omega
    ·intro e;exact absurd (ih.2 e) h'
theorem Apb{l:List UInt8}{c:UInt8}(h:0<l.count c):∃m:Nat,Lib.indexByte l c=(m:Int)∧m<l.length∧(l.drop (m+1)).count c+1=l.count c:=by
 induction l with
 |nil=>simp at h
 |cons b l ih=>
  unfold Lib.indexByte;by_cases hb:(b==c)=true
  ·rw[if_pos hb];have:b=c:=by simpa using hb
   subst this;exact⟨0,rfl,by simp,by simp⟩
  ·rw[if_neg hb];have hne:b≠c:=fun e=>hb (by simpa using e);rw[List.count_cons_of_ne hne]at h ⊢;obtain⟨m,h1,h2,h3⟩:=ih h;have hn:¬((Lib.indexByte l c== -1)=true):=by rw[h1];simp
   rw[if_neg hn,h1];exact⟨m+1,by simp,by simp;omega,by simpa using h3⟩
def Bl(c:UInt8)(s:ByteArray):Nat→ByteArray
 |0=>s
 |k+1=>(Bl c s k).extract ((ixb (Bl c s k) c).toNat+1) (Bl c s k).size
def Qh(c:UInt8)(s:ByteArray)(k:Nat):ByteArray:=(Bl c s k).extract 0 (ixb (Bl c s k) c).toNat
def Cu(c:UInt8)(s:ByteArray):List ByteArray:=(List.range (cnb s c)).map (Qh c s)++[Bl c s (cnb s c)]
theorem Q3(c:UInt8)(s:ByteArray):(Cu c s).length=cnb s c+1:=by simp[Cu]
theorem Aj7(s:ByteArray)(c:UInt8):cnb s c≤s.size:=by
 have:=List.count_le_length (a:=c) (l:=s.data.toList);simpa[cnb,Lib.countByte]using this
theorem Ft(s:ByteArray)(a b:Nat):(s.extract a b).data.toList=(s.data.toList.take b).drop a:=by
 simp[ByteArray.data_extract,List.drop_take]
theorem J1(c:UInt8)(s:ByteArray):∀k,k≤cnb s c→cnb (Bl c s k) c+k=cnb s c
 |0,_=>rfl
 |k+1,h=>by
  have ih:=J1 c s k (by omega);have hp:0<(Bl c s k).data.toList.count c:=by have:cnb (Bl c s k) c=(Bl c s k).data.toList.count c:=rfl;omega
  obtain⟨m,h1,h2,h3⟩:=Apb hp;have hx:ixb (Bl c s k) c=(m:Int):=h1;have e:(Bl c s (k+1)).data.toList=(Bl c s k).data.toList.drop (m+1):=by
   show((Bl c s k).extract ((ixb (Bl c s k) c).toNat+1) (Bl c s k).size).data.toList=_;rw[Ft,hx];congr 1;exact List.take_of_length_le (by simp)
  have:cnb (Bl c s (k+1)) c+1=cnb (Bl c s k) c:=by
   unfold cnb Lib.countByte;rw[e];exact h3
  omega
theorem Alm (c : UInt8) (s : ByteArray) {k : Nat} (h : k < cnb s c) : ∃ m : Nat, ixb (Bl c s k) c = (m : Int) ∧ m + 1 ≤ (Bl c s k).size ∧ Qh c s k = (Bl c s k).extract 0 m ∧ Bl c s (k + 1) = (Bl c s k).extract (m + 1) (Bl c s k).size := by
  have ih := J1 c s k (by omega)
  have hp : 0 < (Bl c s k).data.toList.count c := by have : cnb (Bl c s k) c = (Bl c s k).data.toList.count c := rfl; omega
  obtain ⟨m, h1, h2, _⟩ := Apb hp
  have hx : ixb (Bl c s k) c = (m : Int) := h1
  refine ⟨m, hx, by have h4 : m < (Bl c s k).size := by simpa using h2
                    omega, ?_, ?_⟩
  · show (Bl c s k).extract 0 (ixb (Bl c s k) c).toNat = _
    rw [hx]; rfl
  · show (Bl c s k).extract ((ixb (Bl c s k) c).toNat + 1) (Bl c s k).size = _
    rw [hx]; rfl
theorem Oy(c:UInt8)(s:ByteArray):∀k,(Bl c s k).size≤s.size
 |0=>ZT _
 |k+1=>by
  have:=Oy c s k;show((Bl c s k).extract _ _).size≤_;rw[ByteArray.size_extract];omega
end Pl
def Bm(s:ByteArray):List V:=[.v (.string s)]
instance:FlatRow Bm:=⟨fun x u hu=>by simp[Bm]at hu;subst hu;exact⟨_,rfl⟩⟩
theorem Amc(s:ByteArray)(c:UInt8):Fun Tryz.prog 246 [.c (.v (.string s)),.c (.v (.string ⟨#[c]⟩))] [.c (.v (.int .i64 (cnb s c)))]:=
 Mf (xs:=[.string s,.string ⟨#[c]⟩]) (Cn Tryz.func246 (by kernel_rfl) (by kernel_rfl)) fun w=>(Amx s c w).mono fun e w' ⟨h1,h2⟩=>⟨h1,h2▸Below.refl _ _⟩
theorem Ao1(s:ByteArray)(c:UInt8):Fun Tryz.prog 247 [.c (.v (.string s)),.c (.v (.string ⟨#[c]⟩))] [.c (.v (.int .i64 (ixb s c)))]:=
 Mf (xs:=[.string s,.string ⟨#[c]⟩]) (Cn Tryz.func247 (by kernel_rfl) (by kernel_rfl)) fun w=>(Anh s c w).mono fun e w' ⟨h1,h2⟩=>⟨h1,h2▸Below.refl _ _⟩
def D6(c:UInt8)(s:ByteArray)(k:Nat):List ByteArray:=(List.range k).map (Qh c s)++List.replicate (cnb s c+1-k) ⟨#[]⟩
theorem Vc(c:UInt8)(s:ByteArray){k:Nat}(h:k≤cnb s c+1):(D6 c s k).length=cnb s c+1:=by simp[D6];omega
theorem Vg(c:UInt8)(s:ByteArray){k:Nat}(h:k<cnb s c+1)(x:ByteArray):(D6 c s k).set k x=(List.range k).map (Qh c s)++[x]++List.replicate (cnb s c-k) ⟨#[]⟩:=by
 unfold D6;rw[show cnb s c+1-k=(cnb s c-k)+1 by omega,List.replicate_succ];rw[List.set_append_right _ _ (by simp)];simp
theorem Acg(c:UInt8)(s:ByteArray){k:Nat}(h:k<cnb s c):(D6 c s k).set k (Qh c s k)=D6 c s (k+1):=by
 rw[Vg c s (by omega)];unfold D6;rw[List.range_succ,ZI];simp
theorem Ag1(c:UInt8)(s:ByteArray):((D6 c s (cnb s c)).set (cnb s c) (Bl c s (cnb s c))).take (cnb s c+1)=Cu c s:=by
 rw[Vg c s (by omega)];unfold Cu;rw[Nat.sub_self,List.replicate_zero,List.append_nil];exact List.take_of_length_le (by simp)
theorem Axt(c:UInt8):((⟨#[c]⟩:ByteArray).toList==(⟨#[]⟩:ByteArray).toList)=false:=by simp[Lib.toList_data]
theorem Ae1(c:UInt8)(s:ByteArray):(D6 c s 0).map Bm=List.replicate (cnb s c+1) (([.string ⟨#[]⟩]:List Value).map .v):=by
 simp[D6,Bm]
theorem Acl(s:ByteArray)(c:UInt8)(hs:s.size≤1000000000000):Fun Tryz.prog 201 [.c (.v (.string s)),.c (.v (.string ⟨#[c]⟩)),.c (.v (.int .i64 0)),.c (.v (.int .i64 (-1)))] [.o 9 1 ((Cu c s).map Bm)]:=by
 have hc:=Aj7 s c;have hR:=J1 c s;have hz:=Oy c s;refine A4 Pz rfl ?_;refine G0 ?_;rw[Axt];refine G0 ?_;refine .inl (cX (Amc s c) ?_);refine G1 ?_;intro gg;rw[show min ((cnb s c:Int)+1) ((s.size:Int)+1)=(cnb s c:Int)+1 by omega];refine G0 ?_;refine⟨cnb s c+1,by simp,by simp,by simp only[maxLen];omega,by omega,?_⟩;refine G1 ?_;intro gg;rw[←Ae1];refine G0 ?_;(refine⟨[],none,{k:Nat//k≤cnb s c},[1,2,3,9],fun⟨k,hk⟩=>[(0,.v (.string (Bl c s k))),(10,.v (.int .i64 k))],[],fun⟨k,hk⟩=>[(496,⟨gg,9,1,(D6 c s k).map Bm⟩)],fun⟨k,hk⟩=>cnb s c-k,trivial,fun _=>⟨trivial,fun _=>⟨⟨0,by omega⟩,tI,A2 _ _,tI,A3 _ _⟩⟩,fun⟨k,hk⟩=>?_⟩);refine G0 ?_;(refine Ag (fun h1=>?_) (fun h1=>?_)<;>rw[h1])
 ·have hlt:k<cnb s c:=(by have:=ZV h1;omega);obtain⟨m,e1,e2,e3,e4⟩:=Alm c s hlt;have e5:=hz k;have e6:=Acg c s hlt;have e7:=Vc c s (k:=k) (by omega);have e8:k<(D6 c s k).length:=by omega
  refine G0 ?_;refine .inl (cX (Ao1 (Bl c s k) c) ?_);rw[e1];refine G1 ?_;intro gg;refine⟨0,m,rfl,⟨_,rfl⟩,by omega,by omega,?_⟩;refine G0 ?_;refine⟨k,_,rfl,A7 e8,?_⟩;refine G0 ?_;refine⟨(m:Int)+1,D7 (n:=(m:Int)+1) (by omega) (by omega),?_⟩;refine G0 ?_;refine⟨m+1,(Bl c s k).size,⟨_,rfl⟩,rfl,by omega,ZT _,?_⟩;rw[←e4];refine G0 ?_;have hn:(D6 c s (k+1)).map Bm=((D6 c s k).map Bm).set k [V.v (Value.string ((Bl c s k).extract 0 m))]:=by rw[←e6,List.map_set,e3];rfl
  (exact⟨none,trivial,fun gr=>⟨⟨k+1,by omega⟩,by show cnb s c-(k+1)<cnb s c-k;omega,hxI hn,hxI hn,hxI hn,hxI hn⟩⟩)
 ·have hge:¬k<cnb s c:=(by have:=ZW h1;omega);have hk':k≤cnb s c:=hk;obtain rfl:k=cnb s c:=by omega
  have e7:=Vc c s (k:=cnb s c) (by omega);have e8:cnb s c<(D6 c s (cnb s c)).length:=by omega
  refine G0 ?_;refine⟨cnb s c,_,rfl,A7 e8,?_⟩;refine G0 ?_;refine⟨0,0,cnb s c+1,rfl,rfl,⟨_,rfl⟩,ZU _,by simp[e7],rfl,rfl,fun g=>?_⟩;refine G0 ?_;have hE:(((D6 c s (cnb s c)).map Bm).set (cnb s c) [V.v (Value.string (Bl c s (cnb s c)))]).take (cnb s c+1)=(Cu c s).map Bm:=by rw[←Ag1,List.map_take,List.map_set];rfl
  rw[hE];(exact⟨[496],aI⟩)
end Go.Proofs.YtkbjgdcdjccnaaaGreatDoor
