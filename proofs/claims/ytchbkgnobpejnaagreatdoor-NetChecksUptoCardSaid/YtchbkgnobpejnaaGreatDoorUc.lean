/- Texts of this claim, joined. -/
import Derived.Test.YtchbkgnobpejnaaGreatDoorRows
import Derived.Lib.Walk
import Derived.Lib.SliceRun
import Derived.Lib.JoinLaws
import Derived.Lib.AppendZeros
import Derived.WalkSpells
import Derived.Lib.ItoaLen
import Derived.Test.YtchbkgnobpejnaaGreatDoorYAbsK
import Derived.Test.YtchbkgnobpejnaaGreatDoorUa
import Derived.Test.YtchbkgnobpejnaaGreatDoorUb
set_option linter.unusedSimpArgs false
set_option linter.unusedVariables false
namespace Go.Proofs.YtchbkgnobpejnaaGreatDoor
open Go.RowKit Pl
theorem Ak6[Glob](m:Mb)(hm:m.ok):Fun Tryz.prog 84 [.c (.agg m.row)] [.c (.v (.int .i64 m.err))]:=by
 refine A9 Qc rfl ?_;(refine goI ?_;repeat (intro gg;refine goI ?_));refine .inl (cX (Ach m hm) ?_);(refine goI ?_;repeat (intro gg;refine goI ?_));(exact⟨[],aI⟩)
theorem Aj9[Glob](r:Ru):Fun Tryz.prog 86 [.c (.agg r.row)] [.c (.v (.bool r.bad))]:=by
 refine A9 S9 rfl ?_;(refine goI ?_;repeat (intro gg;refine goI ?_));(refine Ab (fun h=>?_) (fun h=>?_)<;>rw[h])
 ·have e:r.bad=true:=by have:=ZV h;simp[Ru.bad,wi];omega
  (refine goI ?_;repeat (intro gg;refine goI ?_));rw[e];(exact⟨[],aI⟩)
 ·have e:r.bad=decide (100<r.t):=by
   have h0:0≤r.t:=by have:=ZW h;omega
   unfold Ru.bad wi;rw[ZX h0,Bool.true_and];by_cases q:100<r.t
   ·rw[ZX q,ZY (by omega)];rfl
   ·rw[ZY q,ZX (by omega)];rfl
  (refine goI ?_;repeat (intro gg;refine goI ?_));rw[e];(exact⟨[],aI⟩)
theorem Acs[Glob](cl:Bool)(l:List Ru)(hl:l.length≤9223372036854775807)(hw:∀r∈l,r.m.ok):Fun Tryz.prog 46 [.c (.sl cl (l.map Ru.row))] [.c (.v (.int .i64 (Jl l)))]:=by
 refine A9 O7 rfl ?_;(refine goI ?_;repeat (intro gg;refine goI ?_));rw[ZE];(refine Ab (fun h=>?_) (fun h=>?_)<;>rw[h])
 ·have h1:20<l.length:=(by have:=ZV h;omega);(refine goI ?_;repeat (intro gg;refine goI ?_));rw[Zu h1];(exact⟨[],aI⟩)
 ·have h1:¬20<l.length:=(by have:=ZW h;omega);(refine goI ?_;repeat (intro gg;refine goI ?_))
  rename Nat=>g0
  (refine⟨[],none,{q:Nat×List (ByteArray×V)//q.1≤l.length∧(∀j,(h:j<l.length)→j<q.1→(l[j]).err=0)∧H3 q.2 ((l.take q.1).map Ru.nm)},[0,3,11,12],fun⟨⟨k,E⟩,hk,h0,hE⟩=>[(13,.v (.int .i64 k))],[],fun⟨⟨k,E⟩,hk,h0,hE⟩=>[(160,⟨g0,.q (Mj (An E)),0,[]⟩)],fun⟨⟨k,E⟩,hk,h0,hE⟩=>l.length-k,trivial,fun _=>⟨trivial,fun _=>⟨⟨(0,[]),ZU _,fun j _ h=>absurd h (Nat.not_lt_zero _),H3.nil⟩,tI,Ah _ _,tI,Ag _ _⟩⟩,fun⟨⟨k,E⟩,hk,h0,hE⟩=>?_⟩);(refine goI ?_;repeat (intro gg;refine goI ?_));(refine Ab (fun h2=>?_) (fun h2=>?_)<;>rw[h2])
  ·have hlt:k<l.length:=by have:=ZV h2;simpa using this
   (refine goI ?_;repeat (intro gg;refine goI ?_));refine⟨k,_,rfl,Am hlt,?_⟩;(refine goI ?_;repeat (intro gg;refine goI ?_));refine .inl (cX (Ak6 (l[k]).m (hw _ (ZK hlt))) ?_);(refine goI ?_;repeat (intro gg;refine goI ?_));(refine Ab (fun h3=>?_) (fun h3=>?_)<;>rw[h3])
   ·(refine goI ?_;repeat (intro gg;refine goI ?_));have e:Jl l=l[k].m.err:=by
     have e1:=Bb (e:=Ru.err) hlt h0 (by simpa[Ru.err]using h3);rw[Y8 h1 (by rw[e1];simpa[Ru.err]using h3),e1];rfl
    rw[e];(exact⟨[],aI⟩)
   ·(refine goI ?_;repeat (intro gg;refine goI ?_));refine⟨_,_,rfl,Cw rfl,Pq _ _ _,?_⟩;(refine goI ?_;repeat (intro gg;refine goI ?_));have e:=Xy E l[k].m.n (.v (.bool true));have hE':H3 (put E l[k].m.n (.v (.bool true))) ((l.take (k+1)).map Ru.nm):=by
     rw[XT,ZC hlt,ZI];exact hE.put _ _ (Cw rfl)
    (exact⟨none,trivial,fun gr=>⟨⟨(k+1,put E l[k].m.n (.v (.bool true))),by dsimp only;omega,up1 (p:=fun j h=>(l[j]).err=0) h0 (fun _=>by simpa[Ru.err]using h3),hE'⟩,by show l.length-(k+1)<l.length-k;omega,tI,tI,⟨congrArg (fun x=>some (Ent.mk g0 (.q (Mj x)) 0 [])) e,trivial⟩,tI⟩⟩)
  ·have hge:¬k<l.length:=by have:=ZW h2;simpa using this
   have hz:=A8 (e:=Ru.err) (l:=l) (fun i hi=>h0 i hi (by dsimp only;omega));rw[List.take_of_length_le (by dsimp only;omega)]at hE;have hE:H3 E (l.map Ru.nm):=hE;have hc:=Ve cl l 86 Ru.bad (by omega) (fun x _=>Aj9 x);(refine goI ?_;repeat (intro gg;refine goI ?_));refine .inl (cX hc ?_);(refine goI ?_;repeat (intro gg;refine goI ?_));(refine Ab (fun h3=>?_) (fun h3=>?_)<;>rw[h3])
   ·(refine goI ?_;repeat (intro gg;refine goI ?_));rw[Acw h1 hz h3];(exact⟨[],aI⟩)
   ·(refine goI ?_;repeat (intro gg;refine goI ?_))
    (try refine⟨_,rfl,?_⟩)
    (refine goI ?_;repeat (intro gg;refine goI ?_));rw[Wg,ZE];have ha:=hE.all;have hle:=hE.le;rw[ZE]at ha hle;(refine Ab (fun h4=>?_) (fun h4=>?_)<;>rw[h4])
    ·have h4':E.length<l.length:=(by have:=ZV h4;omega);(refine goI ?_;repeat (intro gg;refine goI ?_));rw[Ado h1 hz h3 (fun q=>by have:=ha.2 q;omega)];(exact⟨[],aI⟩)
    ·have h4':¬E.length<l.length:=(by have:=ZW h4;omega);(refine goI ?_;repeat (intro gg;refine goI ?_));rw[Agn h1 hz h3 (ha.1 (by omega))];(exact⟨[],aI⟩)
theorem Ab1[Glob](cl:Bool)(l:List Ru)(hl:l.length≤9223372036854775807)(hw:∀r∈l,r.m.ok):Fun Tryz.prog 29 [.c (.sl cl (l.map Ru.row))] [.c (.v (.int .i64 (Jl l)))]:=by
 refine A9 Ku rfl ?_;(refine goI ?_;repeat (intro gg;refine goI ?_));rw[ZE];(refine Ab (fun h=>?_) (fun h=>?_)<;>rw[h])
 ·have h1:20<l.length:=(by have:=ZV h;omega);(refine goI ?_;repeat (intro gg;refine goI ?_));rw[Zu h1];(exact⟨[],aI⟩)
 ·have h1:¬20<l.length:=(by have:=ZW h;omega);(refine goI ?_;repeat (intro gg;refine goI ?_));(refine⟨[],none,{k:Nat//k≤l.length∧∀j,(h:j<l.length)→j<k→(l[j]).err=0},[0,5,6,7],fun⟨k,hk,h0⟩=>[(3,.v (.int .i64 k))],[],fun⟨k,hk,h0⟩=>[],fun⟨k,hk,h0⟩=>l.length-k,trivial,fun _=>⟨trivial,fun _=>⟨⟨0,by omega,fun j _ h=>by omega⟩,tI,Ah _ _,tI,Ag _ _⟩⟩,fun⟨k,hk,h0⟩=>?_⟩);(refine goI ?_;repeat (intro gg;refine goI ?_));(refine Ab (fun h2=>?_) (fun h2=>?_)<;>rw[h2])
  ·have hlt:k<l.length:=by have:=ZV h2;simpa using this
   (refine goI ?_;repeat (intro gg;refine goI ?_));refine⟨k,_,rfl,Am hlt,?_⟩;(refine goI ?_;repeat (intro gg;refine goI ?_));refine .inl (cX (Xl (l[k]).m (hw _ (ZK hlt))) ?_);(refine goI ?_;repeat (intro gg;refine goI ?_));(refine Ab (fun h3=>?_) (fun h3=>?_)<;>rw[h3])
   ·(refine goI ?_;repeat (intro gg;refine goI ?_));have e:Jl l=l[k].m.err:=by
     have e1:=Bb (e:=Ru.err) hlt h0 (by simpa[Ru.err]using h3);rw[Y8 h1 (by rw[e1];simpa[Ru.err]using h3),e1];rfl
    rw[e];(exact⟨[],aI⟩)
   ·(refine goI ?_;repeat (intro gg;refine goI ?_));(exact⟨none,trivial,fun _=>⟨⟨k+1,by omega,up1 (p:=fun j h=>(l[j]).err=0) h0 (fun _=>by simpa[Ru.err]using h3)⟩,by show l.length-(k+1)<l.length-k;omega,tI,tI,tI,tI⟩⟩)
  ·have hge:¬k<l.length:=by have:=ZW h2;simpa using this
   have hz:=A8 (e:=Ru.err) (l:=l) (fun i hi=>h0 i hi (by omega));(refine goI ?_;repeat (intro gg;refine goI ?_));(refine⟨[],none,{k:Nat//k≤l.length∧∀j,(h:j<l.length)→j<k→(l[j]).bad=false},[0,6,7],fun⟨k,hk,h0⟩=>[(5,.v (.int .i64 k))],[],fun⟨k,hk,h0⟩=>[],fun⟨k,hk,h0⟩=>l.length-k,trivial,fun _=>⟨trivial,fun _=>⟨⟨0,by omega,fun j _ h=>by omega⟩,tI,Ah _ _,tI,Ag _ _⟩⟩,fun⟨k,hk,h0⟩=>?_⟩);(refine goI ?_;repeat (intro gg;refine goI ?_));(refine Ab (fun h2=>?_) (fun h2=>?_)<;>rw[h2])
   ·have hlt:k<l.length:=by have:=ZV h2;simpa using this
    (refine goI ?_;repeat (intro gg;refine goI ?_));refine⟨k,_,rfl,Am hlt,?_⟩;(refine goI ?_;repeat (intro gg;refine goI ?_));refine .inl (cX (Bv _ _ _) ?_);(refine goI ?_;repeat (intro gg;refine goI ?_));(refine Ab (fun h3=>?_) (fun h3=>?_)<;>rw[h3])
    ·(refine goI ?_;repeat (intro gg;refine goI ?_));rw[Acw h1 hz (List.any_eq_true.2 ⟨_,ZK hlt,h3⟩)];(exact⟨[],aI⟩)
    ·(refine goI ?_;repeat (intro gg;refine goI ?_));(exact⟨none,trivial,fun _=>⟨⟨k+1,by omega,up1 (p:=fun j h=>(l[j]).bad=false) h0 (fun _=>h3)⟩,by show l.length-(k+1)<l.length-k;omega,tI,tI,tI,tI⟩⟩)
   ·have hge:¬k<l.length:=by have:=ZW h2;simpa using this
    have ha:l.any Ru.bad=false:=by
     rw[List.any_eq_false];intro x hx;obtain⟨i,hi,rfl⟩:=List.getElem_of_mem hx;rw[h0 i hi (by omega)];simp
    (refine goI ?_;repeat (intro gg;refine goI ?_));(refine⟨[],none,{k:Nat//k≤l.length∧∀i,(h:i<l.length)→i<k→∀j,(g:j<i)→(l[j]).nm≠l[i].nm},[0],fun⟨k,hk,h0⟩=>[(6,.v (.int .i64 k))],[],fun⟨k,hk,h0⟩=>[],fun⟨k,hk,h0⟩=>l.length-k,trivial,fun _=>⟨trivial,fun _=>⟨⟨0,by omega,fun j _ h=>by omega⟩,tI,Ah _ _,tI,Ag _ _⟩⟩,fun⟨k,hk,h0⟩=>?_⟩);(refine goI ?_;repeat (intro gg;refine goI ?_));(refine Ab (fun h2=>?_) (fun h2=>?_)<;>rw[h2])
    ·have hlt:k<l.length:=by have:=ZV h2;simpa using this
     (refine goI ?_;repeat (intro gg;refine goI ?_));(refine⟨[],none,{q:Nat//q≤k∧∀j,(h:j<k)→j<q→(l[j]).nm≠l[k].nm},[0,6],fun⟨q,hq,h0'⟩=>[(7,.v (.int .i64 q))],[],fun⟨q,hq,h0'⟩=>[],fun⟨q,hq,h0'⟩=>k-q,trivial,fun _=>⟨trivial,fun _=>⟨⟨0,by omega,fun j _ h=>by omega⟩,tI,Ah _ _,tI,Ag _ _⟩⟩,fun⟨q,hq,h0'⟩=>?_⟩);(refine goI ?_;repeat (intro gg;refine goI ?_));(refine Ab (fun h3=>?_) (fun h3=>?_)<;>rw[h3])
     ·have hqk:q<k:=by have:=ZV h3;omega
      have hql:q<l.length:=by omega
      (refine goI ?_;repeat (intro gg;refine goI ?_));refine⟨q,_,rfl,Am hql,?_⟩;(refine goI ?_;repeat (intro gg;refine goI ?_));refine⟨k,_,rfl,Am hlt,?_⟩;(refine goI ?_;repeat (intro gg;refine goI ?_));(refine Ab (fun h4=>?_) (fun h4=>?_)<;>rw[h4])
      ·have h4':l[q].nm=l[k].nm:=Ru.is_iff.1 h4;(refine goI ?_;repeat (intro gg;refine goI ?_));rw[Ado h1 hz ha (fun hn=>by have:=Apd hn hql hlt h4';omega)];(exact⟨[],aI⟩)
      ·have h4':l[q].nm≠l[k].nm:=fun e=>by rw[show(l[q].m.n.toList==l[k].m.n.toList)=true from Ru.is_iff.2 e]at h4;cases h4
       (refine goI ?_;repeat (intro gg;refine goI ?_));(exact⟨none,trivial,fun _=>⟨⟨q+1,by omega,up1 (p:=fun j h=>(l[j]).nm≠l[k].nm) h0' (fun _=>h4')⟩,by show k-(q+1)<k-q;omega,tI,tI,tI,tI⟩⟩)
     ·have hqk:¬q<k:=by have:=ZW h3;omega
      (refine goI ?_;repeat (intro gg;refine goI ?_));(exact⟨none,trivial,fun _=>⟨⟨k+1,by omega,up1 (p:=fun i h=>∀j,(g:j<i)→(l[j]).nm≠l[i].nm) h0 (fun _ j g=>h0' j g (by omega))⟩,by show l.length-(k+1)<l.length-k;omega,tI,tI,tI,tI⟩⟩)
    ·have hge:¬k<l.length:=by have:=ZW h2;simpa using this
     (refine goI ?_;repeat (intro gg;refine goI ?_));rw[Agn h1 hz ha (List.pairwise_iff_getElem.2 fun i j hi hj hij=>by
      simp only[XQ];exact h0 j (by simpa using hj) (by simp at hj;omega) i hij)]
     (exact⟨[],aI⟩)
def Ru.same(g h:Ru):Bool:=(g.m.n.toList==h.m.n.toList)&&((g.m.st==h.m.st)&&((g.m.lf==h.m.lf)&&((g.m.ad==h.m.ad)&&((g.m.sv==h.m.sv)&&((g.t==h.t)&&true)))))
theorem Ru.same_iff{g h:Ru}:Ru.same g h=true↔g=h:=by
 obtain⟨⟨a,b,c,d,e⟩,f⟩:=g;obtain⟨⟨a',b',c',d',e'⟩,f'⟩:=h;have tl:∀a b:ByteArray,a.toList=b.toList↔a=b:=fun a b=>⟨toList_inj,fun h=>by rw[h]⟩;simp only[Ru.same,Bool.and_true,ZO,ZR,tl,Ru.mk.injEq,Mb.mk.injEq,and_assoc]
theorem Arb:(Tryz.prog.info? 50).map (fun i=>(i.zero,i.size,i.bytes))=some (some (.agg #[.string ⟨#[]⟩,.string ⟨#[]⟩,.string ⟨#[]⟩,.string ⟨#[]⟩,.int .i64 0,.int .i64 0,.bool false,.int .i64 0,.bool false]),9,104):=by kernel_rfl
def As1(base n:Nat)(xs:List Value)(w:World)(e:Ending)(w':World):Prop:=
 ∃A' c',e=.returned (.slice A' n c')∧w'.ownsRow base 50 9 (.slice A' n c') n xs∧Below base w w'∧w.drawn≤w'.drawn
set_option maxRecDepth 100000 in
theorem Aib(A:Option Addr)(n c:Nat)(xs:List Value)(w:World)(hA:A=none→n=0)(hn:n≤1000)(hxl:xs.length=n*9)(hx:∀ad,A=some ad→∀j u,xs[j]? =some u→w.cell? (ad.add j)=some u)(h1:∀v∈xs,v.oneCell'=true):
  Calls Tryz.prog 109 #[.slice A n c] w (As1 w.heap.size n xs w):=by
 obtain⟨i0,hi0,hz0,hzs,hzb⟩:=info_parts Arb;cases A with
 |none=>
  obtain rfl:=hA rfl;obtain rfl:xs=[]:=XR (by simpa using hxl);clear hx hxl hi0 hz0 hzs hzb h1;have hnl:=fun(w:World)=>Lib.run_eql_slice_nil (P:=Tryz.prog) w 38 50 none 0 c 0 0 Tryz.underlying38
  go_enter Tryz.func109,Tryz.ntmps109
  go_wp2
  go_ret
  exact⟨none,0,rfl,World.ownsRow_nil _ _ _ _,Below.refl _ _,ZT _⟩
 |some ad=>
  have HX:=hid (hx ad rfl);have HXL:=hid hxl;have HZ0:=hid hz0;have HZS:=hid hzs;have HZB:=hid hzb;have HI0:=hid hi0;clear hx hxl hA hi0 hz0 hzs hzb;have hnl:=fun(w:World)=>Lib.run_eql_slice_nil (P:=Tryz.prog) w 38 50 (some ad) n c 0 0 Tryz.underlying38
  go_enter Tryz.func109,Tryz.ntmps109
  have hown0:(w.alloc (.cells #[] 50)).ownsRow w.heap.size 50 9 (.slice (some ⟨w.heap.size,0,none⟩) 0 0) 0 []:=
   ⟨by simp,.inr ⟨w.heap.size,0, #[],rfl,ZT _,heap_alloc_new w _,by omega,by simp[maxLen],by simp,by simp⟩⟩
  have HO:=hid hown0;have HX1:=hid (fun j u (hj:xs[j]? =some u)=>(World.cell?_alloc_lt w (.cells #[] 50) (ad.add j) (Vq (HX.out j u hj))).trans (HX.out j u hj));clear hown0
  go_wp2_with (at_builtin;refine H4 _ rfl _ _ 38 rfl w.heap.size 50 i0 _ 9 104 Tryz.underlying38 HI0.out HZ0.out HZS.out HZB.out rfl (by decide) _ _ _ rfl HO.out ad n c xs rfl HXL.out HX1.out h1 (by simp only[maxLen];omega) (by omega) (by simp) ?_;intro v1 w1 hown1 hg1 hd1 hat1)
  go_ret
  rw[Nat.zero_add,List.nil_append]at hown1;obtain⟨A',c',rfl⟩:=L3 hown1;exact⟨A',c',rfl,hown1,((Below.refl _ _).alloc (ZT _) _).grown hg1 (by simp) (Ed HO.out),hd1⟩
theorem Ad2[Glob]{α:Type}(enc:α→List Value)(he:∀x,(enc x).length=9)(h1:∀x,∀v∈enc x,v.oneCell'=true)(cl:Bool)(l:List α)(hl:l.length≤1000):
  Fun Tryz.prog 109 [.c (.sl cl (l.map fun x=>(enc x).map .v))] [.o 50 9 (l.map fun x=>(enc x).map .v)]:=by
 refine⟨Df Tryz.func109 (by kernel_rfl) (by kernel_rfl),fun w R xs hlt hp _=>?_⟩;obtain⟨v,rfl,hv⟩:=R6 hp;obtain⟨A,c,rfl,hA,hx⟩:=Q9 he hv;have hone:∀v∈l.flatMap enc,v.oneCell'=true:=fun v hv=>by
  obtain⟨g,_,hg⟩:=List.mem_flatMap.1 hv;exact h1 g v hg
 refine(Aib A l.length c (l.flatMap enc) w hA hl (Jf he l) hx hone).mono ?_
 rintro e w' ⟨A',c',rfl,hown,hb,hd⟩
 exact Jy he h1 (by decide) hlt hown (Cn hb) (fun k hk=>.inr (Ed hown k hk)) (fun k hk=>by have:=Ed hown k hk;intro h;have:=hlt k h;omega)
theorem O8[Glob](n a b:Int):Fun Tryz.prog 164 [.c (.v (.int .i64 n)),.c (.v (.int .i64 a)),.c (.v (.int .i64 b))] [.c (.v (.bool (wi n a b)))]:=by
 refine A9 Su rfl ?_;(refine goI ?_;repeat (intro gg;refine goI ?_));(refine Ab (fun h=>?_) (fun h=>?_)<;>rw[h])
 ·(refine goI ?_;repeat (intro gg;refine goI ?_));rw[Am0 h];(exact⟨[],aI⟩)
 ·(refine goI ?_;repeat (intro gg;refine goI ?_));rw[Alc h];(exact⟨[],aI⟩)
theorem Aj6[Glob](s:ByteArray)(hs:s.size≤9223372036854775807):Fun Tryz.prog 163 [.c (.v (.string s))] [.c (.v (.bool (Vb s)))]:=by
 refine A9 Th rfl ?_;(refine goI ?_;repeat (intro gg;refine goI ?_));(refine Ab (fun h=>?_) (fun h=>?_)<;>rw[h])
 ·(refine goI ?_;repeat (intro gg;refine goI ?_));rw[show Vb s=true by unfold Vb;rw[show emp s=true from h];rfl];(exact⟨[],aI⟩)
 ·(refine goI ?_;repeat (intro gg;refine goI ?_));refine .inl (cX (Dd _ hs) ?_);(refine goI ?_;repeat (intro gg;refine goI ?_));rw[show Vb s=lab s.data.toList by unfold Vb;rw[show emp s=false from h];rfl];(exact⟨[],aI⟩)
theorem Ako[Glob](m:Sv)(hm:m.ok):Fun Tryz.prog 132 [.c (.agg m.row)] [.c (.v (.int .i64 m.err))]:=by
 obtain⟨o1,o2,o3,o4⟩:=hm;refine A9 Wc rfl ?_;(refine goI ?_;repeat (intro gg;refine goI ?_));refine .inl (cX (Dd _ o1) ?_);(refine goI ?_;repeat (intro gg;refine goI ?_));(refine Ab (fun h1=>?_) (fun h1=>?_)<;>rw[h1])
 ·(refine goI ?_;repeat (intro gg;refine goI ?_))
  (rw[show m.err=1 from by(first|(simp_all;done)|(unfold Sv.err;simp_all))];(exact⟨[],aI⟩))
 ·(refine goI ?_;repeat (intro gg;refine goI ?_));refine .inl (cX (Dd _ o2) ?_);(refine goI ?_;repeat (intro gg;refine goI ?_));(refine Ab (fun h2=>?_) (fun h2=>?_)<;>rw[h2])
  ·(refine goI ?_;repeat (intro gg;refine goI ?_))
   (rw[show m.err=1 from by(first|(simp_all;done)|(unfold Sv.err;simp_all))];(exact⟨[],aI⟩))
  ·(refine goI ?_;repeat (intro gg;refine goI ?_));refine .inl (cX (Dd _ o3) ?_);(refine goI ?_;repeat (intro gg;refine goI ?_));(refine Ab (fun h3=>?_) (fun h3=>?_)<;>rw[h3])
   ·(refine goI ?_;repeat (intro gg;refine goI ?_))
    (rw[show m.err=1 from by(first|(simp_all;done)|(unfold Sv.err;simp_all))];(exact⟨[],aI⟩))
   ·(refine goI ?_;repeat (intro gg;refine goI ?_));refine .inl (cX (Aj6 _ o4) ?_);(refine goI ?_;repeat (intro gg;refine goI ?_));(refine Ab (fun h4=>?_) (fun h4=>?_)<;>rw[h4])
    ·(refine goI ?_;repeat (intro gg;refine goI ?_))
     (rw[show m.err=1 from by(first|(simp_all;done)|(unfold Sv.err;simp_all))];(exact⟨[],aI⟩))
    ·(refine goI ?_;repeat (intro gg;refine goI ?_));refine .inl (cX (O8 _ _ _) ?_);(refine goI ?_;repeat (intro gg;refine goI ?_));(refine Ab (fun h5=>?_) (fun h5=>?_)<;>rw[h5])
     ·(refine goI ?_;repeat (intro gg;refine goI ?_))
      (rw[show m.err=3 from by(first|(simp_all;done)|(unfold Sv.err;simp_all))];(exact⟨[],aI⟩))
     ·(refine goI ?_;repeat (intro gg;refine goI ?_));refine .inl (cX (O8 _ _ _) ?_);(refine goI ?_;repeat (intro gg;refine goI ?_));(refine Ab (fun h6=>?_) (fun h6=>?_)<;>rw[h6])
      ·(refine goI ?_;repeat (intro gg;refine goI ?_))
       (rw[show m.err=3 from by(first|(simp_all;done)|(unfold Sv.err;simp_all))];(exact⟨[],aI⟩))
      ·(refine goI ?_;repeat (intro gg;refine goI ?_));refine .inl (cX (O8 _ _ _) ?_);(refine goI ?_;repeat (intro gg;refine goI ?_));(refine Ab (fun h7=>?_) (fun h7=>?_)<;>rw[h7])
       ·(refine goI ?_;repeat (intro gg;refine goI ?_))
        (rw[show m.err=3 from by(first|(simp_all;done)|(unfold Sv.err;simp_all))];(exact⟨[],aI⟩))
       ·(refine goI ?_;repeat (intro gg;refine goI ?_))
        (rw[show m.err=0 from by(first|(simp_all;done)|(unfold Sv.err;simp_all))];(exact⟨[],aI⟩))
theorem Aio[Glob](m:Sv)(hm:m.ok):Fun Tryz.prog 61 [.c (.agg m.row)] [.c (.v (.int .i64 m.err))]:=by
 obtain⟨o1,o2,o3,o4⟩:=hm;refine A9 Le rfl ?_;(refine goI ?_;repeat (intro gg;refine goI ?_));refine .inl (cX (Dw _ o1) ?_);(refine goI ?_;repeat (intro gg;refine goI ?_));(refine Ab (fun h1=>?_) (fun h1=>?_)<;>rw[h1])
 ·(refine goI ?_;repeat (intro gg;refine goI ?_))
  (rw[show m.err=1 from by(first|(simp_all;done)|(unfold Sv.err;simp_all))];(exact⟨[],aI⟩))
 ·(refine goI ?_;repeat (intro gg;refine goI ?_));refine .inl (cX (Dw _ o2) ?_);(refine goI ?_;repeat (intro gg;refine goI ?_));(refine Ab (fun h2=>?_) (fun h2=>?_)<;>rw[h2])
  ·(refine goI ?_;repeat (intro gg;refine goI ?_))
   (rw[show m.err=1 from by(first|(simp_all;done)|(unfold Sv.err;simp_all))];(exact⟨[],aI⟩))
  ·(refine goI ?_;repeat (intro gg;refine goI ?_));refine .inl (cX (Dw _ o3) ?_);(refine goI ?_;repeat (intro gg;refine goI ?_));(refine Ab (fun h3=>?_) (fun h3=>?_)<;>rw[h3])
   ·(refine goI ?_;repeat (intro gg;refine goI ?_))
    (rw[show m.err=1 from by(first|(simp_all;done)|(unfold Sv.err;simp_all))];(exact⟨[],aI⟩))
   ·(refine goI ?_;repeat (intro gg;refine goI ?_));(refine Ab (fun h4=>?_) (fun h4=>?_)<;>rw[h4])
    ·have hmb:Vb m.tg=lab m.tg.data.toList:=by unfold Vb;rw[show emp m.tg=false from Dt h4];rfl
     (refine goI ?_;repeat (intro gg;refine goI ?_));refine .inl (cX (Dw _ o4) ?_);(refine goI ?_;repeat (intro gg;refine goI ?_));(refine Ab (fun h5=>?_) (fun h5=>?_)<;>rw[h5])
     ·(refine goI ?_;repeat (intro gg;refine goI ?_))
      (rw[show m.err=1 from by(first|(simp_all;done)|(unfold Sv.err;simp_all))];(exact⟨[],aI⟩))
     ·(refine goI ?_;repeat (intro gg;refine goI ?_));refine .inl (cX (K8 _) ?_);(refine goI ?_;repeat (intro gg;refine goI ?_));(refine Ab (fun h6=>?_) (fun h6=>?_)<;>rw[h6])
      ·(refine goI ?_;repeat (intro gg;refine goI ?_))
       (rw[show m.err=3 from by(first|(simp_all;done)|(unfold Sv.err;simp_all))];(exact⟨[],aI⟩))
      ·(refine goI ?_;repeat (intro gg;refine goI ?_));refine .inl (cX (Bv _ _ _) ?_);(refine goI ?_;repeat (intro gg;refine goI ?_));(refine Ab (fun h7=>?_) (fun h7=>?_)<;>rw[h7])
       ·(refine goI ?_;repeat (intro gg;refine goI ?_))
        (rw[show m.err=3 from by(first|(simp_all;done)|(unfold Sv.err;simp_all))];(exact⟨[],aI⟩))
       ·(refine goI ?_;repeat (intro gg;refine goI ?_));refine .inl (cX (Bv _ _ _) ?_);(refine goI ?_;repeat (intro gg;refine goI ?_));(refine Ab (fun h8=>?_) (fun h8=>?_)<;>rw[h8])
        ·(refine goI ?_;repeat (intro gg;refine goI ?_))
         (rw[show m.err=3 from by(first|(simp_all;done)|(unfold Sv.err;simp_all))];(exact⟨[],aI⟩))
        ·(refine goI ?_;repeat (intro gg;refine goI ?_))
         (rw[show m.err=0 from by(first|(simp_all;done)|(unfold Sv.err;simp_all))];(exact⟨[],aI⟩))
    ·have hmb:Vb m.tg=true:=by unfold Vb;rw[show emp m.tg=true from Dq h4];rfl
     (refine goI ?_;repeat (intro gg;refine goI ?_));refine .inl (cX (K8 _) ?_);(refine goI ?_;repeat (intro gg;refine goI ?_));(refine Ab (fun h6=>?_) (fun h6=>?_)<;>rw[h6])
     ·(refine goI ?_;repeat (intro gg;refine goI ?_))
      (rw[show m.err=3 from by(first|(simp_all;done)|(unfold Sv.err;simp_all))];(exact⟨[],aI⟩))
     ·(refine goI ?_;repeat (intro gg;refine goI ?_));refine .inl (cX (Bv _ _ _) ?_);(refine goI ?_;repeat (intro gg;refine goI ?_));(refine Ab (fun h7=>?_) (fun h7=>?_)<;>rw[h7])
      ·(refine goI ?_;repeat (intro gg;refine goI ?_))
       (rw[show m.err=3 from by(first|(simp_all;done)|(unfold Sv.err;simp_all))];(exact⟨[],aI⟩))
      ·(refine goI ?_;repeat (intro gg;refine goI ?_));refine .inl (cX (Bv _ _ _) ?_);(refine goI ?_;repeat (intro gg;refine goI ?_));(refine Ab (fun h8=>?_) (fun h8=>?_)<;>rw[h8])
       ·(refine goI ?_;repeat (intro gg;refine goI ?_))
        (rw[show m.err=3 from by(first|(simp_all;done)|(unfold Sv.err;simp_all))];(exact⟨[],aI⟩))
       ·(refine goI ?_;repeat (intro gg;refine goI ?_))
        (rw[show m.err=0 from by(first|(simp_all;done)|(unfold Sv.err;simp_all))];(exact⟨[],aI⟩))
theorem Aie[Glob](g x:Sv):Fun Tryz.prog 133 [.c (.agg g.row),.c (.agg x.row)] [.c (.v (.int .i64 (Sv.cf x.nd x.id g)))]:=by
 refine A9 S2 rfl ?_;(refine goI ?_;repeat (intro gg;refine goI ?_));(refine⟨_,_,false,aI,Xq _ _,Af,nI,?_⟩);(refine goI ?_;repeat (intro gg;refine goI ?_));refine .inl (cX (Xq _ _) ?_);(refine goI ?_;repeat (intro gg;refine goI ?_));(refine .inl ⟨_,_,true,[],aI,Ajn false [Fk g.nd x.nd,Fk g.id x.id] (by simp),(fun _=>fI),nI,?_⟩);(refine goI ?_;repeat (intro gg;refine goI ?_));(exact⟨[],aI⟩)
theorem Ai9[Glob](g x:Sv):Fun Tryz.prog 62 [.c (.agg g.row),.c (.agg x.row)] [.c (.v (.bool (Sv.lt g x)))]:=by
 refine A9 P5 rfl ?_;(refine goI ?_;repeat (intro gg;refine goI ?_));(refine Ab (fun h1=>?_) (fun h1=>?_)<;>rw[h1])
 ·(refine goI ?_;repeat (intro gg;refine goI ?_));rw[Sv.ahead1 h1];(exact⟨[],aI⟩)
 ·(refine goI ?_;repeat (intro gg;refine goI ?_));(refine Ab (fun h2=>?_) (fun h2=>?_)<;>rw[h2])
  ·(refine goI ?_;repeat (intro gg;refine goI ?_));rw[Sv.ahead2 h1 h2];(exact⟨[],aI⟩)
  ·(refine goI ?_;repeat (intro gg;refine goI ?_));rw[Sv.ahead3 h1 h2];(exact⟨[],aI⟩)
def Ard(l:List Sv):List V:=[.sl false (l.map Sv.row)]
theorem Af8[Glob](c:Bool)(ls:List (List Sv))(hls:ls.length≤9223372036854775807)(hl:∀l∈ls,l.length≤9223372036854775807)(hw:∀l∈ls,∀m∈l,m.ok):Fun Tryz.prog 87 [.c (.sl c (ls.map Ard))] [.c (.v (.int .i64 (Ad Gv ls)))]:=by
 refine A9 Hh rfl ?_;(refine goI ?_;repeat (intro gg;refine goI ?_));rw[ZE];(refine⟨[],none,{k:Nat//k≤ls.length∧∀j,(h:j<ls.length)→j<k→Gv (ls[j])=0},[9,10],fun⟨k,hk,h0⟩=>[(11,.v (.int .i64 k))],[],fun⟨k,hk,h0⟩=>[],fun⟨k,hk,h0⟩=>ls.length-k,trivial,fun _=>⟨trivial,fun _=>⟨⟨0,by omega,fun j _ h=>by omega⟩,tI,Ah _ _,tI,Ag _ _⟩⟩,fun⟨k,hk,h0⟩=>?_⟩);(refine goI ?_;repeat (intro gg;refine goI ?_));(refine Ab (fun h=>?_) (fun h=>?_)<;>rw[h])
 ·have hlt:k<ls.length:=by simpa using h
  (refine goI ?_;repeat (intro gg;refine goI ?_));refine⟨k,_,rfl,Am hlt,?_⟩;(refine goI ?_;repeat (intro gg;refine goI ?_));have HL:=hl _ (ZK hlt);have HW:=hw _ (ZK hlt);have HE:=Bb (e:=Gv) hlt h0;have HN:Gv ls[k]=0→∀j,(h:j<ls.length)→j<k+1→Gv (ls[j])=0:=fun e=>up1 (p:=fun j h=>Gv (ls[j])=0) h0 (fun _=>e);generalize ls[k]=l at *;rw[ZE];(refine Ab (fun h1=>?_) (fun h1=>?_)<;>rw[h1])
  ·(refine goI ?_;repeat (intro gg;refine goI ?_));have e:Gv l=2:=Ie (by have:=ZV h1;omega);rw[HE (by rw[e];decide),e];(exact⟨[],aI⟩)
  ·have h1':¬40<l.length:=(by have:=ZW h1;omega);(refine goI ?_;repeat (intro gg;refine goI ?_));rw[ZE];(refine⟨[],none,{q:Nat//q≤l.length∧∀j,(h:j<l.length)→j<q→(l[j]).err=0},[4,9,10,11,18,19],fun⟨q,hq,g0⟩=>[(20,.v (.int .i64 q))],[],fun⟨q,hq,g0⟩=>[],fun⟨q,hq,g0⟩=>l.length-q,trivial,fun _=>⟨trivial,fun _=>⟨⟨0,by omega,fun j _ h=>by omega⟩,tI,Ah _ _,tI,Ag _ _⟩⟩,fun⟨q,hq,g0⟩=>?_⟩);(refine goI ?_;repeat (intro gg;refine goI ?_));(refine Ab (fun h2=>?_) (fun h2=>?_)<;>rw[h2])
   ·have hlt2:q<l.length:=(by have:=ZV h2;omega);(refine goI ?_;repeat (intro gg;refine goI ?_));refine⟨q,_,rfl,Am hlt2,?_⟩;(refine goI ?_;repeat (intro gg;refine goI ?_));refine .inl (cX (Ako _ (HW _ (ZK hlt2))) ?_);(refine goI ?_;repeat (intro gg;refine goI ?_));(refine Ab (fun h3=>?_) (fun h3=>?_)<;>rw[h3])
    ·have h3':(l[q]).err≠0:=by simpa using h3
     have e0:=Bb hlt2 g0 h3';(refine goI ?_;repeat (intro gg;refine goI ?_));have e:Gv l=(l[q]).err:=(Di h1' (by rw[e0];exact h3')).trans e0;rw[HE (by rw[e];exact h3'),e];(exact⟨[],aI⟩)
    ·(refine goI ?_;repeat (intro gg;refine goI ?_));(exact⟨none,trivial,fun _=>⟨⟨q+1,by omega,up1 (p:=fun j h=>(l[j]).err=0) g0 (fun _=>by simpa using h3)⟩,by show l.length-(q+1)<l.length-q;omega,tI,tI,tI,tI⟩⟩)
   ·have hge2:¬q<l.length:=(by have:=ZW h2;omega);have h2':Ad Sv.err l=0:=A8 fun i hi=>g0 i hi (by omega);(refine goI ?_;repeat (intro gg;refine goI ?_));(refine⟨[],none,{k:Nat//(k<l.length∨k=0)∧∀i,(h:i+1<l.length)→i<k→Sv.lt l[i] l[i+1]=true},[4,9,10,11],fun⟨q,hq,g0⟩=>[(8,.v (.int .i64 ((q:Int)+1)))],[],fun⟨q,hq,g0⟩=>[],fun⟨q,hq,g0⟩=>l.length-q,trivial,fun _=>⟨trivial,fun _=>⟨⟨0,by omega,fun j _ h=>by omega⟩,tI,Ah _ _,tI,Ag _ _⟩⟩,fun⟨q,hq,g0⟩=>?_⟩);(refine goI ?_;repeat (intro gg;refine goI ?_));rw[ZE];(refine Ab (fun h3=>?_) (fun h3=>?_)<;>rw[h3])
    ·have hlt3:q+1<l.length:=(by have:=ZV h3;omega);(refine goI ?_;repeat (intro gg;refine goI ?_));refine⟨q,_,by omega,Am (by omega),?_⟩;(refine goI ?_;repeat (intro gg;refine goI ?_));refine⟨q+1,_,by omega,Am hlt3,?_⟩;(refine goI ?_;repeat (intro gg;refine goI ?_));refine .inl (cX (Aie _ _) ?_);(refine goI ?_;repeat (intro gg;refine goI ?_));(refine Ab (fun h4=>?_) (fun h4=>?_)<;>rw[h4])
     ·(refine goI ?_;repeat (intro gg;refine goI ?_));have e:Gv l=4:=Oi h1' h2' (D8 hlt3 (ZY (by have:=ZV h4;show¬Sv.cf l[q+1].nd l[q+1].id l[q]<0;omega)));rw[HE (by rw[e];decide),e];(exact⟨[],aI⟩)
     ·(refine goI ?_;repeat (intro gg;refine goI ?_));(exact⟨none,trivial,fun _=>⟨⟨q+1,by omega,up2 (p:=fun i h=>Sv.lt l[i] l[i+1]=true) g0 (fun _=>ZX (by have:=ZW h4;show Sv.cf l[q+1].nd l[q+1].id l[q]<0;omega))⟩,by show l.length-(q+1)<l.length-q;omega,tI,tI,tI,tI⟩⟩)
    ·have hge3:¬q+1<l.length:=(by have:=ZW h3;omega);(refine goI ?_;repeat (intro gg;refine goI ?_));have e:Gv l=0:=K0 h1' h2' (Ef fun i hi=>g0 i hi (by omega));(exact⟨none,trivial,fun _=>⟨⟨k+1,by omega,HN e⟩,by show ls.length-(k+1)<ls.length-k;omega,tI,tI,tI,tI⟩⟩)
 ·have hge:¬k<ls.length:=by simpa using h
  (refine goI ?_;repeat (intro gg;refine goI ?_));rw[A8 (l:=ls) (fun i hi=>h0 i hi (by omega))];(exact⟨[],aI⟩)
theorem Vx[Glob](l:List Sv)(hl:l.length≤9223372036854775807)(hw:∀m∈l,m.ok):Fun Tryz.prog 47 [.c (.sl false (l.map Sv.row))] [.c (.v (.int .i64 (Gv l)))]:=by
 refine A9 Mh rfl ?_;(refine goI ?_;repeat (intro gg;refine goI ?_));(refine .inl ⟨_,_,true,[],aI,Af8 false [l] (by simp) (by simpa using hl) (by simpa using hw),(fun _=>fI),nI,?_⟩);rw[Mz];(refine goI ?_;repeat (intro gg;refine goI ?_));(exact⟨[],aI⟩)
theorem Ud[Glob](c:Bool)(l:List Sv)(hl:l.length≤9223372036854775807)(hw:∀m∈l,m.ok):Fun Tryz.prog 30 [.c (.sl c (l.map Sv.row))] [.c (.v (.int .i64 (Gv l)))]:=by
 refine A9 Jz rfl ?_;(refine goI ?_;repeat (intro gg;refine goI ?_));rw[ZE];(refine Ab (fun h1=>?_) (fun h1=>?_)<;>rw[h1])
 ·(refine goI ?_;repeat (intro gg;refine goI ?_));have e:Gv l=2:=Ie (by have:=ZV h1;omega);rw[e];(exact⟨[],aI⟩)
 ·have h1':¬40<l.length:=(by have:=ZW h1;omega);(refine goI ?_;repeat (intro gg;refine goI ?_));(refine⟨[],none,{k:Nat//k≤l.length∧∀j,(h:j<l.length)→j<k→(l[j]).err=0},[0],fun⟨k,hk,h0⟩=>[(3,.v (.int .i64 k))],[],fun⟨k,hk,h0⟩=>[],fun⟨k,hk,h0⟩=>l.length-k,trivial,fun _=>⟨trivial,fun _=>⟨⟨0,by omega,fun j _ h=>by omega⟩,tI,Ah _ _,tI,Ag _ _⟩⟩,fun⟨k,hk,h0⟩=>?_⟩);(refine goI ?_;repeat (intro gg;refine goI ?_));rw[ZE];(refine Ab (fun h=>?_) (fun h=>?_)<;>rw[h])
  ·have hlt:k<l.length:=(by have:=ZV h;omega);(refine goI ?_;repeat (intro gg;refine goI ?_));refine⟨k,_,rfl,Am hlt,?_⟩;(refine goI ?_;repeat (intro gg;refine goI ?_));refine .inl (cX (Aio _ (hw _ (ZK hlt))) ?_);(refine goI ?_;repeat (intro gg;refine goI ?_));(refine Ab (fun h2=>?_) (fun h2=>?_)<;>rw[h2])
   ·(refine goI ?_;repeat (intro gg;refine goI ?_));have h2':(l[k]).err≠0:=by simpa using h2
    have e0:=Bb hlt h0 h2';have e:Gv l=(l[k]).err:=(Di h1' (by rw[e0];exact h2')).trans e0;rw[e];(exact⟨[],aI⟩)
   ·(refine goI ?_;repeat (intro gg;refine goI ?_));(exact⟨none,trivial,fun _=>⟨⟨k+1,by omega,up1 (p:=fun j h=>(l[j]).err=0) h0 (fun _=>by simpa using h2)⟩,by show l.length-(k+1)<l.length-k;omega,tI,tI,tI,tI⟩⟩)
  ·have hge:¬k<l.length:=(by have:=ZW h;omega);have h2':Ad Sv.err l=0:=A8 fun i hi=>h0 i hi (by omega);(refine goI ?_;repeat (intro gg;refine goI ?_));(refine⟨[],none,{k:Nat//(k<l.length∨k=0)∧∀i,(h:i+1<l.length)→i<k→Sv.lt l[i] l[i+1]=true},[0],fun⟨q,hq,g0⟩=>[(5,.v (.int .i64 ((q:Int)+1)))],[],fun⟨q,hq,g0⟩=>[],fun⟨q,hq,g0⟩=>l.length-q,trivial,fun _=>⟨trivial,fun _=>⟨⟨0,by omega,fun j _ h=>by omega⟩,tI,Ah _ _,tI,Ag _ _⟩⟩,fun⟨q,hq,g0⟩=>?_⟩);(refine goI ?_;repeat (intro gg;refine goI ?_));rw[ZE];(refine Ab (fun h3=>?_) (fun h3=>?_)<;>rw[h3])
   ·have hlt3:q+1<l.length:=(by have:=ZV h3;omega);(refine goI ?_;repeat (intro gg;refine goI ?_));refine⟨q,_,by omega,Am (by omega),?_⟩;(refine goI ?_;repeat (intro gg;refine goI ?_));refine⟨q+1,_,by omega,Am hlt3,?_⟩;(refine goI ?_;repeat (intro gg;refine goI ?_));refine .inl (cX (Ai9 _ _) ?_);(refine goI ?_;repeat (intro gg;refine goI ?_));(refine Ab (fun h4=>?_) (fun h4=>?_)<;>rw[h4])
    ·(refine goI ?_;repeat (intro gg;refine goI ?_));have e:Gv l=4:=Oi h1' h2' (D8 hlt3 (Dt h4));rw[e];(exact⟨[],aI⟩)
    ·(refine goI ?_;repeat (intro gg;refine goI ?_));(exact⟨none,trivial,fun _=>⟨⟨q+1,by omega,up2 (p:=fun i h=>Sv.lt l[i] l[i+1]=true) g0 (fun _=>Dq h4)⟩,by show l.length-(q+1)<l.length-q;omega,tI,tI,tI,tI⟩⟩)
   ·have hge3:¬q+1<l.length:=(by have:=ZW h3;omega);(refine goI ?_;repeat (intro gg;refine goI ?_));have e:Gv l=0:=K0 h1' h2' (Ef fun i hi=>g0 i hi (by omega));rw[e];(exact⟨[],aI⟩)
theorem Aq1:(Tryz.prog.info? 53).map (fun i=>(i.zero,i.size,i.bytes))=some (some (.agg #[.string ⟨#[]⟩,.int .i64 0,.int .i64 0]),3,32):=by kernel_rfl
def Asa(base n:Nat)(xs:List Value)(w:World)(e:Ending)(w':World):Prop:=
 ∃A' c',e=.returned (.slice A' n c')∧w'.ownsRow base 53 3 (.slice A' n c') n xs∧Below base w w'∧w.drawn≤w'.drawn
set_option maxRecDepth 100000 in
theorem Ahv(A:Option Addr)(n c:Nat)(xs:List Value)(w:World)(hA:A=none→n=0)(hn:n≤1000)(hxl:xs.length=n*3)(hx:∀ad,A=some ad→∀j u,xs[j]? =some u→w.cell? (ad.add j)=some u)(h1:∀v∈xs,v.oneCell'=true):
  Calls Tryz.prog 110 #[.slice A n c] w (Asa w.heap.size n xs w):=by
 obtain⟨i0,hi0,hz0,hzs,hzb⟩:=info_parts Aq1;cases A with
 |none=>
  obtain rfl:=hA rfl;obtain rfl:xs=[]:=XR (by simpa using hxl);clear hx hxl hi0 hz0 hzs hzb h1;have hnl:=fun(w:World)=>Lib.run_eql_slice_nil (P:=Tryz.prog) w 39 53 none 0 c 0 0 Tryz.underlying39
  go_enter Tryz.func110,Tryz.ntmps110
  go_wp2
  go_ret
  exact⟨none,0,rfl,World.ownsRow_nil _ _ _ _,Below.refl _ _,ZT _⟩
 |some ad=>
  have HX:=hid (hx ad rfl);have HXL:=hid hxl;have HZ0:=hid hz0;have HZS:=hid hzs;have HZB:=hid hzb;have HI0:=hid hi0;clear hx hxl hA hi0 hz0 hzs hzb;have hnl:=fun(w:World)=>Lib.run_eql_slice_nil (P:=Tryz.prog) w 39 53 (some ad) n c 0 0 Tryz.underlying39
  go_enter Tryz.func110,Tryz.ntmps110
  have hown0:(w.alloc (.cells #[] 53)).ownsRow w.heap.size 53 3 (.slice (some ⟨w.heap.size,0,none⟩) 0 0) 0 []:=
   ⟨by simp,.inr ⟨w.heap.size,0, #[],rfl,ZT _,heap_alloc_new w _,by omega,by simp[maxLen],by simp,by simp⟩⟩
  have HO:=hid hown0;have HX1:=hid (fun j u (hj:xs[j]? =some u)=>(World.cell?_alloc_lt w (.cells #[] 53) (ad.add j) (Vq (HX.out j u hj))).trans (HX.out j u hj));clear hown0
  go_wp2_with (at_builtin;refine H4 _ rfl _ _ 39 rfl w.heap.size 53 i0 _ 3 32 Tryz.underlying39 HI0.out HZ0.out HZS.out HZB.out rfl (by decide) _ _ _ rfl HO.out ad n c xs rfl HXL.out HX1.out h1 (by simp only[maxLen];omega) (by omega) (by simp) ?_;intro v1 w1 hown1 hg1 hd1 hat1)
  go_ret
  rw[Nat.zero_add,List.nil_append]at hown1;obtain⟨A',c',rfl⟩:=L3 hown1;exact⟨A',c',rfl,hown1,((Below.refl _ _).alloc (ZT _) _).grown hg1 (by simp) (Ed HO.out),hd1⟩
theorem Ad6[Glob]{α:Type}(enc:α→List Value)(he:∀x,(enc x).length=3)(h1:∀x,∀v∈enc x,v.oneCell'=true)(cl:Bool)(l:List α)(hl:l.length≤1000):
  Fun Tryz.prog 110 [.c (.sl cl (l.map fun x=>(enc x).map .v))] [.o 53 3 (l.map fun x=>(enc x).map .v)]:=by
 refine⟨Df Tryz.func110 (by kernel_rfl) (by kernel_rfl),fun w R xs hlt hp _=>?_⟩;obtain⟨v,rfl,hv⟩:=R6 hp;obtain⟨A,c,rfl,hA,hx⟩:=Q9 he hv;have hone:∀v∈l.flatMap enc,v.oneCell'=true:=fun v hv=>by
  obtain⟨g,_,hg⟩:=List.mem_flatMap.1 hv;exact h1 g v hg
 refine(Ahv A l.length c (l.flatMap enc) w hA hl (Jf he l) hx hone).mono ?_
 rintro e w' ⟨A',c',rfl,hown,hb,hd⟩
 exact Jy he h1 (by decide) hlt hown (Cn hb) (fun k hk=>.inr (Ed hown k hk)) (fun k hk=>by have:=Ed hown k hk;intro h;have:=hlt k h;omega)
theorem Uf[Glob](n a b:Int):Fun Tryz.prog 165 [.c (.v (.int .i64 n)),.c (.v (.int .i64 a)),.c (.v (.int .i64 b))] [.c (.v (.bool (wi n a b)))]:=by
 refine A9 Tz rfl ?_;(refine goI ?_;repeat (intro gg;refine goI ?_));(refine Ab (fun h=>?_) (fun h=>?_)<;>rw[h])
 ·(refine goI ?_;repeat (intro gg;refine goI ?_));rw[Am0 h];(exact⟨[],aI⟩)
 ·(refine goI ?_;repeat (intro gg;refine goI ?_));rw[Alc h];(exact⟨[],aI⟩)
theorem Aku[Glob](m:Gw)(hm:m.ok):Fun Tryz.prog 134 [.c (.agg m.row)] [.c (.v (.int .i64 m.err))]:=by
 refine A9 Yq rfl ?_;(refine goI ?_;repeat (intro gg;refine goI ?_));refine .inl (cX (Dd _ hm) ?_);(refine goI ?_;repeat (intro gg;refine goI ?_));(refine Ab (fun h1=>?_) (fun h1=>?_)<;>rw[h1])
 ·(refine goI ?_;repeat (intro gg;refine goI ?_))
  (rw[show m.err=1 from by(first|(simp_all;done)|(unfold Gw.err;simp_all))];(exact⟨[],aI⟩))
 ·(refine goI ?_;repeat (intro gg;refine goI ?_));refine .inl (cX (Uf _ _ _) ?_);(refine goI ?_;repeat (intro gg;refine goI ?_));(refine Ab (fun h3=>?_) (fun h3=>?_)<;>rw[h3])
  ·(refine goI ?_;repeat (intro gg;refine goI ?_))
   (rw[show m.err=3 from by(first|(simp_all;done)|(unfold Gw.err;simp_all))];(exact⟨[],aI⟩))
  ·(refine goI ?_;repeat (intro gg;refine goI ?_));refine .inl (cX (Uf _ _ _) ?_);(refine goI ?_;repeat (intro gg;refine goI ?_));(refine Ab (fun h4=>?_) (fun h4=>?_)<;>rw[h4])
   ·(refine goI ?_;repeat (intro gg;refine goI ?_))
    (rw[show m.err=3 from by(first|(simp_all;done)|(unfold Gw.err;simp_all))];(exact⟨[],aI⟩))
   ·(refine goI ?_;repeat (intro gg;refine goI ?_))
    (rw[show m.err=0 from by(first|(simp_all;done)|(unfold Gw.err;simp_all))];(exact⟨[],aI⟩))
def Arn(l:List Gw):List V:=[.sl false (l.map Gw.row)]
theorem Aea[Glob](c:Bool)(ls:List (List Gw))(hls:ls.length≤9223372036854775807)(hl:∀l∈ls,l.length≤9223372036854775807)(hw:∀l∈ls,∀m∈l,m.ok):Fun Tryz.prog 88 [.c (.sl c (ls.map Arn))] [.c (.v (.int .i64 (Ad Gz ls)))]:=by
 refine A9 Ik rfl ?_;(refine goI ?_;repeat (intro gg;refine goI ?_));rw[ZE];(refine⟨[],none,{k:Nat//k≤ls.length∧∀j,(h:j<ls.length)→j<k→Gz (ls[j])=0},[9,10],fun⟨k,hk,h0⟩=>[(11,.v (.int .i64 k))],[],fun⟨k,hk,h0⟩=>[],fun⟨k,hk,h0⟩=>ls.length-k,trivial,fun _=>⟨trivial,fun _=>⟨⟨0,by omega,fun j _ h=>by omega⟩,tI,Ah _ _,tI,Ag _ _⟩⟩,fun⟨k,hk,h0⟩=>?_⟩);(refine goI ?_;repeat (intro gg;refine goI ?_));(refine Ab (fun h=>?_) (fun h=>?_)<;>rw[h])
 ·have hlt:k<ls.length:=by simpa using h
  (refine goI ?_;repeat (intro gg;refine goI ?_));refine⟨k,_,rfl,Am hlt,?_⟩;(refine goI ?_;repeat (intro gg;refine goI ?_));have HL:=hl _ (ZK hlt);have HW:=hw _ (ZK hlt);have HE:=Bb (e:=Gz) hlt h0;have HN:Gz ls[k]=0→∀j,(h:j<ls.length)→j<k+1→Gz (ls[j])=0:=fun e=>up1 (p:=fun j h=>Gz (ls[j])=0) h0 (fun _=>e);generalize ls[k]=l at *;rw[ZE];(refine Ab (fun h1=>?_) (fun h1=>?_)<;>rw[h1])
  ·(refine goI ?_;repeat (intro gg;refine goI ?_));have e:Gz l=2:=Ie (by have:=ZV h1;omega);rw[HE (by rw[e];decide),e];(exact⟨[],aI⟩)
  ·have h1':¬6<l.length:=(by have:=ZW h1;omega);(refine goI ?_;repeat (intro gg;refine goI ?_));rw[ZE];(refine⟨[],none,{k:Nat//k≤l.length∧∀j,(h:j<l.length)→j<k→(l[j]).err=0},[4,9,10,11,18,19],fun⟨p,hp,p0⟩=>[(20,.v (.int .i64 p))],[],fun⟨p,hp,p0⟩=>[],fun⟨p,hp,p0⟩=>l.length-p,trivial,fun _=>⟨trivial,fun _=>⟨⟨0,by omega,fun j _ h=>by omega⟩,tI,Ah _ _,tI,Ag _ _⟩⟩,fun⟨p,hp,p0⟩=>?_⟩);(refine goI ?_;repeat (intro gg;refine goI ?_));(refine Ab (fun h2=>?_) (fun h2=>?_)<;>rw[h2])
   ·have hlt2:p<l.length:=(by have:=ZV h2;omega);(refine goI ?_;repeat (intro gg;refine goI ?_));refine⟨p,_,rfl,Am hlt2,?_⟩;(refine goI ?_;repeat (intro gg;refine goI ?_));refine .inl (cX (Aku _ (HW _ (ZK hlt2))) ?_);(refine goI ?_;repeat (intro gg;refine goI ?_));(refine Ab (fun h5=>?_) (fun h5=>?_)<;>rw[h5])
    ·(refine goI ?_;repeat (intro gg;refine goI ?_));have h5':(l[p]).err≠0:=by simpa using h5
     have e0:=Bb hlt2 p0 h5';have e:Gz l=(l[p]).err:=(Di h1' (by rw[e0];exact h5')).trans e0;rw[HE (by rw[e];exact h5'),e];(exact⟨[],aI⟩)
    ·(refine goI ?_;repeat (intro gg;refine goI ?_));(exact⟨none,trivial,fun _=>⟨⟨p+1,by omega,up1 (p:=fun j h=>(l[j]).err=0) p0 (fun _=>by simpa using h5)⟩,by show l.length-(p+1)<l.length-p;omega,tI,tI,tI,tI⟩⟩)
   ·have hge2:¬p<l.length:=(by have:=ZW h2;omega);have h2':Ad Gw.err l=0:=A8 fun i hi=>p0 i hi (by omega);(refine goI ?_;repeat (intro gg;refine goI ?_));(refine⟨[],none,{k:Nat//(k<l.length∨k=0)∧∀i,(h:i+1<l.length)→i<k→Gw.lt l[i] l[i+1]=true},[4,9,10,11],fun⟨q,hq,g0⟩=>[(8,.v (.int .i64 ((q:Int)+1)))],[],fun⟨q,hq,g0⟩=>[],fun⟨q,hq,g0⟩=>l.length-q,trivial,fun _=>⟨trivial,fun _=>⟨⟨0,by omega,fun j _ h=>by omega⟩,tI,Ah _ _,tI,Ag _ _⟩⟩,fun⟨q,hq,g0⟩=>?_⟩);(refine goI ?_;repeat (intro gg;refine goI ?_));rw[ZE];(refine Ab (fun h3=>?_) (fun h3=>?_)<;>rw[h3])
    ·have hlt3:q+1<l.length:=(by have:=ZV h3;omega);(refine goI ?_;repeat (intro gg;refine goI ?_));refine⟨q+1,_,by omega,Am hlt3,?_⟩;(refine goI ?_;repeat (intro gg;refine goI ?_));refine⟨q,_,by omega,Am (by omega),?_⟩;(refine goI ?_;repeat (intro gg;refine goI ?_));rw[Tm];(refine Ab (fun h4=>?_) (fun h4=>?_)<;>rw[h4])
     ·(refine goI ?_;repeat (intro gg;refine goI ?_));have e:Gz l=4:=Oi h1' h2' (D8 hlt3 (by simpa[Gw.lt]using h4));rw[HE (by rw[e];decide),e];(exact⟨[],aI⟩)
     ·(refine goI ?_;repeat (intro gg;refine goI ?_));(exact⟨none,trivial,fun _=>⟨⟨q+1,by omega,up2 (p:=fun i h=>Gw.lt l[i] l[i+1]=true) g0 (fun _=>by simpa[Gw.lt]using h4)⟩,by show l.length-(q+1)<l.length-q;omega,tI,tI,tI,tI⟩⟩)
    ·have hge3:¬q+1<l.length:=(by have:=ZW h3;omega);(refine goI ?_;repeat (intro gg;refine goI ?_));have e:Gz l=0:=K0 h1' h2' (Ef fun i hi=>g0 i hi (by omega));(exact⟨none,trivial,fun _=>⟨⟨k+1,by omega,HN e⟩,by show ls.length-(k+1)<ls.length-k;omega,tI,tI,tI,tI⟩⟩)
 ·have hge:¬k<ls.length:=by simpa using h
  (refine goI ?_;repeat (intro gg;refine goI ?_));rw[A8 (l:=ls) (fun i hi=>h0 i hi (by omega))];(exact⟨[],aI⟩)
theorem W8[Glob](l:List Gw)(hl:l.length≤9223372036854775807)(hw:∀m∈l,m.ok):Fun Tryz.prog 48 [.c (.sl false (l.map Gw.row))] [.c (.v (.int .i64 (Gz l)))]:=by
 refine A9 Nx rfl ?_;(refine goI ?_;repeat (intro gg;refine goI ?_));(refine .inl ⟨_,_,true,[],aI,Aea false [l] (by simp) (by simpa using hl) (by simpa using hw),(fun _=>fI),nI,?_⟩);rw[Mz];(refine goI ?_;repeat (intro gg;refine goI ?_));(exact⟨[],aI⟩)
theorem Uy[Glob](c:Bool)(l:List Gw)(hl:l.length≤9223372036854775807)(hw:∀m∈l,m.ok):Fun Tryz.prog 31 [.c (.sl c (l.map Gw.row))] [.c (.v (.int .i64 (Gz l)))]:=by
 refine A9 Is rfl ?_;(refine goI ?_;repeat (intro gg;refine goI ?_));rw[ZE];(refine Ab (fun h1=>?_) (fun h1=>?_)<;>rw[h1])
 ·(refine goI ?_;repeat (intro gg;refine goI ?_));have e:Gz l=2:=Ie (by have:=ZV h1;omega);rw[e];(exact⟨[],aI⟩)
 ·have h1':¬6<l.length:=(by have:=ZW h1;omega);(refine goI ?_;repeat (intro gg;refine goI ?_));(refine⟨[],none,{k:Nat//k≤l.length∧∀j,(h:j<l.length)→j<k→(l[j]).err=0},[0],fun⟨k,hk,h0⟩=>[(3,.v (.int .i64 k))],[],fun⟨k,hk,h0⟩=>[],fun⟨k,hk,h0⟩=>l.length-k,trivial,fun _=>⟨trivial,fun _=>⟨⟨0,by omega,fun j _ h=>by omega⟩,tI,Ah _ _,tI,Ag _ _⟩⟩,fun⟨k,hk,h0⟩=>?_⟩);(refine goI ?_;repeat (intro gg;refine goI ?_));rw[ZE];(refine Ab (fun h=>?_) (fun h=>?_)<;>rw[h])
  ·have hlt:k<l.length:=(by have:=ZV h;omega);have hE:(l[k]).err≠0→Gz l=(l[k]).err:=fun h2'=>by
    have e0:=Bb hlt h0 h2';exact(Di h1' (by rw[e0];exact h2')).trans e0
   have hN:(l[k]).err=0→_:=fun e=>up1 (p:=fun j h=>(l[j]).err=0) h0 (fun _=>e);(refine goI ?_;repeat (intro gg;refine goI ?_));refine⟨k,_,rfl,Am hlt,?_⟩;(refine goI ?_;repeat (intro gg;refine goI ?_));refine .inl (cX (Dw _ (hw _ (ZK hlt))) ?_);(refine goI ?_;repeat (intro gg;refine goI ?_));(refine Ab (fun h2=>?_) (fun h2=>?_)<;>rw[h2])
   ·(refine goI ?_;repeat (intro gg;refine goI ?_));have e1:(l[k]).err=1:=by unfold Gw.err;simp_all
    rw[hE (by rw[e1];decide),e1];(exact⟨[],aI⟩)
   ·(refine goI ?_;repeat (intro gg;refine goI ?_));refine⟨k,_,rfl,Am hlt,?_⟩;(refine goI ?_;repeat (intro gg;refine goI ?_));refine .inl (cX (K8 _) ?_);(refine goI ?_;repeat (intro gg;refine goI ?_));(refine Ab (fun h3=>?_) (fun h3=>?_)<;>rw[h3])
    ·(refine goI ?_;repeat (intro gg;refine goI ?_));have e1:(l[k]).err=3:=by unfold Gw.err;simp_all
     rw[hE (by rw[e1];decide),e1];(exact⟨[],aI⟩)
    ·(refine goI ?_;repeat (intro gg;refine goI ?_));refine⟨k,_,rfl,Am hlt,?_⟩;(refine goI ?_;repeat (intro gg;refine goI ?_));refine .inl (cX (Bv _ _ _) ?_);(refine goI ?_;repeat (intro gg;refine goI ?_));(refine Ab (fun h4=>?_) (fun h4=>?_)<;>rw[h4])
     ·(refine goI ?_;repeat (intro gg;refine goI ?_));have e1:(l[k]).err=3:=by unfold Gw.err;simp_all
      rw[hE (by rw[e1];decide),e1];(exact⟨[],aI⟩)
     ·have e1:(l[k]).err=0:=by unfold Gw.err;simp_all
      (refine goI ?_;repeat (intro gg;refine goI ?_));(exact⟨none,trivial,fun _=>⟨⟨k+1,by omega,hN e1⟩,by show l.length-(k+1)<l.length-k;omega,tI,tI,tI,tI⟩⟩)
  ·have hge:¬k<l.length:=(by have:=ZW h;omega);have h2':Ad Gw.err l=0:=A8 fun i hi=>h0 i hi (by omega);(refine goI ?_;repeat (intro gg;refine goI ?_));(refine⟨[],none,{k:Nat//(k<l.length∨k=0)∧∀i,(h:i+1<l.length)→i<k→Gw.lt l[i] l[i+1]=true},[0],fun⟨q,hq,g0⟩=>[(4,.v (.int .i64 ((q:Int)+1)))],[],fun⟨q,hq,g0⟩=>[],fun⟨q,hq,g0⟩=>l.length-q,trivial,fun _=>⟨trivial,fun _=>⟨⟨0,by omega,fun j _ h=>by omega⟩,tI,Ah _ _,tI,Ag _ _⟩⟩,fun⟨q,hq,g0⟩=>?_⟩);(refine goI ?_;repeat (intro gg;refine goI ?_));rw[ZE];(refine Ab (fun h3=>?_) (fun h3=>?_)<;>rw[h3])
   ·have hlt3:q+1<l.length:=(by have:=ZV h3;omega);(refine goI ?_;repeat (intro gg;refine goI ?_));refine⟨q+1,_,by omega,Am hlt3,?_⟩;(refine goI ?_;repeat (intro gg;refine goI ?_));refine⟨q,_,by omega,Am (by omega),?_⟩;(refine goI ?_;repeat (intro gg;refine goI ?_));rw[Tm];(refine Ab (fun h4=>?_) (fun h4=>?_)<;>rw[h4])
    ·(refine goI ?_;repeat (intro gg;refine goI ?_));have e:Gz l=4:=Oi h1' h2' (D8 hlt3 (by simpa[Gw.lt]using h4));rw[e];(exact⟨[],aI⟩)
    ·(refine goI ?_;repeat (intro gg;refine goI ?_));(exact⟨none,trivial,fun _=>⟨⟨q+1,by omega,up2 (p:=fun i h=>Gw.lt l[i] l[i+1]=true) g0 (fun _=>by simpa[Gw.lt]using h4)⟩,by show l.length-(q+1)<l.length-q;omega,tI,tI,tI,tI⟩⟩)
   ·have hge3:¬q+1<l.length:=(by have:=ZW h3;omega);(refine goI ?_;repeat (intro gg;refine goI ?_));have e:Gz l=0:=K0 h1' h2' (Ef fun i hi=>g0 i hi (by omega));rw[e];(exact⟨[],aI⟩)
end Go.Proofs.YtchbkgnobpejnaaGreatDoor

namespace Go.Proofs.YtchbkgnobpejnaaGreatDoor
open Go.RowKit Pl
theorem Pe[Glob](n a b:Int):Fun Tryz.prog 90 [.c (.v (.int .i64 n)),.c (.v (.int .i64 a)),.c (.v (.int .i64 b))] [.c (.v (.bool (wi n a b)))]:=by
 refine A9 Dn rfl ?_;(refine goI ?_;repeat (intro gg;refine goI ?_));(refine Ab (fun h=>?_) (fun h=>?_)<;>rw[h])
 ·(refine goI ?_;repeat (intro gg;refine goI ?_));rw[Am0 h];(exact⟨[],aI⟩)
 ·(refine goI ?_;repeat (intro gg;refine goI ?_));rw[Alc h];(exact⟨[],aI⟩)
theorem Xt[Glob](n:Int):Fun Tryz.prog 89 [.c (.v (.int .i64 n))] [.c (.v (.bool (wi n (-10000000) 10000000)))]:=by
 refine A9 Ff rfl ?_;(refine goI ?_;repeat (intro gg;refine goI ?_));refine .inl (cX (Pe _ _ _) ?_);(refine goI ?_;repeat (intro gg;refine goI ?_));(exact⟨[],aI⟩)
theorem Am4{x y z h s:Int}(h1:wi x (-10000000) 10000000=true)(h2:wi y (-10000000) 10000000=true)(h3:wi z (-10000000) 10000000=true)(h4:wi h 0 1000000=true)(h5:wi s 0 1000=true):Afu x y z h s=0:=by simp[Afu,Ajz,h1,h2,h3,h4,h5]
theorem Lf{x y z h s:Int}(h1:wi x (-10000000) 10000000=false∨wi y (-10000000) 10000000=false∨wi z (-10000000) 10000000=false∨wi h 0 1000000=false∨wi s 0 1000=false):Afu x y z h s=3:=by
 rcases h1 with h|h|h|h|h<;>simp[Afu,Ajz,h]
theorem X9[Glob](p:Pc):Fun Tryz.prog 49 [.c (.agg p.row)] [.c (.v (.int .i64 p.err))]:=by
 refine A9 Oq rfl ?_;(refine goI ?_;repeat (intro gg;refine goI ?_));refine .inl (cX (Xt _) ?_);(refine goI ?_;repeat (intro gg;refine goI ?_));(refine Ab (fun h1=>?_) (fun h1=>?_)<;>rw[h1])
 ·(refine goI ?_;repeat (intro gg;refine goI ?_));rw[show p.err=3 from Lf (.inl (Dt h1))];(exact⟨[],aI⟩)
 ·(refine goI ?_;repeat (intro gg;refine goI ?_));refine .inl (cX (Xt _) ?_);(refine goI ?_;repeat (intro gg;refine goI ?_));(refine Ab (fun h2=>?_) (fun h2=>?_)<;>rw[h2])
  ·(refine goI ?_;repeat (intro gg;refine goI ?_));rw[show p.err=3 from Lf (.inr (.inl (Dt h2)))];(exact⟨[],aI⟩)
  ·(refine goI ?_;repeat (intro gg;refine goI ?_));refine .inl (cX (Xt _) ?_);(refine goI ?_;repeat (intro gg;refine goI ?_));(refine Ab (fun h3=>?_) (fun h3=>?_)<;>rw[h3])
   ·(refine goI ?_;repeat (intro gg;refine goI ?_));rw[show p.err=3 from Lf (.inr (.inr (.inl (Dt h3))))];(exact⟨[],aI⟩)
   ·(refine goI ?_;repeat (intro gg;refine goI ?_));refine .inl (cX (Pe _ _ _) ?_);(refine goI ?_;repeat (intro gg;refine goI ?_));(refine Ab (fun h4=>?_) (fun h4=>?_)<;>rw[h4])
    ·(refine goI ?_;repeat (intro gg;refine goI ?_));rw[show p.err=3 from Lf (.inr (.inr (.inr (.inl (Dt h4)))))];(exact⟨[],aI⟩)
    ·(refine goI ?_;repeat (intro gg;refine goI ?_));refine .inl (cX (Pe _ _ _) ?_);(refine goI ?_;repeat (intro gg;refine goI ?_));(refine Ab (fun h5=>?_) (fun h5=>?_)<;>rw[h5])
     ·(refine goI ?_;repeat (intro gg;refine goI ?_));rw[show p.err=3 from Lf (.inr (.inr (.inr (.inr (Dt h5)))))];(exact⟨[],aI⟩)
     ·(refine goI ?_;repeat (intro gg;refine goI ?_));rw[show p.err=0 from Am4 (Dq h1) (Dq h2) (Dq h3) (Dq h4) (Dq h5)];(exact⟨[],aI⟩)
theorem Ua[Glob](p:Pc):Fun Tryz.prog 32 [.c (.agg p.row)] [.c (.v (.int .i64 p.err))]:=by
 refine A9 Ly rfl ?_;(refine goI ?_;repeat (intro gg;refine goI ?_));refine .inl (cX (Bv _ _ _) ?_);(refine goI ?_;repeat (intro gg;refine goI ?_));(refine Ab (fun h1=>?_) (fun h1=>?_)<;>rw[h1])
 ·(refine goI ?_;repeat (intro gg;refine goI ?_));rw[show p.err=3 from Lf (.inl (Dt h1))];(exact⟨[],aI⟩)
 ·(refine goI ?_;repeat (intro gg;refine goI ?_));refine .inl (cX (Bv _ _ _) ?_);(refine goI ?_;repeat (intro gg;refine goI ?_));(refine Ab (fun h2=>?_) (fun h2=>?_)<;>rw[h2])
  ·(refine goI ?_;repeat (intro gg;refine goI ?_));rw[show p.err=3 from Lf (.inr (.inl (Dt h2)))];(exact⟨[],aI⟩)
  ·(refine goI ?_;repeat (intro gg;refine goI ?_));refine .inl (cX (Bv _ _ _) ?_);(refine goI ?_;repeat (intro gg;refine goI ?_));(refine Ab (fun h3=>?_) (fun h3=>?_)<;>rw[h3])
   ·(refine goI ?_;repeat (intro gg;refine goI ?_));rw[show p.err=3 from Lf (.inr (.inr (.inl (Dt h3))))];(exact⟨[],aI⟩)
   ·(refine goI ?_;repeat (intro gg;refine goI ?_));refine .inl (cX (Bv _ _ _) ?_);(refine goI ?_;repeat (intro gg;refine goI ?_));(refine Ab (fun h4=>?_) (fun h4=>?_)<;>rw[h4])
    ·(refine goI ?_;repeat (intro gg;refine goI ?_));rw[show p.err=3 from Lf (.inr (.inr (.inr (.inl (Dt h4)))))];(exact⟨[],aI⟩)
    ·(refine goI ?_;repeat (intro gg;refine goI ?_));refine .inl (cX (Bv _ _ _) ?_);(refine goI ?_;repeat (intro gg;refine goI ?_));(refine Ab (fun h5=>?_) (fun h5=>?_)<;>rw[h5])
     ·(refine goI ?_;repeat (intro gg;refine goI ?_));rw[show p.err=3 from Lf (.inr (.inr (.inr (.inr (Dt h5)))))];(exact⟨[],aI⟩)
     ·(refine goI ?_;repeat (intro gg;refine goI ?_));rw[show p.err=0 from Am4 (Dq h1) (Dq h2) (Dq h3) (Dq h4) (Dq h5)];(exact⟨[],aI⟩)
theorem Xp[Glob](c:Bool)(l:List Wh)(hl:l.length≤9223372036854775807)(hw:∀x∈l,x.ok):Fun Tryz.prog 50 [.c (.sl c (l.map Wh.row))] [.c (.v (.int .i64 (G4 l)))]:=by
 refine A9 L2 rfl ?_;(refine goI ?_;repeat (intro gg;refine goI ?_));rw[ZE];(refine Ab (fun h1=>?_) (fun h1=>?_)<;>rw[h1])
 ·(refine goI ?_;repeat (intro gg;refine goI ?_));have e:G4 l=2:=Ie (by have:=ZV h1;omega);rw[e];(exact⟨[],aI⟩)
 ·have h1':¬20<l.length:=(by have:=ZW h1;omega);(refine goI ?_;repeat (intro gg;refine goI ?_));rw[ZE];(refine⟨[],none,{k:Nat//k≤l.length∧∀j,(h:j<l.length)→j<k→Wh.err l[j]=0},[0,10,11],fun⟨k,hk,h0⟩=>[(12,.v (.int .i64 k))],[],fun⟨k,hk,h0⟩=>[],fun⟨k,hk,h0⟩=>l.length-k,trivial,fun _=>⟨trivial,fun _=>⟨⟨0,ZU _,fun j _ h=>absurd h (Nat.not_lt_zero _)⟩,tI,Ah _ _,tI,Ag _ _⟩⟩,fun⟨k,hk,h0⟩=>?_⟩);(refine goI ?_;repeat (intro gg;refine goI ?_));(refine Ab (fun h2=>?_) (fun h2=>?_)<;>rw[h2])
  ·have hlt:k<l.length:=(by have:=ZV h2;omega);(refine goI ?_;repeat (intro gg;refine goI ?_));refine⟨k,_,rfl,Am hlt,?_⟩;(refine goI ?_;repeat (intro gg;refine goI ?_));have hx:=hw _ (ZK hlt);refine .inl (cX (Dd (l[k]).nd hx) ?_);(refine goI ?_;repeat (intro gg;refine goI ?_));have HE:=Bb (e:=Wh.err) hlt h0;(refine Ab (fun h3=>?_) (fun h3=>?_)<;>rw[h3])
   ·have h3':lab (l[k]).nd.data.toList=false:=Dt h3;(refine goI ?_;repeat (intro gg;refine goI ?_));have e1:Wh.err l[k]=1:=by unfold Wh.err;rw[h3'];rfl
    have e:G4 l=1:=by unfold G4;rw[Di h1' (by rw[HE (by rw[e1];decide),e1];decide),HE (by rw[e1];decide),e1]
    rw[e];(exact⟨[],aI⟩)
   ·have h3':lab (l[k]).nd.data.toList=true:=Dq h3;have e1:Wh.err l[k]=(l[k]).pl.err:=by unfold Wh.err;rw[h3'];rfl
    (refine goI ?_;repeat (intro gg;refine goI ?_));refine .inl (cX (X9 (l[k]).pl) ?_);(refine goI ?_;repeat (intro gg;refine goI ?_));(refine Ab (fun h4=>?_) (fun h4=>?_)<;>rw[h4])
    ·have h4':(l[k]).pl.err≠0:=by simpa using h4
     (refine goI ?_;repeat (intro gg;refine goI ?_));have e:G4 l=(l[k]).pl.err:=by unfold G4;rw[Di h1' (by rw[HE (by rw[e1];exact h4'),e1];exact h4'),HE (by rw[e1];exact h4'),e1]
     rw[e];(exact⟨[],aI⟩)
    ·have h4':(l[k]).pl.err=0:=by simpa using h4
     (refine goI ?_;repeat (intro gg;refine goI ?_));(exact⟨none,trivial,fun _=>⟨⟨k+1,by omega,up1 (p:=fun j h=>Wh.err l[j]=0) h0 (fun _=>e1.trans h4')⟩,by show l.length-(k+1)<l.length-k;omega,tI,tI,tI,tI⟩⟩)
  ·have hge:¬k<l.length:=(by have:=ZW h2;omega);have h2':Ad Wh.err l=0:=A8 fun i hi=>h0 i hi (by omega);(refine goI ?_;repeat (intro gg;refine goI ?_));(refine⟨[],none,{q:Nat//(q<l.length∨q=0)∧∀i,(h:i+1<l.length)→i<q→Wh.lt l[i] l[i+1]=true},[0],fun⟨q,hq,g0⟩=>[(6,.v (.int .i64 ((q:Int)+1)))],[],fun⟨q,hq,g0⟩=>[],fun⟨q,hq,g0⟩=>l.length-q,trivial,fun _=>⟨trivial,fun _=>⟨⟨0,by omega,fun j _ h=>by omega⟩,tI,Ah _ _,tI,Ag _ _⟩⟩,fun⟨q,hq,g0⟩=>?_⟩);(refine goI ?_;repeat (intro gg;refine goI ?_));rw[ZE];(refine Ab (fun h3=>?_) (fun h3=>?_)<;>rw[h3])
   ·have hlt3:q+1<l.length:=(by have:=ZV h3;omega);(refine goI ?_;repeat (intro gg;refine goI ?_));refine⟨q+1,_,by omega,Am hlt3,?_⟩;(refine goI ?_;repeat (intro gg;refine goI ?_));refine⟨q,_,by omega,Am (by omega),?_⟩;(refine goI ?_;repeat (intro gg;refine goI ?_));rw[Tm];(refine Ab (fun h4=>?_) (fun h4=>?_)<;>rw[h4])
    ·(refine goI ?_;repeat (intro gg;refine goI ?_));have e:G4 l=4:=Oi h1' h2' (D8 hlt3 (by simpa[Wh.lt]using h4));rw[e];(exact⟨[],aI⟩)
    ·(refine goI ?_;repeat (intro gg;refine goI ?_));(exact⟨none,trivial,fun _=>⟨⟨q+1,by omega,up2 (p:=fun i h=>Wh.lt l[i] l[i+1]=true) g0 (fun _=>by simpa[Wh.lt]using h4)⟩,by show l.length-(q+1)<l.length-q;omega,tI,tI,tI,tI⟩⟩)
   ·have hge3:¬q+1<l.length:=(by have:=ZW h3;omega);(refine goI ?_;repeat (intro gg;refine goI ?_));have e:G4 l=0:=K0 h1' h2' (Ef fun i hi=>g0 i hi (by omega));rw[e];(exact⟨[],aI⟩)
theorem Aad{α:Type}{p:α→Bool}{l:List α}{k:Nat}(h:k<l.length)(hp:p l[k]=false):l.all p=false:=by
 rw[List.all_eq_false];exact⟨l[k],ZK h,by rw[hp];simp⟩
def Aiy(x:Int):List V:=[.v (.int .i64 x)]
instance:FlatRow Aiy:=⟨fun x u hu=>by simp[Aiy]at hu;subst hu;exact⟨_,rfl⟩⟩
theorem Af7[Glob](n:Nd)(h:n.ok)(hm:Gj n.ms=0):Fun Tryz.prog 52 [.c (.agg n.row)] [.c (.v (.bool (n.rs.all (Te n.ms))))]:=by
 have hi:=Re hm;have hrl:=h.rsl;refine A9 Jh rfl ?_;(refine goI ?_;repeat (intro gg;refine goI ?_));rw[ZE];(refine⟨[],none,{k:Nat//k≤n.rs.length∧∀j,(h:j<n.rs.length)→j<k→Te n.ms n.rs[j]=true},[1,8,9],fun⟨k,hk,h0⟩=>[(10,.v (.int .i64 k))],[16],fun⟨k,hk,h0⟩=>[],fun⟨k,hk,h0⟩=>n.rs.length-k,trivial,fun _=>⟨trivial,fun _=>⟨⟨0,ZU _,fun j _ h=>absurd h (Nat.not_lt_zero _)⟩,tI,Ah _ _,tI,Ag _ _⟩⟩,fun⟨k,hk,h0⟩=>?_⟩);(refine goI ?_;repeat (intro gg;refine goI ?_));(refine Ab (fun h1=>?_) (fun h1=>?_)<;>rw[h1])
 ·have hlt:k<n.rs.length:=(by have:=ZV h1;omega);(refine goI ?_;repeat (intro gg;refine goI ?_));refine⟨k,_,rfl,Am hlt,?_⟩;(refine goI ?_;repeat (intro gg;refine goI ?_));(refine .inl ⟨_,_,false,[],aI,Zw false n.ms (n.rs[k]).m.n (by omega) (Mb.smono hi.2.2 _).mono,Af,nI,?_⟩);(refine goI ?_;repeat (intro gg;refine goI ?_));(refine Ab (fun h3=>?_) (fun h3=>?_)<;>rw[h3])
  ·have h3':=Dt h3;(refine goI ?_;repeat (intro gg;refine goI ?_));rw[Aad hlt (Agm h3')];(exact⟨[],aI⟩)
  ·have h3':=Dq h3;have hl2:=M9 h3';have hro:=Age h3' (ZC hl2);(refine goI ?_;repeat (intro gg;refine goI ?_));refine⟨low (Mb.cf (n.rs[k]).m.n) n.ms,_,rfl,Am hl2,?_⟩;(refine goI ?_;repeat (intro gg;refine goI ?_));refine .inl (cX (Al8 (n.rs[k]).m (n.ms[low (Mb.cf (n.rs[k]).m.n) n.ms])) ?_);(refine goI ?_;repeat (intro gg;refine goI ?_));(refine Ab (fun h4=>?_) (fun h4=>?_)<;>rw[h4])
   ·have h4':=ZV h4;(refine goI ?_;repeat (intro gg;refine goI ?_));rw[Aad hlt (by rw[hro];exact ZY (by omega))];(exact⟨[],aI⟩)
   ·have h4':=ZW h4;(refine goI ?_;repeat (intro gg;refine goI ?_));(exact⟨none,trivial,fun _=>⟨⟨k+1,by omega,up1 (p:=fun j h=>Te n.ms n.rs[j]=true) h0 (fun _=>by rw[hro];exact ZX (by omega))⟩,by show n.rs.length-(k+1)<n.rs.length-k;omega,tI,tI,tI,tI⟩⟩)
 ·have hge:¬k<n.rs.length:=(by have:=ZW h1;omega);(refine goI ?_;repeat (intro gg;refine goI ?_));rw[show n.rs.all (Te n.ms)=true from List.all_eq_true.2 fun r hr=>by obtain⟨j,hj,rfl⟩:=List.mem_iff_getElem.1 hr;exact h0 j hj (by omega)];(exact⟨[],aI⟩)
theorem Adn[Glob](n:Nd)(h:n.ok):Fun Tryz.prog 20 [.c (.agg n.row)] [.c (.v (.int .i64 n.err))]:=by
 refine A9 Ls rfl ?_;(refine goI ?_;repeat (intro gg;refine goI ?_));refine .inl (cX (Dd n.nm h.nm) ?_);(refine goI ?_;repeat (intro gg;refine goI ?_));(refine Ab (fun h1=>?_) (fun h1=>?_)<;>rw[h1])
 ·(refine goI ?_;repeat (intro gg;refine goI ?_));rw[Nd.err_form (.inl (Dt h1))];(exact⟨[],aI⟩)
 ·have h1':=Dq h1;(refine goI ?_;repeat (intro gg;refine goI ?_));refine .inl (cX (Dd n.ce h.ce) ?_);(refine goI ?_;repeat (intro gg;refine goI ?_));(refine Ab (fun h2=>?_) (fun h2=>?_)<;>rw[h2])
  ·(refine goI ?_;repeat (intro gg;refine goI ?_));rw[Nd.err_form (.inr (Dt h2))];(exact⟨[],aI⟩)
  ·have h2':=Dq h2;(refine goI ?_;repeat (intro gg;refine goI ?_));(refine⟨_,_,false,aI,Wf n.ms h.msl h.ms,Af,nI,?_⟩);(refine goI ?_;repeat (intro gg;refine goI ?_));(refine⟨_,_,false,aI,Acs false n.rs h.rsl h.rs,Af,nI,?_⟩);(refine goI ?_;repeat (intro gg;refine goI ?_));(refine⟨_,_,false,aI,Vx n.sv h.svl h.sv,Af,nI,?_⟩);(refine goI ?_;repeat (intro gg;refine goI ?_));(refine⟨_,_,false,aI,W8 n.gs h.gsl h.gs,Af,nI,?_⟩);(refine goI ?_;repeat (intro gg;refine goI ?_));(refine⟨_,_,false,aI,X9 n.pl,Af,nI,?_⟩);(refine goI ?_;repeat (intro gg;refine goI ?_));(refine⟨_,_,false,aI,Xp false n.wh h.whl h.wh,Af,nI,?_⟩);(refine goI ?_;repeat (intro gg;refine goI ?_));(refine⟨[],none,{k:Nat//k≤6∧∀j,(h:j<n.cks.length)→j<k→n.cks[j]=0},[1,35,36],fun⟨k,hk,h0⟩=>[(37,.v (.int .i64 k))],[16,560],fun⟨k,hk,h0⟩=>[],fun⟨k,hk,h0⟩=>6-k,trivial,fun _=>⟨trivial,fun _=>⟨⟨0,ZU _,fun j _ h=>absurd h (Nat.not_lt_zero _)⟩,tI,Ah _ _,tI,Ag _ _⟩⟩,fun⟨k,hk,h0⟩=>?_⟩);(refine goI ?_;repeat (intro gg;refine goI ?_));have hk6:k≤6:=hk;(refine Ab (fun h3=>?_) (fun h3=>?_)<;>rw[h3])
   ·have hlt6:k<6:=by have h4:=ZV h3;have h5:(k:Int)<6:=h4;omega
    have hlt:k<n.cks.length:=hlt6;(refine goI ?_;repeat (intro gg;refine goI ?_));refine⟨k,_,rfl,Am (f:=Aiy) (l:=n.cks) hlt,?_⟩;(refine goI ?_;repeat (intro gg;refine goI ?_));refine⟨_,Am (f:=Aiy) (l:=n.cks) hlt,?_⟩;(refine goI ?_;repeat (intro gg;refine goI ?_));(refine Ab (fun h4=>?_) (fun h4=>?_)<;>rw[h4])
    ·have h4':n.cks[k]≠0:=by simpa using h4
     have e:Ad (fun e=>e) n.cks=n.cks[k]:=Bb (e:=fun e=>e) hlt h0 h4';(refine goI ?_;repeat (intro gg;refine goI ?_));rw[Nd.err_ck h1' h2' (by rw[e];exact h4'),e];(exact⟨[],aI⟩)
    ·have h4':n.cks[k]=0:=by simpa using h4
     (refine goI ?_;repeat (intro gg;refine goI ?_));(exact⟨none,trivial,fun _=>⟨⟨k+1,by omega,up1 (p:=fun j h=>n.cks[j]=0) h0 (fun _=>h4')⟩,by show 6-(k+1)<6-k;omega,tI,tI,tI,tI⟩⟩)
   ·have hge:¬k<6:=by have h4:=ZW h3;have h5:¬(k:Int)<6:=h4;omega
    have hz:Ad (fun e=>e) n.cks=0:=A8 (e:=fun e=>e) fun i hi=>h0 i hi (by have h6:i<6:=hi;omega);obtain⟨c1,c2,c3,c4,c5,c6⟩:=Acm hz;have hi:=Re c1;(refine goI ?_;repeat (intro gg;refine goI ?_));(refine .inl ⟨_,_,false,[],aI,Zw false n.ms n.nm (by omega) (Mb.smono hi.2.2 _).mono,Af,nI,?_⟩);(refine goI ?_;repeat (intro gg;refine goI ?_));(refine Ab (fun h5=>?_) (fun h5=>?_)<;>rw[h5])
    ·have h5':=Dt h5;(refine goI ?_;repeat (intro gg;refine goI ?_));rw[Nd.err_none h1' h2' hz h5'];(exact⟨[],aI⟩)
    ·have h5':=Dq h5;have hl2:=M9 h5';have hm:n.ms[low (Mb.cf n.nm) n.ms]? =some n.ms[low (Mb.cf n.nm) n.ms]:=ZC hl2;rw[Nd.err_mine h1' h2' hz h5',Nd.mine_at hm];(refine goI ?_;repeat (intro gg;refine goI ?_));refine⟨low (Mb.cf n.nm) n.ms,_,rfl,Am hl2,?_⟩;(refine goI ?_;repeat (intro gg;refine goI ?_));(refine Ab (fun h6=>?_) (fun h6=>?_)<;>rw[h6])
     ·have h6':(n.ms[low (Mb.cf n.nm) n.ms]).st=2:=by simpa using h6
      rw[if_pos (.inl h6')];(refine goI ?_;repeat (intro gg;refine goI ?_));(exact⟨[],aI⟩)
     ·have h6':(n.ms[low (Mb.cf n.nm) n.ms]).st≠2:=by simpa using h6
      (refine goI ?_;repeat (intro gg;refine goI ?_));refine⟨low (Mb.cf n.nm) n.ms,_,rfl,Am hl2,?_⟩;(refine goI ?_;repeat (intro gg;refine goI ?_));(refine Ab (fun h7=>?_) (fun h7=>?_)<;>rw[h7])
      ·have h7':(n.ms[low (Mb.cf n.nm) n.ms]).st=3:=by simpa using h7
       rw[if_pos (.inr h7')];(refine goI ?_;repeat (intro gg;refine goI ?_));(exact⟨[],aI⟩)
      ·have h7':(n.ms[low (Mb.cf n.nm) n.ms]).st≠3:=by simpa using h7
       rw[if_neg (fun q=>q.elim h6' h7')];(refine goI ?_;repeat (intro gg;refine goI ?_));refine .inl (cX (Af7 n h c1) ?_);(refine goI ?_;repeat (intro gg;refine goI ?_));(refine Ab (fun h8=>?_) (fun h8=>?_)<;>rw[h8])
       ·rw[if_neg (by rw[Dt h8];simp)];(refine goI ?_;repeat (intro gg;refine goI ?_));(exact⟨[],aI⟩)
       ·rw[if_pos (Dq h8)];(refine goI ?_;repeat (intro gg;refine goI ?_));(exact⟨[],aI⟩)
theorem Qw[Glob](c:Bool)(l:List Mb)(hl:l.length≤1000):Fun Tryz.prog 107 [.c (.sl c (l.map Mb.row))] [.o 47 5 (l.map Mb.row)]:=
 Ae3 Mb.enc Mb.enc_len Mb.enc_one c l hl
theorem Ac2[Glob](l:List Mb)(x:Mb)(i:Nat)(hi:i≤l.length)(hl:l.length≤1000):Fun Tryz.prog 201 [.o 47 5 (l.map Mb.row),.c (.v (.int .i64 i)),.o 47 5 [x.row]] [.o 47 5 ((l.take i++[x]++l.drop i).map Mb.row)]:=
 Aa4 Mb.enc Mb.enc_len Mb.enc_one l x i hi hl
namespace Pl
def Sv.at_(s:Sv)(v:Int):Sv:=⟨s.nd,s.id,s.nm,s.tg,s.ad,s.pt,s.ps,v,s.gn⟩
end Pl
theorem X4[Glob](c:Bool)(l:List Sv)(hl:l.length≤1000):Fun Tryz.prog 109 [.c (.sl c (l.map Sv.row))] [.o 50 9 (l.map Sv.row)]:=
 Ad2 Sv.enc Sv.enc_len Sv.enc_one c l hl
theorem Ai5 [Glob] (c d : Bool) (a b : List Sv) (ha : a.length ≤ 9223372036854775807) : Fun Tryz.prog 23 [.c (.sl c (a.map Sv.row)), .c (.sl d (b.map Sv.row))] [.c (.v (.bool (Da Sv.same a b)))] := by
  refine A9 Jw rfl ?_
  (refine goI ?_; repeat (intro gg; refine goI ?_))
  rw [ZE, ZE]
  (refine Ab (fun h => ?_) (fun h => ?_) <;> rw [h])
  · (refine goI ?_; repeat (intro gg; refine goI ?_))
    rw [Mk (fun e => by rw [e] at h; simp at h)]
    (exact ⟨[], aI⟩)
  · have hab : a.length = b.length := by have h' : ((a.length : Int) != (b.length : Int)) = false := h
                                         simp at h'; omega
    (refine goI ?_; repeat (intro gg; refine goI ?_))
    (refine ⟨[], none, {k : Nat // k ≤ a.length ∧ ∀ j, (h : j < a.length) → j < k → Sv.same a[j] (b[j]'(by omega)) = true}, [0, 1], fun ⟨k, hk, h0⟩ => [(5, .v (.int .i64 k))], [], fun ⟨k, hk, h0⟩ => [], fun ⟨k, hk, h0⟩ => a.length - k, trivial, fun _ => ⟨trivial, fun _ => ⟨⟨0, by omega, fun j _ h => by omega⟩, tI, Ah _ _, tI, Ag _ _⟩⟩, fun ⟨k, hk, h0⟩ => ?_⟩)
    (refine goI ?_; repeat (intro gg; refine goI ?_))
    rw [ZE]
    (refine Ab (fun h2 => ?_) (fun h2 => ?_) <;> rw [h2])
    · have hlt : k < a.length := (by have := ZV h2; omega)
      have hlt' : k < b.length := by omega
      (refine goI ?_; repeat (intro gg; refine goI ?_))
      refine ⟨k, _, rfl, Am hlt, ?_⟩
      (refine goI ?_; repeat (intro gg; refine goI ?_))
      refine ⟨k, _, rfl, Am hlt', ?_⟩
      (refine goI ?_; repeat (intro gg; refine goI ?_))
      (refine Ab (fun h3 => ?_) (fun h3 => ?_) <;> rw [h3])
      · (refine goI ?_; repeat (intro gg; refine goI ?_))
        rw [Me hlt hlt' (Dt (b := Sv.same a[k] b[k]) h3)]
        (exact ⟨[], aI⟩)
      · (refine goI ?_; repeat (intro gg; refine goI ?_))
        (exact ⟨none, trivial, fun _ => ⟨⟨k + 1, by omega, up1 (p := fun j h => Sv.same a[j] (b[j]'(by omega)) = true) h0 (fun _ => Dq (b := Sv.same a[k] b[k]) h3)⟩, by show a.length - (k + 1) < a.length - k; omega, tI, tI, tI, tI⟩⟩)
    · have hge : ¬ k < a.length := (by have := ZW h2; omega)
      (refine goI ?_; repeat (intro gg; refine goI ?_))
      rw [Hm hab (fun i hi _ => h0 i hi (by omega))]
      (exact ⟨[], aI⟩)
theorem Xg[Glob](c:Bool)(l:List Gw)(hl:l.length≤1000):Fun Tryz.prog 110 [.c (.sl c (l.map Gw.row))] [.o 53 3 (l.map Gw.row)]:=
 Ad6 Gw.enc Gw.enc_len Gw.enc_one c l hl
theorem Aij [Glob] (c d : Bool) (a b : List Gw) (ha : a.length ≤ 9223372036854775807) : Fun Tryz.prog 24 [.c (.sl c (a.map Gw.row)), .c (.sl d (b.map Gw.row))] [.c (.v (.bool (Da Gw.same a b)))] := by
  refine A9 J1 rfl ?_
  (refine goI ?_; repeat (intro gg; refine goI ?_))
  rw [ZE, ZE]
  (refine Ab (fun h => ?_) (fun h => ?_) <;> rw [h])
  · (refine goI ?_; repeat (intro gg; refine goI ?_))
    rw [Mk (fun e => by rw [e] at h; simp at h)]
    (exact ⟨[], aI⟩)
  · have hab : a.length = b.length := by have h' : ((a.length : Int) != (b.length : Int)) = false := h
                                         simp at h'; omega
    (refine goI ?_; repeat (intro gg; refine goI ?_))
    (refine ⟨[], none, {k : Nat // k ≤ a.length ∧ ∀ j, (h : j < a.length) → j < k → Gw.same a[j] (b[j]'(by omega)) = true}, [0, 1], fun ⟨k, hk, h0⟩ => [(5, .v (.int .i64 k))], [], fun ⟨k, hk, h0⟩ => [], fun ⟨k, hk, h0⟩ => a.length - k, trivial, fun _ => ⟨trivial, fun _ => ⟨⟨0, by omega, fun j _ h => by omega⟩, tI, Ah _ _, tI, Ag _ _⟩⟩, fun ⟨k, hk, h0⟩ => ?_⟩)
    (refine goI ?_; repeat (intro gg; refine goI ?_))
    rw [ZE]
    (refine Ab (fun h2 => ?_) (fun h2 => ?_) <;> rw [h2])
    · have hlt : k < a.length := (by have := ZV h2; omega)
      have hlt' : k < b.length := by omega
      (refine goI ?_; repeat (intro gg; refine goI ?_))
      refine ⟨k, _, rfl, Am hlt, ?_⟩
      (refine goI ?_; repeat (intro gg; refine goI ?_))
      refine ⟨k, _, rfl, Am hlt', ?_⟩
      (refine goI ?_; repeat (intro gg; refine goI ?_))
      (refine Ab (fun h3 => ?_) (fun h3 => ?_) <;> rw [h3])
      · (refine goI ?_; repeat (intro gg; refine goI ?_))
        rw [Me hlt hlt' (Dt (b := Gw.same a[k] b[k]) h3)]
        (exact ⟨[], aI⟩)
      · (refine goI ?_; repeat (intro gg; refine goI ?_))
        (exact ⟨none, trivial, fun _ => ⟨⟨k + 1, by omega, up1 (p := fun j h => Gw.same a[j] (b[j]'(by omega)) = true) h0 (fun _ => Dq (b := Gw.same a[k] b[k]) h3)⟩, by show a.length - (k + 1) < a.length - k; omega, tI, tI, tI, tI⟩⟩)
    · have hge : ¬ k < a.length := (by have := ZW h2; omega)
      (refine goI ?_; repeat (intro gg; refine goI ?_))
      rw [Hm hab (fun i hi _ => h0 i hi (by omega))]
      (exact ⟨[], aI⟩)
theorem Ar7:(Tryz.prog.info? 88).map (fun i=>(i.zero,i.size,i.bytes))=some (some (.agg #[.string ⟨#[]⟩,.int .i64 0,.int .i64 0,.int .i64 0,.int .i64 0,.int .i64 0]),6,56):=by kernel_rfl
def Au3(base n:Nat)(xs:List Value)(w:World)(e:Ending)(w':World):Prop:=
 ∃A' c',e=.returned (.slice A' n c')∧w'.ownsRow base 88 6 (.slice A' n c') n xs∧Below base w w'∧w.drawn≤w'.drawn
set_option maxRecDepth 100000 in
theorem Ajd(A:Option Addr)(n c:Nat)(xs:List Value)(w:World)(hA:A=none→n=0)(hn:n≤1000)(hxl:xs.length=n*6)(hx:∀ad,A=some ad→∀j u,xs[j]? =some u→w.cell? (ad.add j)=some u)(h1:∀v∈xs,v.oneCell'=true):
  Calls Tryz.prog 111 #[.slice A n c] w (Au3 w.heap.size n xs w):=by
 obtain⟨i0,hi0,hz0,hzs,hzb⟩:=info_parts Ar7;cases A with
 |none=>
  obtain rfl:=hA rfl;obtain rfl:xs=[]:=XR (by simpa using hxl);clear hx hxl hi0 hz0 hzs hzb h1;have hnl:=fun(w:World)=>Lib.run_eql_slice_nil (P:=Tryz.prog) w 42 88 none 0 c 0 0 Tryz.underlying42
  go_enter Tryz.func111,Tryz.ntmps111
  go_wp2
  go_ret
  exact⟨none,0,rfl,World.ownsRow_nil _ _ _ _,Below.refl _ _,ZT _⟩
 |some ad=>
  have HX:=hid (hx ad rfl);have HXL:=hid hxl;have HZ0:=hid hz0;have HZS:=hid hzs;have HZB:=hid hzb;have HI0:=hid hi0;clear hx hxl hA hi0 hz0 hzs hzb;have hnl:=fun(w:World)=>Lib.run_eql_slice_nil (P:=Tryz.prog) w 42 88 (some ad) n c 0 0 Tryz.underlying42
  go_enter Tryz.func111,Tryz.ntmps111
  have hown0:(w.alloc (.cells #[] 88)).ownsRow w.heap.size 88 6 (.slice (some ⟨w.heap.size,0,none⟩) 0 0) 0 []:=
   ⟨by simp,.inr ⟨w.heap.size,0, #[],rfl,ZT _,heap_alloc_new w _,by omega,by simp[maxLen],by simp,by simp⟩⟩
  have HO:=hid hown0;have HX1:=hid (fun j u (hj:xs[j]? =some u)=>(World.cell?_alloc_lt w (.cells #[] 88) (ad.add j) (Vq (HX.out j u hj))).trans (HX.out j u hj));clear hown0
  go_wp2_with (at_builtin;refine H4 _ rfl _ _ 42 rfl w.heap.size 88 i0 _ 6 56 Tryz.underlying42 HI0.out HZ0.out HZS.out HZB.out rfl (by decide) _ _ _ rfl HO.out ad n c xs rfl HXL.out HX1.out h1 (by simp only[maxLen];omega) (by omega) (by simp) ?_;intro v1 w1 hown1 hg1 hd1 hat1)
  go_ret
  rw[Nat.zero_add,List.nil_append]at hown1;obtain⟨A',c',rfl⟩:=L3 hown1;exact⟨A',c',rfl,hown1,((Below.refl _ _).alloc (ZT _) _).grown hg1 (by simp) (Ed HO.out),hd1⟩
theorem Adc[Glob]{α:Type}(enc:α→List Value)(he:∀x,(enc x).length=6)(h1:∀x,∀v∈enc x,v.oneCell'=true)(cl:Bool)(l:List α)(hl:l.length≤1000):
  Fun Tryz.prog 111 [.c (.sl cl (l.map fun x=>(enc x).map .v))] [.o 88 6 (l.map fun x=>(enc x).map .v)]:=by
 refine⟨Df Tryz.func111 (by kernel_rfl) (by kernel_rfl),fun w R xs hlt hp _=>?_⟩;obtain⟨v,rfl,hv⟩:=R6 hp;obtain⟨A,c,rfl,hA,hx⟩:=Q9 he hv;have hone:∀v∈l.flatMap enc,v.oneCell'=true:=fun v hv=>by
  obtain⟨g,_,hg⟩:=List.mem_flatMap.1 hv;exact h1 g v hg
 refine(Ajd A l.length c (l.flatMap enc) w hA hl (Jf he l) hx hone).mono ?_
 rintro e w' ⟨A',c',rfl,hown,hb,hd⟩
 exact Jy he h1 (by decide) hlt hown (Cn hb) (fun k hk=>.inr (Ed hown k hk)) (fun k hk=>by have:=Ed hown k hk;intro h;have:=hlt k h;omega)
theorem Ami{w:World}{R R':Nat→Prop}{T:TypeId}{sz:Nat}{rows:List (List V)}{x:Value}(h:O4 w R (.o T sz rows) x)(hR:∀b,R b→R' b)(hb:∀b,x.ownBlock=some b→R' b):RV w R' noG (.sl false rows) x:=by
 obtain⟨hsz,xs,g5,g6⟩:=h;have g5':w.ownsRow 0 T (Ent.mk 0 (.t T) sz rows).sz (Loc.mk 0 sz x false none).val (Ent.mk 0 (.t T) sz rows).rows.length xs:=g5;rcases Fs g5' with⟨hv,h0⟩|⟨b,cap,hv,hbk⟩
 ·have hv:x=.slice none 0 0:=hv;rw[hv];have:rows=[]:=h0;subst this;exact .nil _ _ _ (by simp)
 ·have hv:x=.slice (some ⟨b,0,none⟩) rows.length cap:=hv;have hbk:x.ownBlock=some b:=hbk;rw[hv];have hcapn:rows.length≤cap:=by
   rcases g5.2 with⟨q,_⟩|⟨g',cap',cur,q,_,_,hnc,_⟩
   ·rw[hv]at q;cases q
   ·rw[hv]at q;injection q with _ _ q;omega
  refine .sl _ rows b 0 cap sz (fun i j=>(xs[i*sz+j]?).getD undef) (hb b hbk) hcapn (by simp) g6.1 ?_ ?_
  ·intro i j row u h1 h2;obtain⟨y,q1,_,q2⟩:=g6.2 i j row u h1 h2;show w.cell? ⟨b,0+i*sz+j,none⟩=some ((xs[i*sz+j]?).getD undef);rw[q1,Nat.zero_add];exact Ee g5' hbk q1
  ·intro i j row u h1 h2;obtain⟨y,q1,_,q2⟩:=g6.2 i j row u h1 h2;show RV w R' noG u ((xs[i*sz+j]?).getD undef);rw[q1];exact q2.mono (fun b hb=>⟨hR b hb,rfl⟩) (Gle.refl _)
def frz:Par→Par
 |.c u=>.c u
 |.o _ _ rows=>.c (.sl false rows)
theorem Fun.frz[Glob]{P:Program}{f:FuncId}{ps rs:List Par}(h:Fun P f ps rs):Fun P f ps (rs.map frz):=by
 refine⟨h.1,fun w R xs hlt hp hg=>(h.2 w R xs hlt hp hg).mono ?_⟩
 rintro e w' ⟨ys,R',he,hfr,h1,h2,h3,h4⟩
 have no:∀(i:Nat) (T:TypeId) (sz:Nat) (rows:List (List V)),(rs.map Go.Proofs.YtchbkgnobpejnaaGreatDoor.frz)[i]?≠some (.o T sz rows):=fun i T sz rows q=>by
  rw[XJ]at q;cases hr:rs[i]? with
  |none=>rw[hr]at q;cases q
  |some r=>
   rw[hr]at q;cases r<;>cases q
 refine⟨ys,fun b=>R' b∨A4 rs ys b,he,hfr,fun b hb=>.inl (h1 b hb),?_,⟨by rw[ZE];exact h3.len,?_,?_,?_⟩,?_⟩
 ·rintro b (hb|hb)
  ·exact h2 b hb
  ·refine .inr ⟨?_,h4 b hb⟩;obtain⟨i,T,sz,rows,x,q1,q2,q3⟩:=hb;obtain⟨_,xs',g,_⟩:=h3.ok i _ x q1 q2;exact Hv g q3
 ·intro i p x hp1 hx;rw[XJ]at hp1;cases hr:rs[i]? with
  |none=>rw[hr]at hp1;cases hp1
  |some r=>
   rw[hr]at hp1;have ho:=h3.ok i r x hr hx;cases r with
   |c u=>
    injection hp1 with hp1;subst hp1;exact RV.mono ho (fun b hb=>⟨.inl hb,rfl⟩) (Gle.refl _)
   |o T sz rows=>
    injection hp1 with hp1;subst hp1;exact Ami ho (fun b hb=>.inl hb) (fun b hb=>.inr ⟨i,T,sz,rows,x,hr,hx,hb⟩)
 ·intro i j T sz rows T' sz' rows' x y b hij h1;exact absurd h1 (no i T sz rows)
 ·rintro b ⟨i,T,sz,rows,x,q1,_⟩
  exact absurd q1 (no i T sz rows)
 ·rintro b ⟨i,T,sz,rows,x,q1,_⟩
  exact absurd q1 (no i T sz rows)
theorem Uk[Glob](c:Bool)(l:List Wh)(hl:l.length≤1000):Fun Tryz.prog 111 [.c (.sl c (l.map Wh.row))] [.o 88 6 (l.map Wh.row)]:=
 Adc Wh.enc Wh.enc_len Wh.enc_one c l hl
theorem Amo{l:List Wh}(h:G4 l=0):l.length≤20:=by
 unfold G4 ckL at h;split at h
 ·cases h
 ·omega
theorem Uw{env:Nat→V}{H:Nat→Option Ent}{ts:List RT}{cs cs':List V}{v:V}(hG:Il env H ts [.agg cs,v])(hc:Bt H [] cs cs')(hv:Cl v):∃us gone,Il env H ts us∧Ar H gone true gone us [.c (.agg cs'),.c v]:=⟨_,[],hG,.bora hc (.same hv (.nil _))⟩
namespace Pl
structure Pk where
 fr:ByteArray
 wo:Bool
 ms:List Mb
 sv:List Sv
 gs:List Gw
 wh:List Wh
def Pk.row(p:Pk):List V:=[.v (.string p.fr),.v (.bool p.wo),.sl false (p.ms.map Mb.row),.sl false (p.sv.map Sv.row),.sl false (p.gs.map Gw.row),.sl false (p.wh.map Wh.row)]
structure Pk.ok(p:Pk):Prop where
 fr:p.fr.size≤9223372036854775807
 msl:p.ms.length≤9223372036854775807
 ms:∀x∈p.ms,x.ok
 svl:p.sv.length≤1000000000000000
 sv:∀x∈p.sv,x.ok
 gsl:p.gs.length≤1000000000000000
 gs:∀x∈p.gs,x.ok
 whl:p.wh.length≤1000000000000000
 wh:∀x∈p.wh,x.ok
def pk0:Pk:=⟨⟨#[]⟩,false,[],[],[],[]⟩
def nd0:Nd:=⟨⟨#[]⟩,⟨#[]⟩,[],[],[],[],⟨0,0,0,0,0⟩,[]⟩
end Pl
section
open Go Go.Lib
namespace Pl
def Ox(s:ByteArray):List UInt8:=Bz s.size++s.data.toList
def M8(b:Bool):List UInt8:=Bz (if b then 1 else 0)
def G6(s:ByteArray):Option (ByteArray×ByteArray):=(Cr s).bind fun p=>if p.1<0∨(p.2.size:Int)<p.1 then none else some (p.2.extract 0 p.1.toNat,p.2.extract p.1.toNat p.2.size)
def L7(s:ByteArray):Option (Bool×ByteArray):=(Cr s).bind fun p=>if p.1<0∨1<p.1 then none else some (decide (p.1=1),p.2)
def Fb{α:Type}(one:ByteArray→Option (α×ByteArray)):Nat→ByteArray→Option (List α×ByteArray)
 |0,s=>some ([],s)
 |k+1,s=>(one s).bind fun p=>(Fb one k p.2).bind fun q=>some (p.1::q.1,q.2)
def I8(most:Int)(s:ByteArray):Option (Nat×ByteArray):=(Cr s).bind fun p=>if p.1<0∨most<p.1 then none else some (p.1.toNat,p.2)
def Fj{α:Type}(most:Int)(one:ByteArray→Option (α×ByteArray))(s:ByteArray):Option (List α×ByteArray):=(I8 most s).bind fun p=>Fb one p.1 p.2
def Aao{α:Type}(enc:α→List UInt8)(l:List α):List UInt8:=Bz l.length++l.flatMap enc
structure Fm{α:Type}(ok:α→Prop)(enc:α→List UInt8)(dec:ByteArray→Option (α×ByteArray)):Prop where
 back:∀x r,ok x→dec (bA (enc x++r))=some (x,bA r)
 some:∀s p,dec s=some p→ok p.1∧s.data.toList=enc p.1++p.2.data.toList
theorem Hj:Fm isI Bz Cr:=⟨fun x r h=>I3 h r,fun s p h=>Hn h⟩
theorem M1:Fm (fun s:ByteArray=>s.size≤9223372036854775807) Ox G6:=by
 refine⟨fun x r h=>?_,fun s p h=>?_⟩
 ·unfold G6 Ox;rw[ZS,I3 (n:=(x.size:Int)) ⟨by omega,by omega⟩];simp only[ZA];have hl:x.data.toList.length=x.size:=by simp
  rw[if_neg (by rw[C4,ZF,hl];omega),Int.toNat_natCast,F5,F5,C4,XF,List.drop_zero,←hl,List.take_left,List.drop_left,Xj]
 ·unfold G6 at h;cases hn:Cr s with
  |none=>rw[hn]at h;cases h
  |some q=>
   rw[hn]at h;simp only[ZA]at h;split at h
   ·cases h
   ·rename_i hc;injection h with h
    subst h;obtain⟨⟨b0,b1⟩,hq⟩:=Hn hn;obtain⟨n,r⟩:=q;simp only at hc b0 b1 hq ⊢;obtain⟨k,rfl⟩:=Int.eq_ofNat_of_zero_le (show 0≤n by omega);have hr:r=bA r.data.toList:=(Xj r).symm;generalize r.data.toList=l at *;subst hr;rw[C4]at hc;have e1:(bA l).extract 0 k=bA (l.take k):=by rw[F5,List.drop_zero]
    have e2:(bA l).extract k (bA l).size=bA (l.drop k):=by rw[F5,C4,XF]
    rw[Int.toNat_natCast,e1,e2];have hk:(bA (l.take k)).size=k:=by rw[C4,ZM];omega
    refine⟨by rw[hk];omega,?_⟩;unfold Ox;rw[hk,Ky,Ky,hq,ZS,List.take_append_drop]
theorem Yg:Fm (fun _:Bool=>True) M8 L7:=by
 refine⟨fun x r h=>?_,fun s p h=>⟨trivial,?_⟩⟩
 ·unfold L7 M8;cases x
  ·have h:=I3 (n:=0) (by unfold isI;omega) r;show(Cr (bA (Bz 0++r))).bind _=_;rw[h];rfl
  ·have h:=I3 (n:=1) (by unfold isI;omega) r;show(Cr (bA (Bz 1++r))).bind _=_;rw[h];rfl
 ·unfold L7 at h;cases hn:Cr s with
  |none=>rw[hn]at h;cases h
  |some q=>
   rw[hn]at h;simp only[ZA]at h;split at h
   ·cases h
   ·rename_i hc;injection h with h
    subst h;obtain⟨_,hq⟩:=Hn hn;rw[hq];unfold M8;by_cases h1:q.1=1
    ·simp[h1]
    ·have:q.1=0:=by omega
     simp[this]
def Io{α β:Type}(f:ByteArray→Option (α×ByteArray))(g:ByteArray→Option (β×ByteArray))(s:ByteArray):Option ((α×β)×ByteArray):=(f s).bind fun p=>(g p.2).bind fun q=>some ((p.1,q.1),q.2)
theorem Cf{α β:Type}{ok:α→Prop}{ok':β→Prop}{enc:α→List UInt8}{enc':β→List UInt8}{dec:ByteArray→Option (α×ByteArray)}{dec':ByteArray→Option (β×ByteArray)}(h:Fm ok enc dec)(h':Fm ok' enc' dec'):
  Fm (fun p:α×β=>ok p.1∧ok' p.2) (fun p=>enc p.1++enc' p.2) (Io dec dec'):=by
 refine⟨fun x r hx=>?_,fun s p hp=>?_⟩
 ·unfold Io;rw[ZS,h.back _ _ hx.1];simp only[ZA];rw[h'.back _ _ hx.2];rfl
 ·unfold Io at hp;cases h1:dec s with
  |none=>rw[h1]at hp;cases hp
  |some q=>
   rw[h1]at hp;simp only[ZA]at hp;cases h2:dec' q.2 with
   |none=>rw[h2]at hp;cases hp
   |some u=>
    rw[h2]at hp;simp only[ZA,ZD]at hp;subst hp;obtain⟨a1,a2⟩:=h.some _ _ h1;obtain⟨b1,b2⟩:=h'.some _ _ h2;exact⟨⟨a1,b1⟩,by rw[a2,b2,ZS]⟩
theorem Ws{α β:Type}{ok:α→Prop}{ok':β→Prop}{enc:α→List UInt8}{enc':β→List UInt8}{dec:ByteArray→Option (α×ByteArray)}{dec':ByteArray→Option (β×ByteArray)}(h:Fm ok enc dec)(to:α→β)(of:β→α)(e1:∀x,to (of x)=x)(e2:∀x,of (to x)=x)(ho:∀x,ok' x↔ok (of x))(he:∀x,enc' x=enc (of x))(hd:∀s,dec' s=(dec s).map fun p=>(to p.1,p.2)):Fm ok' enc' dec':=by
 refine⟨fun x r hx=>?_,fun s p hp=>?_⟩
 ·rw[hd,he,h.back _ _ ((ho x).1 hx)];simp[e1]
 ·rw[hd]at hp;cases h1:dec s with
  |none=>rw[h1]at hp;cases hp
  |some q=>
   rw[h1]at hp;simp only[Option.map_some,ZD]at hp;subst hp;obtain⟨a1,a2⟩:=h.some _ _ h1;exact⟨(ho _).2 (by rw[e2];exact a1),by rw[he,e2];exact a2⟩
theorem Ae8{α:Type}{ok:α→Prop}{enc:α→List UInt8}{dec:ByteArray→Option (α×ByteArray)}(h:Fm ok enc dec):∀(k:Nat),Fm (fun l:List α=>l.length=k∧∀x∈l,ok x) (fun l=>l.flatMap enc) (Fb dec k)
 |0=>⟨fun x r hx=>by
   obtain rfl:x=[]:=List.length_eq_zero_iff.1 hx.1;rfl,fun s p hp=>by
   simp only[Fb,ZD]at hp;subst hp;exact⟨⟨rfl,fun x hx=>by cases hx⟩,rfl⟩⟩
 |k+1=>by
  have ih:=Ae8 h k;refine⟨fun x r hx=>?_,fun s p hp=>?_⟩
  ·match x,hx with
   |a::l,hx=>
    show(dec (bA ((enc a++l.flatMap enc)++r))).bind _=_;rw[ZS,h.back _ _ (hx.2 a (XB ..))];simp only[ZA];rw[ih.back l r ⟨by simpa using hx.1,fun y hy=>hx.2 y (ZL _ hy)⟩];rfl
  ·have hp:(dec s).bind (fun p=>(Fb dec k p.2).bind fun q=>some (p.1::q.1,q.2))=some p:=hp;cases h1:dec s with
   |none=>rw[h1]at hp;cases hp
   |some q=>
    rw[h1]at hp;simp only[ZA]at hp;cases h2:Fb dec k q.2 with
    |none=>rw[h2]at hp;cases hp
    |some u=>
     rw[h2]at hp;simp only[ZA,ZD]at hp;subst hp;obtain⟨a1,a2⟩:=h.some _ _ h1;obtain⟨b1,b2⟩:=ih.some _ _ h2;refine⟨⟨by simp[b1.1],fun y hy=>?_⟩,?_⟩
     ·rcases XC.1 hy with rfl|hy
      ·exact a1
      ·exact b1.2 y hy
     ·show s.data.toList=(enc q.1++u.1.flatMap enc)++u.2.data.toList;rw[a2,b2,ZS]
theorem Aax{α:Type}{ok:α→Prop}{enc:α→List UInt8}{dec:ByteArray→Option (α×ByteArray)}(h:Fm ok enc dec)(most:Int)(hm:most≤1000000):Fm (fun l:List α=>(l.length:Int)≤most∧∀x∈l,ok x) (Aao enc) (Fj most dec):=by
 refine⟨fun l r hx=>?_,fun s p hp=>?_⟩
 ·unfold Fj I8 Aao;rw[ZS,I3 ⟨by omega,by omega⟩];simp only[ZA];rw[if_neg (by omega),Int.toNat_natCast];exact(Ae8 h l.length).back l r ⟨rfl,hx.2⟩
 ·unfold Fj I8 at hp;cases h1:Cr s with
  |none=>rw[h1]at hp;cases hp
  |some q=>
   rw[h1]at hp;simp only[ZA]at hp;obtain⟨hb,hq⟩:=Hn h1;split at hp
   ·cases hp
   ·rename_i hc;obtain⟨c1,c2⟩:=(Ae8 h q.1.toNat).some _ _ hp;have e:((q.1.toNat:Nat):Int)=q.1:=Int.toNat_of_nonneg (by omega);refine⟨⟨by omega,c1.2⟩,?_⟩;unfold Aao;rw[hq,c2,c1.1,e,ZS]
end Pl
end
section
open Go Go.Lib
namespace Pl
def mbB(m:Mb):List UInt8:=Ox m.n++Bz m.st++Bz m.lf++Bz m.ad++M8 m.sv
def svB(x:Sv):List UInt8:=Ox x.nd++Ox x.id++Ox x.nm++Ox x.tg++Bz x.ad++Bz x.pt++M8 x.ps++Bz x.vs++M8 x.gn
def gwB(g:Gw):List UInt8:=Ox g.c++Bz g.a++Bz g.v
def whB(x:Wh):List UInt8:=Ox x.nd++Bz x.pl.x++Bz x.pl.y++Bz x.pl.z++Bz x.pl.h++Bz x.pl.s
def pkB(p:Pk):List UInt8:=Ox p.fr++M8 p.wo++Aao mbB p.ms++Aao svB p.sv++Aao gwB p.gs++Aao whB p.wh
def mbR(s:ByteArray):Option (Mb×ByteArray):=(G6 s).bind fun a=>(Cr a.2).bind fun b=>(Cr b.2).bind fun c=>(Cr c.2).bind fun d=>(L7 d.2).bind fun e=>some (⟨a.1,b.1,c.1,d.1,e.1⟩,e.2)
def svR(s:ByteArray):Option (Sv×ByteArray):=(G6 s).bind fun a=>(G6 a.2).bind fun b=>(G6 b.2).bind fun c=>(G6 c.2).bind fun d=>(Cr d.2).bind fun e=>(Cr e.2).bind fun f=>(L7 f.2).bind fun g=>(Cr g.2).bind fun h=>(L7 h.2).bind fun i=>some (⟨a.1,b.1,c.1,d.1,e.1,f.1,g.1,h.1,i.1⟩,i.2)
def gwR(s:ByteArray):Option (Gw×ByteArray):=(G6 s).bind fun a=>(Cr a.2).bind fun b=>(Cr b.2).bind fun c=>some (⟨a.1,b.1,c.1⟩,c.2)
def whR(s:ByteArray):Option (Wh×ByteArray):=(G6 s).bind fun a=>(Cr a.2).bind fun b=>(Cr b.2).bind fun c=>(Cr c.2).bind fun d=>(Cr d.2).bind fun e=>(Cr e.2).bind fun f=>some (⟨a.1,⟨b.1,c.1,d.1,e.1,f.1⟩⟩,f.2)
def pkR(s:ByteArray):Option (Pk×ByteArray):=(G6 s).bind fun a=>(L7 a.2).bind fun b=>(Fj 20 mbR b.2).bind fun c=>(Fj 40 svR c.2).bind fun d=>(Fj 6 gwR d.2).bind fun e=>(Fj 20 whR e.2).bind fun f=>some (⟨a.1,b.1,c.1,d.1,e.1,f.1⟩,f.2)
def okT(s:ByteArray):Prop:=s.size≤9223372036854775807
def Mb.okB(m:Mb):Prop:=okT m.n∧isI m.st∧isI m.lf∧isI m.ad
def Sv.okB(x:Sv):Prop:=okT x.nd∧okT x.id∧okT x.nm∧okT x.tg∧isI x.ad∧isI x.pt∧isI x.vs
def Gw.okB(g:Gw):Prop:=okT g.c∧isI g.a∧isI g.v
def Wh.okB(x:Wh):Prop:=okT x.nd∧isI x.pl.x∧isI x.pl.y∧isI x.pl.z∧isI x.pl.h∧isI x.pl.s
def Pk.okB(p:Pk):Prop:=okT p.fr∧((p.ms.length:Int)≤20∧∀x∈p.ms,Mb.okB x)∧((p.sv.length:Int)≤40∧∀x∈p.sv,Sv.okB x)∧((p.gs.length:Int)≤6∧∀x∈p.gs,Gw.okB x)∧((p.wh.length:Int)≤20∧∀x∈p.wh,Wh.okB x)
theorem Asq:Fm Mb.okB mbB mbR:=
 Ws (Cf M1 (Cf Hj (Cf Hj (Cf Hj Yg)))) (fun p=>⟨p.1,p.2.1,p.2.2.1,p.2.2.2.1,p.2.2.2.2⟩) (fun m=>(m.n,m.st,m.lf,m.ad,m.sv)) (fun _=>rfl) (fun _=>rfl)
  (fun m=>by simp[Mb.okB,okT]) (fun m=>by simp[mbB]) (fun s=>by simp[mbR,Io,Option.bind_assoc,Option.map_bind,Function.comp_def])
theorem As8:Fm Sv.okB svB svR:=
 Ws (Cf M1 (Cf M1 (Cf M1 (Cf M1 (Cf Hj (Cf Hj (Cf Yg (Cf Hj Yg)))))))) (fun p=>⟨p.1,p.2.1,p.2.2.1,p.2.2.2.1,p.2.2.2.2.1,p.2.2.2.2.2.1,p.2.2.2.2.2.2.1,p.2.2.2.2.2.2.2.1,p.2.2.2.2.2.2.2.2⟩) (fun x=>(x.nd,x.id,x.nm,x.tg,x.ad,x.pt,x.ps,x.vs,x.gn)) (fun _=>rfl) (fun _=>rfl)
  (fun m=>by simp[Sv.okB,okT]) (fun m=>by simp[svB]) (fun s=>by simp[svR,Io,Option.bind_assoc,Option.map_bind,Function.comp_def])
theorem Atk:Fm Gw.okB gwB gwR:=
 Ws (Cf M1 (Cf Hj Hj)) (fun p=>⟨p.1,p.2.1,p.2.2⟩) (fun x=>(x.c,x.a,x.v)) (fun _=>rfl) (fun _=>rfl)
  (fun m=>by simp[Gw.okB,okT]) (fun m=>by simp[gwB]) (fun s=>by simp[gwR,Io,Option.bind_assoc,Option.map_bind,Function.comp_def])
theorem As3:Fm Wh.okB whB whR:=
 Ws (Cf M1 (Cf Hj (Cf Hj (Cf Hj (Cf Hj Hj))))) (fun p=>⟨p.1,⟨p.2.1,p.2.2.1,p.2.2.2.1,p.2.2.2.2.1,p.2.2.2.2.2⟩⟩) (fun x=>(x.nd,x.pl.x,x.pl.y,x.pl.z,x.pl.h,x.pl.s)) (fun _=>rfl) (fun _=>rfl)
  (fun m=>by simp[Wh.okB,okT]) (fun m=>by simp[whB]) (fun s=>by simp[whR,Io,Option.bind_assoc,Option.map_bind,Function.comp_def])
theorem Aos:Fm Pk.okB pkB pkR:=
 Ws (Cf M1 (Cf Yg (Cf (Aax Asq 20 (by decide)) (Cf (Aax As8 40 (by decide)) (Cf (Aax Atk 6 (by decide)) (Aax As3 20 (by decide))))))) (fun p=>⟨p.1,p.2.1,p.2.2.1,p.2.2.2.1,p.2.2.2.2.1,p.2.2.2.2.2⟩) (fun x=>(x.fr,x.wo,x.ms,x.sv,x.gs,x.wh)) (fun _=>rfl) (fun _=>rfl)
  (fun m=>by simp[Pk.okB,okT]) (fun m=>by simp[pkB]) (fun s=>by simp[pkR,Io,Option.bind_assoc,Option.map_bind,Function.comp_def])
end Pl
end
section
open Go Go.Lib
namespace Pl
def Hx:Nat→List UInt8→Nat×Nat
 |n,[]=>(n,0)
 |n,c::r=>if(48≤c.toNat∧c.toNat≤57)∧n<1099511627776 then((Hx (10*n+c.toNat-48) r).1,(Hx (10*n+c.toNat-48) r).2+1)else(n,0)
def Qm(s:ByteArray)(a:Nat):Bool:=decide (s.data.toList[a]? =some 45)
def Ot(s:ByteArray)(a:Nat):Nat:=if Qm s a then a+1 else a
def scA(s:ByteArray)(a:Nat):Nat×Nat:=Hx 0 (s.data.toList.drop (Ot s a))
def Lu(s:ByteArray)(a:Nat):Int:=if Qm s a then -((scA s a).1:Int)else(scA s a).1
def Fz(s:ByteArray)(a:Nat):Nat:=Ot s a+(scA s a).2
abbrev Cu:=Nat×Bool
def Bl(s:ByteArray)(c:Cu):Int×Cu:=if c.2=true∨s.size≤Fz s c.1∨s.extract c.1 (Fz s c.1+1)≠bA (Bz (Lu s c.1))then(0,(Fz s c.1,true))else(Lu s c.1,(Fz s c.1+1,false))
def G7(s:ByteArray)(c:Cu):ByteArray×Cu:=if(Bl s c).2.2=true∨(Bl s c).1<0∨(s.size:Int)-(Bl s c).2.1<(Bl s c).1 then(⟨#[]⟩,((Bl s c).2.1,true))else(s.extract (Bl s c).2.1 ((Bl s c).2.1+(Bl s c).1.toNat),((Bl s c).2.1+(Bl s c).1.toNat,false))
def Pd(s:ByteArray)(c:Cu):Bool×Cu:=(decide ((Bl s c).1=1),((Bl s c).2.1,((Bl s c).2.2||decide ((Bl s c).1<0)||decide (1<(Bl s c).1))))
def K9(most:Int)(s:ByteArray)(c:Cu):Nat×Cu:=if(Bl s c).2.2=true∨(Bl s c).1<0∨most<(Bl s c).1 then(0,((Bl s c).2.1,true))else((Bl s c).1.toNat,(Bl s c).2)
def Cz{α:Type}(one:Cu→α×Cu):Nat→Cu→List α×Cu
 |0,c=>([],c)
 |k+1,c=>if c.2=true then([],c)else((one c).1::(Cz one k (one c).2).1,(Cz one k (one c).2).2)
structure Rf{α:Type}(s:ByteArray)(small:α→Prop)(dec:ByteArray→Option (α×ByteArray))(ref:Cu→α×Cu):Prop where
 stick:∀a,(ref (a,true)).2.2=true
 fwd:∀a x a',a≤s.size→ref (a,false)=(x,(a',false))→a'≤s.size∧dec (bA (s.data.toList.drop a))=some (x,bA (s.data.toList.drop a'))
 bwd:∀a x r,a≤s.size→dec (bA (s.data.toList.drop a))=some (x,r)→small x→∃a',a'≤s.size∧ref (a,false)=(x,(a',false))∧r=bA (s.data.toList.drop a')
theorem Yh:∀(l:List UInt8) (n:Nat),n<10995116277770→(Hx n l).1<10995116277770
 |[],n,h=>h
 |c::r,n,h=>by
  unfold Hx;split
  ·exact Yh r _ (by omega)
  ·exact h
theorem Tp:∀(l r:List UInt8) (n:Nat),(∀c∈l,isD c)→T4 n l<1099511627776→Hx n (l++59::r)=(T4 n l,l.length)
 |[],r,n,_,_=>by
  show(if _ then _ else(n,0))=(n,0);rw[if_neg (by rintro ⟨⟨h,h'⟩,_⟩;revert h';decide)]
 |c::l,r,n,h,hv=>by
  have h1:48≤c.toNat∧c.toNat≤57:=h c (XB ..);have e:10*n+c.toNat-48=n*10+(c.toNat-48):=by omega
  have hv':T4 (n*10+(c.toNat-48)) l<1099511627776:=hv;have h2:=Aa7 l (n*10+(c.toNat-48));have ih:=Tp l r (n*10+(c.toNat-48)) (fun x hx=>h x (ZL _ hx)) hv';show(if(48≤c.toNat∧c.toNat≤57)∧n<1099511627776 then((Hx (10*n+c.toNat-48) (l++59::r)).1,(Hx (10*n+c.toNat-48) (l++59::r)).2+1)else(n,0))=_;rw[if_pos ⟨h1,by omega⟩,e,ih];rfl
theorem Ae5(s:ByteArray)(a b:Nat):s.extract a b=bA ((s.data.toList.take b).drop a):=by
 have:=F5 s.data.toList a b
 rwa[Xj]at this
theorem Ald{l:List UInt8}{a b:Nat}{m r:List UInt8}(h:l.drop a=m++r)(hb:b=a+m.length):(bA l).extract a b=bA m∧l.drop b=r:=by
 subst hb;constructor
 ·rw[F5,List.drop_take,h,Nat.add_sub_cancel_left,List.take_left]
 ·rw[←List.drop_drop,h,List.drop_left]
theorem Dm(s:ByteArray):Rf s (fun n:Int=> -1099511627776<n∧n<1099511627776) Cr (Bl s):=by
 have hs:s=bA s.data.toList:=(Xj s).symm;have hsz:s.size=s.data.toList.length:=by rw[Array.length_toList];rfl
 refine⟨fun a=>?_,fun a x a' ha h=>?_,fun a x r ha h hx=>?_⟩
 ·unfold Bl;rw[if_pos (.inl rfl)]
 ·unfold Bl at h;split at h
  ·injection h with _ h;injection h with _ h
   cases h
  ·rename_i hc;simp only[not_or,Bool.false_eq_true,not_false_iff,true_and,Nat.not_le,ne_eq,Classical.not_not]at hc;obtain⟨h1,h2⟩:=hc;injection h with h3 h4
   injection h4 with h4 _;subst h3 h4;refine⟨h1,?_⟩;have hv:isI (Lu s a):=by
    have:=Yh (s.data.toList.drop (Ot s a)) 0 (by decide);unfold Lu isI scA;split<;>omega
   have hd:s.data.toList.drop a=Bz (Lu s a)++s.data.toList.drop (Fz s a+1):=by
    rw[Ae5]at h2;rw[←Arh h2];have ha':a≤Fz s a+1:=by unfold Fz Ot;split<;>omega
    conv=>lhs;rw[←List.take_append_drop (Fz s a+1) s.data.toList]
    rw[List.drop_append_of_le_length (by rw[ZM];omega)]
   rw[hd];exact I3 hv _
 ·obtain⟨hI,hd⟩:=Hn h;simp only[Ky]at hI hd;have hr:r=bA r.data.toList:=(Xj r).symm;generalize r.data.toList=rl at *;subst hr;have hat:∀i,s.data.toList[a+i]? =(Bz x++rl)[i]? :=fun i=>by rw[←hd,List.getElem?_drop]
  have key:Qm s a=decide (x<0)∧scA s a=(x.natAbs,(decDigits x.natAbs).length):=by
   by_cases hn:x<0
   ·have e1:Bz x=45::(decDigits x.natAbs++[59]):=by unfold Bz itoa;rw[if_pos hn];rfl
    have e2:Qm s a=true:=by
     unfold Qm;have:=hat 0;rw[Nat.add_zero,e1]at this;rw[this];rfl
    refine⟨by rw[e2];simp[hn],?_⟩;unfold scA Ot;rw[e2,if_pos rfl];have e3:s.data.toList.drop (a+1)=decDigits x.natAbs++59::rl:=by
     rw[←List.drop_drop,hd,e1];simp
    rw[e3,Tp _ _ _ (Mw _) (by rw[Mt];omega),Mt]
   ·have e1:Bz x=decDigits x.natAbs++[59]:=by
     unfold Bz itoa;rw[if_neg hn];congr 2;omega
    have e2:Qm s a=false:=by
     unfold Qm;have h0:=hat 0;rw[Nat.add_zero,e1]at h0;rw[h0];cases hdd:decDigits x.natAbs with
     |nil=>exact absurd hdd (Ael _)
     |cons c l=>
      have hc:48≤c.toNat∧c.toNat≤57:=Mw x.natAbs c (by rw[hdd];exact XB ..);simp only[List.cons_append,List.getElem?_cons_zero,ZD,decide_eq_false_iff_not];intro e;subst e;revert hc;decide
    refine⟨by rw[e2];simp[hn],?_⟩;unfold scA Ot;rw[e2,if_neg (by simp)];have e3:s.data.toList.drop a=decDigits x.natAbs++59::rl:=by
     rw[hd,e1];simp
    rw[e3,Tp _ _ _ (Mw _) (by rw[Mt];omega),Mt]
  obtain⟨k1,k2⟩:=key;have hval:Lu s a=x:=by
   unfold Lu;rw[k1,k2];by_cases hn:x<0
   ·rw[if_pos (by simp[hn])];show -((x.natAbs:Nat):Int)=x;omega
   ·rw[if_neg (by simp[hn])];show((x.natAbs:Nat):Int)=x;omega
  have hend:Fz s a+1=a+(Bz x).length:=by
   unfold Fz Ot;rw[k1,k2];unfold Bz itoa;by_cases hn:x<0
   ·rw[if_pos (by simp[hn]),if_pos hn];simp only[ZF,ZJ,ZN];omega
   ·rw[if_neg (by simp[hn]),if_neg hn];have:x.natAbs=x.toNat:=by omega
    rw[this];simp only[ZF,ZJ,ZN];omega
  have hlen:(Bz x++rl).length=s.size-a:=by rw[←hd,List.length_drop,hsz]
  rw[ZF]at hlen;obtain⟨x1,x2⟩:=Ald hd hend;refine⟨Fz s a+1,by omega,?_,by rw[x2]⟩;unfold Bl;rw[if_neg,hval];simp only[not_or,Bool.false_eq_true,not_false_iff,true_and,Nat.not_le,ne_eq,Classical.not_not];refine⟨by omega,?_⟩;rw[hval,←x1,←hs]
def Es(n:Int):Prop:= -1099511627776<n∧n<1099511627776
def F6(t:ByteArray):Prop:=t.size<1099511627776
theorem Ol(s:ByteArray):Rf s F6 G6 (G7 s):=by
 have hsz:s.size=s.data.toList.length:=by rw[Array.length_toList];rfl
 refine⟨fun a=>?_,fun a x a' ha h=>?_,fun a x r ha h hx=>?_⟩
 ·unfold G7;rw[if_pos (.inl ((Dm s).stick a))]
 ·unfold G7 at h;split at h
  ·injection h with _ h;injection h with _ h
   cases h
  ·rename_i hc;rcases hq:Bl s (a,false)with⟨n,a1,b⟩
   rw[hq]at hc h;simp only[not_or,Bool.not_eq_true,Int.not_lt]at hc;obtain⟨rfl,h1,h2⟩:=hc;obtain⟨k1,k2⟩:=(Dm s).fwd a n a1 ha hq;obtain⟨k,rfl⟩:=Int.eq_ofNat_of_zero_le h1;simp only[Int.toNat_natCast]at h;injection h with e1 e2
   injection e2 with e2 _;subst e1 e2;refine⟨by omega,?_⟩;have hd:(s.data.toList.drop a1).length=s.size-a1:=by rw[List.length_drop,hsz]
   unfold G6;rw[k2];simp only[ZA];rw[if_neg (by rw[C4,hd];omega),Int.toNat_natCast,F5,F5,C4,XF,List.drop_zero,Ae5,List.drop_drop,List.drop_take,Nat.add_sub_cancel_left]
 ·unfold G6 at h;cases hn:Cr (bA (s.data.toList.drop a))with
  |none=>rw[hn]at h;cases h
  |some q=>
   rw[hn]at h;simp only[ZA]at h;split at h
   ·cases h
   ·rename_i hc;obtain⟨n,r1⟩:=q;injection h with h
    injection h with h1 h2;simp only at hc h1 h2;obtain⟨k,rfl⟩:=Int.eq_ofNat_of_zero_le (show 0≤n by omega);rw[Int.toNat_natCast]at h1 h2;have hk:x.size=k:=by
     subst h1;rw[ByteArray.size_extract];omega
    obtain⟨a',g1,g2,rfl⟩:=(Dm s).bwd a _ r1 ha hn (by unfold F6 at hx;omega);have hd:(s.data.toList.drop a').length=s.size-a':=by rw[List.length_drop,hsz]
    rw[C4,hd]at hc;rw[F5,List.drop_zero]at h1;rw[F5,C4,XF,List.drop_drop]at h2;refine⟨a'+k,by omega,?_,h2.symm⟩;unfold G7;rw[g2];rw[if_neg (by simp only[Bool.false_eq_true,false_or];omega)];simp only[Int.toNat_natCast];rw[Ae5,List.drop_take,Nat.add_sub_cancel_left,h1]
theorem Aan(s:ByteArray):Rf s (fun _:Bool=>True) L7 (Pd s):=by
 refine⟨fun a=>?_,fun a x a' ha h=>?_,fun a x r ha h hx=>?_⟩
 ·unfold Pd;rw[(Dm s).stick a];rfl
 ·unfold Pd at h;rcases hq:Bl s (a,false)with⟨n,a1,b⟩
  rw[hq]at h;simp only[Prod.mk.injEq,Bool.or_eq_false_iff,decide_eq_false_iff_not]at h;obtain⟨h1,rfl,⟨rfl,h2⟩,h3⟩:=h;obtain⟨k1,k2⟩:=(Dm s).fwd a n a1 ha hq;refine⟨k1,?_⟩;unfold L7;rw[k2];simp only[ZA];rw[if_neg (by omega),h1]
 ·unfold L7 at h;cases hn:Cr (bA (s.data.toList.drop a))with
  |none=>rw[hn]at h;cases h
  |some q=>
   rw[hn]at h;simp only[ZA]at h;split at h
   ·cases h
   ·rename_i hc;obtain⟨n,r1⟩:=q;injection h with h
    injection h with h1 h2;simp only at hc h1 h2;obtain⟨a',g1,g2,rfl⟩:=(Dm s).bwd a _ r1 ha hn (by omega);refine⟨a',g1,?_,h2.symm⟩;unfold Pd;rw[g2];simp only[h1,Prod.mk.injEq,true_and,Bool.or_eq_false_iff,decide_eq_false_iff_not];omega
theorem Ar0(s:ByteArray)(most:Int)(hm:most<1099511627776):Rf s (fun _:Nat=>True) (I8 most) (K9 most s):=by
 refine⟨fun a=>?_,fun a x a' ha h=>?_,fun a x r ha h hx=>?_⟩
 ·unfold K9;rw[if_pos (.inl ((Dm s).stick a))]
 ·unfold K9 at h;split at h
  ·injection h with _ h;injection h with _ h
   cases h
  ·rename_i hc;rcases hq:Bl s (a,false)with⟨n,a1,b⟩
   rw[hq]at hc h;simp only[Prod.mk.injEq]at h hc;obtain⟨h1,rfl,rfl⟩:=h;obtain⟨k1,k2⟩:=(Dm s).fwd a n a1 ha hq;refine⟨k1,?_⟩;unfold I8;rw[k2];simp only[ZA];rw[if_neg (by omega),h1]
 ·unfold I8 at h;cases hn:Cr (bA (s.data.toList.drop a))with
  |none=>rw[hn]at h;cases h
  |some q=>
   rw[hn]at h;simp only[ZA]at h;split at h
   ·cases h
   ·rename_i hc;obtain⟨n,r1⟩:=q;injection h with h
    injection h with h1 h2;simp only at hc h1 h2;obtain⟨a',g1,g2,rfl⟩:=(Dm s).bwd a _ r1 ha hn (by omega);refine⟨a',g1,?_,h2.symm⟩;unfold K9;rw[g2];rw[if_neg (by simp only[Bool.false_eq_true,false_or];omega)];simp only[h1]
def Ahi{α β:Type}(f:Cu→α×Cu)(g:Cu→β×Cu)(c:Cu):(α×β)×Cu:=(((f c).1,(g (f c).2).1),(g (f c).2).2)
theorem Cg{α β:Type}{s:ByteArray}{sm:α→Prop}{sm':β→Prop}{dec:ByteArray→Option (α×ByteArray)}{dec':ByteArray→Option (β×ByteArray)}{ref:Cu→α×Cu}{ref':Cu→β×Cu}(h:Rf s sm dec ref)(h':Rf s sm' dec' ref'):
  Rf s (fun p:α×β=>sm p.1∧sm' p.2) (Io dec dec') (Ahi ref ref'):=by
 refine⟨fun a=>?_,fun a x a' ha he=>?_,fun a x r ha he hx=>?_⟩
 ·unfold Ahi;have h1:=h.stick a;rcases hq:ref (a,true)with⟨x,a1,b⟩
  rw[hq]at h1;have h1:b=true:=h1;subst h1;exact h'.stick a1
 ·unfold Ahi at he;rcases hq:ref (a,false)with⟨x1,a1,b⟩
  rw[hq]at he;cases b with
  |true=>
   have:=h'.stick a1;injection he with _ he
   rw[he]at this;cases this
  |false=>
   rcases hq2:ref' (a1,false)with⟨x2,a2,b2⟩;simp only[hq2,Prod.mk.injEq]at he;obtain⟨rfl,rfl,rfl⟩:=he;obtain⟨k1,k2⟩:=h.fwd a x1 a1 ha hq;obtain⟨k3,k4⟩:=h'.fwd a1 x2 a2 k1 hq2;refine⟨k3,?_⟩;unfold Io;rw[k2];simp only[ZA];rw[k4];rfl
 ·unfold Io at he;cases h1:dec (bA (s.data.toList.drop a))with
  |none=>rw[h1]at he;cases he
  |some q=>
   rw[h1]at he;simp only[ZA]at he;cases h2:dec' q.2 with
   |none=>rw[h2]at he;cases he
   |some u=>
    rw[h2]at he;simp only[ZA,ZD,Prod.mk.injEq]at he;obtain⟨rfl,rfl⟩:=he;obtain⟨x1,r1⟩:=q;obtain⟨x2,r2⟩:=u;obtain⟨a1,g1,g2,rfl⟩:=h.bwd a x1 r1 ha h1 hx.1;obtain⟨a2,g3,g4,rfl⟩:=h'.bwd a1 x2 r2 g1 h2 hx.2;refine⟨a2,g3,?_,rfl⟩;unfold Ahi;rw[g2,g4]
theorem X2{α β:Type}{s:ByteArray}{sm:α→Prop}{sm':β→Prop}{dec:ByteArray→Option (α×ByteArray)}{dec':ByteArray→Option (β×ByteArray)}{ref:Cu→α×Cu}{ref':Cu→β×Cu}(h:Rf s sm dec ref)(to:α→β)(ho:∀x,sm' (to x)→sm x)(hd:∀s,dec' s=(dec s).map fun p=>(to p.1,p.2))(hr:∀c,ref' c=(to (ref c).1,(ref c).2)):Rf s sm' dec' ref':=by
 refine⟨fun a=>?_,fun a x a' ha he=>?_,fun a x r ha he hx=>?_⟩
 ·rw[hr];exact h.stick a
 ·rw[hr]at he;rcases hq:ref (a,false)with⟨x1,a1,b⟩
  rw[hq]at he;simp only[Prod.mk.injEq]at he;obtain⟨rfl,rfl,rfl⟩:=he;obtain⟨k1,k2⟩:=h.fwd a x1 a1 ha hq;exact⟨k1,by rw[hd,k2];rfl⟩
 ·rw[hd]at he;cases h1:dec (bA (s.data.toList.drop a))with
  |none=>rw[h1]at he;cases he
  |some q=>
   rw[h1]at he;simp only[Option.map_some,ZD,Prod.mk.injEq]at he;obtain⟨rfl,rfl⟩:=he;obtain⟨a1,g1,g2,g3⟩:=h.bwd a q.1 q.2 ha h1 (ho _ hx);exact⟨a1,g1,by rw[hr,g2],g3⟩
theorem M6{α:Type}{one:Cu→α×Cu}:∀(k a:Nat),(Cz one k (a,true)).2.2=true
 |0,a=>rfl
 |k+1,a=>by unfold Cz;rw[if_pos rfl]
theorem Afi{α:Type}{s:ByteArray}{sm:α→Prop}{dec:ByteArray→Option (α×ByteArray)}{ref:Cu→α×Cu}(h:Rf s sm dec ref):∀(k:Nat),Rf s (fun l:List α=>∀x∈l,sm x) (Fb dec k) (Cz ref k)
 |0=>⟨fun a=>rfl,fun a x a' ha he=>by
   simp only[Cz,Prod.mk.injEq]at he;obtain⟨rfl,rfl,_⟩:=he;exact⟨ha,rfl⟩,fun a x r ha he hx=>by
   simp only[Fb,ZD,Prod.mk.injEq]at he;obtain⟨rfl,rfl⟩:=he;exact⟨a,ha,rfl,rfl⟩⟩
 |k+1=>by
  have ih:=Afi h k;refine⟨fun a=>M6 _ a,fun a x a' ha he=>?_,fun a x r ha he hx=>?_⟩
  ·have he:(if false=true then([],(a,false))else((ref (a,false)).1::(Cz ref k (ref (a,false)).2).1,(Cz ref k (ref (a,false)).2).2))=(x,(a',false)):=he;rw[if_neg (by simp)]at he;rcases hq:ref (a,false)with⟨x1,a1,b⟩
   rw[hq]at he;cases b with
   |true=>
    have:=M6 (one:=ref) k a1;injection he with _ he
    rw[he]at this;cases this
   |false=>
    rcases hq2:Cz ref k (a1,false)with⟨x2,a2,b2⟩;simp only[hq2,Prod.mk.injEq]at he;obtain⟨rfl,rfl,rfl⟩:=he;obtain⟨k1,k2⟩:=h.fwd a x1 a1 ha hq;obtain⟨k3,k4⟩:=ih.fwd a1 x2 a2 k1 hq2;refine⟨k3,?_⟩;show(dec (bA (s.data.toList.drop a))).bind _=_;rw[k2];simp only[ZA];rw[k4];rfl
  ·have he:(dec (bA (s.data.toList.drop a))).bind (fun p=>(Fb dec k p.2).bind fun q=>some (p.1::q.1,q.2))=some (x,r):=he;cases h1:dec (bA (s.data.toList.drop a))with
   |none=>rw[h1]at he;cases he
   |some q=>
    rw[h1]at he;simp only[ZA]at he;cases h2:Fb dec k q.2 with
    |none=>rw[h2]at he;cases he
    |some u=>
     rw[h2]at he;simp only[ZA,ZD,Prod.mk.injEq]at he;obtain⟨rfl,rfl⟩:=he;obtain⟨x1,r1⟩:=q;obtain⟨x2,r2⟩:=u;obtain⟨a1,g1,g2,rfl⟩:=h.bwd a x1 r1 ha h1 (hx x1 (XB ..));obtain⟨a2,g3,g4,rfl⟩:=ih.bwd a1 x2 r2 g1 h2 fun y hy=>hx y (ZL _ hy);refine⟨a2,g3,?_,rfl⟩;show(if false=true then([],(a,false))else((ref (a,false)).1::(Cz ref k (ref (a,false)).2).1,(Cz ref k (ref (a,false)).2).2))=_;rw[if_neg (by simp),g2,g4]
def Xi{α:Type}(most:Int)(s:ByteArray)(one:Cu→α×Cu)(c:Cu):List α×Cu:=Cz one (K9 most s c).1 (K9 most s c).2
theorem Ab0{α:Type}{s:ByteArray}{sm:α→Prop}{dec:ByteArray→Option (α×ByteArray)}{ref:Cu→α×Cu}(h:Rf s sm dec ref)(most:Int)(hm:most<1099511627776):Rf s (fun l:List α=>∀x∈l,sm x) (Fj most dec) (Xi most s ref):=by
 have hC:=Ar0 s most hm;refine⟨fun a=>?_,fun a x a' ha he=>?_,fun a x r ha he hx=>?_⟩
 ·unfold Xi;have h1:=hC.stick a;rcases hq:K9 most s (a,true)with⟨n,a1,b⟩
  rw[hq]at h1;have h1:b=true:=h1;subst h1;exact M6 n a1
 ·unfold Xi at he;rcases hq:K9 most s (a,false)with⟨n,a1,b⟩
  rw[hq]at he;cases b with
  |true=>
   have:=M6 (one:=ref) n a1;simp only at he;rw[he]at this;cases this
  |false=>
   obtain⟨k1,k2⟩:=hC.fwd a n a1 ha hq;obtain⟨k3,k4⟩:=(Afi h n).fwd a1 x a' k1 he;refine⟨k3,?_⟩;unfold Fj;rw[k2];exact k4
 ·unfold Fj at he;cases h1:I8 most (bA (s.data.toList.drop a))with
  |none=>rw[h1]at he;cases he
  |some q=>
   rw[h1]at he;simp only[ZA]at he;obtain⟨n,r1⟩:=q;obtain⟨a1,g1,g2,rfl⟩:=hC.bwd a n r1 ha h1 trivial;obtain⟨a2,g3,g4,rfl⟩:=(Afi h n).bwd a1 x r g1 he hx;exact⟨a2,g3,by unfold Xi;rw[g2];exact g4,rfl⟩
end Pl
end
section
open Go Go.Lib
namespace Pl
def cMb(s:ByteArray)(c:Cu):Mb×Cu:=
 let a:=G7 s c
 let b:=Bl s a.2
 let d:=Bl s b.2
 let e:=Bl s d.2
 let f:=Pd s e.2
 (⟨a.1,b.1,d.1,e.1,f.1⟩,f.2)
def cSv(s:ByteArray)(c:Cu):Sv×Cu:=
 let a:=G7 s c
 let b:=G7 s a.2
 let d:=G7 s b.2
 let e:=G7 s d.2
 let f:=Bl s e.2
 let g:=Bl s f.2
 let h:=Pd s g.2
 let i:=Bl s h.2
 let j:=Pd s i.2
 (⟨a.1,b.1,d.1,e.1,f.1,g.1,h.1,i.1,j.1⟩,j.2)
def cGw(s:ByteArray)(c:Cu):Gw×Cu:=
 let a:=G7 s c
 let b:=Bl s a.2
 let d:=Bl s b.2
 (⟨a.1,b.1,d.1⟩,d.2)
def cWh(s:ByteArray)(c:Cu):Wh×Cu:=
 let a:=G7 s c
 let b:=Bl s a.2
 let d:=Bl s b.2
 let e:=Bl s d.2
 let f:=Bl s e.2
 let g:=Bl s f.2
 (⟨a.1,⟨b.1,d.1,e.1,f.1,g.1⟩⟩,g.2)
def cPk(s:ByteArray)(c:Cu):Pk×Cu:=
 let a:=G7 s c
 let b:=Pd s a.2
 let d:=Xi 20 s (cMb s) b.2
 let e:=Xi 40 s (cSv s) d.2
 let f:=Xi 6 s (cGw s) e.2
 let g:=Xi 20 s (cWh s) f.2
 (⟨a.1,b.1,d.1,e.1,f.1,g.1⟩,g.2)
def Mb.small(m:Mb):Prop:=F6 m.n∧Es m.st∧Es m.lf∧Es m.ad
def Sv.small(x:Sv):Prop:=F6 x.nd∧F6 x.id∧F6 x.nm∧F6 x.tg∧Es x.ad∧Es x.pt∧Es x.vs
def Gw.small(g:Gw):Prop:=F6 g.c∧Es g.a∧Es g.v
def Wh.small(x:Wh):Prop:=F6 x.nd∧Es x.pl.x∧Es x.pl.y∧Es x.pl.z∧Es x.pl.h∧Es x.pl.s
def Pk.small(p:Pk):Prop:=F6 p.fr∧(∀x∈p.ms,Mb.small x)∧(∀x∈p.sv,Sv.small x)∧(∀x∈p.gs,Gw.small x)∧∀x∈p.wh,Wh.small x
theorem Atu(s:ByteArray):Rf s Mb.small mbR (cMb s):=
 X2 (Cg (Ol s) (Cg (Dm s) (Cg (Dm s) (Cg (Dm s) (Aan s))))) (fun p=>⟨p.1,p.2.1,p.2.2.1,p.2.2.2.1,p.2.2.2.2⟩)
  (fun x h=>⟨h.1,h.2.1,h.2.2.1,h.2.2.2,trivial⟩) (fun s=>by simp[mbR,Io,Option.bind_assoc,Option.map_bind,Function.comp_def]) (fun c=>rfl)
theorem Asx(s:ByteArray):Rf s Sv.small svR (cSv s):=
 X2 (Cg (Ol s) (Cg (Ol s) (Cg (Ol s) (Cg (Ol s) (Cg (Dm s) (Cg (Dm s) (Cg (Aan s) (Cg (Dm s) (Aan s))))))))) (fun p=>⟨p.1,p.2.1,p.2.2.1,p.2.2.2.1,p.2.2.2.2.1,p.2.2.2.2.2.1,p.2.2.2.2.2.2.1,p.2.2.2.2.2.2.2.1,p.2.2.2.2.2.2.2.2⟩)
  (fun x h=>⟨h.1,h.2.1,h.2.2.1,h.2.2.2.1,h.2.2.2.2.1,h.2.2.2.2.2.1,trivial,h.2.2.2.2.2.2,trivial⟩) (fun s=>by simp[svR,Io,Option.bind_assoc,Option.map_bind,Function.comp_def]) (fun c=>rfl)
theorem Asf(s:ByteArray):Rf s Gw.small gwR (cGw s):=
 X2 (Cg (Ol s) (Cg (Dm s) (Dm s))) (fun p=>⟨p.1,p.2.1,p.2.2⟩) (fun x h=>h) (fun s=>by simp[gwR,Io,Option.bind_assoc,Option.map_bind,Function.comp_def]) (fun c=>rfl)
theorem As5(s:ByteArray):Rf s Wh.small whR (cWh s):=
 X2 (Cg (Ol s) (Cg (Dm s) (Cg (Dm s) (Cg (Dm s) (Cg (Dm s) (Dm s)))))) (fun p=>⟨p.1,⟨p.2.1,p.2.2.1,p.2.2.2.1,p.2.2.2.2.1,p.2.2.2.2.2⟩⟩) (fun x h=>h) (fun s=>by simp[whR,Io,Option.bind_assoc,Option.map_bind,Function.comp_def]) (fun c=>rfl)
theorem Ap2(s:ByteArray):Rf s Pk.small pkR (cPk s):=
 X2 (Cg (Ol s) (Cg (Aan s) (Cg (Ab0 (Atu s) 20 (by decide)) (Cg (Ab0 (Asx s) 40 (by decide)) (Cg (Ab0 (Asf s) 6 (by decide)) (Ab0 (As5 s) 20 (by decide))))))) (fun p=>⟨p.1,p.2.1,p.2.2.1,p.2.2.2.1,p.2.2.2.2.1,p.2.2.2.2.2⟩)
  (fun x h=>⟨h.1,trivial,h.2⟩) (fun s=>by simp[pkR,Io,Option.bind_assoc,Option.map_bind,Function.comp_def]) (fun c=>rfl)
def Ad4(err:Pk→Int)(z:Pk)(s:ByteArray):Pk×Int:=match pkR s with
 |none=>(z,1)
 |some p=>if p.2.size≠0∨err p.1≠0 then(z,1)else(p.1,0)
def Aba(err:Pk→Int)(z:Pk)(s:ByteArray):Pk×Int:=if(cPk s (0,false)).2.2=true∨(cPk s (0,false)).2.1≠s.size∨err (cPk s (0,false)).1≠0 then(z,1)else((cPk s (0,false)).1,0)
theorem Aqu{err:Pk→Int}(hsm:∀p,err p=0→p.small)(z:Pk)(s:ByteArray):Ad4 err z s=Aba err z s:=by
 have h0:bA (s.data.toList.drop 0)=s:=by rw[List.drop_zero];exact Xj s
 have hsz:s.size=s.data.toList.length:=by rw[Array.length_toList];rfl
 unfold Ad4 Aba;rcases hq:cPk s (0,false)with⟨p,a,b⟩
 cases b with
 |false=>
  obtain⟨k1,k2⟩:=(Ap2 s).fwd 0 p a (ZU _) hq;rw[h0]at k2;rw[k2];have hl:(bA (s.data.toList.drop a)).size=s.size-a:=by rw[C4,List.length_drop,hsz]
  simp only[hl,Bool.false_eq_true,false_or];by_cases h1:s.size-a≠0∨err p≠0
  ·rw[if_pos h1,if_pos (h1.imp (fun h=>by omega) id)]
  ·rw[if_neg h1,if_neg (fun h=>h1 (h.imp (fun h=>by omega) id))]
 |true=>
  rw[if_pos (.inl rfl)];cases hr:pkR s with
  |none=>rfl
  |some q=>
   simp only;by_cases h1:q.2.size≠0∨err q.1≠0
   ·rw[if_pos h1]
   ·exfalso;have h2:err q.1=0:=Classical.byContradiction fun h=>h1 (.inr h);obtain⟨a',_,g2,_⟩:=(Ap2 s).bwd 0 q.1 q.2 (ZU _) (by rw[h0];exact hr) (hsm _ h2);rw[hq]at g2;cases g2
end Pl
end
namespace Pl
open Classical in
noncomputable def O1(l:List Mb):Int:=if 5<l.length then 2 else if Ad Mb.err l≠0 then Ad Mb.err l else if(l.map Mb.n).Nodup then 0 else 6
theorem Qo{l:List Mb}(h:5<l.length):O1 l=2:=by simp[O1,h]
theorem Qz{l:List Mb}(h:¬5<l.length)(h2:Ad Mb.err l≠0):O1 l=Ad Mb.err l:=by simp[O1,h,h2]
theorem Zc{l:List Mb}(h:¬5<l.length)(h2:Ad Mb.err l=0)(h4:¬(l.map Mb.n).Nodup):O1 l=6:=by simp only[O1,h,h2,h4,if_false,ne_eq,not_true]
theorem Adx{l:List Mb}(h:¬5<l.length)(h2:Ad Mb.err l=0)(h4:(l.map Mb.n).Nodup):O1 l=0:=by simp only[O1,h,h2,h4,if_false,if_true,ne_eq,not_true]
noncomputable def Pk.cks(p:Pk):List Int:=[Gj p.ms,Gv p.sv,Gz p.gs,G4 p.wh]
noncomputable def Pk.err(p:Pk):Int:=
 if lab p.fr.data.toList=false then 1 else if p.wo=false then(if p.sv.length+p.gs.length+p.wh.length=0 then O1 p.ms else 1)else Ad (fun e=>e) p.cks
theorem Pk.err_form{p:Pk}(h:lab p.fr.data.toList=false):p.err=1:=if_pos h
theorem Pk.err_more{p:Pk}(h:lab p.fr.data.toList=true)(h2:p.wo=false)(h3:p.sv.length+p.gs.length+p.wh.length≠0):p.err=1:=by
 unfold Pk.err;rw[if_neg (by simp[h]),if_pos h2,if_neg h3]
theorem Pk.err_few{p:Pk}(h:lab p.fr.data.toList=true)(h2:p.wo=false)(h3:p.sv.length+p.gs.length+p.wh.length=0):p.err=O1 p.ms:=by
 unfold Pk.err;rw[if_neg (by simp[h]),if_pos h2,if_pos h3]
theorem Pk.err_all{p:Pk}(h:lab p.fr.data.toList=true)(h2:p.wo=true):p.err=Ad (fun e=>e) p.cks:=by
 unfold Pk.err;rw[if_neg (by simp[h]),if_neg (by simp[h2])]
end Pl
theorem Anx[Glob](c:Bool)(l:List Mb)(hl:l.length≤9223372036854775807)(hw:∀m∈l,m.ok):Fun Tryz.prog 106 [.c (.sl c (l.map Mb.row))] [.c (.v (.int .i64 (O1 l)))]:=by
 have hlm:(l.map Mb.row).length=l.length:=ZE ..;refine A9 Ys rfl ?_;(refine goI ?_;repeat (intro gg;refine goI ?_));(refine Ab (fun h=>?_) (fun h=>?_)<;>rw[h])
 ·have h1:5<l.length:=by have:=ZV h;omega
  (refine goI ?_;repeat (intro gg;refine goI ?_));rw[Qo h1];(exact⟨[],aI⟩)
 ·have h1:¬5<l.length:=by have:=ZW h;omega
  (refine goI ?_;repeat (intro gg;refine goI ?_));refine .inl (cX (Y7 c l hl hw) ?_);(refine goI ?_;repeat (intro gg;refine goI ?_));(refine Ab (fun h2=>?_) (fun h2=>?_)<;>rw[h2])
  ·have h2':Ad Mb.err l≠0:=by simpa using h2
   (refine goI ?_;repeat (intro gg;refine goI ?_));rw[Qz h1 h2'];(exact⟨[],aI⟩)
  ·have h2':Ad Mb.err l=0:=by simpa using h2
   (refine goI ?_;repeat (intro gg;refine goI ?_))
   rename Nat=>g0
   (refine⟨[],none,{q:Nat×List (ByteArray×V)//q.1≤l.length∧H3 q.2 ((l.take q.1).map Mb.n)},[0,4,16,17],fun⟨⟨k,E⟩,hk,hE⟩=>[(18,.v (.int .i64 k))],[],fun⟨⟨k,E⟩,hk,hE⟩=>[(240,⟨g0,.q (Mj (An E)),0,[]⟩)],fun⟨⟨k,E⟩,hk,hE⟩=>l.length-k,trivial,fun _=>⟨trivial,fun _=>⟨⟨(0,[]),ZU _,H3.nil⟩,tI,Ah _ _,tI,Ag _ _⟩⟩,fun⟨⟨k,E⟩,hk,hE⟩=>?_⟩);(refine goI ?_;repeat (intro gg;refine goI ?_));(refine Ab (fun h3=>?_) (fun h3=>?_)<;>rw[h3])
   ·have hlt:k<l.length:=by have:=ZV h3;omega
    (refine goI ?_;repeat (intro gg;refine goI ?_));refine⟨k,_,rfl,Am hlt,?_⟩;(refine goI ?_;repeat (intro gg;refine goI ?_));refine⟨_,_,rfl,Cw rfl,Pq _ _ _,?_⟩;(refine goI ?_;repeat (intro gg;refine goI ?_));have e:=Xy E l[k].n (.v (.bool true));have hE':H3 (put E l[k].n (.v (.bool true))) ((l.take (k+1)).map Mb.n):=by
     rw[XT,ZC hlt,ZI];exact hE.put _ _ (Cw rfl)
    (exact⟨none,trivial,fun gr=>⟨⟨(k+1,put E l[k].n (.v (.bool true))),by dsimp only;omega,hE'⟩,by show l.length-(k+1)<l.length-k;omega,tI,tI,⟨congrArg (fun x=>some (Ent.mk g0 (.q (Mj x)) 0 [])) e,trivial⟩,tI⟩⟩)
   ·have hge:¬k<l.length:=by have:=ZW h3;omega
    rw[List.take_of_length_le (by dsimp only;omega)]at hE;have hE:H3 E (l.map Mb.n):=hE;(refine goI ?_;repeat (intro gg;refine goI ?_))
    (try refine⟨_,rfl,?_⟩)
    (refine goI ?_;repeat (intro gg;refine goI ?_));rw[Wg,ZE];have ha:=hE.all;have hle:=hE.le;rw[ZE]at ha hle;(refine Ab (fun h4=>?_) (fun h4=>?_)<;>rw[h4])
    ·have h4':E.length<l.length:=(by have:=ZV h4;omega);(refine goI ?_;repeat (intro gg;refine goI ?_));rw[Zc h1 h2' (fun q=>by have:=ha.2 q;omega)];(exact⟨[],aI⟩)
    ·have h4':¬E.length<l.length:=(by have:=ZW h4;omega);(refine goI ?_;repeat (intro gg;refine goI ?_));rw[Adx h1 h2' (ha.1 (by omega))];(exact⟨[],aI⟩)
theorem Ug[Glob](p:Pk)(h:p.ok):Fun Tryz.prog 55 [.c (.agg p.row)] [.c (.v (.int .i64 p.err))]:=by
 have l1:(p.sv.map Sv.row).length=p.sv.length:=ZE ..;have l2:(p.gs.map Gw.row).length=p.gs.length:=ZE ..;have l3:(p.wh.map Wh.row).length=p.wh.length:=ZE ..;have b1:=h.svl;have b2:=h.gsl;have b3:=h.whl;refine A9 Nw rfl ?_;(refine goI ?_;repeat (intro gg;refine goI ?_));refine .inl (cX (Dd p.fr h.fr) ?_);(refine goI ?_;repeat (intro gg;refine goI ?_));(refine Ab (fun h1=>?_) (fun h1=>?_)<;>rw[h1])
 ·rw[Pk.err_form (Dt h1)];(refine goI ?_;repeat (intro gg;refine goI ?_));(exact⟨[],aI⟩)
 ·have h1':=Dq h1;cases hwo:p.wo with
  |false=>
   (refine goI ?_;repeat (intro gg;refine goI ?_));(refine Ab (fun h2=>?_) (fun h2=>?_)<;>rw[h2])
   ·have h2':=ZV h2;rw[Pk.err_more h1' hwo (by omega)];(refine goI ?_;repeat (intro gg;refine goI ?_));(exact⟨[],aI⟩)
   ·have h2':=ZW h2;rw[Pk.err_few h1' hwo (by omega)];(refine goI ?_;repeat (intro gg;refine goI ?_));refine .inl (cX (Anx false p.ms h.msl h.ms) ?_);(refine goI ?_;repeat (intro gg;refine goI ?_));(exact⟨[],aI⟩)
  |true=>
   rw[Pk.err_all h1' hwo];(refine goI ?_;repeat (intro gg;refine goI ?_));(refine⟨_,_,false,aI,Wf p.ms h.msl h.ms,Af,nI,?_⟩);(refine goI ?_;repeat (intro gg;refine goI ?_));(refine⟨_,_,false,aI,Vx p.sv (by omega) h.sv,Af,nI,?_⟩);(refine goI ?_;repeat (intro gg;refine goI ?_));(refine⟨_,_,false,aI,W8 p.gs (by omega) h.gs,Af,nI,?_⟩);(refine goI ?_;repeat (intro gg;refine goI ?_));(refine⟨_,_,false,aI,Xp false p.wh (by omega) h.wh,Af,nI,?_⟩);(refine goI ?_;repeat (intro gg;refine goI ?_));(refine⟨[],none,{k:Nat//k≤4∧∀j,(h:j<p.cks.length)→j<k→p.cks[j]=0},[46,47],fun⟨k,hk,h0⟩=>[(48,.v (.int .i64 k))],[16,736],fun⟨k,hk,h0⟩=>[],fun⟨k,hk,h0⟩=>4-k,trivial,fun _=>⟨trivial,fun _=>⟨⟨0,ZU _,fun j _ h=>absurd h (Nat.not_lt_zero _)⟩,tI,Ah _ _,tI,Ag _ _⟩⟩,fun⟨k,hk,h0⟩=>?_⟩);(refine goI ?_;repeat (intro gg;refine goI ?_));have hk6:k≤4:=hk;(refine Ab (fun h3=>?_) (fun h3=>?_)<;>rw[h3])
   ·have hlt6:k<4:=by have h4:=ZV h3;have h5:(k:Int)<4:=h4;omega
    have hlt:k<p.cks.length:=hlt6;(refine goI ?_;repeat (intro gg;refine goI ?_));refine⟨k,_,rfl,Am (f:=Aiy) (l:=p.cks) hlt,?_⟩;(refine goI ?_;repeat (intro gg;refine goI ?_));refine⟨_,Am (f:=Aiy) (l:=p.cks) hlt,?_⟩;(refine goI ?_;repeat (intro gg;refine goI ?_));(refine Ab (fun h4=>?_) (fun h4=>?_)<;>rw[h4])
    ·have h4':p.cks[k]≠0:=by simpa using h4
     have e:Ad (fun e=>e) p.cks=p.cks[k]:=Bb (e:=fun e=>e) hlt h0 h4';(refine goI ?_;repeat (intro gg;refine goI ?_));rw[e];(exact⟨[],aI⟩)
    ·have h4':p.cks[k]=0:=by simpa using h4
     (refine goI ?_;repeat (intro gg;refine goI ?_));(exact⟨none,trivial,fun _=>⟨⟨k+1,by omega,up1 (p:=fun j h=>p.cks[j]=0) h0 (fun _=>h4')⟩,by show 4-(k+1)<4-k;omega,tI,tI,tI,tI⟩⟩)
   ·have hge:¬k<4:=by have h4:=ZW h3;have h5:¬(k:Int)<4:=h4;omega
    have hz:Ad (fun e=>e) p.cks=0:=A8 (e:=fun e=>e) fun i hi=>h0 i hi (by have h6:i<4:=hi;omega);(refine goI ?_;repeat (intro gg;refine goI ?_));rw[hz];(exact⟨[],aI⟩)
section
open Go Go.Lib
namespace Pl
theorem Rs{x:ByteArray}(h:lab x.data.toList=true):x.size≤30:=by
 unfold lab at h;simp only[ZO,decide_eq_true_eq]at h;have:=h.2.2;rw[Array.length_toList]at this;exact this
theorem Ar2{x:ByteArray}(h:Vb x=true):x.size≤30:=by
 unfold Vb at h;cases h1:emp x with
 |false=>
  rw[h1]at h;exact Rs h
 |true=>
  unfold emp at h1;have h2:x.toList=(⟨#[]⟩:ByteArray).toList:=eq_of_beq h1;rw[Lib.toList_data,Lib.toList_data]at h2;have h3:x.data.toList.length=0:=by rw[h2];rfl
  rw[Array.length_toList]at h3;have h3:x.size=0:=h3;omega
theorem Hu{α:Type}{e:α→Int}{l:List α}(h:Ad e l=0):∀x∈l,e x=0:=fun x hx=>by
 obtain⟨i,hi,rfl⟩:=List.mem_iff_getElem.1 hx;exact Gx h i hi
theorem Di{α:Type}{mx:Nat}{e:α→Int}{lt:α→α→Bool}{l:List α}(h:ckL mx e lt l=0):l.length≤mx∧∀x∈l,e x=0:=by
 unfold ckL at h;split at h
 ·cases h
 ·split at h
  ·rename_i h1 h2;exact⟨by omega,Hu h2⟩
  ·rename_i h1 h2;exact absurd h h2
structure Mb.Sm(m:Mb):Prop where
 n:m.n.size≤30
 st:1≤m.st∧m.st≤4
 lf:1≤m.lf∧m.lf≤1000000
 ad:0≤m.ad∧m.ad≤4294967295
structure Sv.Sm(x:Sv):Prop where
 nd:x.nd.size≤30
 id:x.id.size≤30
 nm:x.nm.size≤30
 tg:x.tg.size≤30
 ad:0≤x.ad∧x.ad≤4294967295
 pt:0≤x.pt∧x.pt≤65535
 vs:1≤x.vs∧x.vs≤1000000
structure Gw.Sm(g:Gw):Prop where
 c:g.c.size≤30
 a:0≤g.a∧g.a≤4294967295
 v:1≤g.v∧g.v≤1000000
structure Wh.Sm(w:Wh):Prop where
 nd:w.nd.size≤30
 x: -10000000≤w.pl.x∧w.pl.x≤10000000
 y: -10000000≤w.pl.y∧w.pl.y≤10000000
 z: -10000000≤w.pl.z∧w.pl.z≤10000000
 h:0≤w.pl.h∧w.pl.h≤1000000
 s:0≤w.pl.s∧w.pl.s≤1000
structure Pk.Sm(p:Pk):Prop where
 fr:p.fr.size≤30
 msl:p.ms.length≤20
 ms:∀x∈p.ms,Mb.Sm x
 svl:p.sv.length≤40
 sv:∀x∈p.sv,Sv.Sm x
 gsl:p.gs.length≤6
 gs:∀x∈p.gs,Gw.Sm x
 whl:p.wh.length≤20
 wh:∀x∈p.wh,Wh.Sm x
theorem Mb.sm{m:Mb}(h:m.err=0):Mb.Sm m:=by
 obtain⟨h1,h2,h3,h4⟩:=Mb.err_inv h;exact⟨Rs h1,h2,h3,h4⟩
theorem Sv.sm{x:Sv}(h:x.err=0):Sv.Sm x:=by
 unfold Sv.err at h
 repeat' (split at h)
 all_goals first
  |(cases h;done)
  |skip
 rename_i h1 h2 h3 h4 h5 h6 h7;exact⟨Rs h1,Rs h2,Rs h3,Ar2 h4,Fv.1 h5,Fv.1 h6,Fv.1 h7⟩
theorem Gw.sm{g:Gw}(h:g.err=0):Gw.Sm g:=by
 obtain⟨h1,h2,h3⟩:=Gw.err_inv h;exact⟨Rs h1,h2,h3⟩
theorem Wh.sm{w:Wh}(h:w.err=0):Wh.Sm w:=by
 unfold Wh.err at h;split at h
 ·rename_i h1;have h2:=Pc.err_iff.1 h;unfold Pc.okb Ajz at h2;simp only[ZO]at h2;obtain⟨⟨⟨⟨a,b⟩,c⟩,d⟩,e⟩:=h2;exact⟨Rs h1,Fv.1 a,Fv.1 b,Fv.1 c,Fv.1 d,Fv.1 e⟩
 ·cases h
theorem Pk.sm{p:Pk}(h:p.err=0):Pk.Sm p:=by
 cases h1:lab p.fr.data.toList with
 |false=>rw[Pk.err_form h1]at h;cases h
 |true=>
  cases h2:p.wo with
  |false=>
   by_cases h3:p.sv.length+p.gs.length+p.wh.length=0
   ·rw[Pk.err_few h1 h2 h3]at h;have e1:p.sv=[]:=List.length_eq_zero_iff.1 (by omega);have e2:p.gs=[]:=List.length_eq_zero_iff.1 (by omega);have e3:p.wh=[]:=List.length_eq_zero_iff.1 (by omega);have h4:p.ms.length≤5∧Ad Mb.err p.ms=0:=by
     by_cases h5:5<p.ms.length
     ·rw[Qo h5]at h;cases h
     ·by_cases h6:Ad Mb.err p.ms=0
      ·exact⟨by omega,h6⟩
      ·rw[Qz h5 h6]at h;exact absurd h h6
    exact⟨Rs h1,by omega,fun x hx=>Mb.sm (Hu h4.2 x hx),by rw[e1];simp,fun x hx=>(by rw[e1]at hx;cases hx),by rw[e2];simp,fun x hx=>(by rw[e2]at hx;cases hx),by rw[e3];simp,fun x hx=>(by rw[e3]at hx;cases hx)⟩
   ·rw[Pk.err_more h1 h2 h3]at h;cases h
  |true=>
   rw[Pk.err_all h1 h2]at h;have g:=Gx h;obtain⟨a1,a2⟩:=Di (show Gj p.ms=0 from g 0 (by show 0<4;omega));obtain⟨b1,b2⟩:=Di (show Gv p.sv=0 from g 1 (by show 1<4;omega));obtain⟨c1,c2⟩:=Di (show Gz p.gs=0 from g 2 (by show 2<4;omega));obtain⟨d1,d2⟩:=Di (show G4 p.wh=0 from g 3 (by show 3<4;omega));exact⟨Rs h1,a1,fun x hx=>Mb.sm (a2 x hx),b1,fun x hx=>Sv.sm (b2 x hx),c1,fun x hx=>Gw.sm (c2 x hx),d1,fun x hx=>Wh.sm (d2 x hx)⟩
theorem Pk.Sm.small{p:Pk}(h:Pk.Sm p):p.small:=by
 refine⟨?_,fun x hx=>?_,fun x hx=>?_,fun x hx=>?_,fun x hx=>?_⟩
 ·have:=h.fr;unfold F6;omega
 ·obtain⟨h1,h2,h3,h4⟩:=h.ms x hx;unfold Mb.small F6 Es;omega
 ·obtain⟨h1,h2,h3,h4,h5,h6,h7⟩:=h.sv x hx;unfold Sv.small F6 Es;omega
 ·obtain⟨h1,h2,h3⟩:=h.gs x hx;unfold Gw.small F6 Es;omega
 ·obtain⟨h1,h2,h3,h4,h5,h6⟩:=h.wh x hx;unfold Wh.small F6 Es;omega
theorem Pk.Sm.okB{p:Pk}(h:Pk.Sm p):p.okB:=by
 have:=h.fr;have:=h.msl;have:=h.svl;have:=h.gsl;have:=h.whl;refine⟨by unfold okT;omega,⟨by omega,fun x hx=>?_⟩,⟨by omega,fun x hx=>?_⟩,⟨by omega,fun x hx=>?_⟩,⟨by omega,fun x hx=>?_⟩⟩
 ·obtain⟨h1,h2,h3,h4⟩:=h.ms x hx;unfold Mb.okB okT isI;omega
 ·obtain⟨h1,h2,h3,h4,h5,h6,h7⟩:=h.sv x hx;unfold Sv.okB okT isI;omega
 ·obtain⟨h1,h2,h3⟩:=h.gs x hx;unfold Gw.okB okT isI;omega
 ·obtain⟨h1,h2,h3,h4,h5,h6⟩:=h.wh x hx;unfold Wh.okB okT isI;omega
noncomputable def Iy(s:ByteArray):Pk×Int:=Ad4 Pk.err pk0 s
noncomputable def Zo(s:ByteArray):Pk×Int:=Aba Pk.err pk0 s
theorem Aso(s:ByteArray):Iy s=Zo s:=Aqu (fun p h=>(Pk.sm h).small) pk0 s
theorem rdPk_back{p:Pk}(h:p.err=0):Iy (bA (pkB p))=(p,0):=by
 have:=Aos.back p [] (Pk.sm h).okB;rw[List.append_nil]at this;unfold Iy Ad4;rw[this];simp only;rw[if_neg (by rw[C4];simp[h])]
end Pl
end
theorem Ark(row:List V)(h:Ov [.s,.s,.l [.s,.i,.i,.i,.b],.l [.s,.i,.i,.i,.b,.i],.l [.s,.s,.s,.s,.i,.i,.b,.i,.b],.l [.s,.i,.i],.i,.i,.i,.i,.i,.l [.s,.i,.i,.i,.i,.i]] row):∃n:Nd,row=n.row∧n.ok:=by
 obtain⟨u0,_,rfl,f0,h⟩:=Au h;obtain⟨u1,_,rfl,f1,h⟩:=Au h;obtain⟨u2,_,rfl,f2,h⟩:=Au h;obtain⟨u3,_,rfl,f3,h⟩:=Au h;obtain⟨u4,_,rfl,f4,h⟩:=Au h;obtain⟨u5,_,rfl,f5,h⟩:=Au h;obtain⟨u6,_,rfl,f6,h⟩:=Au h;obtain⟨u7,_,rfl,f7,h⟩:=Au h;obtain⟨u8,_,rfl,f8,h⟩:=Au h;obtain⟨u9,_,rfl,f9,h⟩:=Au h;obtain⟨u10,_,rfl,f10,h⟩:=Au h;obtain⟨u11,_,rfl,f11,h⟩:=Au h;obtain rfl:=Ig h;obtain⟨nm,rfl,hn⟩:=Ou f0;obtain⟨ce,rfl,hc⟩:=Ou f1;obtain⟨ms,rfl,m1,m2⟩:=J4 Aqy f2;obtain⟨rs,rfl,r1,r2⟩:=J4 Arg f3;obtain⟨sv,rfl,s1,s2⟩:=J4 Ar4 f4;obtain⟨gs,rfl,g1,g2⟩:=J4 Aqo f5;obtain⟨a,rfl,_⟩:=Ey f6;obtain⟨b,rfl,_⟩:=Ey f7;obtain⟨c,rfl,_⟩:=Ey f8;obtain⟨d,rfl,_⟩:=Ey f9;obtain⟨e,rfl,_⟩:=Ey f10;obtain⟨wh,rfl,w1,w2⟩:=J4 Apq f11;exact⟨⟨nm,ce,ms,rs,sv,gs,⟨a,b,c,d,e⟩,wh⟩,rfl,⟨hn,hc,m1,m2,r1,r2,s1,s2,g1,g2,w1,w2⟩⟩
structure Pk.ok0(p:Pk):Prop where
 fr:p.fr.size≤9223372036854775807
 msl:p.ms.length≤9223372036854775807
 ms:∀x∈p.ms,x.ok
 sv:∀x∈p.sv,x.ok
 gs:∀x∈p.gs,x.ok
 wh:∀x∈p.wh,x.ok
theorem Pk.ok0.ok{p:Pk}(h:Pk.ok0 p)(h3:(p.sv.map Sv.row).length≤140737488351232)(h4:(p.gs.map Gw.row).length≤140737488351232)(h5:(p.wh.map Wh.row).length≤140737488351232):p.ok:=by
 rw[ZE]at h3 h4 h5;exact⟨h.fr,h.msl,h.ms,by omega,h.sv,by omega,h.gs,by omega,h.wh⟩
open Go
namespace Pl
structure Lt where
 to:Int
 tx:ByteArray
def Lt.row(l:Lt):List V:=[.v (.int .i64 l.to),.v (.string l.tx)]
structure Nt where
 ns:List Nd
 ls:List Lt
def Nt.row(n:Nt):List V:=[.sl false (n.ns.map Nd.row),.sl false (n.ls.map Lt.row)]
structure Nt.ok(n:Nt):Prop where
 nsl:n.ns.length≤1000000000000000
 ns:∀x∈n.ns,x.ok
 lsl:n.ls.length≤1000000000000000
 ls:∀x∈n.ls,x.tx.size≤1000000000000
noncomputable def Gc(k:Nat)(l:Lt):Int:=if l.to<0∨(k:Int)≤l.to then 3 else(Iy l.tx).2
noncomputable def Nt.err(n:Nt):Int:=
 if 6<n.ns.length∨20<n.ls.length then 2 else if Ad Nd.err n.ns≠0 then Ad Nd.err n.ns else if¬(n.ns.map Nd.nm).Nodup then 6 else Ad (Gc n.ns.length) n.ls
theorem Nt.err_many{n:Nt}(h:6<n.ns.length∨20<n.ls.length):n.err=2:=if_pos h
theorem Nt.err_each{n:Nt}(h:¬(6<n.ns.length∨20<n.ls.length))(h1:Ad Nd.err n.ns≠0):n.err=Ad Nd.err n.ns:=by
 unfold Nt.err;rw[if_neg h,if_pos h1]
theorem Nt.err_two{n:Nt}(h:¬(6<n.ns.length∨20<n.ls.length))(h1:Ad Nd.err n.ns=0)(h2:¬(n.ns.map Nd.nm).Nodup):n.err=6:=by
 unfold Nt.err;rw[if_neg h,if_neg (fun q=>q h1),if_pos h2]
theorem Nt.err_ls{n:Nt}(h:¬(6<n.ns.length∨20<n.ls.length))(h1:Ad Nd.err n.ns=0)(h2:(n.ns.map Nd.nm).Nodup):n.err=Ad (Gc n.ns.length) n.ls:=by
 unfold Nt.err;rw[if_neg h,if_neg (fun q=>q h1),if_neg (fun q=>q h2)]
theorem Tk{k:Nat}{l:Lt}(h:l.to<0∨(k:Int)≤l.to):Gc k l=3:=if_pos h
theorem Xh{k:Nat}{l:Lt}(h:¬(l.to<0∨(k:Int)≤l.to)):Gc k l=(Iy l.tx).2:=if_neg h
end Pl
instance:FlatRow Lt.row:=⟨fun x u hu=>by simp[Lt.row]at hu;rcases hu with rfl|rfl<;>exact⟨_,rfl⟩⟩
theorem Vv{n:Nd}:∀u∈n.row,Cl u:=by
 intro u hu;simp only[Nd.row,XC,XD,or_false]at hu;rcases hu with rfl|rfl|rfl|rfl|rfl|rfl|rfl|rfl|rfl|rfl|rfl|rfl
 all_goals first|exact(Ak2 _).cl|exact Dj
theorem Tf{l:List Nd}:∀row∈l.map Nd.row,∀u∈row,Cl u:=by
 intro row hr;obtain⟨n,_,rfl⟩:=XO.1 hr;exact Vv
theorem Od{c:Bool}{l:List Nd}:Cl (.sl c (l.map Nd.row)):=Zq Tf
theorem Si{n:Nt}:Cl (.agg n.row):=Pf fun u hu=>by
 simp only[Nt.row,XC,XD,or_false]at hu;rcases hu with rfl|rfl
 ·exact Od
 ·exact Dj
abbrev pwT:TypeId:=252
theorem Asy:Atc pwT:=⟨by kernel_rfl,by decide⟩
def Afw(n:Int):List V:=[.v (.int .i64 n)]
instance:FlatRow Afw:=⟨fun x u hu=>by simp[Afw]at hu;exact⟨_,hu⟩⟩
def tRw(s:ByteArray):List V:=[.v (.string s)]
instance:FlatRow tRw:=⟨fun x u hu=>by simp[tRw]at hu;exact⟨_,hu⟩⟩
namespace Pl
def A7(ns:List Int):List UInt8:=ns.flatMap Bz
def Cb(l:List ByteArray):List UInt8:=l.flatMap Ox
theorem I1{α:Type}{f:α→List UInt8}{l:List α}{k:Nat}(hk:k<l.length):(l.take (k+1)).flatMap f=(l.take k).flatMap f++f l[k]:=by
 rw[XT,ZC hk,List.flatMap_append];simp
theorem Bg{n:Int}(h:isI n):(Bz n).length≤22:=by
 have:=Lib.itoa_length_le n h.1 h.2;unfold Bz;rw[ZF];simp only[ZJ,ZN];omega
theorem Fc{α:Type}{f:α→List UInt8}{m:Nat}:∀{l:List α},(∀x∈l,(f x).length≤m)→(l.flatMap f).length≤m*l.length
 |[],_=>by simp
 |x::l,h=>by
  have h1:=Fc (l:=l) fun y hy=>h y (ZL _ hy);have h2:=h x (XB ..);rw[List.flatMap_cons,ZF,ZJ,Nat.mul_add];omega
theorem Aju(l:List UInt8):((⟨l.toArray⟩:ByteArray)++⟨#[59]⟩).data.toList=l++[59]:=by simp
end Pl
theorem Ck[Glob][Tabs](l:List UInt8)(c:Bool)(ns:List Int)(h:∀n∈ns,isI n)(hn:ns.length≤100)(hl:l.length≤100000000000):Gl Tryz.prog 222 [.mo (D2 pwT l) (D2 pwT (l++A7 ns)),.p (.c (.sl c (ns.map Afw)))] []:=by
 refine On Lo rfl rfl (Qk rfl) ?_;(refine goI ?_;repeat (intro gg;refine goI ?_));rw[ZE];(refine⟨[],none,{k:Nat//k≤ns.length},[0,6,7],fun⟨k,hk⟩=>[(8,.v (.int .i64 k))],[],fun⟨k,hk⟩=>[(0,⟨0,.q (D2 pwT (l++A7 (ns.take k))),0,[]⟩)],fun⟨k,hk⟩=>ns.length-k,trivial,fun _=>⟨trivial,fun _=>⟨⟨0,by omega⟩,tI,Ah _ _,?_,Ag _ _⟩⟩,fun⟨k,hk⟩=>?_⟩;focus (exact⟨congrArg (fun r=>some (Ent.mk 0 (.q (D2 pwT r)) 0 [])) (show l=l++A7 (ns.take 0)by simp[A7]),trivial⟩));(refine goI ?_;repeat (intro gg;refine goI ?_));(refine Ab (fun h1=>?_) (fun h1=>?_)<;>rw[h1])
 ·have hlt:k<ns.length:=(by have:=ZV h1;omega);have hI:=h _ (ZK hlt);have hlen:(A7 (ns.take k)).length≤22*100:=by
   have h1:=Fc (f:=Bz) (m:=22) (l:=ns.take k) fun x hx=>Bg (h x (List.mem_of_mem_take hx));rw[ZM]at h1;have:min k ns.length≤100:=by omega
   exact XI h1 (Nat.mul_le_mul_left 22 this)
  have hsz:=Lib.itoa_length_le ns[k] hI.1 hI.2;have e:l++A7 (ns.take k)++(⟨(Lib.itoa ns[k]).toArray⟩++⟨#[59]⟩:ByteArray).data.toList=l++A7 (ns.take (k+1)):=by unfold A7;rw[I1 hlt,ZS,Aju];rfl
  (refine goI ?_;repeat (intro gg;refine goI ?_));refine⟨k,_,rfl,Am hlt,?_⟩;(refine goI ?_;repeat (intro gg;refine goI ?_));(refine⟨_,_,false,aI,Wq ns[k] hI.1 hI.2,Af,nI,?_⟩);(refine goI ?_;repeat (intro gg;refine goI ?_));refine⟨by show(((Lib.itoa ns[k]).toArray.size+1:Nat):Int)≤_;rw[List.size_toArray];omega,?_⟩;(refine goI ?_;repeat (intro gg;refine goI ?_));(refine .inr (.inl ⟨_,_,false,[0],aM,Abw Asy (l++A7 (ns.take k)) (⟨(Lib.itoa ns[k]).toArray⟩++⟨#[59]⟩) (by rw[ZF];show _+_+((⟨(Lib.itoa ns[k]).toArray⟩++⟨#[59]⟩:ByteArray)).size≤_;rw[XP];show _+_+((Lib.itoa ns[k]).toArray.size+1)≤_;rw[List.size_toArray];omega),Af,oI,dI,?_⟩));(refine goI ?_;repeat (intro gg;refine goI ?_));(exact⟨none,trivial,fun gr=>⟨⟨k+1,by omega⟩,by show ns.length-(k+1)<ns.length-k;omega,tI,tI,⟨congrArg (fun r=>some (Ent.mk 0 (.q (D2 pwT r)) 0 [])) e,trivial⟩,tI⟩⟩)
 ·have hge:¬k<ns.length:=(by have:=ZW h1;omega);obtain rfl:k=ns.length:=by omega
  rw[show A7 ns=A7 (ns.take ns.length)by rw[XF]];(refine goI ?_;repeat (intro gg;refine goI ?_));(exact⟨[0],aM⟩)
theorem Mn[Glob][Tabs](l:List UInt8)(c:Bool)(ts:List ByteArray)(h:∀t∈ts,t.size≤100)(hn:ts.length≤10)(hl:l.length≤10000000000):Gl Tryz.prog 218 [.mo (D2 pwT l) (D2 pwT (l++Cb ts)),.p (.c (.sl c (ts.map tRw)))] []:=by
 refine On M0 rfl rfl (Qk rfl) ?_;(refine goI ?_;repeat (intro gg;refine goI ?_));rw[ZE];(refine⟨[],none,{k:Nat//k≤ts.length},[0,6,7],fun⟨k,hk⟩=>[(8,.v (.int .i64 k))],[],fun⟨k,hk⟩=>[(0,⟨0,.q (D2 pwT (l++Cb (ts.take k))),0,[]⟩)],fun⟨k,hk⟩=>ts.length-k,trivial,fun _=>⟨trivial,fun _=>⟨⟨0,by omega⟩,tI,Ah _ _,?_,Ag _ _⟩⟩,fun⟨k,hk⟩=>?_⟩;focus (exact⟨congrArg (fun r=>some (Ent.mk 0 (.q (D2 pwT r)) 0 [])) (show l=l++Cb (ts.take 0)by simp[Cb]),trivial⟩));(refine goI ?_;repeat (intro gg;refine goI ?_));(refine Ab (fun h1=>?_) (fun h1=>?_)<;>rw[h1])
 ·have hlt:k<ts.length:=(by have:=ZV h1;omega);have hz:=h _ (ZK hlt);have hI:isI (ts[k].size:Int):=⟨by omega,by omega⟩;have hlen:(Cb (ts.take k)).length≤122*10:=by
   have h1:=Fc (f:=Ox) (m:=122) (l:=ts.take k) fun x hx=>by
    have hx:=h x (List.mem_of_mem_take hx);have:=Bg (n:=(x.size:Int)) ⟨by omega,by omega⟩;unfold Ox;have hd:x.data.toList.length=x.size:=Array.length_toList;rw[ZF,hd];omega
   rw[ZM]at h1;have:min k ts.length≤10:=by omega
   exact XI h1 (Nat.mul_le_mul_left 122 this)
  have e:l++Cb (ts.take k)++A7 [(ts[k].size:Int)]++ts[k].data.toList=l++Cb (ts.take (k+1)):=by unfold Cb;rw[I1 hlt];simp[A7,Ox]
  have hnl:=Bg hI;have hn1:(A7 [(ts[k].size:Int)]).length=(Bz (ts[k].size:Int)).length:=by simp[A7]
  (refine goI ?_;repeat (intro gg;refine goI ?_));refine⟨k,_,rfl,Am hlt,?_⟩;(refine goI ?_;repeat (intro gg;refine goI ?_));(refine .inr (.inl ⟨_,_,true,[0],aM,Ck (l++Cb (ts.take k)) false [(ts[k].size:Int)] (by simpa using hI) (by simp) (by rw[ZF];omega),(fun _=>Et),oI,dI,?_⟩));(refine goI ?_;repeat (intro gg;refine goI ?_));(refine .inr (.inl ⟨_,_,false,[0],aM,Abw Asy (l++Cb (ts.take k)++A7 [(ts[k].size:Int)]) ts[k] (by rw[ZF,ZF,hn1];omega),Af,oI,dI,?_⟩));(refine goI ?_;repeat (intro gg;refine goI ?_));(exact⟨none,trivial,fun gr=>⟨⟨k+1,by omega⟩,by show ts.length-(k+1)<ts.length-k;omega,tI,tI,⟨congrArg (fun r=>some (Ent.mk 0 (.q (D2 pwT r)) 0 [])) e,trivial⟩,tI⟩⟩)
 ·have hge:¬k<ts.length:=(by have:=ZW h1;omega);obtain rfl:k=ts.length:=by omega
  rw[show Cb ts=Cb (ts.take ts.length)by rw[XF]];(refine goI ?_;repeat (intro gg;refine goI ?_));(exact⟨[0],aM⟩)
theorem Sp[Glob][Tabs](l:List UInt8)(b:Bool)(hl:l.length≤10000000000):Gl Tryz.prog 219 [.mo (D2 pwT l) (D2 pwT (l++M8 b)),.p (.c (.v (.bool b)))] []:=by
 refine On Oe rfl rfl (Qk rfl) ?_;cases b
 ·rw[show l++M8 false=l++A7 [0]by simp[M8,A7]];(refine goI ?_;repeat (intro gg;refine goI ?_));(refine .inr (.inl ⟨_,_,true,[0],aM,Ck l false [0] (by intro n hn;simp at hn;subst hn;exact⟨by decide,by decide⟩) (by simp) (by omega),(fun _=>Et),oI,dI,?_⟩));(refine goI ?_;repeat (intro gg;refine goI ?_));(exact⟨[0],aM⟩)
 ·rw[show l++M8 true=l++A7 [1]by simp[M8,A7]];(refine goI ?_;repeat (intro gg;refine goI ?_));(refine .inr (.inl ⟨_,_,true,[0],aM,Ck l false [1] (by intro n hn;simp at hn;subst hn;exact⟨by decide,by decide⟩) (by simp) (by omega),(fun _=>Et),oI,dI,?_⟩));(refine goI ?_;repeat (intro gg;refine goI ?_));(exact⟨[0],aM⟩)
theorem Aof:Ae0 pwT [.v (.pointer none),.v (.slice none 0 0)] (D2 pwT []):=by
 intro w R b xs hown hrv;rcases hown.2 with⟨q,_⟩|⟨g,cap,cur,q,_,hg,hnc,hcm,hcs,htake⟩
 ·cases q
 ·injection q with q1 q2 q3;injection q1 with q1
  injection q1 with q1;subst q1 q3;have hl:cur.toList.length=2:=by simpa using hcs
  have hx:cur.toList=xs:=by rw[←htake,List.take_of_length_le (by rw[hl];exact ZT _)]
  match xs,hx with
  |[x0,x1],hx=>
   have e0:x0=.pointer none:=Cd (hrv 0 _ x0 rfl rfl);have e1:x1=.slice none 0 0:=Cd (hrv 1 _ x1 rfl rfl);subst e0 e1;have hc:cur= #[.pointer none,.slice none 0 0]:=by apply Array.ext';rw[hx]
   subst hc;exact⟨b,.slice none 0 0,rfl,⟨⟨_,.inl rfl,hg⟩,World.ownsRow_nil _ _ _ _,by simp[Value.ownBlock]⟩,fun k=>by simp[Value.ownBlock]⟩
  |[],hx=>rw[hx]at hl;simp at hl
  |[_],hx=>rw[hx]at hl;simp at hl
  |_::_::_::_,hx=>rw[hx]at hl;simp at hl
namespace Pl
theorem C7{t:ByteArray}(h:t.size≤30):(Ox t).length≤52:=by
 have:=Bg (n:=(t.size:Int)) ⟨by omega,by omega⟩;have hd:t.data.toList.length=t.size:=Array.length_toList;unfold Ox;rw[ZF,hd];omega
theorem H5(b:Bool):(M8 b).length≤22:=Bg (by cases b<;>exact⟨by decide,by decide⟩)
theorem Mb.lenB{m:Mb}(h:Mb.Sm m):(mbB m).length≤140:=by
 obtain⟨h1,h2,h3,h4⟩:=h;have a1:=C7 h1;have a2:=Bg (n:=m.st) ⟨by omega,by omega⟩;have a3:=Bg (n:=m.lf) ⟨by omega,by omega⟩;have a4:=Bg (n:=m.ad) ⟨by omega,by omega⟩;have a5:=H5 m.sv;unfold mbB;simp only[ZF];omega
theorem Sv.lenB{x:Sv}(h:Sv.Sm x):(svB x).length≤318:=by
 obtain⟨h1,h2,h3,h4,h5,h6,h7⟩:=h;have a1:=C7 h1;have a2:=C7 h2;have a3:=C7 h3;have a4:=C7 h4;have b2:=Bg (n:=x.ad) ⟨by omega,by omega⟩;have b3:=Bg (n:=x.pt) ⟨by omega,by omega⟩;have b4:=Bg (n:=x.vs) ⟨by omega,by omega⟩;have a5:=H5 x.ps;have a6:=H5 x.gn;unfold svB;simp only[ZF];omega
theorem Gw.lenB{g:Gw}(h:Gw.Sm g):(gwB g).length≤96:=by
 obtain⟨h1,h2,h3⟩:=h;have a1:=C7 h1;have b2:=Bg (n:=g.a) ⟨by omega,by omega⟩;have b3:=Bg (n:=g.v) ⟨by omega,by omega⟩;unfold gwB;simp only[ZF];omega
theorem Wh.lenB{w:Wh}(h:Wh.Sm w):(whB w).length≤162:=by
 obtain⟨h1,h2,h3,h4,h5,h6⟩:=h;have a1:=C7 h1;have b2:=Bg (n:=w.pl.x) ⟨by omega,by omega⟩;have b3:=Bg (n:=w.pl.y) ⟨by omega,by omega⟩;have b4:=Bg (n:=w.pl.z) ⟨by omega,by omega⟩;have b5:=Bg (n:=w.pl.h) ⟨by omega,by omega⟩;have b6:=Bg (n:=w.pl.s) ⟨by omega,by omega⟩;unfold whB;simp only[ZF];omega
theorem Hi{α:Type}{f:α→List UInt8}{m n:Nat}{l:List α}(h:∀x∈l,(f x).length≤m)(hl:l.length≤n)(k:Nat):((l.take k).flatMap f).length≤m*n:=by
 have h1:=Fc (f:=f) (m:=m) (l:=l.take k) fun x hx=>h x (List.mem_of_mem_take hx);rw[ZM]at h1;exact XI h1 (Nat.mul_le_mul_left m (by omega))
theorem E8{ns:List Int}{k:Nat}(h:∀n∈ns,isI n)(hk:ns.length≤k):(A7 ns).length≤22*k:=by
 have h1:=Fc (f:=Bz) (m:=22) (l:=ns) fun x hx=>Bg (h x hx);exact XI h1 (Nat.mul_le_mul_left 22 hk)
end Pl
set_option maxHeartbeats 4000000 in
theorem Aix[Glob][Tabs](p:Pk)(h:Pk.Sm p):Fun Tryz.prog 188 [.c (.agg p.row)] [.c (.v (.string (bA (pkB p))))]:=by
 obtain⟨fr,wo,ms,sv,gs,wh⟩:=p;obtain⟨h1,h2,h3,h4,h5,h6,h7,h8,h9⟩:=h;simp only at h1 h2 h3 h4 h5 h6 h7 h8 h9;show Fun _ _ [.c (.agg [.v (.string fr),.v (.bool wo),.sl false (ms.map Mb.row),.sl false (sv.map Sv.row),.sl false (gs.map Gw.row),.sl false (wh.map Wh.row)])] _;have t1:∀t∈[fr],t.size≤100:=fun t ht=>by simp at ht;subst ht;omega
 have k1:(Cb [fr]).length≤52:=by simpa[Cb]using C7 h1
 have k2:=H5 wo;obtain⟨A0,hA0⟩:∃A,A=[]++Cb [fr]++M8 wo:=⟨_,rfl⟩;have l0:A0.length≤100:=by rw[hA0];simp only[ZF,ZN];omega
 have hY:Gl Tryz.prog 219 [.mo (D2 pwT ([]++Cb [fr])) (D2 pwT A0),.p (.c (.v (.bool wo)))] []:=by
  rw[hA0];exact Sp _ wo (by simp only[ZF,ZN];omega)
 have hN0:Gl Tryz.prog 222 [.mo (D2 pwT (A0)) (D2 pwT (A0++A7 [(ms.length:Int)])),.p (.c (.sl false ([(ms.length:Int)].map Afw)))] []:=by
  exact Ck A0 false [(ms.length:Int)] (by intro n hn;simp at hn;subst hn;exact⟨by omega,by omega⟩) (by simp) (by omega)
 have n0:(A7 [(ms.length:Int)]).length≤22*1:=E8 (by intro n hn;simp at hn;subst hn;exact⟨by omega,by omega⟩) (by simp);obtain⟨A1,hA1⟩:∃A,A=A0++A7 [(ms.length:Int)]++(ms.take ms.length).flatMap mbB:=⟨_,rfl⟩;have l1:A1.length≤2922:=by
  have n2:=Hi (f:=mbB) (m:=140) (n:=20) (l:=ms) (fun x hx=>Mb.lenB (h3 x hx)) h2 ms.length;rw[hA1];simp only[ZF];omega
 have hN1:Gl Tryz.prog 222 [.mo (D2 pwT (A0++A7 [(ms.length:Int)]++(ms.take ms.length).flatMap mbB)) (D2 pwT (A1++A7 [(sv.length:Int)])),.p (.c (.sl false ([(sv.length:Int)].map Afw)))] []:=by
  rw[←hA1];exact Ck A1 false [(sv.length:Int)] (by intro n hn;simp at hn;subst hn;exact⟨by omega,by omega⟩) (by simp) (by omega)
 have n1:(A7 [(sv.length:Int)]).length≤22*1:=E8 (by intro n hn;simp at hn;subst hn;exact⟨by omega,by omega⟩) (by simp);obtain⟨A2,hA2⟩:∃A,A=A1++A7 [(sv.length:Int)]++(sv.take sv.length).flatMap svB:=⟨_,rfl⟩;have l2:A2.length≤15664:=by
  have n2:=Hi (f:=svB) (m:=318) (n:=40) (l:=sv) (fun x hx=>Sv.lenB (h5 x hx)) h4 sv.length;rw[hA2];simp only[ZF];omega
 have hN2:Gl Tryz.prog 222 [.mo (D2 pwT (A1++A7 [(sv.length:Int)]++(sv.take sv.length).flatMap svB)) (D2 pwT (A2++A7 [(gs.length:Int)])),.p (.c (.sl false ([(gs.length:Int)].map Afw)))] []:=by
  rw[←hA2];exact Ck A2 false [(gs.length:Int)] (by intro n hn;simp at hn;subst hn;exact⟨by omega,by omega⟩) (by simp) (by omega)
 have n2:(A7 [(gs.length:Int)]).length≤22*1:=E8 (by intro n hn;simp at hn;subst hn;exact⟨by omega,by omega⟩) (by simp);obtain⟨A3,hA3⟩:∃A,A=A2++A7 [(gs.length:Int)]++(gs.take gs.length).flatMap gwB:=⟨_,rfl⟩;have l3:A3.length≤16262:=by
  have n2:=Hi (f:=gwB) (m:=96) (n:=6) (l:=gs) (fun x hx=>Gw.lenB (h7 x hx)) h6 gs.length;rw[hA3];simp only[ZF];omega
 have hN3:Gl Tryz.prog 222 [.mo (D2 pwT (A2++A7 [(gs.length:Int)]++(gs.take gs.length).flatMap gwB)) (D2 pwT (A3++A7 [(wh.length:Int)])),.p (.c (.sl false ([(wh.length:Int)].map Afw)))] []:=by
  rw[←hA3];exact Ck A3 false [(wh.length:Int)] (by intro n hn;simp at hn;subst hn;exact⟨by omega,by omega⟩) (by simp) (by omega)
 have n3:(A7 [(wh.length:Int)]).length≤22*1:=E8 (by intro n hn;simp at hn;subst hn;exact⟨by omega,by omega⟩) (by simp);have eP:bA (pkB ⟨fr,wo,ms,sv,gs,wh⟩)=⟨(A3++A7 [(wh.length:Int)]++(wh.take wh.length).flatMap whB).toArray⟩:=by
  rw[hA3,hA2,hA1,hA0];simp only[XF];simp[bA,pkB,Cb,A7,Aao]
 rw[eP];refine A9 Vc rfl ?_;(refine goI ?_;repeat (intro gg;refine goI ?_));refine .inr (.inl ⟨_,_,true,[80],As4 rfl (Li rfl) Aof (by decide) (by decide) aM,Mn [] false [fr] t1 (by simp) (by simp),(fun _=>Et),oI,dI,?_⟩);(refine goI ?_;repeat (intro gg;refine goI ?_));rename_i g1 gw g3;(refine .inr (.inl ⟨_,_,false,[80],aM,hY,Af,oI,dI,?_⟩));(refine goI ?_;repeat (intro gg;refine goI ?_));refine .inr (.inr (.inr (Im 1000 Ko rfl ?_)));(refine goI ?_;repeat (intro gg;refine goI ?_));rw[ZE];(refine .inr (.inl ⟨_,_,true,[80],aM,hN0,(fun _=>Et),oI,dI,?_⟩));(refine goI ?_;repeat (intro gg;refine goI ?_))
 try rw[ZE]
 (refine⟨[],none,{k:Nat//k≤ms.length},[0,1,2,13,14],fun⟨k,hk⟩=>[(15,.v (.int .i64 k))],[16,48],fun⟨k,hk⟩=>[(80,⟨g1,.q (D2 pwT (A0++A7 [(ms.length:Int)]++(ms.take k).flatMap mbB)),0,[]⟩)],fun⟨k,hk⟩=>ms.length-k,trivial,fun _=>⟨trivial,fun _=>⟨⟨0,by omega⟩,tI,Ah _ _,?_,Ag _ _⟩⟩,fun⟨k,hk⟩=>?_⟩;focus (exact⟨congrArg (fun r=>some (Ent.mk g1 (.q (D2 pwT r)) 0 [])) (by simp),trivial⟩));(refine goI ?_;repeat (intro gg;refine goI ?_));(refine Ab (fun q0=>?_) (fun q0=>?_)<;>rw[q0])
 ·have hlt:k<ms.length:=(by have:=ZV q0;omega);have hm:=h3 _ (ZK hlt);have n2:=Hi (f:=mbB) (m:=140) (n:=20) (l:=ms) (fun x hx=>Mb.lenB (h3 x hx)) h2 k;(refine goI ?_;repeat (intro gg;refine goI ?_));refine⟨k,_,rfl,Am hlt,?_⟩;(refine goI ?_;repeat (intro gg;refine goI ?_));refine .inr (.inr (.inr (Im 2000 Ra rfl ?_)));(refine goI ?_;repeat (intro gg;refine goI ?_));have c0:(Cb [ms[k].n]).length≤52:=by
   have z0:=C7 hm.n;simp only[Cb,List.flatMap_cons,List.flatMap_nil,List.append_nil,ZF];omega
  (refine .inr (.inl ⟨_,_,true,[80],aM,Mn (A0++A7 [(ms.length:Int)]++(ms.take k).flatMap mbB) false [ms[k].n] (by intro t ht;simp at ht;subst ht;first|exact XI hm.n (by decide)|exact XI hm.c (by decide)|exact XI hm.nd (by decide)) (by simp) (by simp only[ZF];omega),(fun _=>Et),oI,dI,?_⟩));(refine goI ?_;repeat (intro gg;refine goI ?_));have c1:(A7 [ms[k].st,ms[k].lf,ms[k].ad]).length≤22*3:=E8 (by intro n hn;simp at hn;cases hm;rcases hn with rfl|rfl|rfl<;>exact⟨by omega,by omega⟩) (by simp);(refine .inr (.inl ⟨_,_,true,[80],aM,Ck (A0++A7 [(ms.length:Int)]++(ms.take k).flatMap mbB++Cb [ms[k].n]) false [ms[k].st,ms[k].lf,ms[k].ad] (by intro n hn;simp at hn;cases hm;rcases hn with rfl|rfl|rfl<;>exact⟨by omega,by omega⟩) (by simp) (by simp only[ZF];omega),(fun _=>Et),oI,dI,?_⟩));(refine goI ?_;repeat (intro gg;refine goI ?_));have c2:=H5 ms[k].sv;(refine .inr (.inl ⟨_,_,false,[80],aM,Sp (A0++A7 [(ms.length:Int)]++(ms.take k).flatMap mbB++Cb [ms[k].n]++A7 [ms[k].st,ms[k].lf,ms[k].ad]) ms[k].sv (by simp only[ZF];omega),Af,oI,dI,?_⟩));(refine goI ?_;repeat (intro gg;refine goI ?_));have e2:A0++A7 [(ms.length:Int)]++(ms.take k).flatMap mbB++Cb [ms[k].n]++A7 [ms[k].st,ms[k].lf,ms[k].ad]++M8 ms[k].sv=A0++A7 [(ms.length:Int)]++(ms.take (k+1)).flatMap mbB:=by rw[I1 hlt];simp[mbB,Cb,A7]
  (exact⟨none,trivial,fun gr=>⟨⟨k+1,by omega⟩,by show ms.length-(k+1)<ms.length-k;omega,tI,tI,⟨congrArg (fun r=>some (Ent.mk g1 (.q (D2 pwT r)) 0 [])) e2,trivial⟩,tI⟩⟩)
 ·have hge:¬k<ms.length:=(by have:=ZW q0;omega);obtain rfl:k=ms.length:=by omega
  (refine goI ?_;repeat (intro gg;refine goI ?_));refine .inr (.inr (.inr (Im 3000 I9 rfl ?_)));(refine goI ?_;repeat (intro gg;refine goI ?_));rw[ZE];(refine .inr (.inl ⟨_,_,true,[80],aM,hN1,(fun _=>Et),oI,dI,?_⟩));(refine goI ?_;repeat (intro gg;refine goI ?_))
  try rw[ZE]
  (refine⟨[],none,{k:Nat//k≤sv.length},[0,1,2,13,14],fun⟨k,hk⟩=>[(15,.v (.int .i64 k))],[16,48],fun⟨k,hk⟩=>[(80,⟨g1,.q (D2 pwT (A1++A7 [(sv.length:Int)]++(sv.take k).flatMap svB)),0,[]⟩)],fun⟨k,hk⟩=>sv.length-k,trivial,fun _=>⟨trivial,fun _=>⟨⟨0,by omega⟩,tI,Ah _ _,?_,Ag _ _⟩⟩,fun⟨k,hk⟩=>?_⟩;focus (exact⟨congrArg (fun r=>some (Ent.mk g1 (.q (D2 pwT r)) 0 [])) (by simp),trivial⟩));(refine goI ?_;repeat (intro gg;refine goI ?_));(refine Ab (fun q1=>?_) (fun q1=>?_)<;>rw[q1])
  ·have hlt:k<sv.length:=(by have:=ZV q1;omega);have hm:=h5 _ (ZK hlt);have n2:=Hi (f:=svB) (m:=318) (n:=40) (l:=sv) (fun x hx=>Sv.lenB (h5 x hx)) h4 k;(refine goI ?_;repeat (intro gg;refine goI ?_));refine⟨k,_,rfl,Am hlt,?_⟩;(refine goI ?_;repeat (intro gg;refine goI ?_));refine .inr (.inr (.inr (Im 4000 Sl rfl ?_)));(refine goI ?_;repeat (intro gg;refine goI ?_));have c0:(Cb [sv[k].nd,sv[k].id,sv[k].nm,sv[k].tg]).length≤208:=by
    have z0:=C7 hm.nd;have z1:=C7 hm.id;have z2:=C7 hm.nm;have z3:=C7 hm.tg;simp only[Cb,List.flatMap_cons,List.flatMap_nil,List.append_nil,ZF];omega
   (refine .inr (.inl ⟨_,_,true,[80],aM,Mn (A1++A7 [(sv.length:Int)]++(sv.take k).flatMap svB) false [sv[k].nd,sv[k].id,sv[k].nm,sv[k].tg] (by intro t ht;simp at ht;rcases ht with rfl|rfl|rfl|rfl<;>(first|exact XI hm.nd (by decide)|exact XI hm.id (by decide)|exact XI hm.nm (by decide)|exact XI hm.tg (by decide))) (by simp) (by simp only[ZF];omega),(fun _=>Et),oI,dI,?_⟩));(refine goI ?_;repeat (intro gg;refine goI ?_));have c1:(A7 [sv[k].ad,sv[k].pt]).length≤22*2:=E8 (by intro n hn;simp at hn;cases hm;rcases hn with rfl|rfl<;>exact⟨by omega,by omega⟩) (by simp);(refine .inr (.inl ⟨_,_,true,[80],aM,Ck (A1++A7 [(sv.length:Int)]++(sv.take k).flatMap svB++Cb [sv[k].nd,sv[k].id,sv[k].nm,sv[k].tg]) false [sv[k].ad,sv[k].pt] (by intro n hn;simp at hn;cases hm;rcases hn with rfl|rfl<;>exact⟨by omega,by omega⟩) (by simp) (by simp only[ZF];omega),(fun _=>Et),oI,dI,?_⟩));(refine goI ?_;repeat (intro gg;refine goI ?_));have c2:=H5 sv[k].ps;(refine .inr (.inl ⟨_,_,false,[80],aM,Sp (A1++A7 [(sv.length:Int)]++(sv.take k).flatMap svB++Cb [sv[k].nd,sv[k].id,sv[k].nm,sv[k].tg]++A7 [sv[k].ad,sv[k].pt]) sv[k].ps (by simp only[ZF];omega),Af,oI,dI,?_⟩));(refine goI ?_;repeat (intro gg;refine goI ?_));have c3:(A7 [sv[k].vs]).length≤22*1:=E8 (by intro n hn;simp at hn;cases hm;subst hn<;>exact⟨by omega,by omega⟩) (by simp);(refine .inr (.inl ⟨_,_,true,[80],aM,Ck (A1++A7 [(sv.length:Int)]++(sv.take k).flatMap svB++Cb [sv[k].nd,sv[k].id,sv[k].nm,sv[k].tg]++A7 [sv[k].ad,sv[k].pt]++M8 sv[k].ps) false [sv[k].vs] (by intro n hn;simp at hn;cases hm;subst hn<;>exact⟨by omega,by omega⟩) (by simp) (by simp only[ZF];omega),(fun _=>Et),oI,dI,?_⟩));(refine goI ?_;repeat (intro gg;refine goI ?_));have c4:=H5 sv[k].gn;(refine .inr (.inl ⟨_,_,false,[80],aM,Sp (A1++A7 [(sv.length:Int)]++(sv.take k).flatMap svB++Cb [sv[k].nd,sv[k].id,sv[k].nm,sv[k].tg]++A7 [sv[k].ad,sv[k].pt]++M8 sv[k].ps++A7 [sv[k].vs]) sv[k].gn (by simp only[ZF];omega),Af,oI,dI,?_⟩));(refine goI ?_;repeat (intro gg;refine goI ?_));have e2:A1++A7 [(sv.length:Int)]++(sv.take k).flatMap svB++Cb [sv[k].nd,sv[k].id,sv[k].nm,sv[k].tg]++A7 [sv[k].ad,sv[k].pt]++M8 sv[k].ps++A7 [sv[k].vs]++M8 sv[k].gn=A1++A7 [(sv.length:Int)]++(sv.take (k+1)).flatMap svB:=by rw[I1 hlt];simp[svB,Cb,A7]
   (exact⟨none,trivial,fun gr=>⟨⟨k+1,by omega⟩,by show sv.length-(k+1)<sv.length-k;omega,tI,tI,⟨congrArg (fun r=>some (Ent.mk g1 (.q (D2 pwT r)) 0 [])) e2,trivial⟩,tI⟩⟩)
  ·have hge:¬k<sv.length:=(by have:=ZW q1;omega);obtain rfl:k=sv.length:=by omega
   (refine goI ?_;repeat (intro gg;refine goI ?_));refine .inr (.inr (.inr (Im 5000 Jr rfl ?_)));(refine goI ?_;repeat (intro gg;refine goI ?_));rw[ZE];(refine .inr (.inl ⟨_,_,true,[80],aM,hN2,(fun _=>Et),oI,dI,?_⟩));(refine goI ?_;repeat (intro gg;refine goI ?_))
   try rw[ZE]
   (refine⟨[],none,{k:Nat//k≤gs.length},[0,1,2,13,14],fun⟨k,hk⟩=>[(15,.v (.int .i64 k))],[16,48],fun⟨k,hk⟩=>[(80,⟨g1,.q (D2 pwT (A2++A7 [(gs.length:Int)]++(gs.take k).flatMap gwB)),0,[]⟩)],fun⟨k,hk⟩=>gs.length-k,trivial,fun _=>⟨trivial,fun _=>⟨⟨0,by omega⟩,tI,Ah _ _,?_,Ag _ _⟩⟩,fun⟨k,hk⟩=>?_⟩;focus (exact⟨congrArg (fun r=>some (Ent.mk g1 (.q (D2 pwT r)) 0 [])) (by simp),trivial⟩));(refine goI ?_;repeat (intro gg;refine goI ?_));(refine Ab (fun q2=>?_) (fun q2=>?_)<;>rw[q2])
   ·have hlt:k<gs.length:=(by have:=ZV q2;omega);have hm:=h7 _ (ZK hlt);have n2:=Hi (f:=gwB) (m:=96) (n:=6) (l:=gs) (fun x hx=>Gw.lenB (h7 x hx)) h6 k;(refine goI ?_;repeat (intro gg;refine goI ?_));refine⟨k,_,rfl,Am hlt,?_⟩;(refine goI ?_;repeat (intro gg;refine goI ?_));refine .inr (.inr (.inr (Im 6000 Sj rfl ?_)));(refine goI ?_;repeat (intro gg;refine goI ?_));have c0:(Cb [gs[k].c]).length≤52:=by
     have z0:=C7 hm.c;simp only[Cb,List.flatMap_cons,List.flatMap_nil,List.append_nil,ZF];omega
    (refine .inr (.inl ⟨_,_,true,[80],aM,Mn (A2++A7 [(gs.length:Int)]++(gs.take k).flatMap gwB) false [gs[k].c] (by intro t ht;simp at ht;subst ht;first|exact XI hm.n (by decide)|exact XI hm.c (by decide)|exact XI hm.nd (by decide)) (by simp) (by simp only[ZF];omega),(fun _=>Et),oI,dI,?_⟩));(refine goI ?_;repeat (intro gg;refine goI ?_));have c1:(A7 [gs[k].a,gs[k].v]).length≤22*2:=E8 (by intro n hn;simp at hn;cases hm;rcases hn with rfl|rfl<;>exact⟨by omega,by omega⟩) (by simp);(refine .inr (.inl ⟨_,_,true,[80],aM,Ck (A2++A7 [(gs.length:Int)]++(gs.take k).flatMap gwB++Cb [gs[k].c]) false [gs[k].a,gs[k].v] (by intro n hn;simp at hn;cases hm;rcases hn with rfl|rfl<;>exact⟨by omega,by omega⟩) (by simp) (by simp only[ZF];omega),(fun _=>Et),oI,dI,?_⟩));(refine goI ?_;repeat (intro gg;refine goI ?_));have e2:A2++A7 [(gs.length:Int)]++(gs.take k).flatMap gwB++Cb [gs[k].c]++A7 [gs[k].a,gs[k].v]=A2++A7 [(gs.length:Int)]++(gs.take (k+1)).flatMap gwB:=by rw[I1 hlt];simp[gwB,Cb,A7]
    (exact⟨none,trivial,fun gr=>⟨⟨k+1,by omega⟩,by show gs.length-(k+1)<gs.length-k;omega,tI,tI,⟨congrArg (fun r=>some (Ent.mk g1 (.q (D2 pwT r)) 0 [])) e2,trivial⟩,tI⟩⟩)
   ·have hge:¬k<gs.length:=(by have:=ZW q2;omega);obtain rfl:k=gs.length:=by omega
    (refine goI ?_;repeat (intro gg;refine goI ?_));refine .inr (.inr (.inr (Im 7000 Lx rfl ?_)));(refine goI ?_;repeat (intro gg;refine goI ?_));rw[ZE];(refine .inr (.inl ⟨_,_,true,[80],aM,hN3,(fun _=>Et),oI,dI,?_⟩));(refine goI ?_;repeat (intro gg;refine goI ?_))
    try rw[ZE]
    (refine⟨[],none,{k:Nat//k≤wh.length},[0,1,2,13,14],fun⟨k,hk⟩=>[(15,.v (.int .i64 k))],[16,48],fun⟨k,hk⟩=>[(80,⟨g1,.q (D2 pwT (A3++A7 [(wh.length:Int)]++(wh.take k).flatMap whB)),0,[]⟩)],fun⟨k,hk⟩=>wh.length-k,trivial,fun _=>⟨trivial,fun _=>⟨⟨0,by omega⟩,tI,Ah _ _,?_,Ag _ _⟩⟩,fun⟨k,hk⟩=>?_⟩;focus (exact⟨congrArg (fun r=>some (Ent.mk g1 (.q (D2 pwT r)) 0 [])) (by simp),trivial⟩));(refine goI ?_;repeat (intro gg;refine goI ?_));(refine Ab (fun q3=>?_) (fun q3=>?_)<;>rw[q3])
    ·have hlt:k<wh.length:=(by have:=ZV q3;omega);have hm:=h9 _ (ZK hlt);have n2:=Hi (f:=whB) (m:=162) (n:=20) (l:=wh) (fun x hx=>Wh.lenB (h9 x hx)) h8 k;(refine goI ?_;repeat (intro gg;refine goI ?_));refine⟨k,_,rfl,Am hlt,?_⟩;(refine goI ?_;repeat (intro gg;refine goI ?_));refine .inr (.inr (.inr (Im 8000 Rh rfl ?_)));(refine goI ?_;repeat (intro gg;refine goI ?_));have c0:(Cb [wh[k].nd]).length≤52:=by
      have z0:=C7 hm.nd;simp only[Cb,List.flatMap_cons,List.flatMap_nil,List.append_nil,ZF];omega
     (refine .inr (.inl ⟨_,_,true,[80],aM,Mn (A3++A7 [(wh.length:Int)]++(wh.take k).flatMap whB) false [wh[k].nd] (by intro t ht;simp at ht;subst ht;first|exact XI hm.n (by decide)|exact XI hm.c (by decide)|exact XI hm.nd (by decide)) (by simp) (by simp only[ZF];omega),(fun _=>Et),oI,dI,?_⟩));(refine goI ?_;repeat (intro gg;refine goI ?_));have c1:(A7 [wh[k].pl.x,wh[k].pl.y,wh[k].pl.z,wh[k].pl.h,wh[k].pl.s]).length≤22*5:=E8 (by intro n hn;simp at hn;cases hm;rcases hn with rfl|rfl|rfl|rfl|rfl<;>exact⟨by omega,by omega⟩) (by simp);(refine .inr (.inl ⟨_,_,true,[80],aM,Ck (A3++A7 [(wh.length:Int)]++(wh.take k).flatMap whB++Cb [wh[k].nd]) false [wh[k].pl.x,wh[k].pl.y,wh[k].pl.z,wh[k].pl.h,wh[k].pl.s] (by intro n hn;simp at hn;cases hm;rcases hn with rfl|rfl|rfl|rfl|rfl<;>exact⟨by omega,by omega⟩) (by simp) (by simp only[ZF];omega),(fun _=>Et),oI,dI,?_⟩));(refine goI ?_;repeat (intro gg;refine goI ?_));have e2:A3++A7 [(wh.length:Int)]++(wh.take k).flatMap whB++Cb [wh[k].nd]++A7 [wh[k].pl.x,wh[k].pl.y,wh[k].pl.z,wh[k].pl.h,wh[k].pl.s]=A3++A7 [(wh.length:Int)]++(wh.take (k+1)).flatMap whB:=by rw[I1 hlt];simp[whB,Cb,A7]
     (exact⟨none,trivial,fun gr=>⟨⟨k+1,by omega⟩,by show wh.length-(k+1)<wh.length-k;omega,tI,tI,⟨congrArg (fun r=>some (Ent.mk g1 (.q (D2 pwT r)) 0 [])) e2,trivial⟩,tI⟩⟩)
    ·have hge:¬k<wh.length:=(by have:=ZW q3;omega);obtain rfl:k=wh.length:=by omega
     (refine goI ?_;repeat (intro gg;refine goI ?_));(refine .inr (.inl ⟨_,_,false,[80],aM,Acu (T:=pwT) (A3++A7 [(wh.length:Int)]++(wh.take wh.length).flatMap whB) (by intro q;have:=congrArg List.length q;simp[A7,Bz]at this),Af,oI,dI,?_⟩));(refine goI ?_;repeat (intro gg;refine goI ?_));(exact⟨[],aI⟩)
end Go.Proofs.YtchbkgnobpejnaaGreatDoor
