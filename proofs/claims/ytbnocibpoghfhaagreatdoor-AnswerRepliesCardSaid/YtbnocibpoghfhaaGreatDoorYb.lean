/- Texts of this claim, joined. -/
import Derived.Test.YtbnocibpoghfhaaGreatDoorWAbsG
import Derived.Deep.Slices
import Derived.Deep.Fields
import Derived.ChangeSame
import Derived.Lib.SmallJoins
import Derived.ProofKit
import Derived.OpenShut
import Derived.WalkKit
import Derived.Below
import Derived.WalkSmall
import Derived.Test.YtbnocibpoghfhaaGreatDoorRows
import Derived.WalkLawsBesides
import Derived.Test.YtbnocibpoghfhaaGreatDoorWAbsQ
import Derived.BigGuardPart
import Derived.Deep.Light
import Derived.Laws.IdiomStrings
import Derived.Laws.CopyRow
import Derived.Laws.CopyOwn
import Derived.Deep.RegionLaw
import Derived.Lib.AppendZerosOnto
import Derived.Lib.Overlaps
import Derived.Laws.Externs
import Derived.OwnWalk
import Derived.Maps.AppendAt
import Derived.Deep.AppendLies
import Derived.Shelf.SlSortCmp.NoneTotal
import Derived.Test.YtbnocibpoghfhaaGreatDoorYa
set_option linter.unusedSimpArgs false
set_option linter.unusedVariables false
namespace Go.Proofs.YtbnocibpoghfhaaGreatDoor
section
open Go.Joins Go.ChangeShapes Go.WideShapes Go.RowKit Go.Deep
inductive Ty where
 |i
 |s
 |b
 |l (row:List Ty)
inductive Wj:Ty→V→Prop where
 |i (n:Int) (h1: -9223372036854775808≤n) (h2:n≤9223372036854775807):Wj .i (.v (.int .i64 n))
 |s (x:ByteArray) (h:x.size≤9223372036854775807):Wj .s (.v (.string x))
 |b (x:Bool):Wj .b (.v (.bool x))
 |l (tys:List Ty) (rows:List (List V)) (hl:rows.length≤9223372036854775807) (hr:∀row∈rows,tys.length=row.length) (h:∀row∈rows,∀(j:Nat) (t:Ty) (u:V),tys[j]? =some t→row[j]? =some u→Wj t u):Wj (.l tys) (.sl false rows)
def Qp(tys:List Ty)(us:List V):Prop:=tys.length=us.length∧∀(j:Nat) (t:Ty) (u:V),tys[j]? =some t→us[j]? =some u→Wj t u
def Agk(P:Program)(rc:TypeId→Option (List Ty)):List Field→Nat→Option (List Ty)
 |[],_=>some []
 |f::fs,off=>match rc f.type with
  |some ts=>if f.offset==off&&P.cellsOf f.type==ts.length then(match Agk P rc fs (off+ts.length)with
   |some r=>some (ts++r)
   |none=>none)else none
  |none=>none
def Yh(P:Program):Nat→TypeId→Option (List Ty)
 |0,_=>none
 |d+1,t=>match P.underlying t with
  |some (.int .i64)=>some [.i]
  |some .string=>some [.s]
  |some .bool=>some [.b]
  |some (.struct fs)=>match Agk P (Yh P d) fs.toList 0 with
   |some ts=>if P.cellsOf t==ts.length then some ts else none
   |none=>none
  |some (.slice e)=>match Yh P d e with
   |some ts=>if P.cellsOf e==ts.length&&0<ts.length then some [.l ts]else none
   |none=>none
  |_=>none
section
variable {H:Type} {enc:TypeId×Value→H} {P:Program} {w:World} {base:Nat} {spare:Nat→Bool} {held:Bool}
def L7(w:World)(tys:List Ty)(cs:List Value)(us:List V):Prop:=
 Qp tys us∧cs.length=us.length∧∀(j:Nat) (u:V) (x:Value),us[j]? =some u→cs[j]? =some x→RV w (fun b=>b<w.heap.size) noG u x
theorem L7.app{t1 t2:List Ty}{c1 c2:List Value}{u1 u2:List V}(h1:L7 w t1 c1 u1)(h2:L7 w t2 c2 u2):L7 w (t1++t2) (c1++c2) (u1++u2):=by
 obtain⟨⟨a1,a2⟩,a3,a4⟩:=h1;obtain⟨⟨b1,b2⟩,b3,b4⟩:=h2;refine⟨⟨by simp[a1,b1],fun j t u g1 g2=>?_⟩,by simp[a3,b3],fun j u x g1 g2=>?_⟩
 ·by_cases hj:j<t1.length
  ·rw[ZQ hj]at g1;rw[ZQ (by omega)]at g2;exact a2 j t u g1 g2
  ·rw[ZP (by omega)]at g1 g2;rw[←a1]at g2;exact b2 _ t u g1 g2
 ·by_cases hj:j<u1.length
  ·rw[ZQ hj]at g1;rw[ZQ (by omega)]at g2;exact a4 j u x g1 g2
  ·rw[ZP (by omega)]at g1 g2;rw[a3]at g2;exact b4 _ u x g1 g2
theorem Fv{t:Ty}{x:Value}{u:V}(h:Wj t u)(hr:RV w (fun b=>b<w.heap.size) noG u x):L7 w [t] [x] [u]:=by
 refine⟨⟨rfl,fun j t' u' g1 g2=>?_⟩,rfl,fun j u' x' g1 g2=>?_⟩
 ·cases j with
  |zero=>simp at g1 g2;subst g1 g2;exact h
  |succ j=>simp at g1
 ·cases j with
  |zero=>simp at g1 g2;subst g1 g2;exact hr
  |succ j=>simp at g1
theorem Afx(a:Addr)(n:Nat)(h:a.spot=none):a.add n=⟨a.block,a.off+n,none⟩:=by
 obtain⟨b,o,sp⟩:=a;simp only at h;subst h;unfold Addr.add;split<;>simp_all
theorem Afb{d fuel:Nat}{cs:List Value}(rc:∀(t:TypeId) (tys:List Ty) (cs:List Value) (x:DataW H×List MemPlace),Yh P d t=some tys→DataW.trod enc P w base spare held fuel t cs=some x→∃us,L7 w tys cs us):
  ∀(fs:List Field) (off:Nat) (tys:List Ty) (xs:List (DataW H×List MemPlace)),Agk P (Yh P d) fs off=some tys→(∀(i:Nat) (f:Field),fs[i]? =some f→∃x,DataW.trod enc P w base spare held fuel f.type ((cs.drop f.offset).take (P.cellsOf f.type))=some x)→
   ∃us,L7 w tys ((cs.drop off).take tys.length) us:=by
 intro fs
 induction fs with
 |nil=>
  intro off tys xs h _;simp only[Agk,ZD]at h;subst h;exact⟨[],⟨rfl,by simp⟩,by simp,by simp⟩
 |cons f fs ih=>
  intro off tys xs h hf;simp only[Agk]at h;split at h
  ·rename_i ts hts;split at h
   ·rename_i hc;simp only[ZO,ZR]at hc;split at h
    ·rename_i r hr;injection h with h;subst h
     obtain⟨x0,hx0⟩:=hf 0 f rfl;obtain⟨us1,h1⟩:=rc _ _ _ _ hts hx0;obtain⟨us2,h2⟩:=ih _ _ xs hr (fun i g hg=>hf (i+1) g (by simpa using hg));rw[hc.1,hc.2]at h1;have hlen:((cs.drop off).take ts.length).length=ts.length:=by rw[h1.2.1,←h1.1.1]
     refine⟨us1++us2,?_⟩;have e:(cs.drop off).take (ts++r).length=(cs.drop off).take ts.length++(cs.drop (off+ts.length)).take r.length:=by
      rw[ZF,List.take_add,List.drop_drop]
     rw[e];exact h1.app h2
    ·cases h
   ·cases h
  ·cases h
theorem Aq1:∀(d fuel:Nat) (t:TypeId) (tys:List Ty) (cs:List Value) (x:DataW H×List MemPlace),Yh P d t=some tys→DataW.trod enc P w base spare held fuel t cs=some x→∃us,L7 w tys cs us:=by
 intro d
 induction d with
 |zero=>intro fuel t tys cs x h;cases h
 |succ d ih=>
  intro fuel t tys cs x h hd;simp only[Yh]at h;split at h
  ·rename_i hu;injection h with h;subst h
   obtain⟨n,rfl,_,hw⟩:=DataW.trod_int hu hd;have hb: -9223372036854775808≤n∧n≤9223372036854775807:=by simpa[Lit.wf,IntKind.min,IntKind.max,IntKind.signed,IntKind.bits]using hw
   exact⟨_,Fv (.i n hb.1 hb.2) (.v _)⟩
  ·rename_i hu;injection h with h;subst h
   obtain⟨s,rfl,_,hs⟩:=DataW.trod_string hu hd;exact⟨_,Fv (.s s (by simpa[maxLen]using hs)) (.v _)⟩
  ·rename_i hu;injection h with h;subst h
   obtain⟨s,rfl,_⟩:=DataW.trod_bool hu hd;exact⟨_,Fv (.b s) (.v _)⟩
  ·rename_i fs hu;split at h
   ·rename_i ts hts;split at h
    ·rename_i hc;simp only[ZR]at hc;injection h with h;subst h
     obtain⟨xs,n,rfl,_,hcl,hxl,hf⟩:=DataW.trod_struct hu hd;obtain⟨us,hus⟩:=Afb (cs:=cs) (fun t tys cs x h1 h2=>ih n t tys cs x h1 h2) fs.toList 0 ts xs hts (fun i f hi=>by
      have hi':fs[i]? =some f:=by simpa using hi
      have hlt:i<xs.length:=by rw[hxl];exact(XL.1 hi').1
      exact⟨_,(hf i f hi').trans (ZC hlt)⟩)
     refine⟨us,?_⟩
     rwa[List.drop_zero,←hc,←hcl,XF]at hus
    ·cases h
   ·cases h
  ·rename_i e hu;split at h
   ·rename_i ts hts;split at h
    ·rename_i hc;simp only[ZO,ZR,decide_eq_true_eq]at hc;injection h with h;subst h
     rcases open_slice hu hd with⟨rfl,_⟩|⟨a,len,cap,m,n,D,Pl,rfl,hb,hl,hm,hmm,_,hi⟩
     ·exact⟨[.sl false []],Fv (.l _ [] (by simp) (by simp) (by simp)) (.nil _ _ _ (by simp))⟩
     ·have hlm:len≤m:=by rw[hmm];split<;>omega
      have hall:∀i:Nat,∃p:List Value×List V,i<len→L7 w ts p.1 p.2∧∀j,j<ts.length→w.cell? (a.add (i*ts.length+j))=p.1[j]? :=fun i=>by
       by_cases hil:i<len
       ·obtain⟨cs',h1,h2⟩:=hi i (by omega);obtain⟨us,hus⟩:=ih n e ts cs' _ hts h2;obtain⟨_,h3,h4⟩:=World.cells?_some h1;rw[hc.1]at h3 h4;exact⟨(cs',us),fun _=>⟨hus,fun j hj=>by rw[←Go.Deep.add_add];exact h4 j hj⟩⟩
       ·exact⟨([],[]),fun h=>absurd h hil⟩
      obtain⟨f,hf⟩:=Classical.axiomOfChoice hall;have hsp:0<len→a.spot=none∧a.block<w.heap.size:=fun h0=>by
       obtain⟨h1,h2⟩:=hf 0 h0;have hx:=h2 0 hc.2;have hlt:0<(f 0).1.length:=by rw[h1.2.1,←h1.1.1];exact hc.2
       rw[ZC hlt]at hx;have e:a.add (0*ts.length+0)=a:=by simp[Addr.add]
       rw[e]at hx;refine⟨?_,World.block_lt_of_cell? w _ hx⟩;unfold World.cell? at hx;split at hx
       ·cases hq:a.spot with
        |none=>rfl
        |some k=>simp[hq]at hx
       ·cases hx
      refine⟨[.sl false ((List.range len).map fun i=>(f i).2)],Fv (.l _ _ (by simp only[ZE,List.length_range];simp only[maxLen]at hm;omega) ?_ ?_) ?_⟩
      ·intro row hrow;simp only[XO,List.mem_range]at hrow;obtain⟨i,hil,rfl⟩:=hrow;exact(hf i hil).1.1.1
      ·intro row hrow j t u g1 g2;simp only[XO,List.mem_range]at hrow;obtain⟨i,hil,rfl⟩:=hrow;exact(hf i hil).1.1.2 j t u g1 g2
      ·rcases Nat.eq_zero_or_pos len with h0|h0
       ·subst h0;exact .nil _ _ _ (by simp)
       ·obtain⟨h1,h2⟩:=hsp h0;obtain⟨b,off,sp⟩:=a;simp only at h1 h2;subst h1;have hrows:∀(i:Nat) (row:List V),((List.range len).map fun i=>(f i).2)[i]? =some row→i<len∧row=(f i).2:=fun i row h=>by
         have hlt:=(ZB.1 h).1;simp only[ZE,List.length_range]at hlt;simp[hlt]at h;exact⟨hlt,h.symm⟩
        have e:=RV.sl (w:=w) (R:=fun b=>b<w.heap.size) (G:=noG) false ((List.range len).map fun i=>(f i).2) b off cap ts.length (fun i j=>((f i).1[j]?).getD undef) h2 (by simpa using hl) (by simp) (by
          intro row hrow;simp only[XO,List.mem_range]at hrow;obtain⟨i,hil,rfl⟩:=hrow;exact(hf i hil).1.1.1.symm) (by
          intro i j row u g1 g2;obtain⟨hil,rfl⟩:=hrows i row g1;have hj:j<ts.length:=by have:=(ZB.1 g2).1;rw[(hf i hil).1.1.1];exact this
          have hjl:j<(f i).1.length:=by rw[(hf i hil).1.2.1,←(hf i hil).1.1.1];exact hj
          have hx:=(hf i hil).2 j hj;rw[Afx _ _ rfl,ZC hjl]at hx;rw[ZC hjl];simp only[Option.getD_some];rw[Nat.add_assoc];exact hx) (by
          intro i j row u g1 g2;obtain⟨hil,rfl⟩:=hrows i row g1;have hj:j<ts.length:=by have:=(ZB.1 g2).1;rw[(hf i hil).1.1.1];exact this
          have hjl:j<(f i).1.length:=by rw[(hf i hil).1.2.1,←(hf i hil).1.1.1];exact hj
          rw[ZC hjl];exact(hf i hil).1.2.2 j u _ g2 (ZC hjl))
        have e2:((List.range len).map fun i=>(f i).2).length=len:=by simp
        rw[e2]at e;exact e
    ·cases h
   ·cases h
  ·cases h
theorem Gf{t:TypeId}{tys:List Ty}{r:Reach}{b0:Nat}{v:Value}{fs:Array Field}{d:DataW H}{p:List MemPlace}{dp:Nat}(hs:P.underlying t=some (.struct fs))(ht:Yh P dp t=some tys)(hv:Value.okWide P w r b0 t v)(h:DataW.Trod enc P w base spare held t v d p):
  ∃us,Qp tys us∧RV w (fun b=>b<w.heap.size) noG (.agg us) v:=by
 obtain⟨cs,rfl,hsz⟩:=okWide_struct hs hv;obtain⟨fuel,hf⟩:=h;obtain⟨us,h1,h3,h4⟩:=Aq1 dp fuel t _ _ _ ht hf;obtain⟨cs⟩:=cs;exact⟨us,h1,.agg us cs h3.symm h4⟩
end
theorem Ap{t:Ty}{ts:List Ty}{us:List V}(h:Qp (t::ts) us):∃u us',us=u::us'∧Wj t u∧Qp ts us':=by
 obtain⟨h1,h2⟩:=h
 match us,h1 with
 |u::us',h1=>exact⟨u,us',rfl,h2 0 _ _ rfl rfl,by simpa using h1,fun j t' u' g1 g2=>h2 (j+1) t' u' (by simpa using g1) (by simpa using g2)⟩
theorem Ln{us:List V}(h:Qp [] us):us=[]:=XR h.1.symm
theorem Ge{u:V}(h:Wj .i u):∃n:Int,u=.v (.int .i64 n)∧-9223372036854775808≤n∧n≤9223372036854775807:=by cases h with|i n h1 h2=>exact⟨n,rfl,h1,h2⟩
theorem K3{u:V}(h:Wj .s u):∃x:ByteArray,u=.v (.string x)∧x.size≤9223372036854775807:=by cases h with|s x h=>exact⟨x,rfl,h⟩
theorem Ahf{u:V}(h:Wj .b u):∃x:Bool,u=.v (.bool x):=by cases h with|b x=>exact⟨x,rfl⟩
theorem Ay8{tys:List Ty}{u:V}(h:Wj (.l tys) u):∃rows,u=.sl false rows∧rows.length≤9223372036854775807∧∀row∈rows,Qp tys row:=by
 cases h with|l tys rows hl hr h=>exact⟨rows,rfl,hl,fun row hm=>⟨hr row hm,h row hm⟩⟩
theorem Ahz{α:Type}{enc:α→List V}{p:α→Prop}{tys:List Ty}(hd:∀row,Qp tys row→∃x:α,row=enc x∧p x):∀(rows:List (List V)),(∀row∈rows,Qp tys row)→∃l:List α,rows=l.map enc∧∀x∈l,p x
 |[],_=>⟨[],rfl,by simp⟩
 |row::rows,h=>by
  obtain⟨x,hx,px⟩:=hd row (h row (by simp));obtain⟨l,hl,pl⟩:=Ahz hd rows fun r hr=>h r (by simp[hr]);exact⟨x::l,by simp[hx,hl],by simpa using⟨px,pl⟩⟩
theorem Vh{α:Type}{enc:α→List V}{p:α→Prop}{tys:List Ty}{u:V}(hd:∀row,Qp tys row→∃x:α,row=enc x∧p x)(h:Wj (.l tys) u):∃l:List α,u=.sl false (l.map enc)∧l.length≤9223372036854775807∧∀x∈l,p x:=by
 obtain⟨rows,rfl,hl,hr⟩:=Ay8 h;obtain⟨l,rfl,hp⟩:=Ahz hd rows hr;exact⟨l,rfl,by simpa using hl,hp⟩
theorem Awm{w:World}{R:Nat→Prop}:∀{xs ys:List Value},Kx w R (xs.map fun x=>.c (.v x)) ys→ys=xs
 |xs,ys,h=>by
  apply List.ext_getElem?;intro i;have hl:=h.len;rw[ZE]at hl;by_cases hi:i<xs.length
  ·have h1:xs[i]? =some xs[i]:=ZC hi;have h2:ys[i]? =some (ys[i]'(by omega)):=ZC (by omega);have h3:Sy w R (.c (.v xs[i])) (ys[i]'(by omega)):=h.ok i _ _ (by rw[XJ,h1];rfl) h2;have h4:RV w R noG (.v xs[i]) (ys[i]'(by omega)):=h3;rw[h1,h2,Ce h4]
  ·rw[XK (by omega),XK (by omega)]
theorem Mr{ps:List Par}{xs:List Value}{b:Nat}(h:∀p∈ps,∃u,p=.c u):¬A2 ps xs b:=by
 rintro ⟨i,T,sz,rows,x,h1,_⟩
 obtain⟨u,hu⟩:=h _ (ZH h1);cases hu
theorem Xf{L:Nat→Prop}{w w':World}(h:Below w.heap.size w w'):Fr L w w':=⟨h.os,h.tape,h.output,h.size,fun k hk _=>h.block k hk⟩
theorem Nx{P:Program}{f:FuncId}{xs:List Value}{v:Value}(hc:Gc P f)(h:∀w,Calls P f xs.toArray w fun e w'=>e=.returned v∧Below w.heap.size w w'):Fun P f (xs.map fun x=>.c (.v x)) [.c (.v v)]:=by
 refine⟨hc,fun w R ys hlt hp=>?_⟩;obtain rfl:=Awm hp;refine(h w).mono fun e w' ⟨he,hb⟩=>⟨[v],R,by rw[he];rfl,Xf hb,fun _ h=>h,fun b h=>.inl h,⟨rfl,?_,?_,?_⟩,?_⟩
 ·intro i p x h1 h2;cases i with
  |zero=>simp at h1 h2;subst h1 h2;exact .v _
  |succ i=>simp at h1
 ·intro i j T sz rows T' sz' rows' x y b _ h1;cases i with
  |zero=>simp at h1
  |succ i=>simp at h1
 ·intro b hb';exact absurd hb' (Mr (by simp))
 ·intro b hb';exact absurd hb' (Mr (by simp))
theorem Fb {P : Program} {f : FuncId} {fn : Func} (h1 : P.funcs[f]? = some fn) (h2 : (fn.name == "runtime.NumGoroutine") = false) (h3 : fn.body.isNone = false) : Gc P f := ⟨fn, h1, h2, h3⟩
theorem Ba7{P:Program}{f:FuncId}{ps:List Par}{xs:List Value}{v:Value}{w:World}(hF:Fun P f ps [.c (.v v)])(hc:∀p∈ps,∃u,p=.c u)(hl:ps.length=xs.length)(hp:∀(i:Nat) (u:V) (x:Value),ps[i]? =some (.c u)→xs[i]? =some x→RV w (fun b=>b<w.heap.size) noG u x):Calls P f xs.toArray w fun e w'=>e=.returned v∧Below w.heap.size w w':=by
 refine(hF.2 w (fun b=>b<w.heap.size) xs (fun _ h=>h) ⟨hl,?_,?_,?_⟩).mono ?_
 ·intro i p x h1 h2;obtain⟨u,rfl⟩:=hc p (ZH h1);exact hp i u x h1 h2
 ·intro i j T sz rows T' sz' rows' x y b _ h1;obtain⟨u,hu⟩:=hc _ (ZH h1);cases hu
 ·intro b hb;exact absurd hb (Mr hc)
 ·rintro e w' ⟨ys,R',rfl,hfr,_,_,hpr,_⟩
  have hy:ys.length=1:=hpr.len.symm
  match ys,hy with
  |[y],_=>
   have:RV w' R' noG (.v v) y:=hpr.ok 0 _ y rfl rfl;obtain rfl:=Ce this;exact⟨rfl,hfr.os,hfr.tape,hfr.output,hfr.size,fun k hk=>hfr.block k hk (Mr hc)⟩
def RVL(w:World):List V→List Value→Prop
 |[],[]=>True
 |u::us,x::xs=>RV w (fun b=>b<w.heap.size) noG u x∧RVL w us xs
 |_,_=>False
theorem Alc{w:World}:∀{us:List V} {xs:List Value},RVL w us xs→us.length=xs.length
 |[],[],_=>rfl
 |u::us,x::xs,h=>by simp[Alc h.2]
 |[],_::_,h=>h.elim
 |_::_,[],h=>h.elim
theorem Aqn{w:World}:∀{us:List V} {xs:List Value},RVL w us xs→∀(i:Nat) (u:V) (x:Value),us[i]? =some u→xs[i]? =some x→RV w (fun b=>b<w.heap.size) noG u x
 |[],[],_,i,u,x,h1,_=>by simp at h1
 |u'::us,x'::xs,h,0,u,x,h1,h2=>by simp at h1 h2;subst h1 h2;exact h.1
 |u'::us,x'::xs,h,i+1,u,x,h1,h2=>Aqn h.2 i u x (by simpa using h1) (by simpa using h2)
 |[],_::_,h,_,_,_,_,_=>h.elim
 |_::_,[],h,_,_,_,_,_=>h.elim
theorem Are{P:Program}{f:FuncId}{us:List V}{xs:List Value}{v:Value}{w:World}(hF:Fun P f (us.map .c) [.c (.v v)])(h:RVL w us xs):Calls P f xs.toArray w fun e w'=>e=.returned v∧Below w.heap.size w w':=
 Ba7 hF (by simp) (by rw[ZE];exact Alc h) (fun i u x h1 h2=>by
  rw[XJ]at h1;cases hq:us[i]? with
  |none=>rw[hq]at h1;cases h1
  |some u'=>rw[hq]at h1;simp at h1;subst h1;exact Aqn h i u' x hq h2)
end
open Go.RowKit
theorem hid{p:Prop}(h:p):Hid p:=h
theorem Mk{k:IntKind}{a b:Int}(h:a=b):Ending.returned (.int k a)=.returned (.int k b):=by rw[h]
theorem K5{a b:Bool}(h:a=b):Ending.returned (.bool a)=.returned (.bool b):=by rw[h]
theorem keep_all{W w1:World}{g:Nat}{f:Nat→Option Value}(hb:Below W.heap.size W w1)(hlt:g<W.heap.size)(h:∀i,W.cell? ⟨g,i,none⟩=f i):∀i,w1.cell? ⟨g,i,none⟩=f i:=
 fun i=>(hb.cell (p:=⟨g,i,none⟩) hlt).trans (h i)
def Blk(w:World)(g:Nat)(t:TypeId)(cs:Array Value):Prop:=w.heap[g]? =some (.cells cs t (0,0))
section
variable {w w':World} {g:Nat} {t:TypeId} {cs:Array Value}
theorem Blk.lt(h:Blk w g t cs):g<w.heap.size:=by
 rcases Nat.lt_or_ge g w.heap.size with hlt|hge
 ·exact hlt
 ·unfold Blk at h;rw[Array.getElem?_eq_none hge]at h;cases h
theorem Blk.cell(h:Blk w g t cs)(i:Nat):w.cell? ⟨g,i,none⟩=cs[i]? :=by
 unfold Blk at h;simp[World.cell?,h]
theorem Blk.frozen(h:Blk w g t cs)(i:Nat):w.frozen? ⟨g,i,none⟩=false:=by
 unfold Blk at h;simp[World.frozen?,h]
theorem Blk.new(w:World)(t:TypeId)(cs:Array Value):Blk (w.alloc (.cells cs t)) w.heap.size t cs:=heap_alloc_new w _
theorem Blk.new_(w:World)(t:TypeId)(cs:Array Value){g:Nat}(h:g=w.heap.size):Blk (w.alloc (.cells cs t)) g t cs:=h▸heap_alloc_new w _
theorem Blk.drewN(h:Blk w g t cs)(n:Nat):Blk (w.drewN n) g t cs:=h
theorem Blk.alloc(h:Blk w g t cs)(o:Obj):Blk (w.alloc o) g t cs:=(Below.heap_alloc w o g h.lt).trans h
theorem Blk.set_(h:Blk w g t cs)(i:Nat)(u:Value):Blk (w.setCell ⟨g,i,none⟩ u) g t (cs.setIfInBounds i u):=by
 unfold Blk at h ⊢;simp[World.setCell,Array.getElem?_modify,h]
theorem Blk.far(h:Blk w g t cs){p:Addr}(hp:g≠p.block)(u:Value):Blk (w.setCell p u) g t cs:=(Below.heap_setCell w p u g hp).trans h
end
open Pl
theorem Tl(a:ByteArray)(w:World):Calls Tryz.prog 119 #[.string a] w fun e w'=>e=.returned (.bool false)∧w=w':=by
 have h:(a.toList==a.toList)=true:=by simp
 go_enter Tryz.func119,Tryz.ntmps119
 go_wp2
 go_ret
 exact⟨K5 (by simp),rfl⟩
theorem Ahs(a b:ByteArray)(w:World):Calls Tryz.prog 94 #[.string a,.string b] w fun e w'=>e=.returned (.int .i64 (Ey a b))∧w=w':=by
 rcases Bool.eq_false_or_eq_true (slt a b)with h|h
 ·have HE:=hid (Y0 h);unfold slt at h
  go_enter Tryz.func94,Tryz.ntmps94
  go_wp2_with (go_at_call 119;refine(Tl _ _).mono ?_;rintro e w' ⟨rfl,rfl⟩)
  go_ret
  exact⟨Mk HE.out.symm,rfl⟩
 ·rcases Bool.eq_false_or_eq_true (slt b a)with g|g
  ·have HE:=hid (Yz g);have h2:(a.toList==b.toList)=false:=V2 (fun e=>by subst e;rw[Fj]at g;cases g);unfold slt at h;clear g
   go_enter Tryz.func94,Tryz.ntmps94
   go_wp2_with (go_at_call 119;refine(Tl _ _).mono ?_;rintro e w' ⟨rfl,rfl⟩)
   go_ret
   exact⟨Mk HE.out.symm,rfl⟩
  ·obtain rfl:=Ry h g;have HE:=hid (Uw a);have h2:(a.toList==a.toList)=true:=by simp
   unfold slt at h;clear g
   go_enter Tryz.func94,Tryz.ntmps94
   go_wp2_with (go_at_call 119;refine(Tl _ _).mono ?_;rintro e w' ⟨rfl,rfl⟩)
   go_ret
   exact⟨Mk HE.out.symm,rfl⟩
def E9(a b:Int):Int:=if a<b then -1 else if b<a then 1 else 0
theorem Tg(a:Int)(w:World):Calls Tryz.prog 137 #[.int .i64 a] w fun e w'=>e=.returned (.bool false)∧w=w':=by
 have h:(a==a)=true:=by simp
 go_enter Tryz.func137,Tryz.ntmps137
 go_wp2
 go_ret
 exact⟨K5 (by simp),rfl⟩
theorem Arr(a b:Int)(w:World):Calls Tryz.prog 126 #[.int .i64 a,.int .i64 b] w fun e w'=>e=.returned (.int .i64 (E9 a b))∧w=w':=by
 by_cases h:a<b
 ·have HE:Hid (E9 a b= -1):=hid (by simp[E9,h])
  go_enter Tryz.func126,Tryz.ntmps126
  go_wp2_with (go_at_call 137;refine(Tg _ _).mono ?_;rintro e w' ⟨rfl,rfl⟩)
  go_ret
  exact⟨Mk HE.out.symm,rfl⟩
 ·by_cases g:b<a
  ·have HE:Hid (E9 a b=1):=hid (by simp[E9,h,g])
   go_enter Tryz.func126,Tryz.ntmps126
   go_wp2_with (go_at_call 137;refine(Tg _ _).mono ?_;rintro e w' ⟨rfl,rfl⟩)
   go_ret
   exact⟨Mk HE.out.symm,rfl⟩
  ·have HE:Hid (E9 a b=0):=hid (by simp[E9,h,g])
   go_enter Tryz.func126,Tryz.ntmps126
   go_wp2_with (go_at_call 137;refine(Tg _ _).mono ?_;rintro e w' ⟨rfl,rfl⟩)
   go_ret
   exact⟨Mk HE.out.symm,rfl⟩
def B3:List Int→Int
 |[]=>0
 |x::r=>if x=0 then B3 r else x
theorem Tp:∀{l:List Int} {k:Nat} (hk:k<l.length),(∀i,(h:i<l.length)→i<k→l[i]=0)→l[k]≠0→B3 l=l[k]
 |x::r,0,_,_,hne=>by
  simp only[List.getElem_cons_zero]at hne ⊢;simp[B3,hne]
 |x::r,k+1,hk,h,hne=>by
  have h0:x=0:=h 0 (by simp) (by omega);subst h0;simp only[B3,if_true,List.getElem_cons_succ]at hne ⊢;exact Tp (by simpa using hk) (fun i hi hik=>h (i+1) (by simpa using hi) (by omega)) hne
theorem O3:∀{l:List Int},(∀i,(h:i<l.length)→l[i]=0)→B3 l=0
 |[],_=>rfl
 |x::r,h=>by
  have h0:x=0:=h 0 (by simp);subst h0;simp only[B3,if_true];exact O3 fun i hi=>h (i+1) (by simpa using hi)
def Ayy(l:List Int)(i:Value):Prop:=∃k:Nat,k≤l.length∧i=.int .i64 k∧∀j,(h:j<l.length)→j<k→l[j]=0
set_option maxRecDepth 100000 in
theorem Axs(g:Nat)(vs:List Int)(w:World)(hg:Blk w g 3 (vs.map (Value.int .i64)).toArray)(hn:vs.length≤1000):
  Calls Tryz.prog 125 #[.slice (some ⟨g,0,none⟩) vs.length vs.length] w fun e w'=>e=.returned (.int .i64 (B3 vs))∧w=w':=by
 have HG:=hid hg;clear hg
 go_enter Tryz.func125,Tryz.ntmps125
 go_wp2
 go_loop [8] (fun i=>Ayy vs i) (fun i=>vs.length-(intOf i).toNat)
 case atStart=>exact⟨0,ZU _,rfl,fun j _ h=>absurd h (by omega)⟩
 case round=>
  obtain⟨k,hk,rfl,h0⟩:=hrel;have H0:=hid h0;clear h0;by_cases hlt:k<vs.length
  ·have g0:w.cell? ⟨g,k,none⟩=some (.int .i64 vs[k]):=by
    rw[HG.out.cell];simp[hlt]
   by_cases hz:vs[k]=0
   ·have hb:(vs[k]==0)=true:=by simpa using hz
    have HN:Hid (∀j,(h:j<vs.length)→j<k+1→vs[j]=0):=hid (fun j hj hjk=>by
     rcases(by omega:j<k∨j=k)with q|rfl
     ·exact H0.out j hj q
     ·exact hz)
    clear hz;generalize vs[k]=x at *
    go_wp2
    go_round
    case rel=>exact⟨k+1,by omega,by go_num,HN.out⟩
    case measure=>simp[intOf];omega
   ·have hb:(vs[k]==0)=false:=by simpa using hz
    have HE:=hid (Tp hlt H0.out hz);clear hz;generalize vs[k]=x at *
    go_wp2
    go_ret
    exact⟨Mk HE.out.symm,rfl⟩
  ·have HE:=hid (O3 (l:=vs) (fun j h=>H0.out j h (by omega)))
   go_wp2
   go_ret
   exact⟨Mk HE.out.symm,rfl⟩
theorem Bn{n:Int}(h1:0≤n)(h2:n≤18446744073709551615):IntKind.u64.wrap n=n:=IntWalk.u64_in n ⟨h1,h2⟩
theorem Bf{n:Int}(h:0≤n):n.fdiv (2^(min (1:Int).toNat IntKind.u64.bits))=n/2:=by
 have e:(2:Int)^(min (1:Int).toNat IntKind.u64.bits)=2:=by decide
 rw[e,Int.fdiv_eq_ediv_of_nonneg _ (by decide)]
class FlatRow {α:Type} (enc:α→List V):Prop where
 flat:∀x,∀u∈enc x,∃v,u=.v v
theorem Ad{α:Type}{f:α→List V}{l:List α}{k:Nat}(h:k<l.length):(l.map f)[k]? =some (f l[k]):=by simp[h]
theorem Aws{α:Type}{enc:α→List V}[hf:FlatRow enc]{x:α}:∀u∈enc x,Fl u:=fun u hu=>by
 obtain⟨v,rfl⟩:=hf.flat x u hu;exact Awp v
theorem Ady{α:Type}{enc:α→List V}[FlatRow enc]{l:List α}:∀row∈l.map enc,∀u∈row,Fl u:=fun row hr u hu=>by
 obtain⟨x,_,rfl⟩:=XO.1 hr;exact Aws u hu
theorem Dy{α:Type}{enc:α→List V}[FlatRow enc]{l:List α}:∀row∈l.map enc,∀u∈row,Cl u:=fun row hr u hu=>(Ady row hr u hu).cl
theorem He{α:Type}{enc:α→List V}[FlatRow enc]{c:Bool}{l:List α}:Cl (.sl c (l.map enc)):=Ayi Dy
def vB:V→Bool
 |.v _=>true
 |_=>false
def vsB:List V→Bool
 |[]=>true
 |u::us=>bif vB u then vsB us else false
def clB:V→Bool
 |.v _=>true
 |.agg cs=>vsB cs
 |.tup cs=>vsB cs
 |.clo _ cs=>vsB cs
 |.sl false []=>true
 |_=>false
def Aqu:List (List V)→Bool
 |[]=>true
 |r::rs=>bif vsB r then Aqu rs else false
theorem Ays{u:V}(h:vB u=true):Fl u:=by
 cases u<;>first|exact Awp _|cases h
theorem Aak:∀{us:List V},vsB us=true→∀u∈us,Fl u
 |[],_,u,hu=>by cases hu
 |v::us,h,u,hu=>by
  unfold vsB at h;cases hv:vB v with
  |false=>rw[hv]at h;cases h
  |true=>
   rw[hv]at h;rcases XC.1 hu with rfl|hu
   ·exact Ays hv
   ·exact Aak h u hu
theorem Amt:∀{rs:List (List V)},Aqu rs=true→∀r∈rs,∀u∈r,Fl u
 |[],_,r,hr=>by cases hr
 |r'::rs,h,r,hr=>by
  unfold Aqu at h;cases hv:vsB r' with
  |false=>rw[hv]at h;cases h
  |true=>
   rw[hv]at h;rcases XC.1 hr with rfl|hr
   ·exact Aak hv
   ·exact Amt h r hr
theorem Axj{f:FuncId}{cs:List V}(h:∀u∈cs,Fl u):Fl (.clo f cs):=fun w w' R R' G G' x hx=>by
 cases hx with
 |clo f cs xs hl hh=>exact .clo f cs xs hl fun i u x h1 h2=>h u (ZH h1) _ _ _ _ _ _ _ (hh i u x h1 h2)
theorem Ayp{u:V}(h:clB u=true):Fl u:=by
 cases u with
 |v x=>exact Awp x
 |agg cs=>exact Awd (Aak h)
 |tup cs=>exact Ay1 (Aak h)
 |clo f cs=>exact Axj (Aak h)
 |sl c rows=>cases c<;>cases rows<;>first|exact Awv|cases h
 |_=>cases h
theorem As{u:V}(h:clB u=true):Cl u:=(Ayp h).cl
theorem K1{rs:List (List V)}(h:Aqu rs=true):∀r∈rs,∀u∈r,Cl u:=fun r hr u hu=>(Amt h r hr u hu).cl
theorem W2{α:Type}{enc:α→List V}[FlatRow enc]{c:Bool}{l:List α}:∀row∈[[V.sl c (l.map enc)]],∀u∈row,Cl u:=by
 intro row hr u hu;simp only[XC,XD,or_false]at hr;subst hr;simp only[XC,XD,or_false]at hu;subst hu;exact He
def flB:List Par→Bool
 |[]=>true
 |.c u::ps=>bif clB u then flB ps else false
 |_=>false
theorem Afa:∀{rs:List Par},flB rs=true→Fs rs
 |[],_=>fun r hr=>by cases hr
 |.c u::ps,h=>by
  unfold flB at h;cases hv:clB u with
  |false=>rw[hv]at h;cases h
  |true=>
   rw[hv]at h;intro r hr;rcases XC.1 hr with rfl|hr
   ·exact Ayp hv
   ·exact Afa h r hr
 |.o _ _ _::_,h=>by cases h
theorem Aik{α:Type}{enc:α→List V}[FlatRow enc]{T:TypeId}{sz:Nat}{l:List α}:Fs [.o T sz (l.map enc)]:=by
 intro r hr;simp only[XC,XD,or_false]at hr;subst hr;exact Ady
theorem Anq{α:Type}{enc:α→List V}[FlatRow enc]{T:TypeId}{sz:Nat}{l:List α}{ps:List Par}(h:flB ps=true):Fs (.o T sz (l.map enc)::ps):=by
 intro r hr;rcases XC.1 hr with rfl|hr
 ·exact Ady
 ·exact Afa h r hr
theorem Oi{rs rs':List (List V)}(h:∀r∈rs,∀u∈r,Cl u)(h':∀r∈rs',∀u∈r,Cl u):∀r∈rs++rs',∀u∈r,Cl u:=fun r hr u hu=>by
 rcases XM.1 hr with h1|h1
 ·exact h r h1 u hu
 ·exact h' r h1 u hu
theorem Avj{H:Nat→Option Ent}{all:List Nat}{bor:Bool}{gone:List Nat}{id g:Nat}{T:TypeId}{sz:Nat}{rows:List (List V)}{us:List V}{ps:List Par}(he:H id=some ⟨g,.t T,sz,rows⟩)(hr:∀row∈rows,∀u∈row,Cl u)(hn:id∉gone)(ha:id∈all)(h:A7 H all bor gone us ps):A7 H all bor (id::gone) (.own id g::us) (.o T sz rows::ps):=
 A7.give (e:=⟨g,.t T,sz,rows⟩) he rfl rfl hr hn ha h
theorem Dr{b:Bool}(h:(!b)=true):b=false:=by cases b;rfl;cases h
theorem Bw{b:Bool}(h:(!b)=false):b=true:=by cases b;cases h;rfl
theorem Ab{p:Prop}:false=true→p:=by simp
theorem Aur{n a b:Int}(h:decide (a≤n)=true):wi n a b=decide (n≤b):=by simp[wi,h]
theorem Av8{n a b:Int}(h:decide (a≤n)=false):wi n a b=false:=by simp[wi,h]
theorem up1{n k:Nat}{p:(j:Nat)→(j<n)→Prop}(h0:∀j (h:j<n),j<k→p j h)(hk:∀h:k<n,p k h):∀j (h:j<n),j<k+1→p j h:=fun j h hj=>by
 rcases(by omega:j<k∨j=k)with g|rfl
 ·exact h0 j h g
 ·exact hk h
theorem up2{n k:Nat}{p:(j:Nat)→(j+1<n)→Prop}(h0:∀j (h:j+1<n),j<k→p j h)(hk:∀h:k+1<n,p k h):∀j (h:j+1<n),j<k+1→p j h:=fun j h hj=>by
 rcases(by omega:j<k∨j=k)with g|rfl
 ·exact h0 j h g
 ·exact hk h
theorem Iy{row:List V}(h:Aqu [row]=true):∀u∈row,Cl u:=fun u hu=>K1 h row (by simp) u hu
theorem Jp.cell1{env:Nat→V}{H:Nat→Option Ent}{a id gen k off sz:Nat}{agg:Bool}{e:Ent}{row:List V}{r:List RT}{u:V}{us:List V}(h1:env a=.ptr id gen k off)(h2:H id=some e)(h3:e.gen=gen)(h4:e.rows[k]? =some row)(h5:Nat.ble (off+sz) row.length=true)(hu:u=mkV agg ((row.drop off).take sz))(h:Jp env H r us):
  Jp env H ((a,some (agg,sz))::r) (u::us):=by rw[hu];exact .cell h1 h2 h3 h4 (Nat.le_of_ble_eq_true h5) h
theorem Jp.tmp1{env:Nat→V}{H:Nat→Option Ent}{t:Nat}{r:List RT}{u:V}{us:List V}(hu:u=env t)(h:Jp env H r us):Jp env H ((t,none)::r) (u::us):=by rw[hu];exact .tmp h
theorem Cn{env:Nat→V}{H:Nat→Option Ent}{ts:List RT}{u v:V}(h1:Cl u)(h2:Cl v)(hG:Jp env H ts [u,v]):∃us gone,Jp env H ts us∧A7 H gone true gone us [.c u,.c v]:=⟨_,[],hG,.same h1 (.same h2 (.nil _))⟩
class OneRow {α:Type} (enc:α→List V) (sz:outParam Nat):Prop where
 len:∀x,(enc x).length=sz
 one:∀x,∀u∈enc x,∃v,u=.v v∧v.oneCell'=true
theorem Amm{H:Nat→Option Ent}:∀{us:List V},(∀u∈us,∃v,u=.v v∧v.oneCell'=true)→I9 H us
 |[],_=>trivial
 |u::us,h=>by
  obtain⟨v,rfl,hv⟩:=h u (XB ..);exact⟨hv,Amm fun w hw=>h w (ZL _ hw)⟩
theorem Ap7{α:Type}{enc:α→List V}{sz:Nat}[OneRow enc sz]{H:Nat→Option Ent}{l:List α}:∀row∈l.map enc,row.length=sz∧I9 H row:=fun row hr=>by
 obtain⟨x,_,rfl⟩:=XO.1 hr;exact⟨OneRow.len x,Amm (OneRow.one x)⟩
theorem Axu{rs:List Bp}(h:rs.all Adz=true):∀p∈rs,Adz p=true:=List.all_eq_true.1 h
theorem Afr{H:Nat→Option Ent}{id g sz:Nat}{e:Ent}{T:TypeId}{rows:List (List V)}{us:List V}(hu:us=[.own id g])(he:H id=some e)(hg:e.gen=g)(hT:e.T=.t T)(hs:e.sz=sz)(hr:∀row∈rows,∀u∈row,Cl u)(hq:e.rows=rows):A7 H [id] true [id] us [.o T sz rows]:=by
 subst hq;rw[hu,←hs];exact .give he hg hT hr (by simp) (by simp) (.nil _)
theorem nI{a b:Nat}(h:Nat.ble a b=true:=by exact rfl):a≤b:=Nat.le_of_ble_eq_true h
theorem oI{rs:List Bp}(h:rs.all Adz=true:=by exact rfl):∀p∈rs,Adz p=true:=Axu h
theorem dI{l:List Nat}(h:ndB l=true:=by exact rfl):l.Nodup:=Ka h
theorem tI{p:Prop}(h:p:=by(repeat' (first|exact trivial|refine⟨rfl,?_⟩))):p:=h
theorem lI{p:Prop}(h:p:=by(simp only[ZE,ZF,ZJ,ZN,List.length_set,List.length_replicate,maxLen];omega)):p:=h
theorem fI{rs:List Par}(h:Fs rs:=by(first|exact Afa rfl|exact Aik|exact Anq rfl|exact flat_own2 rfl)):Fs rs:=h
theorem mfI{rs:List Bp}(h:∀p∈rs,Xu p:=by(intro p hp;simp only[Cd,List.nil_append,List.append_nil,XC,XD,or_false]at hp;subst hp;first|exact Aik|exact Afa rfl)):∀p∈rs,Xu p:=h
theorem cBI{H:Nat→Option Ent}{all:List Nat}{cs cs':List V}(h:Ek H all cs cs':=by(repeat' (first|exact Ek.nil|refine Ek.same (by first|exact As rfl|exact He|exact cl_nil|assumption) ?_|refine Ek.nilsl _ ?_|refine Ax5 rfl rfl (by first|exact K1 rfl|exact Dy|exact cl_setB rfl|exact cl_setG (cl_setB rfl) rfl|exact Oi Dy (K1 rfl)|exact W2|exact cl_rl2) (by decide) ?_))):Ek H all cs cs':=h
theorem aI{H:Nat→Option Ent}{all gone:List Nat}{bor:Bool}{us:List V}{ps:List Par}(h:A7 H all bor gone us ps:=by(repeat' (first|exact A7.nil _|exact Uz (by assumption)|refine A7.same (by first|exact As rfl|exact He|exact cl_nil|exact cl_one|exact cl_ll1|exact cl_ll2|exact Aew (by assumption)|exact Yu (by repeat' (first|exact U0|refine Rj (by first|exact As rfl|exact He|exact cl_nil|assumption) ?_))) ?_|refine A7.nilsl _ ?_|refine A7.nilown _ _ (by decide) ?_|refine A7.borp rfl rfl rfl (Iy rfl) (by decide) ?_|refine A7.borc (by(repeat' (first|exact Alq|refine Asa rfl rfl rfl (by first|exact Iy rfl|exact cl_r1 rfl|exact cl_r1b) ?_ ?_|refine cap_m rfl (by decide) ?_|refine cap_c (by first|exact As rfl|exact He|exact cl_nil|exact cl_one|exact cl_ll1|exact cl_ll2|exact Aew (by assumption)|exact Yu (by repeat' (first|exact U0|refine Rj (by first|exact As rfl|exact He|exact cl_nil|assumption) ?_))) ?_|decide))) ?_|refine A7.bora cBI ?_|refine A7.bor rfl rfl (Zb (by first|exact K1 rfl|exact Dy|exact cl_setB rfl|exact cl_setG (cl_setB rfl) rfl|exact Oi Dy (K1 rfl)|exact W2|exact cl_rl2)) (by decide) ?_|refine Avj rfl (by first|exact K1 rfl|exact Dy|exact cl_setB rfl|exact cl_setG (cl_setB rfl) rfl|exact Oi Dy (K1 rfl)|exact W2|exact cl_rl2) (by decide) (by decide) ?_))):A7 H all bor gone us ps:=h
theorem aM{H:Nat→Option Ent}{all gone:List Nat}{bor:Bool}{us:List V}{ps:List Bp}(h:Bu H all bor gone us ps:=by(repeat' (first|exact Bu.nil _|refine Ez (by first|exact As rfl|exact He|exact cl_nil|exact cl_one|exact cl_ll1|exact cl_ll2|exact Aew (by assumption)|exact Yu (by repeat' (first|exact U0|refine Rj (by first|exact As rfl|exact He|exact cl_nil|assumption) ?_))) ?_|refine aM_nilsl _ ?_|refine aM_nilown _ _ (by decide) ?_|refine aM_mf rfl (Iy rfl) (by decide) (by decide) rfl ?_|refine aM_pf rfl (Iy rfl) (by decide) (by decide) ?_|refine Az1 rfl (by decide) (by decide) ?_|refine Azv rfl (by decide) (by decide) ?_|refine Atq rfl rfl rfl (Iy rfl) (by decide) ?_|refine Amw (by(repeat' (first|exact Alq|refine Asa rfl rfl rfl (by first|exact Iy rfl|exact cl_r1 rfl|exact cl_r1b) ?_ ?_|refine cap_m rfl (by decide) ?_|refine cap_c (by first|exact As rfl|exact He|exact cl_nil|exact cl_one|exact cl_ll1|exact cl_ll2|exact Aew (by assumption)|exact Yu (by repeat' (first|exact U0|refine Rj (by first|exact As rfl|exact He|exact cl_nil|assumption) ?_))) ?_|decide))) ?_|refine Aei cBI ?_|refine Aw5 rfl rfl (Zb (by first|exact K1 rfl|exact Dy|exact cl_setB rfl|exact cl_setG (cl_setB rfl) rfl|exact Oi Dy (K1 rfl)|exact W2|exact cl_rl2)) (by decide) ?_|refine aM_give rfl (by first|exact K1 rfl|exact Dy|exact cl_setB rfl|exact cl_setG (cl_setB rfl) rfl|exact Oi Dy (K1 rfl)|exact W2|exact cl_rl2) (by decide) (by decide) ?_|refine Ava rfl (by first|exact K1 rfl|exact Dy|exact cl_setB rfl|exact cl_setG (cl_setB rfl) rfl|exact Oi Dy (K1 rfl)|exact W2|exact cl_rl2) (by decide) (by decide) (by simp) ?_))):Bu H all bor gone us ps:=h
theorem hxI{α:Type}{a b:α}{p:Prop}(hn:a=b)(h:a=b→p:=by(intro hq;(repeat' (first|exact trivial|refine⟨rfl,?_⟩|refine⟨(by show some (Ent.mk _ _ _ _)=some (Ent.mk _ _ _ _);(first|(rw[hq];done)|(rw[hq];rfl)|(rw[hq,ZI];done)|(rw[hq,ZI];rfl)|(rw[hq,ZI,ZI];done)|(rw[hq,ZI,ZI];rfl))),?_⟩|refine⟨(by show V.v _=V.v _;(first|(rw[hq];done)|(rw[hq];rfl)|(rw[hq,ZI];done)|(rw[hq,ZI];rfl)|(rw[hq,ZI,ZI];done)|(rw[hq,ZI,ZI];rfl))),?_⟩|refine⟨(by show V.sl _ _=V.sl _ _;(first|(rw[hq];done)|(rw[hq];rfl)|(rw[hq,ZI];done)|(rw[hq,ZI];rfl)|(rw[hq,ZI,ZI];done)|(rw[hq,ZI,ZI];rfl))),?_⟩)))):p:=h hn
structure Air(q:Prop):Prop where
 out:q
theorem goI{p q:Prop}(h:q)(e:Air q→p:=by(intro hq;(conv=>whnf);(repeat' ((first|refine⟨rfl,?_⟩|refine⟨_,Ad (by assumption),?_⟩|refine⟨_,(by exact Bo),?_⟩|refine⟨_,A6 (by omega) (by omega),?_⟩|refine⟨_,Bn (by omega) (by omega),?_⟩|refine⟨by decide,_,Bf (by omega),?_⟩);(conv=>whnf)));exact hq.out)):p:=e ⟨h⟩
theorem G0{p q:Prop}(h:q)(e:Air q→p:=by(intro hq;(conv=>whnf);(repeat' ((first|refine⟨rfl,?_⟩|refine⟨_,Ad (by assumption),?_⟩|refine⟨_,(by exact Bo),?_⟩|refine⟨_,A6 (by omega) (by omega),?_⟩|refine⟨_,Bn (by omega) (by omega),?_⟩|refine⟨by decide,_,Bf (by omega),?_⟩);(conv=>whnf)));exact hq.out)):p:=e ⟨h⟩
theorem wI{p:Prop}(h:p:=by exact Ak (gone:=[]) (gone1:=[]) rfl aI (by decide) (by decide) (by decide) rfl aM):p:=h
theorem cX{A:List Par→Bool→List Nat→Prop}{F:List Par→List Par→Prop}{B L:List Par→Prop}{K:List Par→List Nat→Prop}{ps rs:List Par}(hF:F ps rs)(hK:K rs [])(hA:A ps false []:=by exact aI)(hL:L rs:=by exact nI):∃ps rs bor gone,A ps bor gone∧F ps rs∧(bor=true→B rs)∧L rs∧K rs gone:=⟨ps,rs,false,[],hA,hF,Ab,hL,hK⟩
theorem cY{A:List Par→Bool→List Nat→Prop}{F:List Par→List Par→Prop}{B L:List Par→Prop}{K:List Par→List Nat→Prop}{ps rs:List Par}(hF:F ps rs)(hK:K rs [])(hA:A ps true []:=by exact aI)(hB:B rs:=by exact fI)(hL:L rs:=by exact nI):∃ps rs bor gone,A ps bor gone∧F ps rs∧(bor=true→B rs)∧L rs∧K rs gone:=⟨ps,rs,true,[],hA,hF,fun _=>hB,hL,hK⟩
theorem G1{α0:Type}{p:Prop}{q:α0→Prop}(h:∀a0,q a0)(e:(∀a0,Air (q a0))→p:=by(intro hq;(conv=>whnf);(repeat' ((first|refine⟨rfl,?_⟩|refine⟨_,Ad (by assumption),?_⟩|refine⟨_,(by exact Bo),?_⟩|refine⟨_,A6 (by omega) (by omega),?_⟩|refine⟨_,Bn (by omega) (by omega),?_⟩|refine⟨by decide,_,Bf (by omega),?_⟩);(conv=>whnf)));intro g0;(conv=>whnf);(repeat' ((first|refine⟨rfl,?_⟩|refine⟨_,Ad (by assumption),?_⟩|refine⟨_,(by exact Bo),?_⟩|refine⟨_,A6 (by omega) (by omega),?_⟩|refine⟨_,Bn (by omega) (by omega),?_⟩|refine⟨by decide,_,Bf (by omega),?_⟩);(conv=>whnf)));exact(hq g0).out)):p:=e fun a0=>⟨h a0⟩
theorem Ah1{s:ByteArray}{k:Nat}(h:∀j,(hj:j<s.data.toList.length)→j<k→okB (s.data.toList[j]).toNat=true)(hlt:k<s.size)(hk:okB (s[k]).toNat=true):
  ∀j,(hj:j<s.data.toList.length)→j<k+1→okB (s.data.toList[j]).toNat=true:=by
 intro j hj hjk;rcases(by omega:j<k∨j=k)with g|rfl
 ·exact h j hj g
 ·exact hk
theorem T8(s:ByteArray):s.toList.isEmpty=decide (s.size=0):=by
 rw[ByteArray.toList_eq,Bool.eq_iff_iff,List.isEmpty_iff_length_eq_zero,decide_eq_true_eq,Array.length_toList];rfl
theorem As4{s:ByteArray}(h1:1≤s.size∧s.size≤30→lab s.data.toList=true)(h2:¬(1≤s.size∧s.size≤30)→lab s.data.toList=false)(e:s.toList.isEmpty=false):decide ((s.size:Int)≤30)=lab s.data.toList:=by
 have e0:s.size≠0:=by simpa[T8]using e
 by_cases g:s.size≤30
 ·rw[h1 ⟨by omega,g⟩];simp;omega
 ·rw[h2 (by omega)];simp;omega
theorem Asp{s:ByteArray}(h2:¬(1≤s.size∧s.size≤30)→lab s.data.toList=false)(e:s.toList.isEmpty=true):false=lab s.data.toList:=by
 have e0:s.size=0:=by simpa[T8]using e
 rw[h2 (by omega)]
theorem Arb(w:World)(C:Array Value)(t:TypeId)(fr:Nat×Nat)(k:Nat):(w.alloc (.cells C t fr)).drew.cell? ⟨w.heap.size,k,none⟩=C[k]? :=by
 have h:(w.alloc (.cells C t fr)).drew.heap[w.heap.size]? =some (.cells C t fr):=heap_alloc_new w _;unfold World.cell?;rw[h];rfl
theorem Al5{s:ByteArray}{k:Nat}(hlt:k<s.size)(hk:okB (s[k]).toNat=false):false=lab s.data.toList:=
 (lab_bad (i:=k) (s:=s.data.toList) (by simpa using hlt) hk).symm
theorem Ab7 (s : ByteArray) (w : World) (hs : s.size ≤ 9223372036854775807) :
    Calls Tryz.prog 55 #[.string s] w fun e w' => e = .returned (.bool (lab s.data.toList)) ∧ w = w' := by
  go_enter Tryz.func55, Tryz.ntmps55
  go_wp2
  go_loop [3] (fun i => ∃ k : Nat, k ≤ s.size ∧ i = .int .i64 k ∧ ∀ j, (hj : j < s.data.toList.length) → j < k → okB (s.data.toList[j]).toNat = true) (fun i => s.size - (intOf i).toNat)
  case atStart => exact ⟨0, ZU _, rfl, fun j _ h => absurd h (by omega)⟩
  case round =>
    obtain ⟨k, hk, rfl, hall⟩ := hrel
    have HA := hid hall
    clear hall
    by_cases hlt : k < s.size
    · go_wp2
      all_goals first
        | (go_round
           case rel => exact ⟨k + 1, by omega, by go_num, Ah1 HA.out hlt (Aml (by go_light; clear HA; first | omega | (simp_all; done) | (simp_all; omega)))⟩
           case measure => simp [intOf]; omega)
        | (go_ret
           exact ⟨K5 (Al5 hlt (Apz (by go_light; clear HA; first | omega | (simp_all; done) | (simp_all; omega)))), rfl⟩)
    · have HL := fun (g : 1 ≤ s.size ∧ s.size ≤ 30) => Al9 (s := s.data.toList) (fun i hi => HA.out i hi (by simp at hi; omega)) (by simpa using g.1) (by simpa using g.2)
      have HN := fun (g : ¬ (1 ≤ s.size ∧ s.size ≤ 30)) => Aga (s := s.data.toList) (by simpa using g)
      have HL := hid HL
      have HN := hid HN
      clear HA
      go_wp2
      all_goals go_ret
      all_goals exact ⟨K5 (by
        go_light
        by_cases g : 1 ≤ s.size ∧ s.size ≤ 30
        · rw [HL.out g] <;> first | rfl | (simp <;> omega)
        · rw [HN.out g] <;> first | rfl | (simp <;> omega)), rfl⟩
theorem Aoa(s:ByteArray)(w:World):∃(cap:Nat) (C:Array Value) (fr:Nat×Nat),
  (convert 9 116 (.string s)).run Tryz.prog w=.ok (.slice (some ⟨w.heap.size,0,none⟩) s.size cap) (w.drew.alloc (.cells C 5 fr))∧
  ∀j,(h:j<s.size)→C[j]? =some (.int .u8 ((s[j]).toNat:Int)):=by
 refine⟨_,_,_,run_bytes_of_string w 9 116 5 s Tryz.underlying9 Tryz.underlying116 Tryz.underlying5,?_⟩;intro j h;exact bytesRow_at s _ j h
set_option maxRecDepth 100000 in
theorem Aiq (s : ByteArray) (w : World) (hs : s.size ≤ 9223372036854775807) :
    Calls Tryz.prog 41 #[.string s] w fun e w' => e = .returned (.bool (lab s.data.toList)) ∧ Below w.heap.size w w' ∧ w.drawn ≤ w'.drawn := by
  obtain ⟨cap, C, fr, hrun, hC⟩ := Aoa s w
  have HC := hid hC
  clear hC
  have hB : Below w.heap.size w (w.alloc (.cells C 5 fr)).drew ∧ w.drawn ≤ (w.alloc (.cells C 5 fr)).drew.drawn := ⟨(by repeat (first | exact Below.refl _ _ | assumption | refine Below.drew ?_ | refine below_drewN ?_ _ | refine Below.alloc ?_ (by simp; try omega) _ | refine Below.setCell ?_ (by simp; try omega) _)), Nat.le_succ _⟩
  have HB := hid hB
  clear hB
  go_enter Tryz.func41, Tryz.ntmps41
  go_wp2
  go_loop [8] (fun i => ∃ k : Nat, k ≤ s.size ∧ i = .int .i64 k ∧ ∀ j, (hj : j < s.data.toList.length) → j < k → okB (s.data.toList[j]).toNat = true) (fun i => s.size - (intOf i).toNat)
  case atStart => exact ⟨0, ZU _, rfl, fun j _ h => absurd h (by omega)⟩
  case round =>
    obtain ⟨k, hk, rfl, hall⟩ := hrel
    have HA := hid hall
    clear hall
    by_cases hlt : k < s.size
    · have hcell : (w.alloc (.cells C 5 fr)).drew.cell? ⟨w.heap.size, k, none⟩ = some (.int .u8 ((s[k]).toNat : Int)) := (Arb w C 5 fr k).trans (HC.out k hlt)
      have hby : ((s[k]).toNat : Int) ≤ 255 := by have := (s[k]).toNat_lt; omega
      clear hrun
      go_wp2
      all_goals first
        | (go_round
           case rel => exact ⟨k + 1, by omega, by go_num, Ah1 HA.out hlt (Aml (by go_light; clear HA; first | omega | (simp_all; done) | (simp_all; omega)))⟩
           case measure => simp [intOf]; omega)
        | (go_ret
           exact ⟨K5 (Al5 hlt (Apz (by go_light; clear HA; first | omega | (simp_all; done) | (simp_all; omega)))), HB.out⟩)
    · have HL := fun (g : 1 ≤ s.size ∧ s.size ≤ 30) => Al9 (s := s.data.toList) (fun i hi => HA.out i hi (by simp at hi; omega)) (by simpa using g.1) (by simpa using g.2)
      have HN := fun (g : ¬ (1 ≤ s.size ∧ s.size ≤ 30)) => Aga (s := s.data.toList) (by simpa using g)
      have HL := hid HL
      have HN := hid HN
      clear HA
      go_wp2
      all_goals go_ret
      all_goals first
        | exact ⟨K5 (As4 HL.out HN.out ‹s.toList.isEmpty = false›), HB.out⟩
        | exact ⟨K5 (Asp HN.out ‹s.toList.isEmpty = true›), HB.out⟩
theorem El(s:ByteArray)(hs:s.size≤9223372036854775807):Fun Tryz.prog 41 [.c (.v (.string s))] [.c (.v (.bool (lab s.data.toList)))]:=
 Nx (xs:=[.string s]) (Fb Tryz.func41 (by kernel_rfl) (by kernel_rfl)) fun w=>(Aiq s w hs).mono fun e w' h=>⟨h.1,h.2.1⟩
theorem Eb(s:ByteArray)(hs:s.size≤9223372036854775807):Fun Tryz.prog 55 [.c (.v (.string s))] [.c (.v (.bool (lab s.data.toList)))]:=
 Nx (xs:=[.string s]) (Fb Tryz.func55 (by kernel_rfl) (by kernel_rfl)) fun w=>(Ab7 s w hs).mono fun e w' ⟨h1,h2⟩=>⟨h1,h2▸Below.refl _ _⟩
theorem Aay(a b:ByteArray):Fun Tryz.prog 94 [.c (.v (.string a)),.c (.v (.string b))] [.c (.v (.int .i64 (Ey a b)))]:=
 Nx (xs:=[.string a,.string b]) (Fb Tryz.func94 (by kernel_rfl) (by kernel_rfl)) fun w=>(Ahs a b w).mono fun e w' ⟨h1,h2⟩=>⟨h1,h2▸Below.refl _ _⟩
theorem Db(n a b:Int):Fun Tryz.prog 68 [.c (.v (.int .i64 n)),.c (.v (.int .i64 a)),.c (.v (.int .i64 b))] [.c (.v (.bool (wi n a b)))]:=by
 refine Ar Ip rfl ?_;(refine goI ?_;repeat (intro gg;refine goI ?_));(refine Aa (fun h=>?_) (fun h=>?_)<;>rw[h])
 ·(refine goI ?_;repeat (intro gg;refine goI ?_));rw[Aur h];(exact⟨[],aI⟩)
 ·(refine goI ?_;repeat (intro gg;refine goI ?_));rw[Av8 h];(exact⟨[],aI⟩)
theorem Qs(n:Int):Fun Tryz.prog 127 [.c (.v (.int .i64 n))] [.c (.v (.bool (wi n 0 4294967295)))]:=by
 refine Ar Hv rfl ?_;(refine goI ?_;repeat (intro gg;refine goI ?_));refine .inl (cX (Db _ _ _) ?_);(refine goI ?_;repeat (intro gg;refine goI ?_));(exact⟨[],aI⟩)
theorem J9{α:Type}(e:α→Int)(a:α):Bm e [a]=e a:=by
 by_cases h:e a=0<;>simp[Bm,h]
theorem U4{α:Type}{mx:Nat}{e:α→Int}{lt:α→α→Bool}{l:List α}(h1:¬mx<l.length)(h2:Bm e l≠0):ckL mx e lt l=Bm e l:=by simp[ckL,h1,h2]
theorem Aet{α:Type}{mx:Nat}{e:α→Int}{lt:α→α→Bool}{l:List α}(h1:¬mx<l.length)(h2:Bm e l=0)(h3:Cz lt l=false):ckL mx e lt l=4:=by simp[ckL,h1,h2,h3]
theorem Yx{α:Type}{mx:Nat}{e:α→Int}{lt:α→α→Bool}{l:List α}(h1:¬mx<l.length)(h2:Bm e l=0)(h3:Cz lt l=true):ckL mx e lt l=0:=by simp[ckL,h1,h2,h3]
theorem Atk(a:Int):E9 a a=0:=by simp[E9]
theorem Aug{a b:Int}(h:a≠b):E9 a b≠0:=by
 unfold E9;split
 ·decide
 ·split
  ·decide
  ·omega
theorem Zu{a b:Int}:0<E9 a b↔b<a:=by
 unfold E9;split
 ·constructor<;>intro h<;>omega
 ·split<;>(constructor<;>intro h<;>omega)
theorem Aa5{a b:ByteArray}:0<Ey a b↔slt b a=true:=by
 constructor
 ·intro h;rcases Bool.eq_false_or_eq_true (slt b a)with q|q
  ·exact q
  ·rcases Bool.eq_false_or_eq_true (slt a b)with p|p
   ·rw[Y0 p]at h;omega
   ·have:=Ry p q;rw[this,Uw]at h;omega
 ·intro h;rw[Yz h];decide
def b2i(b:Bool):Int:=if b then 1 else 0
def Ard(n:Int):List V:=[.v (.int .i64 n)]
instance:FlatRow Ard:=⟨fun x u hu=>by simp[Ard]at hu;exact⟨_,hu⟩⟩
theorem Awf(c:Bool)(l:List Int)(hl:l.length≤9223372036854775807):Fun Tryz.prog 125 [.c (.sl c (l.map Ard))] [.c (.v (.int .i64 (B3 l)))]:=by
 refine Ar Ac6 rfl ?_;(refine goI ?_;repeat (intro gg;refine goI ?_));(refine⟨[],none,{k:Nat//k≤l.length∧∀j,(h:j<l.length)→j<k→l[j]=0},[3,6,7],fun⟨k,hk,h0⟩=>[(8,.v (.int .i64 k))],[],fun⟨k,hk,h0⟩=>[],fun⟨k,hk,h0⟩=>l.length-k,trivial,fun _=>⟨trivial,fun _=>⟨⟨0,by omega,fun j _ h=>by omega⟩,tI,Af _ _,tI,Ae _ _⟩⟩,fun⟨k,hk,h0⟩=>?_⟩);(refine goI ?_;repeat (intro gg;refine goI ?_));rw[ZE];(refine Aa (fun h=>?_) (fun h=>?_)<;>rw[h])
 ·have hlt:k<l.length:=by simpa using h
  (refine goI ?_;repeat (intro gg;refine goI ?_));refine⟨k,_,rfl,Ad hlt,?_⟩;(refine goI ?_;repeat (intro gg;refine goI ?_));(refine Aa (fun h=>?_) (fun h=>?_)<;>rw[h])
  ·(refine goI ?_;repeat (intro gg;refine goI ?_));rw[Tp hlt h0 (by simpa using h)];(exact⟨[],aI⟩)
  ·(refine goI ?_;repeat (intro gg;refine goI ?_));(exact⟨none,trivial,fun _=>⟨⟨k+1,by omega,up1 (p:=fun j h=>l[j]=0) h0 (fun _=>by simpa using h)⟩,by show l.length-(k+1)<l.length-k;omega,tI,tI,tI,tI⟩⟩)
 ·have hge:¬k<l.length:=by simpa using h
  (refine goI ?_;repeat (intro gg;refine goI ?_));rw[O3 (l:=l) (fun i hi=>h0 i hi (by omega))];(exact⟨[],aI⟩)
namespace Pl
structure Sv where
 nd:ByteArray
 id:ByteArray
 nm:ByteArray
 tg:ByteArray
 ad:Int
 pt:Int
 ps:Bool
 vs:Int
 gn:Bool
def Sv.enc(m:Sv):List Value:=[.string m.nd,.string m.id,.string m.nm,.string m.tg,.int .i64 m.ad,.int .i64 m.pt,.bool m.ps,.int .i64 m.vs,.bool m.gn]
def Sv.row(m:Sv):List V:=[.v (.string m.nd),.v (.string m.id),.v (.string m.nm),.v (.string m.tg),.v (.int .i64 m.ad),.v (.int .i64 m.pt),.v (.bool m.ps),.v (.int .i64 m.vs),.v (.bool m.gn)]
instance:FlatRow Sv.row:=⟨fun x u hu=>by simp[Sv.row]at hu;rcases hu with rfl|rfl|rfl|rfl|rfl|rfl|rfl|rfl|rfl<;>exact⟨_,rfl⟩⟩
def Sv.ok(m:Sv):Prop:=m.nd.size≤9223372036854775807∧m.id.size≤9223372036854775807∧m.nm.size≤9223372036854775807∧m.tg.size≤9223372036854775807
def emp(s:ByteArray):Bool:=s.toList==(ByteArray.mk #[]).toList
def Sp(s:ByteArray):Bool:=emp s||lab s.data.toList
def Sv.err(m:Sv):Int:=if lab m.nd.data.toList then(if lab m.id.data.toList then(if lab m.nm.data.toList then(if Sp m.tg then(if wi m.ad 0 4294967295 then(if wi m.pt 0 65535 then(if wi m.vs 1 1000000 then 0 else 3)else 3)else 3)else 1)else 1)else 1)else 1
def Sv.cf(nd id:ByteArray)(x:Sv):Int:=B3 [Ey x.nd nd,Ey x.id id]
def Sv.kf(g x:Sv):Int:=Sv.cf g.nd g.id x
def Sv.lt(g h:Sv):Bool:=decide (Sv.cf h.nd h.id g<0)
def Ei(l:List Sv):Int:=ckL 40 Sv.err Sv.lt l
def Sv.cmp(g x:Sv):Int:=B3 [E9 g.vs x.vs,E9 (b2i g.gn) (b2i x.gn),Ey g.nm x.nm,Ey g.tg x.tg,E9 g.ad x.ad,E9 g.pt x.pt,E9 (b2i g.ps) (b2i x.ps)]
def Sv.nw(g x:Sv):Bool:=decide (0<Sv.cmp g x)
def Sv.is(nd id:ByteArray)(m:Sv):Bool:=(m.nd.toList==nd.toList)&&(m.id.toList==id.toList)
def Sv.same(g h:Sv):Bool:=(g.nd.toList==h.nd.toList)&&((g.id.toList==h.id.toList)&&((g.nm.toList==h.nm.toList)&&((g.tg.toList==h.tg.toList)&&((g.ad==h.ad)&&((g.pt==h.pt)&&((g.ps==h.ps)&&((g.vs==h.vs)&&((g.gn==h.gn)&&true))))))))
theorem Sv.err_cases(m:Sv):m.err=0∨m.err=1∨m.err=3∨m.err=7:=by
 unfold Sv.err
 repeat' split
 all_goals simp
theorem As8{a b c d:ByteArray}(h:a=b):B3 [Ey a b,Ey c d]=Ey c d:=by
 subst h;by_cases h:Ey c d=0<;>simp[B3,Uw,h]
theorem At6{a b c d:ByteArray}(h:a≠b):B3 [Ey a b,Ey c d]=Ey a b:=by
 have:Ey a b≠0:=fun e=>h (Gk.1 e);simp[B3,this]
theorem Sv.cf_neg{nd id:ByteArray}{x:Sv}:Sv.cf nd id x<0↔slt x.nd nd=true∨(x.nd=nd∧slt x.id id=true):=by
 unfold Sv.cf;by_cases h:x.nd=nd
 ·rw[As8 h,Qu,h];simp[Fj]
 ·rw[At6 h,Qu];simp[h]
theorem Sv.cf_zero{nd id:ByteArray}{x:Sv}:Sv.cf nd id x=0↔x.nd=nd∧x.id=id:=by
 unfold Sv.cf;by_cases h:x.nd=nd
 ·rw[As8 h,Gk];simp[h]
 ·rw[At6 h,Gk];simp[h]
theorem Sv.lt_iff{x y:Sv}:Sv.lt x y=true↔slt x.nd y.nd=true∨(x.nd=y.nd∧slt x.id y.id=true):=by
 unfold Sv.lt;rw[decide_eq_true_iff,Sv.cf_neg]
theorem Sv.lt_trans(x y z:Sv)(h1:Sv.lt x y=true)(h2:Sv.lt y z=true):Sv.lt x z=true:=by
 rw[Sv.lt_iff]at *;rcases h1 with h1|⟨e1,h1⟩<;>rcases h2 with h2|⟨e2,h2⟩
 ·exact .inl (Kj h1 h2)
 ·exact .inl (e2▸h1)
 ·exact .inl (by rw[e1];exact h2)
 ·exact .inr ⟨e1.trans e2,Kj h1 h2⟩
theorem Jo{l:List Sv}(h:Ei l=0):l.length≤40∧(∀i,(hi:i<l.length)→(l[i]).err=0)∧Cz Sv.lt l=true:=Ama Sv.err_cases h
theorem Sv.ahead1{x y:Sv}(h:Op.bytesLess x.nd.toList y.nd.toList=true):Sv.lt x y=true:=Sv.lt_iff.2 (.inl h)
theorem Sv.ahead2{x y:Sv}(h:Op.bytesLess x.nd.toList y.nd.toList=false)(h2:(x.nd.toList==y.nd.toList)=true):Sv.lt x y=Op.bytesLess x.id.toList y.id.toList:=by
 have e:=Yw.1 h2;have h':slt x.nd y.nd=false:=h;have:=Sv.lt_iff (x:=x) (y:=y);show Sv.lt x y=slt x.id y.id;cases hb:slt x.id y.id with
 |true=>exact this.2 (.inr ⟨e,hb⟩)
 |false=>
  cases hl:Sv.lt x y with
  |false=>rfl
  |true=>rcases this.1 hl with q|⟨_,q⟩<;>simp_all
theorem Sv.ahead3{x y:Sv}(h:Op.bytesLess x.nd.toList y.nd.toList=false)(h2:(x.nd.toList==y.nd.toList)=false):Sv.lt x y=false:=by
 have e:x.nd≠y.nd:=fun e=>by rw[e]at h2;simp at h2
 have h':slt x.nd y.nd=false:=h;cases hl:Sv.lt x y with
 |false=>rfl
 |true=>rcases Sv.lt_iff.1 hl with q|⟨q,_⟩<;>simp_all
def Sv.ne(m x:Sv):Bool:= !(Sv.is m.nd m.id x)
theorem Sv.is_eq(nd id:ByteArray):Sv.is nd id=fun x=>decide (Sv.cf nd id x=0):=by
 funext x;unfold Sv.is;by_cases h:x.nd=nd∧x.id=id
 ·rw[h.1,h.2];have:Sv.cf nd id x=0:=Sv.cf_zero.2 h;simp[this]
 ·have h2:¬Sv.cf nd id x=0:=fun e=>h (Sv.cf_zero.1 e);have h3:(x.nd.toList==nd.toList&&x.id.toList==id.toList)=false:=by
   cases hb:(x.nd.toList==nd.toList&&x.id.toList==id.toList)with
   |false=>rfl
   |true=>rw[ZO,Yw,Yw]at hb;exact absurd hb h
  rw[h3];simp[h2]
theorem Sv.ne_eq(m:Sv):Sv.ne m=fun x=>decide (Sv.kf m x≠0):=by
 funext x;have:=congrFun (Sv.is_eq m.nd m.id) x;unfold Sv.ne Sv.kf;rw[this];simp
theorem Awq(row:List V)(h:Qp [.s,.s,.s,.s,.i,.i,.b,.i,.b] row):∃m:Sv,row=m.row∧m.ok:=by
 obtain⟨u0,_,rfl,f0,h⟩:=Ap h;obtain⟨u1,_,rfl,f1,h⟩:=Ap h;obtain⟨u2,_,rfl,f2,h⟩:=Ap h;obtain⟨u3,_,rfl,f3,h⟩:=Ap h;obtain⟨u4,_,rfl,f4,h⟩:=Ap h;obtain⟨u5,_,rfl,f5,h⟩:=Ap h;obtain⟨u6,_,rfl,f6,h⟩:=Ap h;obtain⟨u7,_,rfl,f7,h⟩:=Ap h;obtain⟨u8,_,rfl,f8,h⟩:=Ap h;obtain rfl:=Ln h;obtain⟨a,rfl,ha⟩:=K3 f0;obtain⟨b,rfl,hb⟩:=K3 f1;obtain⟨c,rfl,hc⟩:=K3 f2;obtain⟨d,rfl,hd⟩:=K3 f3;obtain⟨e,rfl,_⟩:=Ge f4;obtain⟨f,rfl,_⟩:=Ge f5;obtain⟨g,rfl⟩:=Ahf f6;obtain⟨i,rfl,_⟩:=Ge f7;obtain⟨j,rfl⟩:=Ahf f8;exact⟨⟨a,b,c,d,e,f,g,i,j⟩,rfl,ha,hb,hc,hd⟩
end Pl
section
variable {α:Type} {enc:α→List Value} {sz:Nat} {w w':World} {A:Option Addr} {l:List α}
def RL(enc:α→List Value)(sz:Nat)(w:World)(A:Option Addr)(l:List α):Prop:=
 0<l.length→∃b off,A=some ⟨b,off,none⟩∧b<w.heap.size∧∀i,(h:i<l.length)→∀j u,(enc l[i])[j]? =some u→w.cell? ⟨b,off+i*sz+j,none⟩=some u
theorem RL.nil:RL enc sz w A []:=fun h=>absurd h (by simp)
theorem RL.at_(h:RL enc sz w A l){k:Nat}(hk:k<l.length):∃b off,A=some ⟨b,off,none⟩∧b<w.heap.size∧∀j u,(enc l[k])[j]? =some u→w.cell? ⟨b,off+k*sz+j,none⟩=some u:=by
 obtain⟨b,off,hA,hb,hc⟩:=h (by omega);exact⟨b,off,hA,hb,hc k hk⟩
end
section
variable {P:Program}
end
theorem Fr.alloc{L:Nat→Prop}{a w:World}(h:Fr L a w)(o:Obj):Fr L a (w.alloc o):=h.grown (World.grownBy_alloc w o none) (by simp) (ZT _)
section
variable {α:Type} {enc:α→List Value} {sz:Nat} {w w':World} {R:Nat→Prop}
end
end Go.Proofs.YtbnocibpoghfhaaGreatDoor

namespace Go.Proofs.YtbnocibpoghfhaaGreatDoor
open Go.RowKit Pl
theorem Qz(n a b:Int):Fun Tryz.prog 131 [.c (.v (.int .i64 n)),.c (.v (.int .i64 a)),.c (.v (.int .i64 b))] [.c (.v (.bool (wi n a b)))]:=by
 refine Ar Vb rfl ?_;refine G0 ?_;(refine Aa (fun h=>?_) (fun h=>?_)<;>rw[h])
 ·refine G0 ?_;rw[Aur h];(exact⟨[],aI⟩)
 ·refine G0 ?_;rw[Av8 h];(exact⟨[],aI⟩)
theorem W7(s:ByteArray)(hs:s.size≤9223372036854775807):Fun Tryz.prog 98 [.c (.v (.string s))] [.c (.v (.bool (Sp s)))]:=by
 refine Ar Vs rfl ?_;refine G0 ?_;(refine Aa (fun h=>?_) (fun h=>?_)<;>rw[h])
 ·refine G0 ?_;rw[show Sp s=true by unfold Sp;rw[show emp s=true from h];rfl];(exact⟨[],aI⟩)
 ·refine G0 ?_;refine .inl (cX (El _ hs) ?_);refine G1 ?_;intro gg;rw[show Sp s=lab s.data.toList by unfold Sp;rw[show emp s=false from h];rfl];(exact⟨[],aI⟩)
theorem Arz(m:Sv)(hm:m.ok):Fun Tryz.prog 115 [.c (.agg m.row)] [.c (.v (.int .i64 m.err))]:=by
 obtain⟨o1,o2,o3,o4⟩:=hm;refine Ar Zr rfl ?_;refine G1 ?_;intro gg;refine .inl (cX (El _ o1) ?_);refine G1 ?_;intro gg;(refine Aa (fun h1=>?_) (fun h1=>?_)<;>rw[h1])
 ·refine G0 ?_
  (rw[show m.err=1 from by(first|(simp_all;done)|(unfold Sv.err;simp_all))];(exact⟨[],aI⟩))
 ·refine G0 ?_;refine .inl (cX (El _ o2) ?_);refine G1 ?_;intro gg;(refine Aa (fun h2=>?_) (fun h2=>?_)<;>rw[h2])
  ·refine G0 ?_
   (rw[show m.err=1 from by(first|(simp_all;done)|(unfold Sv.err;simp_all))];(exact⟨[],aI⟩))
  ·refine G0 ?_;refine .inl (cX (El _ o3) ?_);refine G1 ?_;intro gg;(refine Aa (fun h3=>?_) (fun h3=>?_)<;>rw[h3])
   ·refine G0 ?_
    (rw[show m.err=1 from by(first|(simp_all;done)|(unfold Sv.err;simp_all))];(exact⟨[],aI⟩))
   ·refine G0 ?_;refine .inl (cX (W7 _ o4) ?_);refine G1 ?_;intro gg;(refine Aa (fun h4=>?_) (fun h4=>?_)<;>rw[h4])
    ·refine G0 ?_
     (rw[show m.err=1 from by(first|(simp_all;done)|(unfold Sv.err;simp_all))];(exact⟨[],aI⟩))
    ·refine G0 ?_;refine .inl (cX (Qz _ _ _) ?_);refine G1 ?_;intro gg;(refine Aa (fun h5=>?_) (fun h5=>?_)<;>rw[h5])
     ·refine G0 ?_
      (rw[show m.err=3 from by(first|(simp_all;done)|(unfold Sv.err;simp_all))];(exact⟨[],aI⟩))
     ·refine G0 ?_;refine .inl (cX (Qz _ _ _) ?_);refine G1 ?_;intro gg;(refine Aa (fun h6=>?_) (fun h6=>?_)<;>rw[h6])
      ·refine G0 ?_
       (rw[show m.err=3 from by(first|(simp_all;done)|(unfold Sv.err;simp_all))];(exact⟨[],aI⟩))
      ·refine G0 ?_;refine .inl (cX (Qz _ _ _) ?_);refine G1 ?_;intro gg;(refine Aa (fun h7=>?_) (fun h7=>?_)<;>rw[h7])
       ·refine G0 ?_
        (rw[show m.err=3 from by(first|(simp_all;done)|(unfold Sv.err;simp_all))];(exact⟨[],aI⟩))
       ·refine G0 ?_
        (rw[show m.err=0 from by(first|(simp_all;done)|(unfold Sv.err;simp_all))];(exact⟨[],aI⟩))
theorem Ang(m:Sv)(hm:m.ok):Fun Tryz.prog 99 [.c (.agg m.row)] [.c (.v (.int .i64 m.err))]:=by
 obtain⟨o1,o2,o3,o4⟩:=hm;refine Ar M4 rfl ?_;refine G1 ?_;intro gg;refine .inl (cX (Eb _ o1) ?_);refine G1 ?_;intro gg;(refine Aa (fun h1=>?_) (fun h1=>?_)<;>rw[h1])
 ·refine G0 ?_
  (rw[show m.err=1 from by(first|(simp_all;done)|(unfold Sv.err;simp_all))];(exact⟨[],aI⟩))
 ·refine G0 ?_;refine .inl (cX (Eb _ o2) ?_);refine G1 ?_;intro gg;(refine Aa (fun h2=>?_) (fun h2=>?_)<;>rw[h2])
  ·refine G0 ?_
   (rw[show m.err=1 from by(first|(simp_all;done)|(unfold Sv.err;simp_all))];(exact⟨[],aI⟩))
  ·refine G0 ?_;refine .inl (cX (Eb _ o3) ?_);refine G1 ?_;intro gg;(refine Aa (fun h3=>?_) (fun h3=>?_)<;>rw[h3])
   ·refine G0 ?_
    (rw[show m.err=1 from by(first|(simp_all;done)|(unfold Sv.err;simp_all))];(exact⟨[],aI⟩))
   ·refine G0 ?_;(refine Aa (fun h4=>?_) (fun h4=>?_)<;>rw[h4])
    ·have hmb:Sp m.tg=lab m.tg.data.toList:=by unfold Sp;rw[show emp m.tg=false from Dr h4];rfl
     refine G0 ?_;refine .inl (cX (Eb _ o4) ?_);refine G1 ?_;intro gg;(refine Aa (fun h5=>?_) (fun h5=>?_)<;>rw[h5])
     ·refine G0 ?_
      (rw[show m.err=1 from by(first|(simp_all;done)|(unfold Sv.err;simp_all))];(exact⟨[],aI⟩))
     ·refine G0 ?_;refine .inl (cX (Qs _) ?_);refine G1 ?_;intro gg;(refine Aa (fun h6=>?_) (fun h6=>?_)<;>rw[h6])
      ·refine G0 ?_
       (rw[show m.err=3 from by(first|(simp_all;done)|(unfold Sv.err;simp_all))];(exact⟨[],aI⟩))
      ·refine G0 ?_;refine .inl (cX (Db _ _ _) ?_);refine G1 ?_;intro gg;(refine Aa (fun h7=>?_) (fun h7=>?_)<;>rw[h7])
       ·refine G0 ?_
        (rw[show m.err=3 from by(first|(simp_all;done)|(unfold Sv.err;simp_all))];(exact⟨[],aI⟩))
       ·refine G0 ?_;refine .inl (cX (Db _ _ _) ?_);refine G1 ?_;intro gg;(refine Aa (fun h8=>?_) (fun h8=>?_)<;>rw[h8])
        ·refine G0 ?_
         (rw[show m.err=3 from by(first|(simp_all;done)|(unfold Sv.err;simp_all))];(exact⟨[],aI⟩))
        ·refine G0 ?_
         (rw[show m.err=0 from by(first|(simp_all;done)|(unfold Sv.err;simp_all))];(exact⟨[],aI⟩))
    ·have hmb:Sp m.tg=true:=by unfold Sp;rw[show emp m.tg=true from Bw h4];rfl
     refine G0 ?_;refine .inl (cX (Qs _) ?_);refine G1 ?_;intro gg;(refine Aa (fun h6=>?_) (fun h6=>?_)<;>rw[h6])
     ·refine G0 ?_
      (rw[show m.err=3 from by(first|(simp_all;done)|(unfold Sv.err;simp_all))];(exact⟨[],aI⟩))
     ·refine G0 ?_;refine .inl (cX (Db _ _ _) ?_);refine G1 ?_;intro gg;(refine Aa (fun h7=>?_) (fun h7=>?_)<;>rw[h7])
      ·refine G0 ?_
       (rw[show m.err=3 from by(first|(simp_all;done)|(unfold Sv.err;simp_all))];(exact⟨[],aI⟩))
      ·refine G0 ?_;refine .inl (cX (Db _ _ _) ?_);refine G1 ?_;intro gg;(refine Aa (fun h8=>?_) (fun h8=>?_)<;>rw[h8])
       ·refine G0 ?_
        (rw[show m.err=3 from by(first|(simp_all;done)|(unfold Sv.err;simp_all))];(exact⟨[],aI⟩))
       ·refine G0 ?_
        (rw[show m.err=0 from by(first|(simp_all;done)|(unfold Sv.err;simp_all))];(exact⟨[],aI⟩))
theorem Ao9(g x:Sv):Fun Tryz.prog 116 [.c (.agg g.row),.c (.agg x.row)] [.c (.v (.int .i64 (Sv.cf x.nd x.id g)))]:=by
 refine Ar Vv rfl ?_;(refine goI ?_;repeat (intro gg;refine goI ?_));(refine⟨_,_,false,aI,Aay _ _,Ab,nI,?_⟩);refine G1 ?_;intro gg;refine .inl (cX (Aay _ _) ?_);(refine goI ?_;repeat (intro gg;refine goI ?_));(refine .inl ⟨_,_,true,[],aI,Awf false [Ey g.nd x.nd,Ey g.id x.id] (by simp),(fun _=>fI),nI,?_⟩);refine G1 ?_;intro gg;(exact⟨[],aI⟩)
theorem Aom(g x:Sv):Fun Tryz.prog 100 [.c (.agg g.row),.c (.agg x.row)] [.c (.v (.bool (Sv.lt g x)))]:=by
 refine Ar Sj rfl ?_;(refine goI ?_;repeat (intro gg;refine goI ?_));(refine Aa (fun h1=>?_) (fun h1=>?_)<;>rw[h1])
 ·refine G0 ?_;rw[Sv.ahead1 h1];(exact⟨[],aI⟩)
 ·refine G0 ?_;(refine Aa (fun h2=>?_) (fun h2=>?_)<;>rw[h2])
  ·refine G0 ?_;rw[Sv.ahead2 h1 h2];(exact⟨[],aI⟩)
  ·refine G0 ?_;rw[Sv.ahead3 h1 h2];(exact⟨[],aI⟩)
def Awt(l:List Sv):List V:=[.sl false (l.map Sv.row)]
theorem Tb(c:Bool)(ls:List (List Sv))(hls:ls.length≤9223372036854775807)(hl:∀l∈ls,l.length≤9223372036854775807)(hw:∀l∈ls,∀m∈l,m.ok):Fun Tryz.prog 83 [.c (.sl c (ls.map Awt))] [.c (.v (.int .i64 (Bm Ei ls)))]:=by
 refine Ar W4 rfl ?_;refine G0 ?_;rw[ZE];(refine⟨[],none,{k:Nat//k≤ls.length∧∀j,(h:j<ls.length)→j<k→Ei (ls[j])=0},[9,10],fun⟨k,hk,h0⟩=>[(11,.v (.int .i64 k))],[],fun⟨k,hk,h0⟩=>[],fun⟨k,hk,h0⟩=>ls.length-k,trivial,fun _=>⟨trivial,fun _=>⟨⟨0,by omega,fun j _ h=>by omega⟩,tI,Af _ _,tI,Ae _ _⟩⟩,fun⟨k,hk,h0⟩=>?_⟩);refine G0 ?_;(refine Aa (fun h=>?_) (fun h=>?_)<;>rw[h])
 ·have hlt:k<ls.length:=by simpa using h
  refine G0 ?_;refine⟨k,_,rfl,Ad hlt,?_⟩;refine G0 ?_;have HL:=hl _ (ZK hlt);have HW:=hw _ (ZK hlt);have HE:=Ff (e:=Ei) hlt h0;have HN:Ei ls[k]=0→∀j,(h:j<ls.length)→j<k+1→Ei (ls[j])=0:=fun e=>up1 (p:=fun j h=>Ei (ls[j])=0) h0 (fun _=>e);generalize ls[k]=l at *;rw[ZE];(refine Aa (fun h1=>?_) (fun h1=>?_)<;>rw[h1])
  ·refine G0 ?_;have e:Ei l=2:=T6 (by have:=ZV h1;omega);rw[HE (by rw[e];decide),e];(exact⟨[],aI⟩)
  ·have h1':¬40<l.length:=(by have:=ZW h1;omega);refine G0 ?_;rw[ZE];(refine⟨[],none,{q:Nat//q≤l.length∧∀j,(h:j<l.length)→j<q→(l[j]).err=0},[4,9,10,11,18,19],fun⟨q,hq,g0⟩=>[(20,.v (.int .i64 q))],[],fun⟨q,hq,g0⟩=>[],fun⟨q,hq,g0⟩=>l.length-q,trivial,fun _=>⟨trivial,fun _=>⟨⟨0,by omega,fun j _ h=>by omega⟩,tI,Af _ _,tI,Ae _ _⟩⟩,fun⟨q,hq,g0⟩=>?_⟩);refine G0 ?_;(refine Aa (fun h2=>?_) (fun h2=>?_)<;>rw[h2])
   ·have hlt2:q<l.length:=(by have:=ZV h2;omega);refine G0 ?_;refine⟨q,_,rfl,Ad hlt2,?_⟩;refine G1 ?_;intro gg;refine .inl (cX (Arz _ (HW _ (ZK hlt2))) ?_);refine G1 ?_;intro gg;(refine Aa (fun h3=>?_) (fun h3=>?_)<;>rw[h3])
    ·have h3':(l[q]).err≠0:=by simpa using h3
     have e0:=Ff hlt2 g0 h3';refine G0 ?_;have e:Ei l=(l[q]).err:=(U4 h1' (by rw[e0];exact h3')).trans e0;rw[HE (by rw[e];exact h3'),e];(exact⟨[],aI⟩)
    ·refine G0 ?_;(exact⟨none,trivial,fun _=>⟨⟨q+1,by omega,up1 (p:=fun j h=>(l[j]).err=0) g0 (fun _=>by simpa using h3)⟩,by show l.length-(q+1)<l.length-q;omega,tI,tI,tI,tI⟩⟩)
   ·have hge2:¬q<l.length:=(by have:=ZW h2;omega);have h2':Bm Sv.err l=0:=Dm fun i hi=>g0 i hi (by omega);refine G0 ?_;(refine⟨[],none,{k:Nat//(k<l.length∨k=0)∧∀i,(h:i+1<l.length)→i<k→Sv.lt l[i] l[i+1]=true},[4,9,10,11],fun⟨q,hq,g0⟩=>[(8,.v (.int .i64 ((q:Int)+1)))],[],fun⟨q,hq,g0⟩=>[],fun⟨q,hq,g0⟩=>l.length-q,trivial,fun _=>⟨trivial,fun _=>⟨⟨0,by omega,fun j _ h=>by omega⟩,tI,Af _ _,tI,Ae _ _⟩⟩,fun⟨q,hq,g0⟩=>?_⟩);refine G0 ?_;rw[ZE];(refine Aa (fun h3=>?_) (fun h3=>?_)<;>rw[h3])
    ·have hlt3:q+1<l.length:=(by have:=ZV h3;omega);refine G0 ?_;refine⟨q,_,by omega,Ad (by omega),?_⟩;refine G0 ?_;refine⟨q+1,_,by omega,Ad hlt3,?_⟩;refine G0 ?_;refine .inl (cX (Ao9 _ _) ?_);refine G1 ?_;intro gg;(refine Aa (fun h4=>?_) (fun h4=>?_)<;>rw[h4])
     ·refine G0 ?_;have e:Ei l=4:=Aet h1' h2' (K0 hlt3 (ZY (by have:=ZV h4;show¬Sv.cf l[q+1].nd l[q+1].id l[q]<0;omega)));rw[HE (by rw[e];decide),e];(exact⟨[],aI⟩)
     ·refine G0 ?_;(exact⟨none,trivial,fun _=>⟨⟨q+1,by omega,up2 (p:=fun i h=>Sv.lt l[i] l[i+1]=true) g0 (fun _=>ZX (by have:=ZW h4;show Sv.cf l[q+1].nd l[q+1].id l[q]<0;omega))⟩,by show l.length-(q+1)<l.length-q;omega,tI,tI,tI,tI⟩⟩)
    ·have hge3:¬q+1<l.length:=(by have:=ZW h3;omega);refine G0 ?_;have e:Ei l=0:=Yx h1' h2' (Kd fun i hi=>g0 i hi (by omega));(exact⟨none,trivial,fun _=>⟨⟨k+1,by omega,HN e⟩,by show ls.length-(k+1)<ls.length-k;omega,tI,tI,tI,tI⟩⟩)
 ·have hge:¬k<ls.length:=by simpa using h
  refine G0 ?_;rw[Dm (l:=ls) (fun i hi=>h0 i hi (by omega))];(exact⟨[],aI⟩)
theorem Ajh(l:List Sv)(hl:l.length≤9223372036854775807)(hw:∀m∈l,m.ok):Fun Tryz.prog 45 [.c (.sl false (l.map Sv.row))] [.c (.v (.int .i64 (Ei l)))]:=by
 refine Ar V6 rfl ?_;refine G1 ?_;intro gg;(refine .inl ⟨_,_,true,[],aI,Tb false [l] (by simp) (by simpa using hl) (by simpa using hw),(fun _=>fI),nI,?_⟩);rw[J9];refine G1 ?_;intro gg;(exact⟨[],aI⟩)
theorem Aib(c:Bool)(l:List Sv)(hl:l.length≤9223372036854775807)(hw:∀m∈l,m.ok):Fun Tryz.prog 56 [.c (.sl c (l.map Sv.row))] [.c (.v (.int .i64 (Ei l)))]:=by
 refine Ar Ko rfl ?_;refine G0 ?_;rw[ZE];(refine Aa (fun h1=>?_) (fun h1=>?_)<;>rw[h1])
 ·refine G0 ?_;have e:Ei l=2:=T6 (by have:=ZV h1;omega);rw[e];(exact⟨[],aI⟩)
 ·have h1':¬40<l.length:=(by have:=ZW h1;omega);refine G0 ?_;(refine⟨[],none,{k:Nat//k≤l.length∧∀j,(h:j<l.length)→j<k→(l[j]).err=0},[0],fun⟨k,hk,h0⟩=>[(3,.v (.int .i64 k))],[],fun⟨k,hk,h0⟩=>[],fun⟨k,hk,h0⟩=>l.length-k,trivial,fun _=>⟨trivial,fun _=>⟨⟨0,by omega,fun j _ h=>by omega⟩,tI,Af _ _,tI,Ae _ _⟩⟩,fun⟨k,hk,h0⟩=>?_⟩);refine G0 ?_;rw[ZE];(refine Aa (fun h=>?_) (fun h=>?_)<;>rw[h])
  ·have hlt:k<l.length:=(by have:=ZV h;omega);refine G0 ?_;refine⟨k,_,rfl,Ad hlt,?_⟩;refine G0 ?_;refine .inl (cX (Ang _ (hw _ (ZK hlt))) ?_);refine G1 ?_;intro gg;(refine Aa (fun h2=>?_) (fun h2=>?_)<;>rw[h2])
   ·refine G0 ?_;have h2':(l[k]).err≠0:=by simpa using h2
    have e0:=Ff hlt h0 h2';have e:Ei l=(l[k]).err:=(U4 h1' (by rw[e0];exact h2')).trans e0;rw[e];(exact⟨[],aI⟩)
   ·refine G0 ?_;(exact⟨none,trivial,fun _=>⟨⟨k+1,by omega,up1 (p:=fun j h=>(l[j]).err=0) h0 (fun _=>by simpa using h2)⟩,by show l.length-(k+1)<l.length-k;omega,tI,tI,tI,tI⟩⟩)
  ·have hge:¬k<l.length:=(by have:=ZW h;omega);have h2':Bm Sv.err l=0:=Dm fun i hi=>h0 i hi (by omega);refine G0 ?_;(refine⟨[],none,{k:Nat//(k<l.length∨k=0)∧∀i,(h:i+1<l.length)→i<k→Sv.lt l[i] l[i+1]=true},[0],fun⟨q,hq,g0⟩=>[(5,.v (.int .i64 ((q:Int)+1)))],[],fun⟨q,hq,g0⟩=>[],fun⟨q,hq,g0⟩=>l.length-q,trivial,fun _=>⟨trivial,fun _=>⟨⟨0,by omega,fun j _ h=>by omega⟩,tI,Af _ _,tI,Ae _ _⟩⟩,fun⟨q,hq,g0⟩=>?_⟩);refine G0 ?_;rw[ZE];(refine Aa (fun h3=>?_) (fun h3=>?_)<;>rw[h3])
   ·have hlt3:q+1<l.length:=(by have:=ZV h3;omega);refine G0 ?_;refine⟨q,_,by omega,Ad (by omega),?_⟩;refine G0 ?_;refine⟨q+1,_,by omega,Ad hlt3,?_⟩;refine G0 ?_;refine .inl (cX (Aom _ _) ?_);refine G1 ?_;intro gg;(refine Aa (fun h4=>?_) (fun h4=>?_)<;>rw[h4])
    ·refine G0 ?_;have e:Ei l=4:=Aet h1' h2' (K0 hlt3 (Dr h4));rw[e];(exact⟨[],aI⟩)
    ·refine G0 ?_;(exact⟨none,trivial,fun _=>⟨⟨q+1,by omega,up2 (p:=fun i h=>Sv.lt l[i] l[i+1]=true) g0 (fun _=>Bw h4)⟩,by show l.length-(q+1)<l.length-q;omega,tI,tI,tI,tI⟩⟩)
   ·have hge3:¬q+1<l.length:=(by have:=ZW h3;omega);refine G0 ?_;have e:Ei l=0:=Yx h1' h2' (Kd fun i hi=>g0 i hi (by omega));rw[e];(exact⟨[],aI⟩)
namespace Pl
def Sv.at_(s:Sv)(v:Int):Sv:=⟨s.nd,s.id,s.nm,s.tg,s.ad,s.pt,s.ps,v,s.gn⟩
def Sv.sought(name tag:ByteArray)(x:Sv):Bool:=(x.nm.toList==name.toList)&&((emp tag||(x.tg.toList==tag.toList))&&(x.ps&& !x.gn))
def Dc(l:List Sv)(name tag:ByteArray):List Sv:=l.filter (Sv.sought name tag)
theorem T4{l:List Sv}{name tag:ByteArray}{k:Nat}(hk:k<l.length):Dc (l.take (k+1)) name tag=if Sv.sought name tag l[k]=true then Dc (l.take k) name tag++[l[k]]else Dc (l.take k) name tag:=by
 unfold Dc;rw[Ajb hk,List.filter_append];split<;>rename_i h<;>simp[h]
theorem Np(l:List Sv)(name tag:ByteArray):(Dc l name tag).length≤l.length:=List.length_filter_le _ _
def C8(l:List Sv)(name tag:ByteArray):Int×List Sv:=if Ei l≠0 then(Ei l,[])else if lab name.data.toList=false then(1,[])else if Sp tag=false then(1,[])else(0,Dc l name tag)
end Pl

theorem Ahn(a b:ByteArray):(a.toList==b.toList)=(b.toList==a.toList):=BEq.comm
theorem Apm(l:List Sv)(name tag:ByteArray)(hl:l.length≤9223372036854775807)(hw:∀x∈l,x.ok)(hname:name.size≤9223372036854775807)(htag:tag.size≤9223372036854775807):Fun Tryz.prog 54 [.c (.sl false (l.map Sv.row)),.c (.v (.string name)),.c (.v (.string tag))] [.c (.sl false ((C8 l name tag).2.map Sv.row)),.c (.v (.int .i64 (C8 l name tag).1))]:=by
 refine Ar Pb rfl ?_;refine G1 ?_;intro gg;(refine .inl ⟨_,_,true,[],aI,Tb false [l] (by simp) (by simpa using hl) (by simpa using hw),(fun _=>fI),nI,?_⟩);rw[J9];refine G1 ?_;intro gg;(refine Aa (fun h1=>?_) (fun h1=>?_)<;>rw[h1])
 ·have h1':Ei l≠0:=by simpa using h1
  refine G0 ?_;rw[show C8 l name tag=(Ei l,[])by simp[C8,h1']];(exact⟨[],aI⟩)
 ·have hc:Ei l=0:=by simpa using h1
  have hi:=Jo hc;clear h1;refine G0 ?_;refine .inl (cX (El name hname) ?_);refine G1 ?_;intro gg;(refine Aa (fun h2=>?_) (fun h2=>?_)<;>rw[h2])
  ·refine G0 ?_;rw[show C8 l name tag=(1,[])by simp[C8,hc,Dr h2]];(exact⟨[],aI⟩)
  ·refine G0 ?_;refine .inl (cX (W7 tag htag) ?_);refine G1 ?_;intro gg;(refine Aa (fun h3=>?_) (fun h3=>?_)<;>rw[h3])
   ·refine G0 ?_;rw[show C8 l name tag=(1,[])by simp[C8,hc,Bw h2,Dr h3]];(exact⟨[],aI⟩)
   ·have hF:C8 l name tag=(0,Dc l name tag):=by simp[C8,hc,Bw h2,Bw h3]
    clear h2 h3;refine G0 ?_;rw[ZE];(refine⟨[(9,144,39,9)],none,{p:Nat×Nat//p.1≤l.length},[1,2,26,27],fun⟨⟨k,g⟩,hk⟩=>[(9,.own 144 g),(28,.v (.int .i64 k))],[],fun⟨⟨k,g⟩,hk⟩=>[(144,⟨g,39,9,(Dc (l.take k) name tag).map Sv.row⟩)],fun⟨⟨k,g⟩,hk⟩=>l.length-k,(by exact⟨rfl,by decide,(fun _ _ _ _ h=>by cases h),trivial⟩),fun gs=>⟨trivial,fun _=>⟨⟨(0,gs 144),by omega⟩,tI,tI,tI,tI⟩⟩,fun⟨⟨k,g⟩,hk⟩=>?_⟩);have hk':k≤l.length:=hk;have hlen:=Np (l.take k) name tag;rw[ZM]at hlen;refine G0 ?_;(refine Aa (fun h0=>?_) (fun h0=>?_)<;>rw[h0])
    ·have hlt:k<l.length:=(by have:=ZV h0;omega);have hn:=T4 (name:=name) (tag:=tag) hlt;refine G0 ?_;refine⟨k,_,rfl,Ad hlt,?_⟩;refine G1 ?_;intro gg;(refine Aa (fun h1=>?_) (fun h1=>?_)<;>rw[h1])
     ·refine G0 ?_;(refine Aa (fun h2=>?_) (fun h2=>?_)<;>rw[h2])
      ·have h2':emp tag=true:=h2;refine G0 ?_;(refine Aa (fun h4=>?_) (fun h4=>?_)<;>rw[h4])
       ·refine G0 ?_;(refine Aa (fun h5=>?_) (fun h5=>?_)<;>rw[h5])
        ·skip
         have hs:Sv.sought name tag l[k]=true:=by unfold Sv.sought;rw[h1,h2',h4,h5];rfl
         rw[if_pos hs]at hn;refine G1 ?_;intro gg;refine⟨lI,lI,?_⟩;refine G1 ?_;intro gg;have hn':(Dc (l.take (k+1)) name tag).map Sv.row=(Dc (l.take k) name tag).map Sv.row++[[.v (.string l[k].nd),.v (.string l[k].id),.v (.string l[k].nm),.v (.string l[k].tg),.v (.int .i64 l[k].ad),.v (.int .i64 l[k].pt),.v (.bool true),.v (.int .i64 l[k].vs),.v (.bool l[k].gn)]]:=by
          rw[hn,ZI];show _++[Sv.row l[k]]=_;unfold Sv.row;rw[h4]
         (exact⟨none,trivial,fun gr=>⟨⟨(k+1,gg),by dsimp only;omega⟩,by show l.length-(k+1)<l.length-k;omega,hxI hn',hxI hn',hxI hn',hxI hn'⟩⟩)
        ·skip
         have hs:Sv.sought name tag l[k]=false:=by unfold Sv.sought;rw[h1,h2',h4,h5];rfl
         rw[if_neg (by rw[hs];decide)]at hn;refine G0 ?_;(exact⟨none,trivial,fun gr=>⟨⟨(k+1,g),by dsimp only;omega⟩,by show l.length-(k+1)<l.length-k;omega,hxI hn,hxI hn,hxI hn,hxI hn⟩⟩)
       ·skip
        have hs:Sv.sought name tag l[k]=false:=by unfold Sv.sought;rw[h1,h2',h4];rfl
        rw[if_neg (by rw[hs];decide)]at hn;refine G0 ?_;(exact⟨none,trivial,fun gr=>⟨⟨(k+1,g),by dsimp only;omega⟩,by show l.length-(k+1)<l.length-k;omega,hxI hn,hxI hn,hxI hn,hxI hn⟩⟩)
      ·have h2':emp tag=false:=h2;refine G0 ?_;(refine Aa (fun h3=>?_) (fun h3=>?_)<;>rw[h3])
       ·have h3':=h3;refine G0 ?_;(refine Aa (fun h4=>?_) (fun h4=>?_)<;>rw[h4])
        ·refine G0 ?_;(refine Aa (fun h5=>?_) (fun h5=>?_)<;>rw[h5])
         ·skip
          have hs:Sv.sought name tag l[k]=true:=by unfold Sv.sought;rw[h1,h2',h3',h4,h5];rfl
          rw[if_pos hs]at hn;refine G1 ?_;intro gg;refine⟨lI,lI,?_⟩;refine G1 ?_;intro gg;have hn':(Dc (l.take (k+1)) name tag).map Sv.row=(Dc (l.take k) name tag).map Sv.row++[[.v (.string l[k].nd),.v (.string l[k].id),.v (.string l[k].nm),.v (.string l[k].tg),.v (.int .i64 l[k].ad),.v (.int .i64 l[k].pt),.v (.bool true),.v (.int .i64 l[k].vs),.v (.bool l[k].gn)]]:=by
           rw[hn,ZI];show _++[Sv.row l[k]]=_;unfold Sv.row;rw[h4]
          (exact⟨none,trivial,fun gr=>⟨⟨(k+1,gg),by dsimp only;omega⟩,by show l.length-(k+1)<l.length-k;omega,hxI hn',hxI hn',hxI hn',hxI hn'⟩⟩)
         ·skip
          have hs:Sv.sought name tag l[k]=false:=by unfold Sv.sought;rw[h1,h2',h3',h4,h5];rfl
          rw[if_neg (by rw[hs];decide)]at hn;refine G0 ?_;(exact⟨none,trivial,fun gr=>⟨⟨(k+1,g),by dsimp only;omega⟩,by show l.length-(k+1)<l.length-k;omega,hxI hn,hxI hn,hxI hn,hxI hn⟩⟩)
        ·skip
         have hs:Sv.sought name tag l[k]=false:=by unfold Sv.sought;rw[h1,h2',h3',h4];rfl
         rw[if_neg (by rw[hs];decide)]at hn;refine G0 ?_;(exact⟨none,trivial,fun gr=>⟨⟨(k+1,g),by dsimp only;omega⟩,by show l.length-(k+1)<l.length-k;omega,hxI hn,hxI hn,hxI hn,hxI hn⟩⟩)
       ·have h3':=h3;have hs:Sv.sought name tag l[k]=false:=by unfold Sv.sought;rw[h1,h2',h3'];rfl
        rw[if_neg (by rw[hs];decide)]at hn;refine G0 ?_;(exact⟨none,trivial,fun gr=>⟨⟨(k+1,g),by dsimp only;omega⟩,by show l.length-(k+1)<l.length-k;omega,hxI hn,hxI hn,hxI hn,hxI hn⟩⟩)
     ·skip
      have hs:Sv.sought name tag l[k]=false:=by unfold Sv.sought;rw[h1];rfl
      rw[if_neg (by rw[hs];decide)]at hn;refine G0 ?_;(exact⟨none,trivial,fun gr=>⟨⟨(k+1,g),by dsimp only;omega⟩,by show l.length-(k+1)<l.length-k;omega,hxI hn,hxI hn,hxI hn,hxI hn⟩⟩)
    ·have hge:l.length≤k:=(by have:=ZW h0;omega);obtain rfl:k=l.length:=by omega
     refine G0 ?_;rw[hF,show Dc l name tag=Dc (l.take l.length) name tag by rw[XF]];(exact⟨[],aI⟩)
theorem Z7(l:List Sv)(name tag:ByteArray)(hl:l.length≤1000):Fun Tryz.prog 28 [.c (.sl false (l.map Sv.row)),.c (.v (.string name)),.c (.v (.string tag))] [.c (.sl false ((Dc l name tag).map Sv.row))]:=by
 refine Ar Qa rfl ?_;refine G0 ?_;(refine⟨[(7,112,39,9)],none,{p:Nat×Nat//p.1≤l.length},[0,1,2],fun⟨⟨k,g⟩,hk⟩=>[(7,.own 112 g),(8,.v (.int .i64 k))],[],fun⟨⟨k,g⟩,hk⟩=>[(112,⟨g,39,9,(Dc (l.take k) name tag).map Sv.row⟩)],fun⟨⟨k,g⟩,hk⟩=>l.length-k,(by exact⟨rfl,by decide,(fun _ _ _ _ h=>by cases h),trivial⟩),fun gs=>⟨trivial,fun _=>⟨⟨(0,gs 112),by omega⟩,tI,tI,tI,tI⟩⟩,fun⟨⟨k,g⟩,hk⟩=>?_⟩);have hk':k≤l.length:=hk;have hlen:=Np (l.take k) name tag;rw[ZM]at hlen;refine G0 ?_;rw[ZE];(refine Aa (fun h0=>?_) (fun h0=>?_)<;>rw[h0])
 ·have hlt:k<l.length:=(by have:=ZV h0;omega);have hn:=T4 (name:=name) (tag:=tag) hlt;refine G0 ?_;refine⟨k,_,rfl,Ad hlt,?_⟩;refine G0 ?_;(refine Aa (fun h1=>?_) (fun h1=>?_)<;>rw[h1])
  ·refine G0 ?_;(refine Aa (fun h2=>?_) (fun h2=>?_)<;>rw[h2])
   ·have h2':emp tag=true:=h2;refine G0 ?_;refine⟨k,_,rfl,Ad hlt,?_⟩;refine G0 ?_;(refine Aa (fun h4=>?_) (fun h4=>?_)<;>rw[h4])
    ·refine G0 ?_;refine⟨k,_,rfl,Ad hlt,?_⟩;refine G0 ?_;(refine Aa (fun h5=>?_) (fun h5=>?_)<;>rw[h5])
     ·skip
      have hs:Sv.sought name tag l[k]=true:=by unfold Sv.sought;rw[h1,h2',h4,h5];rfl
      rw[if_pos hs]at hn;refine G0 ?_;refine⟨k,_,rfl,Ad hlt,?_⟩;refine G1 ?_;intro gg;refine⟨lI,lI,?_⟩;refine G1 ?_;intro gg;(exact⟨none,trivial,fun gr=>⟨⟨(k+1,gg),by dsimp only;omega⟩,by show l.length-(k+1)<l.length-k;omega,hxI hn,hxI hn,hxI hn,hxI hn⟩⟩)
     ·skip
      have hs:Sv.sought name tag l[k]=false:=by unfold Sv.sought;rw[h1,h2',h4,h5];rfl
      rw[if_neg (by rw[hs];decide)]at hn;refine G0 ?_;(exact⟨none,trivial,fun gr=>⟨⟨(k+1,g),by dsimp only;omega⟩,by show l.length-(k+1)<l.length-k;omega,hxI hn,hxI hn,hxI hn,hxI hn⟩⟩)
    ·skip
     have hs:Sv.sought name tag l[k]=false:=by unfold Sv.sought;rw[h1,h2',h4];rfl
     rw[if_neg (by rw[hs];decide)]at hn;refine G0 ?_;(exact⟨none,trivial,fun gr=>⟨⟨(k+1,g),by dsimp only;omega⟩,by show l.length-(k+1)<l.length-k;omega,hxI hn,hxI hn,hxI hn,hxI hn⟩⟩)
   ·have h2':emp tag=false:=h2;refine G0 ?_;refine⟨k,_,rfl,Ad hlt,?_⟩;refine G0 ?_;(refine Aa (fun h3=>?_) (fun h3=>?_)<;>rw[h3])
    ·have h3':(l[k].tg.toList==tag.toList)=true:=by rw[←h3];exact Ahn _ _
     refine G0 ?_;refine⟨k,_,rfl,Ad hlt,?_⟩;refine G0 ?_;(refine Aa (fun h4=>?_) (fun h4=>?_)<;>rw[h4])
     ·refine G0 ?_;refine⟨k,_,rfl,Ad hlt,?_⟩;refine G0 ?_;(refine Aa (fun h5=>?_) (fun h5=>?_)<;>rw[h5])
      ·skip
       have hs:Sv.sought name tag l[k]=true:=by unfold Sv.sought;rw[h1,h2',h3',h4,h5];rfl
       rw[if_pos hs]at hn;refine G0 ?_;refine⟨k,_,rfl,Ad hlt,?_⟩;refine G1 ?_;intro gg;refine⟨lI,lI,?_⟩;refine G1 ?_;intro gg;(exact⟨none,trivial,fun gr=>⟨⟨(k+1,gg),by dsimp only;omega⟩,by show l.length-(k+1)<l.length-k;omega,hxI hn,hxI hn,hxI hn,hxI hn⟩⟩)
      ·skip
       have hs:Sv.sought name tag l[k]=false:=by unfold Sv.sought;rw[h1,h2',h3',h4,h5];rfl
       rw[if_neg (by rw[hs];decide)]at hn;refine G0 ?_;(exact⟨none,trivial,fun gr=>⟨⟨(k+1,g),by dsimp only;omega⟩,by show l.length-(k+1)<l.length-k;omega,hxI hn,hxI hn,hxI hn,hxI hn⟩⟩)
     ·skip
      have hs:Sv.sought name tag l[k]=false:=by unfold Sv.sought;rw[h1,h2',h3',h4];rfl
      rw[if_neg (by rw[hs];decide)]at hn;refine G0 ?_;(exact⟨none,trivial,fun gr=>⟨⟨(k+1,g),by dsimp only;omega⟩,by show l.length-(k+1)<l.length-k;omega,hxI hn,hxI hn,hxI hn,hxI hn⟩⟩)
    ·have h3':(l[k].tg.toList==tag.toList)=false:=by rw[←h3];exact Ahn _ _
     have hs:Sv.sought name tag l[k]=false:=by unfold Sv.sought;rw[h1,h2',h3'];rfl
     rw[if_neg (by rw[hs];decide)]at hn;refine G0 ?_;(exact⟨none,trivial,fun gr=>⟨⟨(k+1,g),by dsimp only;omega⟩,by show l.length-(k+1)<l.length-k;omega,hxI hn,hxI hn,hxI hn,hxI hn⟩⟩)
  ·skip
   have hs:Sv.sought name tag l[k]=false:=by unfold Sv.sought;rw[h1];rfl
   rw[if_neg (by rw[hs];decide)]at hn;refine G0 ?_;(exact⟨none,trivial,fun gr=>⟨⟨(k+1,g),by dsimp only;omega⟩,by show l.length-(k+1)<l.length-k;omega,hxI hn,hxI hn,hxI hn,hxI hn⟩⟩)
 ·have hge:l.length≤k:=(by have:=ZW h0;omega);obtain rfl:k=l.length:=by omega
  refine G0 ?_;rw[show Dc l name tag=Dc (l.take l.length) name tag by rw[XF]];(exact⟨[],aI⟩)
theorem Ajs(l:List Sv)(name tag:ByteArray)(hl:l.length≤9223372036854775807)(hw:∀x∈l,x.ok)(hname:name.size≤9223372036854775807)(htag:tag.size≤9223372036854775807):Fun Tryz.prog 54 [.c (.sl false (l.map Sv.row)),.c (.v (.string name)),.c (.v (.string tag))] [.o 39 9 ((C8 l name tag).2.map Sv.row),.c (.v (.int .i64 (C8 l name tag).1))]:=by
 refine Ar Pb rfl ?_;refine G1 ?_;intro gg;(refine .inl ⟨_,_,true,[],aI,Tb false [l] (by simp) (by simpa using hl) (by simpa using hw),(fun _=>fI),nI,?_⟩);rw[J9];refine G1 ?_;intro gg;(refine Aa (fun h1=>?_) (fun h1=>?_)<;>rw[h1])
 ·have h1':Ei l≠0:=by simpa using h1
  refine G0 ?_;rw[show C8 l name tag=(Ei l,[])by simp[C8,h1']];(exact⟨[],aI⟩)
 ·have hc:Ei l=0:=by simpa using h1
  have hi:=Jo hc;clear h1;refine G0 ?_;refine .inl (cX (El name hname) ?_);refine G1 ?_;intro gg;(refine Aa (fun h2=>?_) (fun h2=>?_)<;>rw[h2])
  ·refine G0 ?_;rw[show C8 l name tag=(1,[])by simp[C8,hc,Dr h2]];(exact⟨[],aI⟩)
  ·refine G0 ?_;refine .inl (cX (W7 tag htag) ?_);refine G1 ?_;intro gg;(refine Aa (fun h3=>?_) (fun h3=>?_)<;>rw[h3])
   ·refine G0 ?_;rw[show C8 l name tag=(1,[])by simp[C8,hc,Bw h2,Dr h3]];(exact⟨[],aI⟩)
   ·have hF:C8 l name tag=(0,Dc l name tag):=by simp[C8,hc,Bw h2,Bw h3]
    clear h2 h3;refine G0 ?_;rw[ZE];(refine⟨[(9,144,39,9)],none,{p:Nat×Nat//p.1≤l.length},[1,2,26,27],fun⟨⟨k,g⟩,hk⟩=>[(9,.own 144 g),(28,.v (.int .i64 k))],[],fun⟨⟨k,g⟩,hk⟩=>[(144,⟨g,39,9,(Dc (l.take k) name tag).map Sv.row⟩)],fun⟨⟨k,g⟩,hk⟩=>l.length-k,(by exact⟨rfl,by decide,(fun _ _ _ _ h=>by cases h),trivial⟩),fun gs=>⟨trivial,fun _=>⟨⟨(0,gs 144),by omega⟩,tI,tI,tI,tI⟩⟩,fun⟨⟨k,g⟩,hk⟩=>?_⟩);have hk':k≤l.length:=hk;have hlen:=Np (l.take k) name tag;rw[ZM]at hlen;refine G0 ?_;(refine Aa (fun h0=>?_) (fun h0=>?_)<;>rw[h0])
    ·have hlt:k<l.length:=(by have:=ZV h0;omega);have hn:=T4 (name:=name) (tag:=tag) hlt;refine G0 ?_;refine⟨k,_,rfl,Ad hlt,?_⟩;refine G1 ?_;intro gg;(refine Aa (fun h1=>?_) (fun h1=>?_)<;>rw[h1])
     ·refine G0 ?_;(refine Aa (fun h2=>?_) (fun h2=>?_)<;>rw[h2])
      ·have h2':emp tag=true:=h2;refine G0 ?_;(refine Aa (fun h4=>?_) (fun h4=>?_)<;>rw[h4])
       ·refine G0 ?_;(refine Aa (fun h5=>?_) (fun h5=>?_)<;>rw[h5])
        ·skip
         have hs:Sv.sought name tag l[k]=true:=by unfold Sv.sought;rw[h1,h2',h4,h5];rfl
         rw[if_pos hs]at hn;refine G1 ?_;intro gg;refine⟨lI,lI,?_⟩;refine G1 ?_;intro gg;have hn':(Dc (l.take (k+1)) name tag).map Sv.row=(Dc (l.take k) name tag).map Sv.row++[[.v (.string l[k].nd),.v (.string l[k].id),.v (.string l[k].nm),.v (.string l[k].tg),.v (.int .i64 l[k].ad),.v (.int .i64 l[k].pt),.v (.bool true),.v (.int .i64 l[k].vs),.v (.bool l[k].gn)]]:=by
          rw[hn,ZI];show _++[Sv.row l[k]]=_;unfold Sv.row;rw[h4]
         (exact⟨none,trivial,fun gr=>⟨⟨(k+1,gg),by dsimp only;omega⟩,by show l.length-(k+1)<l.length-k;omega,hxI hn',hxI hn',hxI hn',hxI hn'⟩⟩)
        ·skip
         have hs:Sv.sought name tag l[k]=false:=by unfold Sv.sought;rw[h1,h2',h4,h5];rfl
         rw[if_neg (by rw[hs];decide)]at hn;refine G0 ?_;(exact⟨none,trivial,fun gr=>⟨⟨(k+1,g),by dsimp only;omega⟩,by show l.length-(k+1)<l.length-k;omega,hxI hn,hxI hn,hxI hn,hxI hn⟩⟩)
       ·skip
        have hs:Sv.sought name tag l[k]=false:=by unfold Sv.sought;rw[h1,h2',h4];rfl
        rw[if_neg (by rw[hs];decide)]at hn;refine G0 ?_;(exact⟨none,trivial,fun gr=>⟨⟨(k+1,g),by dsimp only;omega⟩,by show l.length-(k+1)<l.length-k;omega,hxI hn,hxI hn,hxI hn,hxI hn⟩⟩)
      ·have h2':emp tag=false:=h2;refine G0 ?_;(refine Aa (fun h3=>?_) (fun h3=>?_)<;>rw[h3])
       ·have h3':=h3;refine G0 ?_;(refine Aa (fun h4=>?_) (fun h4=>?_)<;>rw[h4])
        ·refine G0 ?_;(refine Aa (fun h5=>?_) (fun h5=>?_)<;>rw[h5])
         ·skip
          have hs:Sv.sought name tag l[k]=true:=by unfold Sv.sought;rw[h1,h2',h3',h4,h5];rfl
          rw[if_pos hs]at hn;refine G1 ?_;intro gg;refine⟨lI,lI,?_⟩;refine G1 ?_;intro gg;have hn':(Dc (l.take (k+1)) name tag).map Sv.row=(Dc (l.take k) name tag).map Sv.row++[[.v (.string l[k].nd),.v (.string l[k].id),.v (.string l[k].nm),.v (.string l[k].tg),.v (.int .i64 l[k].ad),.v (.int .i64 l[k].pt),.v (.bool true),.v (.int .i64 l[k].vs),.v (.bool l[k].gn)]]:=by
           rw[hn,ZI];show _++[Sv.row l[k]]=_;unfold Sv.row;rw[h4]
          (exact⟨none,trivial,fun gr=>⟨⟨(k+1,gg),by dsimp only;omega⟩,by show l.length-(k+1)<l.length-k;omega,hxI hn',hxI hn',hxI hn',hxI hn'⟩⟩)
         ·skip
          have hs:Sv.sought name tag l[k]=false:=by unfold Sv.sought;rw[h1,h2',h3',h4,h5];rfl
          rw[if_neg (by rw[hs];decide)]at hn;refine G0 ?_;(exact⟨none,trivial,fun gr=>⟨⟨(k+1,g),by dsimp only;omega⟩,by show l.length-(k+1)<l.length-k;omega,hxI hn,hxI hn,hxI hn,hxI hn⟩⟩)
        ·skip
         have hs:Sv.sought name tag l[k]=false:=by unfold Sv.sought;rw[h1,h2',h3',h4];rfl
         rw[if_neg (by rw[hs];decide)]at hn;refine G0 ?_;(exact⟨none,trivial,fun gr=>⟨⟨(k+1,g),by dsimp only;omega⟩,by show l.length-(k+1)<l.length-k;omega,hxI hn,hxI hn,hxI hn,hxI hn⟩⟩)
       ·have h3':=h3;have hs:Sv.sought name tag l[k]=false:=by unfold Sv.sought;rw[h1,h2',h3'];rfl
        rw[if_neg (by rw[hs];decide)]at hn;refine G0 ?_;(exact⟨none,trivial,fun gr=>⟨⟨(k+1,g),by dsimp only;omega⟩,by show l.length-(k+1)<l.length-k;omega,hxI hn,hxI hn,hxI hn,hxI hn⟩⟩)
     ·skip
      have hs:Sv.sought name tag l[k]=false:=by unfold Sv.sought;rw[h1];rfl
      rw[if_neg (by rw[hs];decide)]at hn;refine G0 ?_;(exact⟨none,trivial,fun gr=>⟨⟨(k+1,g),by dsimp only;omega⟩,by show l.length-(k+1)<l.length-k;omega,hxI hn,hxI hn,hxI hn,hxI hn⟩⟩)
    ·have hge:l.length≤k:=(by have:=ZW h0;omega);obtain rfl:k=l.length:=by omega
     refine G0 ?_;rw[hF,show Dc l name tag=Dc (l.take l.length) name tag by rw[XF]];(exact⟨[144],aI⟩)
namespace Pl
structure Mb where
 n:ByteArray
 st:Int
 lf:Int
 ad:Int
 sv:Bool
def Mb.enc(m:Mb):List Value:=[.string m.n,.int .i64 m.st,.int .i64 m.lf,.int .i64 m.ad,.bool m.sv]
def Mb.row(m:Mb):List V:=[.v (.string m.n),.v (.int .i64 m.st),.v (.int .i64 m.lf),.v (.int .i64 m.ad),.v (.bool m.sv)]
instance:FlatRow Mb.row:=⟨fun x u hu=>by simp[Mb.row]at hu;rcases hu with rfl|rfl|rfl|rfl|rfl<;>exact⟨_,rfl⟩⟩
def Mb.ok(m:Mb):Prop:=m.n.size≤9223372036854775807
def Mb.err(m:Mb):Int:=if lab m.n.data.toList then(if wi m.st 1 4 then(if wi m.lf 1 1000000&&wi m.ad 0 4294967295 then 0 else 3)else 7)else 1
def Mb.lt(g h:Mb):Bool:=slt g.n h.n
def F6(l:List Mb):Int:=ckL 20 Mb.err Mb.lt l
def Mb.cf(name:ByteArray)(g:Mb):Int:=Ey g.n name
def Mb.kf(g x:Mb):Int:=Mb.cf g.n x
def Mb.cmp(g x:Mb):Int:=B3 [E9 g.lf x.lf,E9 g.st x.st,E9 g.ad x.ad,E9 (b2i g.sv) (b2i x.sv)]
def Mb.nw(g x:Mb):Bool:=decide (0<Mb.cmp g x)
def Mb.is(name:ByteArray)(m:Mb):Bool:=m.n.toList==name.toList
def Mb.same(g h:Mb):Bool:=(g.n.toList==h.n.toList)&&((g.st==h.st)&&((g.lf==h.lf)&&((g.ad==h.ad)&&((g.sv==h.sv)&&true))))
theorem Mb.err_cases(m:Mb):m.err=0∨m.err=1∨m.err=3∨m.err=7:=by
 unfold Mb.err;split
 ·split
  ·split<;>simp
  ·simp
 ·simp
theorem Mb.lt_trans(x y z:Mb)(h1:Mb.lt x y=true)(h2:Mb.lt y z=true):Mb.lt x z=true:=Kj h1 h2
theorem Mb.lt_cf(name:ByteArray)(x y:Mb)(h:Mb.lt x y=true)(hy:Mb.cf name y≤0):Mb.cf name x<0:=by
 unfold Mb.cf at *;rw[Qu];rcases Bool.eq_false_or_eq_true (slt y.n name)with g|g
 ·exact Kj h g
 ·have h0:Ey y.n name=0:=by
   rcases(by omega:Ey y.n name<0∨Ey y.n name=0)with q|q
   ·rw[Qu]at q;rw[q]at g;cases g
   ·exact q
  rw[Gk]at h0;rw[←h0];exact h
theorem P4{l:List Mb}(h:F6 l=0):l.length≤20∧(∀i,(hi:i<l.length)→(l[i]).err=0)∧Cz Mb.lt l=true:=Ama Mb.err_cases h
theorem Mb.smono{l:List Mb}(h:Cz Mb.lt l=true)(name:ByteArray):Aaj (Mb.cf name) l:=Ahm Mb.lt_trans (Mb.lt_cf name) h
def Mb.ne(m x:Mb):Bool:= !(x.n.toList==m.n.toList)
theorem Mb.is_eq(name:ByteArray):Mb.is name=fun x=>decide (Mb.cf name x=0):=by
 funext x;unfold Mb.is Mb.cf;by_cases h:x.n=name
 ·rw[h,Uw];simp
 ·have h2:Ey x.n name≠0:=fun e=>h (Gk.1 e);rw[V2 h];simp[h2]
theorem Mb.ne_eq(m:Mb):Mb.ne m=fun x=>decide (Mb.kf m x≠0):=by
 funext x;have:=congrFun (Mb.is_eq m.n) x;unfold Mb.is at this;unfold Mb.ne Mb.kf;rw[this];simp
theorem Mb.at_eq{l:List Mb}(hs:Cz Mb.lt l=true)(name:ByteArray):at_ (Mb.is name) l=if hit (Mb.cf name) l=true then(low (Mb.cf name) l:Int)else -1:=by
 rw[Mb.is_eq];exact Apd (Mb.smono hs name)
theorem Aww(row:List V)(h:Qp [.s,.i,.i,.i,.b] row):∃m:Mb,row=m.row∧m.ok:=by
 obtain⟨u0,_,rfl,f0,h⟩:=Ap h;obtain⟨u1,_,rfl,f1,h⟩:=Ap h;obtain⟨u2,_,rfl,f2,h⟩:=Ap h;obtain⟨u3,_,rfl,f3,h⟩:=Ap h;obtain⟨u4,_,rfl,f4,h⟩:=Ap h;obtain rfl:=Ln h;obtain⟨n,rfl,hn⟩:=K3 f0;obtain⟨a,rfl,_⟩:=Ge f1;obtain⟨b,rfl,_⟩:=Ge f2;obtain⟨c,rfl,_⟩:=Ge f3;obtain⟨d,rfl⟩:=Ahf f4;exact⟨⟨n,a,b,c,d⟩,rfl,hn⟩
end Pl
theorem Qx(n a b:Int):Fun Tryz.prog 143 [.c (.v (.int .i64 n)),.c (.v (.int .i64 a)),.c (.v (.int .i64 b))] [.c (.v (.bool (wi n a b)))]:=by
 refine Ar Xd rfl ?_;refine G0 ?_;(refine Aa (fun h=>?_) (fun h=>?_)<;>rw[h])
 ·refine G0 ?_;rw[Aur h];(exact⟨[],aI⟩)
 ·refine G0 ?_;rw[Av8 h];(exact⟨[],aI⟩)
theorem Apq(m:Mb)(hm:m.ok):Fun Tryz.prog 132 [.c (.agg m.row)] [.c (.v (.int .i64 m.err))]:=by
 refine Ar Ac4 rfl ?_;refine G1 ?_;intro gg;refine .inl (cX (El _ hm) ?_);refine G1 ?_;intro gg;(refine Aa (fun h1=>?_) (fun h1=>?_)<;>rw[h1])
 ·refine G0 ?_
  (rw[show m.err=1 from by(first|(simp_all;done)|(unfold Mb.err;simp_all))];(exact⟨[],aI⟩))
 ·refine G0 ?_;refine .inl (cX (Qx _ _ _) ?_);refine G1 ?_;intro gg;(refine Aa (fun h2=>?_) (fun h2=>?_)<;>rw[h2])
  ·refine G0 ?_
   (rw[show m.err=7 from by(first|(simp_all;done)|(unfold Mb.err;simp_all))];(exact⟨[],aI⟩))
  ·refine G0 ?_;refine .inl (cX (Qx _ _ _) ?_);refine G1 ?_;intro gg;(refine Aa (fun h3=>?_) (fun h3=>?_)<;>rw[h3])
   ·refine G0 ?_
    (rw[show m.err=3 from by(first|(simp_all;done)|(unfold Mb.err;simp_all))];(exact⟨[],aI⟩))
   ·refine G0 ?_;refine .inl (cX (Qx _ _ _) ?_);refine G1 ?_;intro gg;(refine Aa (fun h4=>?_) (fun h4=>?_)<;>rw[h4])
    ·refine G0 ?_
     (rw[show m.err=3 from by(first|(simp_all;done)|(unfold Mb.err;simp_all))];(exact⟨[],aI⟩))
    ·refine G0 ?_
     (rw[show m.err=0 from by(first|(simp_all;done)|(unfold Mb.err;simp_all))];(exact⟨[],aI⟩))
theorem Aso(m:Mb)(hm:m.ok):Fun Tryz.prog 101 [.c (.agg m.row)] [.c (.v (.int .i64 m.err))]:=by
 refine Ar Nd rfl ?_;refine G1 ?_;intro gg;refine .inl (cX (Eb _ hm) ?_);refine G1 ?_;intro gg;(refine Aa (fun h1=>?_) (fun h1=>?_)<;>rw[h1])
 ·refine G0 ?_
  (rw[show m.err=1 from by(first|(simp_all;done)|(unfold Mb.err;simp_all))];(exact⟨[],aI⟩))
 ·refine G0 ?_;refine .inl (cX (Db _ _ _) ?_);refine G1 ?_;intro gg;(refine Aa (fun h2=>?_) (fun h2=>?_)<;>rw[h2])
  ·refine G0 ?_
   (rw[show m.err=7 from by(first|(simp_all;done)|(unfold Mb.err;simp_all))];(exact⟨[],aI⟩))
  ·refine G0 ?_;refine .inl (cX (Db _ _ _) ?_);refine G1 ?_;intro gg;(refine Aa (fun h3=>?_) (fun h3=>?_)<;>rw[h3])
   ·refine G0 ?_
    (rw[show m.err=3 from by(first|(simp_all;done)|(unfold Mb.err;simp_all))];(exact⟨[],aI⟩))
   ·refine G0 ?_;refine .inl (cX (Qs _) ?_);refine G1 ?_;intro gg;(refine Aa (fun h4=>?_) (fun h4=>?_)<;>rw[h4])
    ·refine G0 ?_
     (rw[show m.err=3 from by(first|(simp_all;done)|(unfold Mb.err;simp_all))];(exact⟨[],aI⟩))
    ·refine G0 ?_
     (rw[show m.err=0 from by(first|(simp_all;done)|(unfold Mb.err;simp_all))];(exact⟨[],aI⟩))

end Go.Proofs.YtbnocibpoghfhaaGreatDoor

namespace Go.Proofs.YtbnocibpoghfhaaGreatDoor
open Go.RowKit Pl
theorem Anv(c:Bool)(l:List Mb)(hl:l.length≤9223372036854775807)(hw:∀m∈l,m.ok):Fun Tryz.prog 117 [.c (.sl c (l.map Mb.row))] [.c (.v (.int .i64 (Bm Mb.err l)))]:=by
 refine Ar Abh rfl ?_;refine G0 ?_;rw[ZE];(refine⟨[],none,{k:Nat//k≤l.length∧∀j,(h:j<l.length)→j<k→(l[j]).err=0},[6,7],fun⟨k,hk,h0⟩=>[(8,.v (.int .i64 k))],[],fun⟨k,hk,h0⟩=>[],fun⟨k,hk,h0⟩=>l.length-k,trivial,fun _=>⟨trivial,fun _=>⟨⟨0,by omega,fun j _ h=>by omega⟩,tI,Af _ _,tI,Ae _ _⟩⟩,fun⟨k,hk,h0⟩=>?_⟩);refine G0 ?_;(refine Aa (fun h=>?_) (fun h=>?_)<;>rw[h])
 ·have hlt:k<l.length:=by simpa using h
  refine G0 ?_;refine⟨k,_,rfl,Ad hlt,?_⟩;refine G1 ?_;intro gg;refine .inl (cX (Apq _ (hw _ (ZK hlt))) ?_);refine G1 ?_;intro gg;(refine Aa (fun h=>?_) (fun h=>?_)<;>rw[h])
  ·refine G0 ?_;rw[Ff hlt h0 (by simpa using h)];(exact⟨[],aI⟩)
  ·refine G0 ?_;(exact⟨none,trivial,fun _=>⟨⟨k+1,by omega,up1 (p:=fun j h=>(l[j]).err=0) h0 (fun _=>by simpa using h)⟩,by show l.length-(k+1)<l.length-k;omega,tI,tI,tI,tI⟩⟩)
 ·have hge:¬k<l.length:=by simpa using h
  refine G0 ?_;rw[Dm (l:=l) (fun i hi=>h0 i hi (by omega))];(exact⟨[],aI⟩)
def Ayd(l:List Mb):List V:=[.sl false (l.map Mb.row)]
theorem Ako(c:Bool)(ls:List (List Mb))(hls:ls.length≤9223372036854775807)(hl:∀l∈ls,l.length≤9223372036854775807)(hw:∀l∈ls,∀m∈l,m.ok):Fun Tryz.prog 84 [.c (.sl c (ls.map Ayd))] [.c (.v (.int .i64 (Bm F6 ls)))]:=by
 refine Ar Yc rfl ?_;refine G0 ?_;rw[ZE];(refine⟨[],none,{k:Nat//k≤ls.length∧∀j,(h:j<ls.length)→j<k→F6 (ls[j])=0},[7,8],fun⟨k,hk,h0⟩=>[(9,.v (.int .i64 k))],[],fun⟨k,hk,h0⟩=>[],fun⟨k,hk,h0⟩=>ls.length-k,trivial,fun _=>⟨trivial,fun _=>⟨⟨0,by omega,fun j _ h=>by omega⟩,tI,Af _ _,tI,Ae _ _⟩⟩,fun⟨k,hk,h0⟩=>?_⟩);refine G0 ?_;(refine Aa (fun h=>?_) (fun h=>?_)<;>rw[h])
 ·have hlt:k<ls.length:=by simpa using h
  refine G0 ?_;refine⟨k,_,rfl,Ad hlt,?_⟩;refine G0 ?_;have HL:=hl _ (ZK hlt);have HW:=hw _ (ZK hlt);have HE:=Ff (e:=F6) hlt h0;have HN:F6 ls[k]=0→∀j,(h:j<ls.length)→j<k+1→F6 (ls[j])=0:=fun e=>up1 (p:=fun j h=>F6 (ls[j])=0) h0 (fun _=>e);generalize ls[k]=l at *;rw[ZE];(refine Aa (fun h1=>?_) (fun h1=>?_)<;>rw[h1])
  ·refine G0 ?_;have e:F6 l=2:=T6 (by have:=ZV h1;omega);rw[HE (by rw[e];decide),e];(exact⟨[],aI⟩)
  ·have h1':¬20<l.length:=(by have:=ZW h1;omega);refine G0 ?_;refine .inl (cX (Anv false l HL HW) ?_);refine G1 ?_;intro gg;(refine Aa (fun h2=>?_) (fun h2=>?_)<;>rw[h2])
   ·have h2':Bm Mb.err l≠0:=by simpa using h2
    refine G0 ?_;have e:F6 l=Bm Mb.err l:=U4 h1' h2';rw[HE (by rw[e];exact h2'),e];(exact⟨[],aI⟩)
   ·have h2':Bm Mb.err l=0:=by simpa using h2
    refine G0 ?_;(refine⟨[],none,{k:Nat//(k<l.length∨k=0)∧∀i,(h:i+1<l.length)→i<k→Mb.lt l[i] l[i+1]=true},[4,7,8,9],fun⟨q,hq,g0⟩=>[(6,.v (.int .i64 ((q:Int)+1)))],[],fun⟨q,hq,g0⟩=>[],fun⟨q,hq,g0⟩=>l.length-q,trivial,fun _=>⟨trivial,fun _=>⟨⟨0,by omega,fun j _ h=>by omega⟩,tI,Af _ _,tI,Ae _ _⟩⟩,fun⟨q,hq,g0⟩=>?_⟩);refine G0 ?_;rw[ZE];(refine Aa (fun h3=>?_) (fun h3=>?_)<;>rw[h3])
    ·have hlt3:q+1<l.length:=(by have:=ZV h3;omega);refine G0 ?_;refine⟨q+1,_,by omega,Ad hlt3,?_⟩;refine G0 ?_;refine⟨q,_,by omega,Ad (by omega),?_⟩;refine G0 ?_;rw[Afe];(refine Aa (fun h4=>?_) (fun h4=>?_)<;>rw[h4])
     ·refine G0 ?_;have e:F6 l=4:=Aet h1' h2' (K0 hlt3 (by simpa[Mb.lt]using h4));rw[HE (by rw[e];decide),e];(exact⟨[],aI⟩)
     ·refine G0 ?_;(exact⟨none,trivial,fun _=>⟨⟨q+1,by omega,up2 (p:=fun i h=>Mb.lt l[i] l[i+1]=true) g0 (fun _=>by simpa[Mb.lt]using h4)⟩,by show l.length-(q+1)<l.length-q;omega,tI,tI,tI,tI⟩⟩)
    ·have hge3:¬q+1<l.length:=(by have:=ZW h3;omega);refine G0 ?_;have e:F6 l=0:=Yx h1' h2' (Kd fun i hi=>g0 i hi (by omega));(exact⟨none,trivial,fun _=>⟨⟨k+1,by omega,HN e⟩,by show ls.length-(k+1)<ls.length-k;omega,tI,tI,tI,tI⟩⟩)
 ·have hge:¬k<ls.length:=by simpa using h
  refine G0 ?_;rw[Dm (l:=ls) (fun i hi=>h0 i hi (by omega))];(exact⟨[],aI⟩)
theorem Akb(l:List Mb)(hl:l.length≤9223372036854775807)(hw:∀m∈l,m.ok):Fun Tryz.prog 46 [.c (.sl false (l.map Mb.row))] [.c (.v (.int .i64 (F6 l)))]:=by
 refine Ar Yk rfl ?_;refine G1 ?_;intro gg;(refine .inl ⟨_,_,true,[],aI,Ako false [l] (by simp) (by simpa using hl) (by simpa using hw),(fun _=>fI),nI,?_⟩);rw[J9];refine G1 ?_;intro gg;(exact⟨[],aI⟩)
theorem Ajd(c:Bool)(l:List Mb)(hl:l.length≤9223372036854775807)(hw:∀m∈l,m.ok):Fun Tryz.prog 57 [.c (.sl c (l.map Mb.row))] [.c (.v (.int .i64 (F6 l)))]:=by
 refine Ar Lk rfl ?_;refine G0 ?_;rw[ZE];(refine Aa (fun h1=>?_) (fun h1=>?_)<;>rw[h1])
 ·refine G0 ?_;have e:F6 l=2:=T6 (by have:=ZV h1;omega);rw[e];(exact⟨[],aI⟩)
 ·have h1':¬20<l.length:=(by have:=ZW h1;omega);refine G0 ?_;(refine⟨[],none,{k:Nat//k≤l.length∧∀j,(h:j<l.length)→j<k→(l[j]).err=0},[0],fun⟨k,hk,h0⟩=>[(3,.v (.int .i64 k))],[],fun⟨k,hk,h0⟩=>[],fun⟨k,hk,h0⟩=>l.length-k,trivial,fun _=>⟨trivial,fun _=>⟨⟨0,by omega,fun j _ h=>by omega⟩,tI,Af _ _,tI,Ae _ _⟩⟩,fun⟨k,hk,h0⟩=>?_⟩);refine G0 ?_;rw[ZE];(refine Aa (fun h=>?_) (fun h=>?_)<;>rw[h])
  ·have hlt:k<l.length:=(by have:=ZV h;omega);refine G0 ?_;refine⟨k,_,rfl,Ad hlt,?_⟩;refine G0 ?_;refine .inl (cX (Aso _ (hw _ (ZK hlt))) ?_);refine G1 ?_;intro gg;(refine Aa (fun h2=>?_) (fun h2=>?_)<;>rw[h2])
   ·refine G0 ?_;have h2':(l[k]).err≠0:=by simpa using h2
    have e0:=Ff hlt h0 h2';have e:F6 l=(l[k]).err:=(U4 h1' (by rw[e0];exact h2')).trans e0;rw[e];(exact⟨[],aI⟩)
   ·refine G0 ?_;(exact⟨none,trivial,fun _=>⟨⟨k+1,by omega,up1 (p:=fun j h=>(l[j]).err=0) h0 (fun _=>by simpa using h2)⟩,by show l.length-(k+1)<l.length-k;omega,tI,tI,tI,tI⟩⟩)
  ·have hge:¬k<l.length:=(by have:=ZW h;omega);have h2':Bm Mb.err l=0:=Dm fun i hi=>h0 i hi (by omega);refine G0 ?_;(refine⟨[],none,{k:Nat//(k<l.length∨k=0)∧∀i,(h:i+1<l.length)→i<k→Mb.lt l[i] l[i+1]=true},[0],fun⟨q,hq,g0⟩=>[(5,.v (.int .i64 ((q:Int)+1)))],[],fun⟨q,hq,g0⟩=>[],fun⟨q,hq,g0⟩=>l.length-q,trivial,fun _=>⟨trivial,fun _=>⟨⟨0,by omega,fun j _ h=>by omega⟩,tI,Af _ _,tI,Ae _ _⟩⟩,fun⟨q,hq,g0⟩=>?_⟩);refine G0 ?_;rw[ZE];(refine Aa (fun h3=>?_) (fun h3=>?_)<;>rw[h3])
   ·have hlt3:q+1<l.length:=(by have:=ZV h3;omega);refine G0 ?_;refine⟨q+1,_,by omega,Ad hlt3,?_⟩;refine G0 ?_;refine⟨q,_,by omega,Ad (by omega),?_⟩;refine G0 ?_;rw[Afe];(refine Aa (fun h4=>?_) (fun h4=>?_)<;>rw[h4])
    ·refine G0 ?_;have e:F6 l=4:=Aet h1' h2' (K0 hlt3 (by simpa[Mb.lt]using h4));rw[e];(exact⟨[],aI⟩)
    ·refine G0 ?_;(exact⟨none,trivial,fun _=>⟨⟨q+1,by omega,up2 (p:=fun i h=>Mb.lt l[i] l[i+1]=true) g0 (fun _=>by simpa[Mb.lt]using h4)⟩,by show l.length-(q+1)<l.length-q;omega,tI,tI,tI,tI⟩⟩)
   ·have hge3:¬q+1<l.length:=(by have:=ZW h3;omega);refine G0 ?_;have e:F6 l=0:=Yx h1' h2' (Kd fun i hi=>g0 i hi (by omega));rw[e];(exact⟨[],aI⟩)
theorem Alh(g:Mb)(name:ByteArray):Fun Tryz.prog 93 [.c (.agg g.row),.c (.v (.string name))] [.c (.v (.int .i64 (Mb.cf name g)))]:=by
 refine Ar W1 rfl ?_;refine G1 ?_;intro gg;refine .inl (cX (Aay _ _) ?_);refine G1 ?_;intro gg;(exact⟨[],aI⟩)
theorem Au4(c:Bool)(l:List Mb)(name:ByteArray)(hl:l.length≤1000)(hm:Aj9 (Mb.cf name) l):Fun Tryz.prog 92 [.c (.sl c (l.map Mb.row)),.c (.v (.string name)),.c (.v (.func (.func 93) #[] #[]))] [.c (.v (.int .i64 (low (Mb.cf name) l))),.c (.v (.bool (hit (Mb.cf name) l)))]:=by
 refine Ar Dw rfl ?_;refine G0 ?_;rw[ZE];(refine⟨[],none,{p:Nat×Nat//p.1≤p.2∧p.2≤l.length∧(∀k,(h:k<l.length)→k<p.1→Mb.cf name l[k]<0)∧(∀k,(h:k<l.length)→p.2≤k→0≤Mb.cf name l[k])},[0,1,2,8],fun⟨⟨i,j⟩,h1,h2,h3,h4⟩=>[(9,.v (.int .i64 i)),(10,.v (.int .i64 j))],[],fun⟨⟨i,j⟩,h1,h2,h3,h4⟩=>[],fun⟨⟨i,j⟩,h1,h2,h3,h4⟩=>j-i,trivial,fun _=>⟨trivial,fun _=>⟨⟨(0,l.length),by omega,by omega,fun k _ h=>absurd h (by omega),fun k h h'=>absurd h (by omega)⟩,tI,Af _ _,tI,Ae _ _⟩⟩,fun⟨⟨i,j⟩,h1,h2,h3,h4⟩=>?_⟩);dsimp only at h1 h2 h3 h4;refine G0 ?_;(refine Aa (fun h=>?_) (fun h=>?_)<;>rw[h])
 ·have hlt:i<j:=(by have:=ZV h;omega);have hk:(i+j)/2<l.length:=by omega
  refine G0 ?_;refine⟨(i+j)/2,_,by omega,Ad hk,?_⟩;refine G0 ?_;refine .inl (cX (Alh _ _) ?_);refine G1 ?_;intro gg;(refine Aa (fun h5=>?_) (fun h5=>?_)<;>rw[h5])
  ·have h5':Mb.cf name l[(i+j)/2]<0:=by simpa using h5
   refine G0 ?_;(exact⟨none,trivial,fun _=>⟨⟨((i+j)/2+1,j),by dsimp only;omega,h2,fun k hk' hka=>hm k ((i+j)/2) hk' hk (by dsimp only at hka;omega) h5',h4⟩,by show j-((i+j)/2+1)<j-i;omega,tI,tI,tI,tI⟩⟩)
  ·have h5':¬Mb.cf name l[(i+j)/2]<0:=by simpa using h5
   refine G0 ?_;(exact⟨none,trivial,fun _=>⟨⟨(i,(i+j)/2),by dsimp only;omega,by dsimp only;omega,h3,fun k hk' hka=>Int.not_lt.1 (fun h'=>h5' (hm ((i+j)/2) k hk hk' hka h'))⟩,by show(i+j)/2-i<j-i;omega,tI,tI,tI,tI⟩⟩)
 ·have hij:i=j:=(by have:=ZW h;omega);subst hij;have HE:=Apw (cf:=Mb.cf name) h2 h3 h4;refine G0 ?_;(refine Aa (fun h5=>?_) (fun h5=>?_)<;>rw[h5])
  ·have hin:i<l.length:=(by have:=ZV h5;omega);have HH:hit (Mb.cf name) l=decide (Mb.cf name l[i]=0):=by
    have hin':low (Mb.cf name) l<l.length:=by rw[←HE];exact hin
    rw[Aja hin'];simp only[←HE]
   refine G0 ?_;refine⟨i,_,rfl,Ad hin,?_⟩;refine G0 ?_;refine .inl (cX (Alh _ _) ?_);refine G1 ?_;intro gg;rw[←HE,HH];(exact⟨[],aI⟩)
  ·have HH:hit (Mb.cf name) l=false:=Ale (by rw[←HE];exact(by have:=ZW h5;omega));refine G0 ?_;rw[←HE,HH];(exact⟨[],aI⟩)
theorem Ad0(c:Bool)(l:List Mb)(name:ByteArray)(hl:l.length≤1000)(hm:Aj9 (Mb.cf name) l):Fun Tryz.prog 50 [.c (.sl c (l.map Mb.row)),.c (.v (.string name))] [.c (.v (.int .i64 (low (Mb.cf name) l))),.c (.v (.bool (hit (Mb.cf name) l)))]:=by
 refine Ar Zc rfl ?_;refine G0 ?_;refine .inl (cX (Au4 c l name hl hm) ?_);refine G1 ?_;intro gg;(exact⟨[],aI⟩)
theorem Akn(c:Bool)(l:List Mb)(name:ByteArray)(hl:l.length≤9223372036854775807):Fun Tryz.prog 12 [.c (.sl c (l.map Mb.row)),.c (.v (.string name))] [.c (.v (.int .i64 (at_ (Mb.is name) l)))]:=by
 refine Ar Ov rfl ?_;refine G0 ?_;(refine⟨[],none,{k:Nat//k≤l.length∧∀j,(h:j<l.length)→j<k→Mb.is name l[j]=false},[0,1],fun⟨k,hk,h0⟩=>[(5,.v (.int .i64 k))],[],fun⟨k,hk,h0⟩=>[],fun⟨k,hk,h0⟩=>l.length-k,trivial,fun _=>⟨trivial,fun _=>⟨⟨0,by omega,fun j _ h=>by omega⟩,tI,Af _ _,tI,Ae _ _⟩⟩,fun⟨k,hk,h0⟩=>?_⟩);refine G0 ?_;rw[ZE];(refine Aa (fun h=>?_) (fun h=>?_)<;>rw[h])
 ·have hlt:k<l.length:=(by have:=ZV h;omega);refine G0 ?_;refine⟨k,_,rfl,Ad hlt,?_⟩;refine G0 ?_;(refine Aa (fun h2=>?_) (fun h2=>?_)<;>rw[h2])
  ·refine G0 ?_;rw[Vq hlt h0 h2];(exact⟨[],aI⟩)
  ·refine G0 ?_;(exact⟨none,trivial,fun _=>⟨⟨k+1,by omega,up1 (p:=fun j h=>Mb.is name l[j]=false) h0 (fun _=>h2)⟩,by show l.length-(k+1)<l.length-k;omega,tI,tI,tI,tI⟩⟩)
 ·have hge:¬k<l.length:=(by have:=ZW h;omega);refine G0 ?_;rw[Ad9 (p:=Mb.is name) (l:=l) (fun i hi=>h0 i hi (by omega))];(exact⟨[],aI⟩)
section
open Go.Sort Go.Shelf
theorem X6{P:Program}{f:FuncId}(h:Gc P f):∀args w,(callFunc f args).run P w=.ok (.enter f args) w:=fun args w=>by
 obtain⟨fn,h1,h2,h3⟩:=h
 have h2' : fn.name ≠ "runtime.NumGoroutine" := by simpa using h2
 have h3':¬fn.body=none:=by intro q;rw[q]at h3;simp at h3
 simp[callFunc,h1,h2',h3']
section
variable {α:Type} [Inhabited α] {enc:α→Value}
theorem Ap3{w:World}{g:Nat}{cur:Array Value}{e:TypeId}{ss:List α}(hb:w.heap[g]? =some (.cells cur e (0,0)))(ht:cur.toList.take ss.length=ss.map enc):Holds enc w g 0 ss.toArray:=by
 intro j hj;have hj':j<ss.length:=by simpa using hj
 refine⟨?_,by simp[World.frozen?,hb]⟩;have h1:(cur.toList.take ss.length)[j]? =(ss.map enc)[j]? :=by rw[ht]
 rw[XA hj']at h1;simp only[World.cell?,hb,Nat.zero_add];simp only[Option.isSome_none,Bool.false_eq_true,if_false];rw[←Array.getElem?_toList,h1];simp[hj']
theorem Arn{w:World}{g n:Nat}{os:Array Obj}{cur:Array Value}{e:TypeId}{fr:Nat×Nat}(d:Array α)(hb:w.heap[g]? =some (.cells cur e fr)):
  (sortWorld enc w g 0 n d os).heap[g]? =some (.cells (putCells enc 0 d cur) e fr):=by
 have hg:g<w.heap.size:=(XL.1 hb).1;unfold sortWorld;rw[heap_grow_old _ _ (by simpa using hg)];simp[putRow,mapBlock,Sort.ahead,Array.getElem?_modify,hb,onCells]
theorem Wb{w:World}{g n k:Nat}{os:Array Obj}(d:Array α)(hk:k<w.heap.size)(hne:k≠g):(sortWorld enc w g 0 n d os).heap[k]? =w.heap[k]? :=by
 unfold sortWorld;rw[heap_grow_old _ _ (by simpa using hk)];have:g≠k:=fun e=>hne e.symm;simp[putRow,mapBlock,Sort.ahead,Array.getElem?_modify,this]
theorem Aii{w:World}{g n:Nat}{os:Array Obj}(d:Array α):w.heap.size≤(sortWorld enc w g 0 n d os).heap.size:=by
 unfold sortWorld Go.Sort.grow;simp
theorem Akk(cur:Array Value)(ts:List α)(h:ts.length≤cur.size):(putCells enc 0 ts.toArray cur).toList.take ts.length=ts.map enc:=by
 apply List.ext_getElem?;intro j;by_cases hj:j<ts.length
 ·rw[XA hj,Array.getElem?_toList];simp[putCells,hj,show j<cur.size by omega]
 ·rw[List.getElem?_take_eq_none (by omega),XK (by simp;omega)]
def Gb(enc:α→Value)(x:α):List V:=[.v (enc x)]
def Ii(cf:α→α→Int)(d:List α):List α:=d.mergeSort fun x y=> !(ltOf cf) y x
omit [Inhabited α]in
theorem Apu{w:World}{R:Nat→Prop}{G:Nat→Option Loc}{d:List α}{vs:List Value}(hl:vs.length=d.length*1)(h:C9 w R G vs 1 (d.map (Gb enc))):vs=d.map enc:=by
 apply List.ext_getElem?;intro i;by_cases hi:i<d.length
 ·obtain⟨x,h1,_,h2⟩:=h.2 i 0 (Gb enc d[i]) (.v (enc d[i])) (by simp[hi]) rfl;rw[Nat.mul_one,Nat.add_zero]at h1;rw[h1,Ce h2];simp[hi]
 ·rw[XK (by omega),XK (by simp;omega)]
omit [Inhabited α]in
theorem Aqg(h1:OneCell enc){w:World}{R:Nat→Prop}{G:Nat→Option Loc}(d:List α):C9 w R G (d.map enc) 1 (d.map (Gb enc)):=by
 refine⟨fun row hr=>?_,fun i j row u hi hj=>?_⟩
 ·obtain⟨x,_,rfl⟩:=XO.1 hr;rfl
 ·have hi':i<d.length:=by have:=(ZB.1 hi).1;simpa using this
  have e:row=Gb enc d[i]:=by rw[XJ,ZC hi']at hi;simpa using hi.symm
  subst e;cases j with
  |succ j=>simp[Gb]at hj
  |zero=>
   have e2:u=.v (enc d[i]):=by simpa[Gb]using hj.symm
   subst e2;exact⟨enc d[i],by simp[hi'],h1 _,.v _⟩
theorem Ap0{P:Program}{ρ:Ren}(L:SlLaysF.n6 P ρ)(hcall:Gc P (ρ.f 6))(T:TypeId)(h1:OneCell enc)(cf:α→α→Int)(hO:SWO (ltOf cf))(hT:∀x y,ltOf cf x y=false→ltOf cf y x=false→x=y)(f:FuncId)(caps:List V)(hfc:Gc P f)(d:List α)(hsz:d.length<4611686018427387904)(hf:d≠[]→∀(x y:α) (w:World) (R:Nat→Prop) (zs:List Value),(∀b,R b→b<w.heap.size)→Kx w R (.c (.v (enc x)):: .c (.v (enc y))::caps.map .c) zs→Calls P f zs.toArray w fun e w'=>e=.returned (.int .i64 (cf x y))∧∃q os,w'=Go.Sort.grow (w.drewN q) os):
  H3 P (ρ.f 6) [.ms T 1 (d.map (Gb enc)) ((Ii cf d).map (Gb enc)),.p (.c (.clo f caps))] []:=by
 refine⟨hcall,fun w R xs F hlt hp=>?_⟩
 match xs,hp with
 |[x0,x1],hp=>
  obtain⟨F1,F2,⟨⟨hpos,vs,hown,hrows⟩,hF1⟩,⟨F3,F4,⟨hx1,hF3⟩,hnil,hd34,hF2⟩,hd12,hF⟩:=hp;have hx1:RV w R noG (.clo f caps) x1:=hx1;have hF3':∀k,¬F3 k:=fun k hk=>by
   obtain⟨i,T',sz,rows,x,q1,_⟩:=(hF3 k).1 hk;cases i with
   |zero=>simp at q1
   |succ i=>simp at q1
  have hFF:∀b,F b↔F1 b:=fun b=>by
   rw[hF b,hF2 b];constructor
   ·rintro (q|q|q)
    ·exact q
    ·exact absurd q (hF3' b)
    ·exact absurd q (hnil b)
   ·exact .inl
  cases hx1 with
  |clo f cs xs' hl hcs=>
   have hvs:=Apu (by simpa using hown.1) hrows;subst hvs;have hlen:(d.map (Gb enc)).length=d.length:=by simp
   have hslen:(Ii cf d).length=d.length:=List.length_mergeSort d;have fin:∀w',Fr F w w'→(∀b,R b→w'.heap[b]? =w.heap[b]?)→w'.ownsRow 0 T 1 x0 (Ii cf d).length ((Ii cf d).map enc)→
     ∃(ys:List Value) (R' F':Nat→Prop),Ending.returned (Value.tuple #[])=.returned (G7 ys)∧([]:List Bp).length=ys.length∧Fr F w w'∧(∀b,R b→R' b)∧(∀b,R' b→R b∨(b<w'.heap.size∧(F b∨w.heap.size≤b)))∧
      Di w' R' (([]:List Bp)++Cd [.ms T 1 (d.map (Gb enc)) ((Ii cf d).map (Gb enc)),.p (.c (.clo f caps))]) (ys++D9 [.ms T 1 (d.map (Gb enc)) ((Ii cf d).map (Gb enc)),.p (.c (.clo f caps))] [x0,.func (.func f) #[] xs'.toArray]) F'∧(∀b,F' b→F b∨w.heap.size≤b):=fun w' hfr hR ho=>by
    refine⟨[],R,F1,rfl,rfl,hfr,fun b hb=>hb,fun b hb=>.inl hb,?_,fun b hb=>.inl ((hFF b).2 hb)⟩;refine⟨F1,fun _=>False,⟨⟨hpos,(Ii cf d).map enc,by rw[ZE];exact ho,Aqg h1 _⟩,fun k=>?_⟩,fun b hb=>hb,fun b hb=>⟨fun q=>q,(hd12 b hb).2⟩,fun b=>by simp⟩;rw[hF1 k];constructor
    ·rintro ⟨i,T',sz,rows,x,q1,q2,q3⟩
     cases i with
     |zero=>simp at q1 q2;exact⟨0,T,1,_,x,rfl,by simpa using q2,q3⟩
     |succ i=>simp at q1
    ·rintro ⟨i,T',sz,rows,x,q1,q2,q3⟩
     cases i with
     |zero=>simp at q1 q2;exact⟨0,T,1,_,x,rfl,by simpa using q2,q3⟩
     |succ i=>simp at q1
   have hnone:∀(p:Option Addr) (cap:Nat),d=[]→x0=.slice p 0 cap→Calls P (ρ.f 6) [x0,.func (.func f) #[] xs'.toArray].toArray w fun e w'=>∃(ys:List Value) (R' F':Nat→Prop),e=.returned (G7 ys)∧([]:List Bp).length=ys.length∧Fr F w w'∧(∀b,R b→R' b)∧(∀b,R' b→R b∨(b<w'.heap.size∧(F b∨w.heap.size≤b)))∧
      Di w' R' (([]:List Bp)++Cd [.ms T 1 (d.map (Gb enc)) ((Ii cf d).map (Gb enc)),.p (.c (.clo f caps))]) (ys++D9 [.ms T 1 (d.map (Gb enc)) ((Ii cf d).map (Gb enc)),.p (.c (.clo f caps))] [x0,.func (.func f) #[] xs'.toArray]) F'∧(∀b,F' b→F b∨w.heap.size≤b):=fun p cap hd0 hx=>by
    have hs0:Ii cf d=[]:=XR (by rw[hslen,hd0];rfl);have h:=AnyF.slices_SortFunc_none (P:=P) (ρ:=ρ) {L with} p cap (.func (.func f) #[] xs'.toArray) w;rw[←hx]at h;refine h.mono ?_
    rintro e w' ⟨rfl,rfl⟩
    refine fin w' (Fr.refl _ _) (fun _ _=>rfl) ?_;rw[hs0];rw[hd0]at hown;exact hown
   rcases hown.2 with⟨hx,hz⟩|⟨g,cap,cur,hx,hbase,hb,hnc,hcm,hcs2,htake⟩
   ·exact hnone none 0 (XR (by omega)) hx
   ·by_cases hd0:d=[]
    ·exact hnone _ cap hd0 (by rw[hx,hd0];rfl)
    ·have hgR:∀b,R b→b≠g:=fun b hb e=>by
      have:F1 g:=(hF1 g).2 ⟨0,T,1,_,x0,rfl,rfl,by rw[hx];rfl⟩;exact(hd12 g this).2 (e▸hb)
     have hgF:F g:=(hFF g).2 ((hF1 g).2 ⟨0,T,1,_,x0,rfl,rfl,by rw[hx];rfl⟩);have hgs:g<w.heap.size:=(XL.1 hb).1;have hH:Holds enc w g 0 d.toArray:=Ap3 hb (by simpa using htake);have hcmp:CmpLays1 P f xs'.toArray enc cf g 0 d.toArray.size w:=fun m os dk hs x y=>by
      have hW:∀b,R b→(sortWorld enc w g 0 m dk os).heap[b]? =w.heap[b]? :=fun b hb=>Wb dk (hlt b hb) (hgR b hb);have hlt':∀b,R b→b<(sortWorld enc w g 0 m dk os).heap.size:=fun b hb=>XH (hlt b hb) (Aii dk);have hpars:Kx (sortWorld enc w g 0 m dk os) R (.c (.v (enc x)):: .c (.v (enc y))::caps.map .c) (enc x::enc y::xs'):=by
       have hc:∀p∈(.c (.v (enc x)):: .c (.v (enc y))::caps.map .c:List Par),∃u,p=.c u:=fun p hp=>by
        simp only[XC,XO]at hp;rcases hp with rfl|rfl|⟨u,_,rfl⟩<;>exact⟨_,rfl⟩
       refine⟨by simp[hl],fun i p z q1 q2=>?_,fun i j T1 s1 r1 T2 s2 r2 z1 z2 b _ q1=>?_,fun b hb=>absurd hb (Mr hc)⟩
       ·match i with
        |0=>simp at q1 q2;subst q1 q2;exact .v _
        |1=>simp at q1 q2;subst q1 q2;exact .v _
        |i+2=>
         simp only[List.getElem?_cons_succ,XJ]at q1 q2;cases hu:caps[i]? with
         |none=>rw[hu]at q1;cases q1
         |some u=>
          rw[hu]at q1;injection q1 with q1;subst q1
          exact(hcs i u z hu q2).mono (fun b hb=>⟨hb,hW b hb⟩) (Gle.refl _)
       ·obtain⟨u,hu⟩:=hc _ (ZH q1);cases hu
      have e0:(#[enc x,enc y]++xs'.toArray:Array Value)=(enc x::enc y::xs').toArray:=by simp
      rw[e0];exact hf hd0 x y _ R _ hlt' hpars
     have h:=Any.slices_SortFunc_total L enc h1 cf hO f xs'.toArray g 0 cap d.toArray w (X6 hfc) hcmp hH hgs (by simpa using hsz) hT;have e1:x0=.slice (some ⟨g,0,none⟩) d.toArray.size cap:=by rw[hx];simp
     rw[←e1]at h;refine h.mono ?_
     rintro e w' ⟨rfl,n,os,rfl⟩
     have hto:d.toArray.toList=d:=by simp
     rw[hto];refine fin _ ⟨rfl,rfl,rfl,Aii _,fun k hk hn=>Wb _ hk (fun e=>hn (e▸hgF))⟩ (fun b hb=>Wb _ (hlt b hb) (hgR b hb)) ?_;rw[hx,hlen,←hslen];refine⟨by simp,.inr ⟨g,cap,_,rfl,ZU _,Arn _ hb,by rw[hslen];rw[hlen]at hnc;exact hnc,hcm,by simp[putCells,hcs2],?_⟩⟩;rw[Nat.mul_one];exact Akk cur _ (by rw[hslen,hcs2];rw[hlen]at hnc;omega)
end
end
namespace Pl
structure Good{α:Type}(c:α→α→Int):Prop where
 anti:∀a b,c b a= - c a b
 pp:∀a b d,0<c a b→0<c b d→0<c a d
 zp:∀a b d,c a b=0→0<c b d→0<c a d
 pz:∀a b d,0<c a b→c b d=0→0<c a d
 zz:∀a b d,c a b=0→c b d=0→c a d=0
theorem Vt{a b:Int}:E9 a b=0↔a=b:=⟨fun h=>Classical.byContradiction fun hn=>Aug hn h,fun h=>h▸Atk a⟩
theorem Aix{α:Type}(f:α→Int):Good fun g x=>E9 (f g) (f x) where
 anti:=fun a b=>by unfold E9;split<;>(try split)<;>(try split)<;>omega
 pp:=fun a b d h k=>by rw[Zu]at *;omega
 zp:=fun a b d h k=>by rw[Zu]at *;rw[Vt]at h;omega
 pz:=fun a b d h k=>by rw[Zu]at *;rw[Vt]at k;omega
 zz:=fun a b d h k=>by rw[Vt]at *;omega
theorem And(a b:ByteArray):Ey b a= - Ey a b:=by
 rcases Bool.eq_false_or_eq_true (slt a b)with h|h
 ·rw[Y0 h,Yz h];rfl
 ·rcases Bool.eq_false_or_eq_true (slt b a)with k|k
  ·rw[Y0 k,Yz k]
  ·have:=Ry h k;rw[this,Uw];rfl
theorem Ar2{α:Type}(f:α→ByteArray):Good fun g x=>Ey (f g) (f x) where
 anti:=fun a b=>And _ _
 pp:=fun a b d h k=>by rw[Aa5]at *;exact Kj k h
 zp:=fun a b d h k=>by rw[Aa5]at *;rw[Gk]at h;rw[h];exact k
 pz:=fun a b d h k=>by rw[Aa5]at *;rw[Gk]at k;rw[←k];exact h
 zz:=fun a b d h k=>by rw[Gk]at *;exact h.trans k
theorem H7(x:Int)(r:List Int):B3 (x::r)=if x=0 then B3 r else x:=rfl
theorem Ad7{α:Type}:∀(cs:List (α→α→Int)),(∀c∈cs,Good c)→Good fun g x=>B3 (cs.map fun c=>c g x)
 |[],_=>⟨fun _ _=>rfl,fun _ _ _ h=>by simp[B3]at h,fun _ _ _ _ h=>by simp[B3]at h,fun _ _ _ h=>by simp[B3]at h,fun _ _ _ _ _=>rfl⟩
 |c::cs,h=>by
  have hc:=h c (by simp);have ih:=Ad7 cs fun c hm=>h c (by simp[hm]);refine⟨fun a b=>?_,fun a b d p q=>?_,fun a b d p q=>?_,fun a b d p q=>?_,fun a b d p q=>?_⟩<;>simp only[List.map_cons,H7]at *
  ·rw[hc.anti a b];by_cases h0:c a b=0
   ·rw[if_pos (by omega),if_pos h0];exact ih.anti a b
   ·rw[if_neg (by omega),if_neg h0]
  all_goals
   rcases Classical.em (c a b=0)with h1|h1<;>rcases Classical.em (c b d=0)with h2|h2<;>(try simp only[h1,h2,if_true,if_false]at p q)
  all_goals first
   |(have h3:=hc.zz _ _ _ h1 h2;rw[if_pos h3];first|exact ih.pp _ _ _ p q|exact ih.zp _ _ _ p q|exact ih.pz _ _ _ p q|exact ih.zz _ _ _ p q)
   |(have h3:=hc.zp _ _ _ h1 q;rw[if_neg (by omega)];exact h3)
   |(have h3:=hc.pz _ _ _ p h2;rw[if_neg (by omega)];exact h3)
   |(have h3:=hc.pp _ _ _ p q;rw[if_neg (by omega)];exact h3)
   |omega
theorem Al8:∀{l:List Int},B3 l=0→∀x∈l,x=0
 |[],_,x,hx=>by cases hx
 |y::l,h,x,hx=>by
  rw[H7]at h;split at h
  ·rename_i h0;rcases XC.1 hx with rfl|hx
   ·exact h0
   ·exact Al8 h x hx
  ·rename_i h0;exact absurd h h0
structure Baa{α:Type}(cf:α→α→Int)(nw:α→α→Bool):Prop where
 irr:∀x,nw x x=false
 trans:∀x y z,nw x y=true→nw y z=true→nw x z=true
 tot:∀x y,cf x y=0→nw x y=false→nw y x=false→x=y
section
variable {α:Type} {lt:α→α→Bool} {cf:α→α→Int} {nw:α→α→Bool}
end
end Pl
namespace Pl
open Go.Sort Go.Shelf
section
variable {α:Type} {c:α→α→Int}
theorem Good.self(g:Good c)(x:α):c x x=0:=by have:=g.anti x x;omega
theorem Aj6(g:Good c):SWO (ltOf c) where
 irrefl x:=by unfold ltOf;rw[g.self];rfl
 trans x y z h1 h2:=by
  unfold ltOf at *;have h1:=ZV h1;have h2:=ZV h2;have a1:=g.anti x y;have a2:=g.anti y z;have a3:=g.anti x z;have:=g.pp z y x (by omega) (by omega);exact ZX (by omega)
 ntrans x y z h1 h2:=by
  unfold ltOf at *;have h1:=ZW h1;have h2:=ZW h2;refine ZY ?_;by_cases p1:c x y=0
  ·by_cases p2:c y z=0
   ·have:=g.zz x y z p1 p2;omega
   ·have:=g.zp x y z p1 (by omega);omega
  ·by_cases p2:c y z=0
   ·have:=g.pz x y z (by omega) p2;omega
   ·have:=g.pp x y z (by omega) (by omega);omega
theorem Arx(g:Good c)(h0:∀x y,c x y=0→x=y):∀x y,ltOf c x y=false→ltOf c y x=false→x=y:=fun x y h1 h2=>by
 unfold ltOf at *;have h1:=ZW h1;have h2:=ZW h2;have:=g.anti x y;exact h0 x y (by omega)
def leB(c:α→α→Int)(y x:α):Bool:= !(ltOf c) x y
theorem Adt{r:α→α→Prop}(an:∀x y,r x y→r y x→x=y):∀{a b:List α},a.Perm b→a.Pairwise r→b.Pairwise r→a=b
 |[],b,h,_,_=>(List.nil_perm.1 h).symm
 |x::a,[],h,_,_=>by have:=h.length_eq;simp at this
 |x::a,y::b,h,ha,hb=>by
  have ha':=List.pairwise_cons.1 ha;have hb':=List.pairwise_cons.1 hb;have e:x=y:=by
   have h1:x∈y::b:=h.mem_iff.1 XB;have h2:y∈x::a:=h.mem_iff.2 XB;rcases XC.1 h1 with q|q
   ·exact q
   ·rcases XC.1 h2 with q2|q2
    ·exact q2.symm
    ·exact an _ _ (ha'.1 _ q2) (hb'.1 _ q)
  subst e;rw[Adt an (List.Perm.cons_inv h) ha'.2 hb'.2]
def Jy(c:α→α→Int)(l:List α)(x:α):List α:=l.takeWhile (fun y=>leB c y x)++x::l.dropWhile fun y=>leB c y x
theorem Vz(l:List α)(x:α):(Jy c l x).Perm (x::l):=by
 unfold Jy;refine(List.perm_middle).trans ?_;rw[List.takeWhile_append_dropWhile]
theorem Api(y x:α)(l:List α):Jy c (y::l) x=if leB c y x=true then y::Jy c l x else x::y::l:=by
 unfold Jy;rw[List.takeWhile_cons,List.dropWhile_cons];split<;>rfl
theorem Xs(g:Good c)(x:α):∀{l:List α},l.Pairwise (fun u v=>leB c u v=true)→(Jy c l x).Pairwise fun u v=>leB c u v=true
 |[],_=>List.pairwise_singleton ..
 |y::l,h=>by
  have h':=List.pairwise_cons.1 h;rw[Api];split
  ·rename_i q;refine List.pairwise_cons.2 ⟨fun z hz=>?_,Xs g x h'.2⟩;have:=(Vz (c:=c) l x).mem_iff.1 hz;rcases XC.1 this with rfl|hz
   ·exact q
   ·exact h'.1 z hz
  ·rename_i q;have q:ltOf c x y=true:=by simpa[leB]using q
   have s:=Aj6 g;have hxy:leB c x y=true:=by
    unfold leB;cases p:ltOf c y x with
    |false=>rfl
    |true=>have:=s.trans _ _ _ p q;rw[s.irrefl]at this;cases this
   refine List.pairwise_cons.2 ⟨fun z hz=>?_,h⟩;rcases XC.1 hz with rfl|hz
   ·exact hxy
   ·have hyz:=h'.1 z hz;unfold leB at *;rw[Bool.not_eq_true']at *;exact s.ntrans _ _ _ hyz hxy
theorem Aij(g:Good c):∀(d:List α) {l:List α},l.Pairwise (fun u v=>leB c u v=true)→(d.foldl (Jy c) l).Pairwise (fun u v=>leB c u v=true)∧(d.foldl (Jy c) l).Perm (l++d)
 |[],l,h=>⟨h,by simp⟩
 |x::d,l,h=>by
  obtain⟨h1,h2⟩:=Aij g d (Xs g x h);refine⟨h1,h2.trans ?_⟩;refine((Vz l x).append_right d).trans ?_;exact(List.perm_middle).symm
theorem Ari(g:Good c)(h0:∀x y,c x y=0→x=y)(d:List α):d.foldl (Jy c) []=Ii c d:=by
 obtain⟨h1,h2⟩:=Aij g d (l:=[]) List.Pairwise.nil;have s:=Aj6 g;have hs:(Ii c d).Pairwise fun x y=>(!(ltOf c) y x)=true:=by
  refine List.pairwise_mergeSort (fun a b e p1 p2=>?_) (fun a b=>?_) _
  ·have p1':ltOf c b a=false:=by simpa using p1
   have p2':ltOf c e b=false:=by simpa using p2
   simpa using s.ntrans e b a p2' p1'
  ·cases q:ltOf c b a with
   |false=>rfl
   |true=>
    cases p:ltOf c a b with
    |false=>rfl
    |true=>have:=s.trans _ _ _ p q;rw[s.irrefl]at this;cases this
 refine Adt (r:=fun u v=>leB c u v=true) (fun x y p1 p2=>?_) (h2.trans (List.mergeSort_perm _ _).symm) h1 hs;have p1':ltOf c y x=false:=by simpa[leB]using p1
 have p2':ltOf c x y=false:=by simpa[leB]using p2
 exact Arx g h0 x y p2' p1'
end
def rkN(K:ByteArray→Option Int)(a:ByteArray):Int:=if(K a).isSome then 0 else 1
def frN(K:ByteArray→Option Int)(a:ByteArray):Int:=(K a).getD 0
def cfN(K:ByteArray→Option Int)(a b:ByteArray):Int:=B3 [E9 (rkN K a) (rkN K b),E9 (frN K a) (frN K b),Ey a b]
theorem Z0(K:ByteArray→Option Int):Good (cfN K):=Ad7 [fun a b=>E9 (rkN K a) (rkN K b),fun a b=>E9 (frN K a) (frN K b),fun a b=>Ey a b] (by
 intro c hc;simp only[XC,XD,or_false]at hc;rcases hc with rfl|rfl|rfl
 ·exact Aix (rkN K)
 ·exact Aix (frN K)
 ·exact Ar2 fun a=>a)
theorem Ahc{K:ByteArray→Option Int}{a b:ByteArray}(h:cfN K a b=0):a=b:=Gk.1 (Al8 h _ (by simp))
theorem Arl(K:ByteArray→Option Int)(d:List ByteArray):d.foldl (Jy (cfN K)) []=Ii (cfN K) d:=Ari (Z0 K) (fun _ _=>Ahc) d
end Pl
namespace Pl
def M6(n:Nat):Nat→Nat
 |0=>0
 |k+1=>if(k+1)*(k+1)≤n then k+1 else M6 n k
def isq(n:Nat):Nat:=M6 n n
theorem Aof(n k:Nat):M6 n k*M6 n k≤n:=by
 induction k with
 |zero=>simp[M6]
 |succ k ih=>
  unfold M6;split
  ·assumption
  ·exact ih
theorem Apf(n k:Nat)(h:n<(k+1)*(k+1)):n<(M6 n k+1)*(M6 n k+1):=by
 induction k with
 |zero=>simpa[M6]using h
 |succ k ih=>
  unfold M6;split
  ·exact h
  ·exact ih (by omega)
theorem Avz(n:Nat):isq n*isq n≤n:=Aof n n
theorem Axa(n:Nat):n<(isq n+1)*(isq n+1):=Apf n n (by rw[Nat.add_mul];omega)
def rt(n:Int):Int:=(isq n.toNat:Int)
theorem Ade(n:Int):0≤rt n:=Int.natCast_nonneg _
theorem Avg(n:Int)(h:0≤n):rt n*rt n≤n:=by
 have:=Avz n.toNat;unfold rt;have e:((isq n.toNat*isq n.toNat:Nat):Int)≤(n.toNat:Int):=Int.ofNat_le.2 this;rw[Int.natCast_mul]at e;omega
theorem Avm(n:Int)(h:0≤n):n<(rt n+1)*(rt n+1):=by
 have:=Axa n.toNat;unfold rt;have e:(n.toNat:Int)<((isq n.toNat+1)*(isq n.toNat+1):Nat):=Int.ofNat_lt.2 this;rw[Int.natCast_mul]at e;simp only[Int.natCast_add,Int.natCast_one]at e;omega
theorem Rk{a b:Int}(h0:0≤a)(h:a≤b):a*a≤b*b:=Int.mul_le_mul h h h0 (by omega)
theorem Alo{a b:Int}(h0:0≤b)(h:a*a<(b+1)*(b+1)):a≤b:=by
 rcases Int.lt_or_le b a with g|g
 ·have:=Rk (show 0≤b+1 by omega) (show b+1≤a by omega);omega
 ·exact g
theorem Alw{n r:Int}(h:0≤n)(h0:0≤r)(h2:n<(r+1)*(r+1)):rt n≤r:=by
 have:=Avg n h;exact Alo h0 (by omega)
theorem Am8{n r:Int}(h:0≤n)(h2:r*r≤n):r≤rt n:=by
 have:=Avm n h;exact Alo (Ade n) (by omega)
theorem Amp{n r:Int}(h0:0≤r)(h1:r*r≤n)(h2:n<(r+1)*(r+1)):rt n=r:=by
 have hn:0≤n:=Int.le_trans (Int.mul_nonneg h0 h0) h1;have a:=Alw hn h0 h2;have b:=Am8 hn h1;omega
theorem Awu(n:Int)(h:0≤n)(hm:n≤9223372036854775807):rt n≤3037000499:=Alw h (by omega) (by omega)
theorem Ir{n x:Int}(hn:0≤n)(hx:1≤x):0≤n/x∧x*(n/x)≤n∧n<x*(n/x)+x:=by
 have:=Int.mul_ediv_add_emod n x;have:=Int.emod_nonneg n (show x≠0 by omega);have:=Int.emod_lt_of_pos n (show 0<x by omega);exact⟨Int.ediv_nonneg hn (by omega),by omega,by omega⟩
theorem Ba9{a b s:Int}(h0:0≤a)(h1:0≤b)(h:a+b≤2*s):a*b≤s*s:=by
 have h2:(a+b)*(a+b)≤(2*s)*(2*s):=Rk (by omega) h;have h3:0≤(a-b)*(a-b):=by
  rcases Int.le_total 0 (a-b)with g|g
  ·exact Int.mul_nonneg g g
  ·exact Int.mul_nonneg_of_nonpos_of_nonpos g g
 have e:(a-b)*(a-b)=(a+b)*(a+b)-4*(a*b):=by grind
 have e2:(2*s)*(2*s)=4*(s*s):=by grind
 omega
theorem Azq{n x:Int}(hn:0≤n)(hm:n≤9223372036854775807)(hx:1≤x)(h:x≤n/x):x≤3037000499:=by
 obtain⟨a,b,c⟩:=Ir hn hx;have:x*x≤x*(n/x):=Int.mul_le_mul_of_nonneg_left h (by omega);exact Alo (by omega) (by omega)
theorem Awr{n x:Int}(hn:0≤n)(hx:1≤x)(h:n/x<x):rt n≤x:=by
 obtain⟨a,b,c⟩:=Ir hn hx;have:x*(n/x)≤x*(x-1):=Int.mul_le_mul_of_nonneg_left (by omega) (by omega);have e:x*(x-1)=x*x-x:=by grind
 have e2:(x+1)*(x+1)=x*x+2*x+1:=by grind
 exact Alw hn (by omega) (by omega)
theorem Axd{n x:Int}(hn:1≤n)(hx:1≤x)(h:rt n≤x):n/x≤rt n+2:=by
 have a:=Avm n (by omega);have b:1≤rt n:=Am8 (by omega) (by omega);refine Int.ediv_le_of_le_mul (by omega) ?_;have e:(rt n+1)*(rt n+1)=(rt n+2)*rt n+1:=by grind
 have:(rt n+2)*rt n≤(rt n+2)*x:=Int.mul_le_mul_of_nonneg_left h (by omega);omega
theorem Aun{n x:Int}(hn:0≤n)(hx:1≤x):rt n≤(x+n/x)/2:=by
 obtain⟨a,b,c⟩:=Ir hn hx;have s:=Avg n hn;rcases Int.lt_or_le ((x+n/x)/2) (rt n)with g|g
 ·have:=Ba9 (a:=x) (b:=n/x+1) (s:=rt n) (by omega) (by omega) (by omega);have e:x*(n/x+1)=x*(n/x)+x:=by grind
  omega
 ·exact g
theorem Aqy{n x:Int}(hn:0≤n)(hx:1≤x)(h:rt n≤x)(g:x≤(x+n/x)/2):x=rt n:=by
 obtain⟨a,b,c⟩:=Ir hn hx;have:x*x≤x*(n/x):=Int.mul_le_mul_of_nonneg_left (by omega) (by omega);have:=Am8 (n:=n) (r:=x) hn (by omega);omega
def J4(n r b:Int):Prop:=
 0≤r∧r*r≤n∧((b=0∧n<(r+1)*(r+1))∨((∃k:Nat,k≤31∧b=2^k)∧n<(r+2*b)*(r+2*b)))
theorem Aiv(k:Nat):((2:Int)^(k+1))/2=2^k∧(2:Int)^(k+1)=2*2^k∧1≤(2:Int)^k:=by
 have h:(2:Int)^(k+1)=2^k*2:=Int.pow_succ 2 k;have p:0<(2:Int)^k:=Int.pow_pos (by omega);omega
theorem Axp(k:Nat)(h:k≤31):(2:Int)^k≤2147483648:=by
 have e:(2147483648:Int)=2^k*2^(31-k):=by
  rw[←Int.pow_add,show k+(31-k)=31 by omega];decide
 have p:1≤(2:Int)^(31-k):=by have:0<(2:Int)^(31-k):=Int.pow_pos (by omega);omega
 have q:0≤(2:Int)^k:=by have:0<(2:Int)^k:=Int.pow_pos (by omega);omega
 have:=Int.mul_le_mul_of_nonneg_left p q;omega
theorem Acf{n:Int}(h0:0≤n)(hm:n≤9223372036854775807):J4 n 0 2147483648:=
 ⟨by omega,by omega,.inr ⟨⟨31,by omega,by decide⟩,by omega⟩⟩
theorem Z9{n r b:Int}(h0:0≤n)(hm:n≤9223372036854775807)(h:J4 n r b):
  0≤r∧r≤3037000499∧0≤b∧b≤2147483648∧(0<b→0≤b/2):=by
 obtain⟨a,c,d⟩:=h;have hr:r≤3037000499:=Alo (by omega) (by omega);refine⟨a,hr,?_⟩;rcases d with⟨e,_⟩|⟨⟨k,hk,e⟩,_⟩
 ·omega
 ·have:=Axp k hk;have:0<(2:Int)^k:=Int.pow_pos (by omega);omega
theorem Ai5{n r b:Int}(h:J4 n r b)(hb:0<b)(c:(r+b)*(r+b)≤n):J4 n (r+b) (b/2):=by
 obtain⟨a,_,d⟩:=h;refine⟨by omega,c,?_⟩;rcases d with⟨e,_⟩|⟨⟨k,hk,e⟩,d⟩
 ·omega
 ·cases k with
  |zero=>
   have:b=1:=by simpa using e
   subst this;exact .inl ⟨by decide,by rw[show r+1+1=r+2*1 by omega];exact d⟩
  |succ k=>
   obtain⟨p,q,s⟩:=Aiv k;refine .inr ⟨⟨k,by omega,by rw[e,p]⟩,?_⟩;rw[show r+b+2*(b/2)=r+2*b by rw[e,p,q];omega];exact d
theorem Aai{n r b:Int}(h:J4 n r b)(hb:0<b)(c:n<(r+b)*(r+b)):J4 n r (b/2):=by
 obtain⟨a,f,d⟩:=h;refine⟨a,f,?_⟩;rcases d with⟨e,_⟩|⟨⟨k,hk,e⟩,d⟩
 ·omega
 ·cases k with
  |zero=>
   have:b=1:=by simpa using e
   subst this;exact .inl ⟨by decide,c⟩
  |succ k=>
   obtain⟨p,q,s⟩:=Aiv k;refine .inr ⟨⟨k,by omega,by rw[e,p]⟩,?_⟩;rw[show r+2*(b/2)=r+b by rw[e,p,q]];exact c
theorem Ahe{n r b:Int}(h0:0≤n)(h:J4 n r b)(hb:b≤0):r=rt n:=by
 obtain⟨a,f,d⟩:=h;rcases d with⟨e,d⟩|⟨⟨k,hk,e⟩,d⟩
 ·exact(Amp a f d).symm
 ·have:0<(2:Int)^k:=Int.pow_pos (by omega);omega
theorem Aru{x:Int}(h0:0≤x)(h:x≤3037000499):x*x≤9223372036854775807:=by
 have:=Rk h0 h;omega
theorem Axh{n x:Int}(h0:0≤n)(hm:n≤9223372036854775807)(h:3037000500≤x):n<x*x:=by
 have:=Rk (show(0:Int)≤3037000500 by omega) h;omega
end Pl
namespace Pl
def sq3(x y z x' y' z':Int):Int:=(x-x')*(x-x')+(y-y')*(y-y')+(z-z')*(z-z')
def flat(x y z x' y' z':Int):Int:=rt (sq3 x y z x' y' z')
theorem Q7{x y z h s:Int}:Agm x y z h s=true↔(-10000000≤x∧x≤10000000)∧(-10000000≤y∧y≤10000000)∧(-10000000≤z∧z≤10000000)∧(0≤h∧h≤1000000)∧(0≤s∧s≤1000):=by
 unfold Agm;simp only[ZO,Ae2,and_assoc]
theorem Axn{x b:Int}(h1: -b≤x)(h2:x≤b):0≤x*x∧x*x≤b*b:=by
 rcases Int.le_total 0 x with h|h
 ·exact⟨Int.mul_nonneg h h,Rk h h2⟩
 ·have:=Rk (a:= -x) (b:=b) (by omega) (by omega);rw[Int.neg_mul_neg]at this;exact⟨Int.mul_nonneg_of_nonpos_of_nonpos h h,this⟩
theorem J8{x x':Int}(h1: -10000000≤x)(h2:x≤10000000)(h3: -10000000≤x')(h4:x'≤10000000):0≤(x-x')*(x-x')∧(x-x')*(x-x')≤400000000000000:=
 Axn (x:=x-x') (b:=20000000) (by omega) (by omega)
theorem Awa{x y z x' y' z':Int}(a1:0≤(x-x')*(x-x')∧(x-x')*(x-x')≤400000000000000)(a2:0≤(y-y')*(y-y')∧(y-y')*(y-y')≤400000000000000)(a3:0≤(z-z')*(z-z')∧(z-z')*(z-z')≤400000000000000):0≤sq3 x y z x' y' z'∧sq3 x y z x' y' z'≤1200000000000000:=by unfold sq3;omega
theorem Auk{x y z x' y' z':Int}(h:0≤sq3 x y z x' y' z'∧sq3 x y z x' y' z'≤1200000000000000):0≤flat x y z x' y' z'∧flat x y z x' y' z'≤34641017:=
 ⟨Ade _,Alw h.1 (by omega) (by omega)⟩
theorem Atr{x y z h s x' y' z' h' s':Int}(o:Agm x y z h s=true)(o':Agm x' y' z' h' s'=true):0≤flat x y z x' y' z'∧flat x y z x' y' z'≤34641017:=by
 obtain⟨⟨a1,a2⟩,⟨a3,a4⟩,⟨a5,a6⟩,_,_⟩:=Q7.1 o;obtain⟨⟨b1,b2⟩,⟨b3,b4⟩,⟨b5,b6⟩,_,_⟩:=Q7.1 o';exact Auk (Awa (J8 a1 a2 b1 b2) (J8 a3 a4 b3 b4) (J8 a5 a6 b5 b6))
def far(x y z h x' y' z' h':Int):Int:=flat x y z x' y' z'+h+h'
end Pl
namespace Pl
structure Pc where
 x:Int
 y:Int
 z:Int
 h:Int
 s:Int
def Pc.row(p:Pc):List V:=[.v (.int .i64 p.x),.v (.int .i64 p.y),.v (.int .i64 p.z),.v (.int .i64 p.h),.v (.int .i64 p.s)]
instance:FlatRow Pc.row:=⟨fun x u hu=>by simp[Pc.row]at hu;rcases hu with rfl|rfl|rfl|rfl|rfl<;>exact⟨_,rfl⟩⟩
def Pc.ok(p:Pc):Prop:=True
def Pc.okb(p:Pc):Bool:=Agm p.x p.y p.z p.h p.s
def Pc.err(p:Pc):Int:=Ajt p.x p.y p.z p.h p.s
theorem Pc.err_ok{p:Pc}(h:p.okb=true):p.err=0:=by unfold Pc.err Ajt;unfold Pc.okb at h;rw[if_pos h]
theorem Pc.err_bad{p:Pc}(h:p.okb=false):p.err=3:=by unfold Pc.err Ajt;unfold Pc.okb at h;rw[if_neg (by rw[h];decide)]
theorem Pc.err_iff{p:Pc}:p.err=0↔p.okb=true:=by
 cases h:p.okb with
 |true=>simp[Pc.err_ok h]
 |false=>simp[Pc.err_bad h]
def Pc.flat(a b:Pc):Int:=Pl.flat a.x a.y a.z b.x b.y b.z
def Pc.far(a b:Pc):Int:=Pl.far a.x a.y a.z a.h b.x b.y b.z b.h
theorem Ajf{a b:Pc}(h:a.okb=true)(h':b.okb=true):(0≤a.flat b∧a.flat b≤34641017)∧(0≤a.far b∧a.far b≤36641017):=by
 have f:=Atr h h';obtain⟨_,_,_,⟨a7,a8⟩,_⟩:=Q7.1 h;obtain⟨_,_,_,⟨b7,b8⟩,_⟩:=Q7.1 h';refine⟨f,?_⟩;unfold Pc.far Pl.far;omega
end Pl
namespace Pl
def ents(l:List (ByteArray×V)):List (Value×V):=l.map fun p=>(.string p.1,p.2)
def look(k:ByteArray):List (ByteArray×V)→Nat→Option (Nat×V)
 |[],_=>none
 |(a,v)::es,i=>if k=a then some (i,v)else look k es (i+1)
theorem D8(k:ByteArray):∀(l:List (ByteArray×V)) (i:Nat),Gn .string (.string k) (ents l) i=some (look k l i)
 |[],i=>rfl
 |(a,v)::es,i=>by
  have ih:=D8 k es (i+1);unfold ents at ih;by_cases h:k=a
  ·subst h;have hb:(k==k)=true:=(Go.MapKept.bytes_beq k k).2 rfl;simp[ents,Gn,look,Instr.sameNow,hb]
  ·have hb:(k==a)=false:=by
    cases q:(k==a)with
    |true=>exact absurd ((Go.MapKept.bytes_beq k a).1 q) h
    |false=>rfl
   simp only[ents,List.map_cons,Gn,look,Instr.sameNow,hb,if_neg h];exact ih
def put(l:List (ByteArray×V))(k:ByteArray)(v:V):List (ByteArray×V):=match look k l 0 with
 |some (i,_)=>l.set i (k,v)
 |none=>l++[(k,v)]
theorem Za(l:List (ByteArray×V))(k:ByteArray)(v:V):Tw (ents l) (.string k) v (look k l 0)=ents (put l k v):=by
 unfold put Tw;cases h:look k l 0 with
 |none=>simp[ents]
 |some p=>obtain⟨i,u⟩:=p;simp[ents,List.map_set]
theorem Ro{k:ByteArray}:∀{l:List (ByteArray×V)} {i j:Nat} {v:V},look k l i=some (j,v)→i≤j∧l[j-i]? =some (k,v)
 |[],i,j,v,h=>by simp[look]at h
 |(a,u)::es,i,j,v,h=>by
  unfold look at h;split at h
  ·rename_i e;simp only[ZD,Prod.mk.injEq]at h;obtain⟨rfl,rfl⟩:=h;subst e;exact⟨ZT _,by simp⟩
  ·obtain⟨h1,h2⟩:=Ro h;exact⟨by omega,by rw[show j-i=(j-(i+1))+1 by omega];simpa using h2⟩
theorem Xc{k:ByteArray}:∀{l:List (ByteArray×V)} {i:Nat},look k l i=none↔k∉l.map (·.1)
 |[],i=>by simp[look]
 |(a,u)::es,i=>by
  unfold look;split
  ·rename_i e;subst e;simp
  ·rename_i e;rw[Xc (l:=es) (i:=i+1)];simp[e]
open Classical in
theorem Ast{l:List (ByteArray×V)}{k:ByteArray}{v:V}:(put l k v).map (·.1)=if k∈l.map (·.1)then l.map (·.1)else l.map (·.1)++[k]:=by
 unfold put;cases h:look k l 0 with
 |none=>rw[if_neg (Xc.1 h)];simp
 |some p=>
  obtain⟨i,u⟩:=p;have hk:k∈l.map (·.1):=Classical.byContradiction fun q=>by rw[Xc.2 q]at h;cases h
  rw[if_pos hk];obtain⟨_,h2⟩:=Ro h;simp only[Nat.sub_zero]at h2;show(l.set i (k,v)).map (·.1)=l.map (·.1);rw[List.map_set];apply List.ext_getElem?;intro j;rw[List.getElem?_set];split
  ·rename_i e;subst e;split
   ·simp[h2]
   ·rename_i q;simp at q;simp[q]
  ·rfl
structure Ail(l:List (ByteArray×V))(ns:List ByteArray):Prop where
 mem:∀n,n∈l.map (·.1)↔n∈ns
 le:l.length≤ns.length
 all:l.length=ns.length↔ns.Nodup
 cl:∀p∈l,Cl p.2
theorem Ail.nil:Ail [] []:=⟨by simp,by simp,by simp,by simp⟩
theorem Ail.put{l:List (ByteArray×V)}{ns:List ByteArray}(h:Ail l ns)(k:ByteArray)(v:V)(hv:Cl v):Ail (put l k v) (ns++[k]):=by
 have hk:=Ast (l:=l) (k:=k) (v:=v);have hlen:(Pl.put l k v).length=((Pl.put l k v).map (·.1)).length:=by simp
 have hm:=h.mem k;refine⟨fun n=>?_,?_,?_,fun p hp=>?_⟩
 ·rw[hk];split
  ·rename_i q;rw[h.mem n];simp;intro e;subst e;exact hm.1 q
  ·simp only[XM,h.mem n]
 ·rw[hlen,hk];have:=h.le;split<;>simp<;>omega
 ·rw[hlen,hk];split
  ·rename_i q;have:=h.le;constructor
   ·intro e;simp at e;omega
   ·intro e;have:=(List.nodup_append.1 e).2.2 k (hm.1 q) k (by simp);exact absurd rfl this
  ·rename_i q;have hq:k∉ns:=fun e=>q (hm.2 e);simp only[ZF,ZE,ZJ,ZN];rw[List.nodup_append];constructor
   ·intro e;refine⟨h.all.1 (by omega),by simp,?_⟩;intro a ha b hb e';simp at hb;subst hb;subst e';exact hq ha
   ·intro e;have:=h.all.2 e.1;omega
 ·unfold Pl.put at hp;split at hp
  ·rcases List.mem_or_eq_of_mem_set hp with q|rfl
   ·exact h.cl p q
   ·exact hv
  ·rcases XM.1 hp with q|q
   ·exact h.cl p q
   ·simp at q;subst q;exact hv
end Pl
namespace Pl
structure Wh where
 nd:ByteArray
 pl:Pc
def Wh.row(x:Wh):List V:=[.v (.string x.nd),.v (.int .i64 x.pl.x),.v (.int .i64 x.pl.y),.v (.int .i64 x.pl.z),.v (.int .i64 x.pl.h),.v (.int .i64 x.pl.s)]
instance:FlatRow Wh.row:=⟨fun x u hu=>by simp[Wh.row]at hu;rcases hu with rfl|rfl|rfl|rfl|rfl|rfl<;>exact⟨_,rfl⟩⟩
def Wh.ok(x:Wh):Prop:=x.nd.size≤9223372036854775807
theorem Awz(row:List V)(h:Qp [.s,.i,.i,.i,.i,.i] row):∃m:Wh,row=m.row∧m.ok:=by
 obtain⟨u0,_,rfl,f0,h⟩:=Ap h;obtain⟨u1,_,rfl,f1,h⟩:=Ap h;obtain⟨u2,_,rfl,f2,h⟩:=Ap h;obtain⟨u3,_,rfl,f3,h⟩:=Ap h;obtain⟨u4,_,rfl,f4,h⟩:=Ap h;obtain⟨u5,_,rfl,f5,h⟩:=Ap h;obtain rfl:=Ln h;obtain⟨n,rfl,hn⟩:=K3 f0;obtain⟨a,rfl,_⟩:=Ge f1;obtain⟨b,rfl,_⟩:=Ge f2;obtain⟨c,rfl,_⟩:=Ge f3;obtain⟨d,rfl,_⟩:=Ge f4;obtain⟨e,rfl,_⟩:=Ge f5;exact⟨⟨n,a,b,c,d,e⟩,rfl,hn⟩
def Wh.perr(w:Wh):Int:=w.pl.err
def Bx(f:Pc):List Wh→ByteArray→Option Int
 |[],_=>none
 |w::l,a=>if a=w.nd then some (f.far w.pl)else Bx f l a
theorem W8(f:Pc)(w:Wh)(a:ByteArray):∀l:List Wh,Bx f (l++[w]) a=(Bx f l a).or (if a=w.nd then some (f.far w.pl)else none)
 |[]=>by simp[Bx]
 |v::l=>by
  show(if a=v.nd then some (f.far v.pl)else Bx f (l++[w]) a)=(if a=v.nd then some (f.far v.pl)else Bx f l a).or _;split
  ·rfl
  ·exact W8 f w a l
theorem Aha{f:Pc}(hf:f.okb=true){a:ByteArray}{x:Int}:∀{l:List Wh},(∀w∈l,w.pl.okb=true)→Bx f l a=some x→0≤x
 |[],_,h=>by cases h
 |w::l,hl,h=>by
  unfold Bx at h;split at h
  ·injection h with h;subst h;exact(Ajf hf (hl w (XB ..))).2.1
  ·exact Aha hf (fun v hv=>hl v (ZL _ hv)) h
def iV(n:Int):V:=.v (.int .i64 n)
theorem Agp(k:ByteArray)(v:V)(a:ByteArray):∀(E:List (ByteArray×V)) (i:Nat),look a (E++[(k,v)]) i=(look a E i).or (if a=k then some (i+E.length,v)else none)
 |[],i=>by simp[look]
 |(b,u)::E,i=>by
  show(if a=b then some (i,u)else look a (E++[(k,v)]) (i+1))=(if a=b then some (i,u)else look a E (i+1)).or _;split
  ·rfl
  ·rw[Agp k v a E (i+1)];congr 2;simp[Nat.add_assoc,Nat.add_comm 1]
def Gz(f:Pc)(l:List Wh)(E:List (ByteArray×V)):Prop:=∀a,(look a E 0).map (·.2)=(Bx f l a).map iV
theorem Gz.nil(f:Pc):Gz f [] []:=fun a=>rfl
theorem Gz.old{f:Pc}{l:List Wh}{E:List (ByteArray×V)}(h:Gz f l E){w:Wh}(hw:look w.nd E 0≠none):Gz f (l++[w]) E:=fun a=>by
 rw[h a,W8];by_cases e:a=w.nd
 ·subst e;have:=h w.nd;cases q:look w.nd E 0 with
  |none=>exact absurd q hw
  |some r=>
   rw[q]at this;cases q2:Bx f l w.nd with
   |none=>rw[q2]at this;cases this
   |some x=>rfl
 ·rw[if_neg e];cases Bx f l a<;>rfl
theorem Gz.new{f:Pc}{l:List Wh}{E:List (ByteArray×V)}(h:Gz f l E){w:Wh}(hw:look w.nd E 0=none):Gz f (l++[w]) (put E w.nd (iV (f.far w.pl))):=fun a=>by
 have e:put E w.nd (iV (f.far w.pl))=E++[(w.nd,iV (f.far w.pl))]:=by unfold put;rw[hw]
 have hn:Bx f l w.nd=none:=by
  have:=h w.nd;rw[hw]at this;cases q2:Bx f l w.nd with
  |none=>rfl
  |some x=>rw[q2]at this;cases this
 rw[e,Agp,W8];by_cases q:a=w.nd
 ·subst q;rw[hw,hn];simp
 ·rw[if_neg q,if_neg q];have:=h a;cases q1:look a E 0<;>cases q2:Bx f l a<;>rw[q1,q2]at this<;>first|rfl|cases this|exact this
theorem Gz.at_none{f:Pc}{l:List Wh}{E:List (ByteArray×V)}(h:Gz f l E){a:ByteArray}(hf:Bx f l a=none):look a E 0=none:=by
 have:=h a;rw[hf]at this;cases q:look a E 0 with
 |none=>rfl
 |some r=>rw[q]at this;cases this
theorem Gz.at_some {f : Pc} {l : List Wh} {E : List (ByteArray × V)} (h : Gz f l E) {a : ByteArray} {x : Int} (hf : Bx f l a = some x) : ∃ i, look a E 0 = some (i, iV x) := by
  have := h a
  rw [hf] at this
  cases q : look a E 0 with
  | none => rw [q] at this; cases this
  | some r =>
    rw [q] at this
    obtain ⟨i, u⟩ := r
    exact ⟨i, by have e : u = iV x := by simpa using this
                 rw [e]⟩
theorem Gz.val{f:Pc}{l:List Wh}{E:List (ByteArray×V)}(h:Gz f l E){a:ByteArray}{i:Nat}{v:V}(q:look a E 0=some (i,v)):∃x,v=iV x:=by
 have:=h a;rw[q]at this;cases q2:Bx f l a with
 |none=>rw[q2]at this;cases this
 |some x=>rw[q2]at this;exact⟨x,by simpa using this⟩
def Dg(s:ByteArray):List V:=[.v (.string s)]
instance:FlatRow Dg:=⟨fun x u hu=>by simp[Dg]at hu;exact⟨_,hu⟩⟩
instance:OneRow Dg 1:=⟨fun _=>rfl,fun x u hu=>by simp[Dg]at hu;exact⟨_,hu,rfl⟩⟩
noncomputable def Q8(f:Pc)(l:List Wh)(names:List ByteArray):List ByteArray:=names.foldl (Jy (cfN (Bx f l))) []
noncomputable def Hg(f:Pc)(l:List Wh)(names:List ByteArray):Int:=if 100<l.length∨100<names.length then 2 else if f.err≠0 then f.err else Bm Wh.perr l
theorem Ak5{f:Pc}{l:List Wh}{names:List ByteArray}{k:Nat}(hk:k<names.length):Q8 f l (names.take (k+1))=Jy (cfN (Bx f l)) (Q8 f l (names.take k)) names[k]:=by
 unfold Q8;rw[XT,ZC hk,List.foldl_append];rfl
theorem Ash{c:ByteArray→ByteArray→Int}(l:List ByteArray)(x:ByteArray):(Jy c l x).length=l.length+1:=by
 have:=(Vz (c:=c) l x).length_eq;simpa using this
theorem Add{c:ByteArray→ByteArray→Int}:∀(d l:List ByteArray),(d.foldl (Jy c) l).length=l.length+d.length
 |[],l=>by simp
 |x::d,l=>by rw[List.foldl_cons,Add,Ash,ZJ];omega
theorem Apg{f:Pc}{l:List Wh}{names:List ByteArray}:(Q8 f l names).length=names.length:=by
 unfold Q8;rw[Add];simp
theorem Re{c:ByteArray→ByteArray→Int}{l:List ByteArray}{x:ByteArray}{n:Nat}(hn:n≤l.length)(h1:∀j,(h:j<l.length)→j<n→leB c l[j] x=true)(h2:n=l.length∨∃h:n<l.length,leB c l[n] x=false):
  Jy c l x=l.take n++(x::l.drop n):=by
 unfold Jy;have ht:l.takeWhile (fun y=>leB c y x)=l.take n∧l.dropWhile (fun y=>leB c y x)=l.drop n:=by
  clear hn
  induction l generalizing n with
  |nil=>simp
  |cons y l ih=>
   cases n with
   |zero=>
    rcases h2 with h2|⟨hl,h2⟩
    ·simp at h2
    ·simp only[List.getElem_cons_zero]at h2;simp[h2]
   |succ n=>
    have h0:=h1 0 (by simp) (by omega);simp only[List.getElem_cons_zero]at h0;have:=ih (n:=n) (fun j h hj=>by have:=h1 (j+1) (by simpa using h) (by omega);simpa using this) (by
     rcases h2 with h2|⟨hl,h2⟩
     ·left;simpa using h2
     ·right;exact⟨by simpa using hl,by simpa using h2⟩)
    rw[List.takeWhile_cons,List.dropWhile_cons,if_pos h0,if_pos h0];exact⟨by rw[this.1];rfl,by rw[this.2];rfl⟩
 rw[ht.1,ht.2]
def Su(K:ByteArray→Option Int)(a:ByteArray):Int:=(K a).getD (-1)
theorem Ao4{K:ByteArray→Option Int}(h0:∀a x,K a=some x→0≤x)(y x:ByteArray):
  leB (cfN K) y x=true↔(Su K x<0∧0≤Su K y)∨((Su K x<0↔Su K y<0)∧(Su K y<Su K x∨(Su K y=Su K x∧slt x y=false))):=by
 have hs:Ey x y<0↔slt x y=true:=Qu;have key:leB (cfN K) y x=true↔¬cfN K x y<0:=by unfold leB ltOf;simp
 rw[key];unfold cfN Su rkN frN;have hx:=h0 x;have hy:=h0 y;rw[←Bool.not_eq_true,←hs];cases q1:K x<;>cases q2:K y<;>simp only[Option.isSome_none,Option.isSome_some,Option.getD_none,Option.getD_some,Bool.false_eq_true,if_false,if_true,H7,B3]
 ·simp[E9,H7,B3];omega
 ·rename_i b;have:=hy b q2;simp[E9,H7,B3];omega
 ·rename_i b;have:=hx b q1;simp[E9,H7,B3];omega
 ·rename_i b d;have:=hx b q1;have:=hy d q2;simp only[E9,H7,B3];by_cases c1:b<d
  ·simp[c1];omega
  ·by_cases c2:d<b
   ·simp[c1,c2];omega
   ·have:b=d:=by omega
    subst this;simp;omega
end Pl
end Go.Proofs.YtbnocibpoghfhaaGreatDoor

namespace Go.Proofs.YtbnocibpoghfhaaGreatDoor
open Go.RowKit Pl
theorem Qn(n a b:Int):Fun Tryz.prog 86 [.c (.v (.int .i64 n)),.c (.v (.int .i64 a)),.c (.v (.int .i64 b))] [.c (.v (.bool (wi n a b)))]:=by
 refine Ar Yg rfl ?_;refine G0 ?_;(refine Aa (fun h=>?_) (fun h=>?_)<;>rw[h])
 ·refine G0 ?_;rw[Aur h];(exact⟨[],aI⟩)
 ·refine G0 ?_;rw[Av8 h];(exact⟨[],aI⟩)
theorem Zs(n:Int):Fun Tryz.prog 85 [.c (.v (.int .i64 n))] [.c (.v (.bool (wi n (-10000000) 10000000)))]:=by
 refine Ar Wt rfl ?_;refine G0 ?_;refine .inl (cX (Qn _ _ _) ?_);refine G1 ?_;intro gg;(exact⟨[],aI⟩)
theorem Arf{x y z h s:Int}(h1:wi x (-10000000) 10000000=true)(h2:wi y (-10000000) 10000000=true)(h3:wi z (-10000000) 10000000=true)(h4:wi h 0 1000000=true)(h5:wi s 0 1000=true):Ajt x y z h s=0:=by simp[Ajt,Agm,h1,h2,h3,h4,h5]
theorem M3{x y z h s:Int}(h1:wi x (-10000000) 10000000=false∨wi y (-10000000) 10000000=false∨wi z (-10000000) 10000000=false∨wi h 0 1000000=false∨wi s 0 1000=false):Ajt x y z h s=3:=by
 rcases h1 with h|h|h|h|h<;>simp[Ajt,Agm,h]
theorem On(p:Pc):Fun Tryz.prog 47 [.c (.agg p.row)] [.c (.v (.int .i64 p.err))]:=by
 refine Ar Zd rfl ?_;refine G1 ?_;intro gg;refine .inl (cX (Zs _) ?_);refine G1 ?_;intro gg;(refine Aa (fun h1=>?_) (fun h1=>?_)<;>rw[h1])
 ·refine G0 ?_;rw[show p.err=3 from M3 (.inl (Dr h1))];(exact⟨[],aI⟩)
 ·refine G0 ?_;refine .inl (cX (Zs _) ?_);refine G1 ?_;intro gg;(refine Aa (fun h2=>?_) (fun h2=>?_)<;>rw[h2])
  ·refine G0 ?_;rw[show p.err=3 from M3 (.inr (.inl (Dr h2)))];(exact⟨[],aI⟩)
  ·refine G0 ?_;refine .inl (cX (Zs _) ?_);refine G1 ?_;intro gg;(refine Aa (fun h3=>?_) (fun h3=>?_)<;>rw[h3])
   ·refine G0 ?_;rw[show p.err=3 from M3 (.inr (.inr (.inl (Dr h3))))];(exact⟨[],aI⟩)
   ·refine G0 ?_;refine .inl (cX (Qn _ _ _) ?_);refine G1 ?_;intro gg;(refine Aa (fun h4=>?_) (fun h4=>?_)<;>rw[h4])
    ·refine G0 ?_;rw[show p.err=3 from M3 (.inr (.inr (.inr (.inl (Dr h4)))))];(exact⟨[],aI⟩)
    ·refine G0 ?_;refine .inl (cX (Qn _ _ _) ?_);refine G1 ?_;intro gg;(refine Aa (fun h5=>?_) (fun h5=>?_)<;>rw[h5])
     ·refine G0 ?_;rw[show p.err=3 from M3 (.inr (.inr (.inr (.inr (Dr h5)))))];(exact⟨[],aI⟩)
     ·refine G0 ?_;rw[show p.err=0 from Arf (Bw h1) (Bw h2) (Bw h3) (Bw h4) (Bw h5)];(exact⟨[],aI⟩)
theorem Xk(p:Pc):Fun Tryz.prog 58 [.c (.agg p.row)] [.c (.v (.int .i64 p.err))]:=by
 refine Ar Mz rfl ?_;refine G1 ?_;intro gg;refine .inl (cX (Db _ _ _) ?_);refine G1 ?_;intro gg;(refine Aa (fun h1=>?_) (fun h1=>?_)<;>rw[h1])
 ·refine G0 ?_;rw[show p.err=3 from M3 (.inl (Dr h1))];(exact⟨[],aI⟩)
 ·refine G0 ?_;refine .inl (cX (Db _ _ _) ?_);refine G1 ?_;intro gg;(refine Aa (fun h2=>?_) (fun h2=>?_)<;>rw[h2])
  ·refine G0 ?_;rw[show p.err=3 from M3 (.inr (.inl (Dr h2)))];(exact⟨[],aI⟩)
  ·refine G0 ?_;refine .inl (cX (Db _ _ _) ?_);refine G1 ?_;intro gg;(refine Aa (fun h3=>?_) (fun h3=>?_)<;>rw[h3])
   ·refine G0 ?_;rw[show p.err=3 from M3 (.inr (.inr (.inl (Dr h3))))];(exact⟨[],aI⟩)
   ·refine G0 ?_;refine .inl (cX (Db _ _ _) ?_);refine G1 ?_;intro gg;(refine Aa (fun h4=>?_) (fun h4=>?_)<;>rw[h4])
    ·refine G0 ?_;rw[show p.err=3 from M3 (.inr (.inr (.inr (.inl (Dr h4)))))];(exact⟨[],aI⟩)
    ·refine G0 ?_;refine .inl (cX (Db _ _ _) ?_);refine G1 ?_;intro gg;(refine Aa (fun h5=>?_) (fun h5=>?_)<;>rw[h5])
     ·refine G0 ?_;rw[show p.err=3 from M3 (.inr (.inr (.inr (.inr (Dr h5)))))];(exact⟨[],aI⟩)
     ·refine G0 ?_;rw[show p.err=0 from Arf (Bw h1) (Bw h2) (Bw h3) (Bw h4) (Bw h5)];(exact⟨[],aI⟩)
theorem Ng{n x:Int}(h:0≤n):n.tdiv x=n/x:=Int.tdiv_eq_ediv_of_nonneg h
theorem Art(n:Int)(h0:0≤n)(hm:n≤9223372036854775807):Fun Tryz.prog 145 [.c (.v (.int .i64 n))] [.c (.v (.int .i64 (rt n)))]:=by
 refine Ar Ac5 rfl ?_;refine G0 ?_;(refine Aa (fun h=>?_) (fun h=>?_)<;>rw[h])
 ·have h2:n<2:=by simpa using h
  have hr:rt n=n:=Amp h0 (by rcases(by omega:n=0∨n=1)with rfl|rfl<;>decide) (by rcases(by omega:n=0∨n=1)with rfl|rfl<;>decide);refine G0 ?_;rw[hr];(exact⟨[],aI⟩)
 ·have h2:¬n<2:=by simpa using h
  refine G0 ?_;(refine⟨[],none,{k:Int//1≤k∧k≤6074000998},[0],fun⟨k,hk1,hk2⟩=>[(3,.v (.int .i64 k))],[],fun⟨k,hk1,hk2⟩=>[],fun⟨k,hk1,hk2⟩=>(12148001996-k).toNat,trivial,fun _=>⟨trivial,fun _=>⟨⟨1,by omega,by omega⟩,tI,Af _ _,tI,Ae _ _⟩⟩,fun⟨k,hk1,hk2⟩=>?_⟩);have hd:=Ir h0 hk1;have hq:n/k≤n:=Int.ediv_le_self _ h0;refine G0 ?_;refine⟨by omega,n/k,by rw[Ng h0];exact A6 (by omega) (by omega),?_⟩;refine G0 ?_;(refine Aa (fun h3=>?_) (fun h3=>?_)<;>rw[h3])
  ·have hc:k≤n/k:=(by have:=ZV h3;omega);have hb:=Azq h0 hm hk1 hc;refine G0 ?_;(exact⟨none,trivial,fun _=>⟨⟨k*2,by omega,by omega⟩,by show(12148001996-k*2).toNat<(12148001996-k).toNat;omega,tI,tI,tI,tI⟩⟩)
  ·have hc:¬k≤n/k:=(by have:=ZW h3;omega);have hb:=Awr h0 hk1 (by omega);refine G0 ?_;(refine⟨[],none,{k:Int//1≤k∧k≤6074000998∧rt n≤k},[0],fun⟨x,hx1,hx2,hx3⟩=>[(3,.v (.int .i64 x))],[],fun⟨x,hx1,hx2,hx3⟩=>[],fun⟨x,hx1,hx2,hx3⟩=>x.toNat,trivial,fun _=>⟨trivial,fun _=>⟨⟨k,by omega,by omega,hb⟩,tI,Af _ _,tI,Ae _ _⟩⟩,fun⟨x,hx1,hx2,hx3⟩=>?_⟩);have q1:=Ir h0 hx1;have q2:=Axd (by omega) hx1 hx3;have q3:=Awu n h0 hm;have q4:=Aun h0 hx1;have q5:1≤rt n:=Am8 (by omega) (by omega);have q6:=q1.1;clear q1;refine G0 ?_;refine⟨by omega,n/x,by rw[Ng h0];exact A6 (by omega) (by omega),?_⟩;refine G0 ?_;refine⟨by omega,(x+n/x)/2,by rw[Ng (by omega)];exact A6 (by omega) (by omega),?_⟩;refine G0 ?_;(refine Aa (fun h4=>?_) (fun h4=>?_)<;>rw[h4])
   ·have hc:x≤(x+n/x)/2:=(by have:=ZV h4;omega);refine G0 ?_;rw[show V.v (Value.int .i64 (rt n))=V.v (Value.int .i64 x)by rw[←Aqy h0 hx1 hx3 hc]];(exact⟨[],aI⟩)
   ·have hc:¬x≤(x+n/x)/2:=(by have:=ZW h4;omega);refine G0 ?_;(exact⟨none,trivial,fun _=>⟨⟨(x+n/x)/2,by omega,by omega,by omega⟩,by show((x+n/x)/2).toNat<x.toNat;omega,tI,tI,tI,tI⟩⟩)
theorem Ap8(n:Int)(h0:0≤n)(hm:n≤9223372036854775807):Fun Tryz.prog 138 [.c (.v (.int .i64 n))] [.c (.v (.int .i64 (rt n)))]:=by
 refine Ar Qh rfl ?_;refine G0 ?_;(refine⟨[],none,{p:Int×Int//J4 n p.1 p.2},[0],fun⟨⟨r,b⟩,hr⟩=>[(3,.v (.int .i64 r)),(4,.v (.int .i64 b))],[],fun⟨⟨r,b⟩,hr⟩=>[],fun⟨⟨r,b⟩,hr⟩=>b.toNat,trivial,fun _=>⟨trivial,fun _=>⟨⟨(0,2147483648),Acf h0 hm⟩,tI,Af _ _,tI,Ae _ _⟩⟩,fun⟨⟨r,b⟩,hr⟩=>?_⟩);dsimp only at hr;obtain⟨g1,g2,g3,g4,g5⟩:=Z9 h0 hm hr;refine G0 ?_;(refine Aa (fun h1=>?_) (fun h1=>?_)<;>rw[h1])
 ·have hb:0<b:=(by have:=ZV h1;omega);have g6:=g5 hb;refine G0 ?_;(refine Aa (fun h2=>?_) (fun h2=>?_)<;>rw[h2])
  ·have c1:r+b≤3037000499:=(by have:=ZV h2;omega);have g7:=Aru (show 0≤r+b by omega) c1;have g8:0≤(r+b)*(r+b):=Int.mul_nonneg (by omega) (by omega);refine G0 ?_;(refine Aa (fun h3=>?_) (fun h3=>?_)<;>rw[h3])
   ·have c2:(r+b)*(r+b)≤n:=ZV h3;refine G0 ?_;refine⟨by omega,b/2,by rw[Ng (by omega)];exact A6 (by omega) (by omega),?_⟩;refine G0 ?_;(exact⟨none,trivial,fun _=>⟨⟨(r+b,b/2),Ai5 hr hb c2⟩,by show(b/2).toNat<b.toNat;omega,tI,tI,tI,tI⟩⟩)
   ·have c2:¬(r+b)*(r+b)≤n:=ZW h3;refine G0 ?_;refine⟨by omega,b/2,by rw[Ng (by omega)];exact A6 (by omega) (by omega),?_⟩;refine G0 ?_;(exact⟨none,trivial,fun _=>⟨⟨(r,b/2),show J4 n r (b/2)from Aai hr hb (by omega)⟩,by show(b/2).toNat<b.toNat;omega,tI,tI,tI,tI⟩⟩)
  ·have c1:¬r+b≤3037000499:=(by have:=ZW h2;omega);refine G0 ?_;refine⟨by omega,b/2,by rw[Ng (by omega)];exact A6 (by omega) (by omega),?_⟩;refine G0 ?_;(exact⟨none,trivial,fun _=>⟨⟨(r,b/2),Aai hr hb (Axh h0 hm (by omega))⟩,by show(b/2).toNat<b.toNat;omega,tI,tI,tI,tI⟩⟩)
 ·have hb:¬0<b:=(by have:=ZW h1;omega);refine G0 ?_;rw[show V.v (Value.int .i64 (rt n))=V.v (Value.int .i64 r)by rw[←Ahe h0 hr (by omega)]];(exact⟨[],aI⟩)
theorem L4{p:Pc}:p.okb=true↔(-10000000≤p.x∧p.x≤10000000)∧(-10000000≤p.y∧p.y≤10000000)∧(-10000000≤p.z∧p.z≤10000000)∧(0≤p.h∧p.h≤1000000)∧(0≤p.s∧p.s≤1000):=Q7
theorem Anr(a b:Pc)(ha:a.okb=true)(hb:b.okb=true):Fun Tryz.prog 134 [.c (.agg a.row),.c (.agg b.row)] [.c (.v (.int .i64 (a.flat b)))]:=by
 obtain⟨⟨a1,a2⟩,⟨a3,a4⟩,⟨a5,a6⟩,_,_⟩:=L4.1 ha;obtain⟨⟨b1,b2⟩,⟨b3,b4⟩,⟨b5,b6⟩,_,_⟩:=L4.1 hb;have q1:=J8 a1 a2 b1 b2;have q2:=J8 a3 a4 b3 b4;have q3:=J8 a5 a6 b5 b6;refine Ar Aaf rfl ?_;(refine goI ?_;repeat (intro gg;refine goI ?_));(refine .inl ⟨_,_,false,[],aI,Art ((a.x-b.x)*(a.x-b.x)+(a.y-b.y)*(a.y-b.y)+(a.z-b.z)*(a.z-b.z)) (by omega) (by omega),Ab,nI,?_⟩);refine G1 ?_;intro gg;(exact⟨[],aI⟩)
theorem Ag9(a b:Pc)(ha:a.okb=true)(hb:b.okb=true):Fun Tryz.prog 128 [.c (.agg a.row),.c (.agg b.row)] [.c (.v (.int .i64 (a.flat b)))]:=by
 obtain⟨⟨a1,a2⟩,⟨a3,a4⟩,⟨a5,a6⟩,_,_⟩:=L4.1 ha;obtain⟨⟨b1,b2⟩,⟨b3,b4⟩,⟨b5,b6⟩,_,_⟩:=L4.1 hb;have q1:=J8 a1 a2 b1 b2;have q2:=J8 a3 a4 b3 b4;have q3:=J8 a5 a6 b5 b6;refine Ar Pr rfl ?_;(refine goI ?_;repeat (intro gg;refine goI ?_));(refine .inl ⟨_,_,false,[],aI,Ap8 ((a.x-b.x)*(a.x-b.x)+(a.y-b.y)*(a.y-b.y)+(a.z-b.z)*(a.z-b.z)) (by omega) (by omega),Ab,nI,?_⟩);refine G1 ?_;intro gg;(exact⟨[],aI⟩)
theorem Al0(a b:Pc)(ha:a.okb=true)(hb:b.okb=true):Fun Tryz.prog 121 [.c (.agg a.row),.c (.agg b.row)] [.c (.v (.int .i64 (a.far b)))]:=by
 obtain⟨_,_,_,⟨a7,a8⟩,_⟩:=L4.1 ha;obtain⟨_,_,_,⟨b7,b8⟩,_⟩:=L4.1 hb;obtain⟨f1,f2⟩:=(Ajf ha hb).1;refine Ar Yd rfl ?_;(refine goI ?_;repeat (intro gg;refine goI ?_));(refine⟨_,_,false,aI,Anr a b ha hb,Ab,nI,?_⟩);refine G1 ?_;intro gg;(exact⟨[],aI⟩)
theorem Apk(a b:Pc)(ha:a.okb=true)(hb:b.okb=true):Fun Tryz.prog 102 [.c (.agg a.row),.c (.agg b.row)] [.c (.v (.int .i64 (a.far b)))]:=by
 obtain⟨_,_,_,⟨a7,a8⟩,_⟩:=L4.1 ha;obtain⟨_,_,_,⟨b7,b8⟩,_⟩:=L4.1 hb;obtain⟨f1,f2⟩:=(Ajf ha hb).1;refine Ar Sr rfl ?_;(refine goI ?_;repeat (intro gg;refine goI ?_));(refine⟨_,_,false,aI,Ag9 a b ha hb,Ab,nI,?_⟩);refine G1 ?_;intro gg;(exact⟨[],aI⟩)
end Go.Proofs.YtbnocibpoghfhaaGreatDoor
