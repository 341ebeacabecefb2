/- Texts of this claim, joined. -/
import Derived.WalkKit
import Derived.Below
import Derived.WalkSmall
import Derived.Test.YtchbkgnobpejnaaGreatDoorRows
import Derived.Lib.Strings
import Derived.Lib.Slices
import Derived.Lib.Walk
import Derived.Lib.Bytealg
import Derived.ProofKit
import Derived.OpenShut
import Derived.ChangeSame
import Derived.Test.YtchbkgnobpejnaaGreatDoorYAbsG
import Derived.Deep.Slices
import Derived.Deep.Fields
import Derived.Lib.SmallJoins
import Derived.Test.YtchbkgnobpejnaaGreatDoorYAbsQ
import Derived.Test.YtchbkgnobpejnaaGreatDoorProg
import Derived.KernelRfl
set_option linter.unusedSimpArgs false
set_option linter.unusedVariables false
namespace Go.Proofs.YtchbkgnobpejnaaGreatDoor
open Go.RowKit
theorem hid{p:Prop}(h:p):Hid p:=h
theorem Pr{k:IntKind}{a b:Int}(h:a=b):Ending.returned (.int k a)=.returned (.int k b):=by rw[h]
theorem Jv{a b:Bool}(h:a=b):Ending.returned (.bool a)=.returned (.bool b):=by rw[h]
theorem Jf{α:Type}{enc:α→List Value}{sz:Nat}(hs:∀x,(enc x).length=sz):∀l:List α,(l.flatMap enc).length=l.length*sz
 |[]=>by simp
 |x::r=>by rw[List.flatMap_cons,ZF,hs,Jf hs r,ZJ,Nat.add_mul];omega
theorem R7{α:Type}{enc:α→List Value}{sz:Nat}(hs:∀x,(enc x).length=sz):∀{l:List α} (i j:Nat) (hi:i<l.length) (hj:j<sz),(l.flatMap enc)[i*sz+j]? =(enc l[i])[j]?
 |x::r,0,j,_,hj=>by
  rw[List.flatMap_cons,Nat.zero_mul,Nat.zero_add,ZQ (by rw[hs];exact hj)];rfl
 |x::r,i+1,j,hi,hj=>by
  rw[List.flatMap_cons,ZP (by rw[hs,Nat.add_mul];omega),hs,show(i+1)*sz+j-sz=i*sz+j by rw[Nat.add_mul];omega];exact R7 hs i j (by simpa using hi) hj
def Blk(w:World)(g:Nat)(t:TypeId)(cs:Array Value):Prop:=w.heap[g]? =some (.cells cs t (0,0))
section
variable {w w':World} {g:Nat} {t:TypeId} {cs:Array Value}
theorem Blk.lt(h:Blk w g t cs):g<w.heap.size:=by
 rcases Nat.lt_or_ge g w.heap.size with hlt|hge
 ·exact hlt
 ·unfold Blk at h;rw[Array.getElem?_eq_none hge]at h;cases h
theorem Blk.cell(h:Blk w g t cs)(i:Nat):w.cell? ⟨g,i,none⟩=cs[i]? :=by
 unfold Blk at h;simp[World.cell?,h]
theorem Blk.frozen(h:Blk w g t cs)(i:Nat):w.frozen? ⟨g,i,none⟩=false:=by
 unfold Blk at h;simp[World.frozen?,h]
theorem Blk.new(w:World)(t:TypeId)(cs:Array Value):Blk (w.alloc (.cells cs t)) w.heap.size t cs:=heap_alloc_new w _
theorem Blk.new_(w:World)(t:TypeId)(cs:Array Value){g:Nat}(h:g=w.heap.size):Blk (w.alloc (.cells cs t)) g t cs:=h▸heap_alloc_new w _
theorem Blk.drew(h:Blk w g t cs):Blk w.drew g t cs:=h
theorem Blk.alloc(h:Blk w g t cs)(o:Obj):Blk (w.alloc o) g t cs:=(Below.heap_alloc w o g h.lt).trans h
theorem Blk.set_(h:Blk w g t cs)(i:Nat)(u:Value):Blk (w.setCell ⟨g,i,none⟩ u) g t (cs.setIfInBounds i u):=by
 unfold Blk at h ⊢;simp[World.setCell,Array.getElem?_modify,h]
theorem Blk.far(h:Blk w g t cs){p:Addr}(hp:g≠p.block)(u:Value):Blk (w.setCell p u) g t cs:=(Below.heap_setCell w p u g hp).trans h
theorem Blk.grown{row:Option Nat}(h:Blk w g t cs)(hb:w.grownBy w' row)(hg:some g≠row):Blk w' g t cs:=(hb.block g h.lt hg).trans h
end
open Go
set_option maxHeartbeats 1000000 in
set_option maxRecDepth 100000 in
theorem Yr(s:ByteArray)(c:Int)(w:World):
  Calls Tryz.prog 231 #[.string s,.int .u8 c] w fun e w'=>e=.returned (.int .i64 (Lib.indexByte s.data.toList c.toNat.toUInt8))∧w'=w:=by
 go_enter Tryz.func231,Tryz.ntmps231
 go_wp2
 rw[run_callFunc_extern Tryz.func260 (by kernel_rfl) (by kernel_rfl) (by kernel_rfl) (e:=Extern.BytealgIndexByte.indexByte) (by kernel_rfl),Lib.run_indexByteString];simp only[Result.andThen];rw[Oper.upon_value]
 go_wp2
 go_ret
 exact⟨rfl,rfl⟩
set_option maxHeartbeats 2000000 in
set_option maxRecDepth 100000 in
theorem Yu(s:ByteArray)(c:UInt8)(w:World):
  Calls Tryz.prog 194 #[.string s,.string ⟨#[c]⟩] w fun e w'=>e=.returned (.int .i64 (Lib.indexByte s.data.toList c))∧w'=w:=by
 go_enter Tryz.func194,Tryz.ntmps194
 go_wp2_with (go_at_call 231;refine(Yr _ _ _).mono ?_;rintro e w' ⟨rfl,rfl⟩)
 ·have h:([c]==s.toList)=true:=by assumption
  go_ret
  refine⟨?_,rfl⟩;have e:s.data.toList=[c]:=by rw[←Lib.toList_data];exact(ZR.1 h).symm
  rw[e];simp[Lib.indexByte]
 ·go_ret
  exact⟨rfl,rfl⟩
namespace Pl
theorem Zr:∀x:List UInt8,Op.bytesLess x x=false
 |[]=>rfl
 |a::x=>by simp[Op.bytesLess,Zr x,UInt8.lt_irrefl]
theorem Adf:∀{x y z:List UInt8},Op.bytesLess x y=true→Op.bytesLess y z=true→Op.bytesLess x z=true
 |[],_::_,[],_,h=>by simp[Op.bytesLess]at h
 |_,[],_,h,_=>by cases ‹List UInt8› <;>simp[Op.bytesLess]at h
 |[],b::y,c::z,_,_=>rfl
 |a::x,b::y,[],_,h=>by simp[Op.bytesLess]at h
 |a::x,b::y,c::z,h1,h2=>by
  simp only[Op.bytesLess,Bool.or_eq_true,decide_eq_true_eq,ZO,ZR]at h1 h2 ⊢;rcases h1 with h1|⟨rfl,h1⟩
  ·rcases h2 with h2|⟨rfl,h2⟩
   ·exact .inl (UInt8.lt_trans h1 h2)
   ·exact .inl h1
  ·rcases h2 with h2|⟨rfl,h2⟩
   ·exact .inl h2
   ·exact .inr ⟨rfl,Adf h1 h2⟩
theorem Akr:∀{x y:List UInt8},Op.bytesLess x y=false→Op.bytesLess y x=false→x=y
 |[],[],_,_=>rfl
 |[],b::y,h,_=>by simp[Op.bytesLess]at h
 |a::x,[],_,h=>by simp[Op.bytesLess]at h
 |a::x,b::y,h1,h2=>by
  simp only[Op.bytesLess,Bool.or_eq_false_iff,decide_eq_false_iff_not,Bool.and_eq_false_iff]at h1 h2;have hab:a=b:=by
   have g1:¬a.toNat<b.toNat:=h1.1;have g2:¬b.toNat<a.toNat:=h2.1;exact UInt8.toNat_inj.1 (by omega)
  subst hab;have e1:Op.bytesLess x y=false:=by rcases h1.2 with h|h<;>simp_all
  have e2:Op.bytesLess y x=false:=by rcases h2.2 with h|h<;>simp_all
  rw[Akr e1 e2]
def slt(a b:ByteArray):Bool:=Op.bytesLess a.toList b.toList
theorem toList_inj{a b:ByteArray}(h:a.toList=b.toList):a=b:=by
 rw[ByteArray.toList_eq,ByteArray.toList_eq]at h;cases a;cases b;congr;exact Array.toList_inj.1 h
theorem Fx(a:ByteArray):slt a a=false:=Zr _
theorem Ta{a b c:ByteArray}(h1:slt a b=true)(h2:slt b c=true):slt a c=true:=Adf h1 h2
theorem Ab4{a b:ByteArray}(h1:slt a b=false)(h2:slt b a=false):a=b:=toList_inj (Akr h1 h2)
theorem Zf{a b:ByteArray}(h1:slt a b=true):slt b a=false:=by
 rcases Bool.eq_false_or_eq_true (slt b a)with h|h
 ·have:=Ta h1 h;rw[Fx]at this;cases this
 ·exact h
theorem Vj{a b:ByteArray}:(a.toList==b.toList)=true↔a=b:=by
 rw[ZR];exact⟨toList_inj,fun h=>by rw[h]⟩
theorem Aay{a b:ByteArray}(h:a≠b):(a.toList==b.toList)=false:=by
 rcases Bool.eq_false_or_eq_true (a.toList==b.toList)with g|g
 ·exact absurd (Vj.1 g) h
 ·exact g
theorem Tm(a b:ByteArray):(Op.bytesLess a.toList b.toList||a.toList==b.toList)= !(slt b a):=by
 rcases Bool.eq_false_or_eq_true (slt b a)with h|h
 ·rw[h];have h1:=Zf h;unfold slt at h1;rw[h1,Aay (fun e=>by subst e;rw[Fx]at h;cases h)];rfl
 ·rw[h];rcases Bool.eq_false_or_eq_true (slt a b)with g|g
  ·unfold slt at g;rw[g];rfl
  ·have:=Ab4 g h;subst this;simp
end Pl
namespace Pl
def ixb(r:ByteArray)(c:UInt8):Int:=Lib.indexByte r.data.toList c
end Pl
section
open Go.ChangeShapes Go.WideShapes Go.ChangeAt
section
variable {H:Type} {enc:TypeId×Value→H} {P:Program}
theorem P9(hl:laidOutB P=true){W W':World}{B:Nat}(hb:Below B W W')(sp:Nat→Bool):
  ∀{ts:List TypeId} {vs:List Value} {ds:List (DataW H)} {p:List MemPlace},(∀t∈ts,P.readableRec t=true∧t<P.types.size)→
   DataW.TrodAll enc P W 0 (fun _=>true) true ts vs ds p→(∀x∈p,sp x.block=true)→(∀x∈p,x.block<B)→B=W.heap.size→DataW.TrodAll enc P W' 0 sp true ts vs ds p
 |[],_,_,_,_,h,_,_,_=>by
  obtain⟨rfl,rfl,rfl⟩:=trodAll_nil h;exact trodAll_mk0
 |t::ts,_,_,_,ht,h,hs,hlt,hB=>by
  obtain⟨v,vs1,d,ds1,a,b,rfl,rfl,rfl,h1,h2⟩:=trodAll_cons h;obtain⟨hr,hrow⟩:=ht t (by simp);subst hB;refine⟨a,b,WideElems.Trod_stays hl hr hrow h1 (fun x hx=>hb.same (hlt x (by simp[hx]))) (fun x hx=>hs x (by simp[hx])),?_,rfl⟩;exact P9 hl hb sp (fun t h=>ht t (by simp[h])) h2 (fun x hx=>hs x (by simp[hx])) (fun x hx=>hlt x (by simp[hx])) rfl
theorem Al5{f:Func}{s:ChangeSpec}{apart fresh handsOn again:Bool}{W W':World}{args:Array Value}{ds gs:List (DataW H)}{before:List MemPlace}{tb:TypeId}(hW:DataW.Whole enc P f.params.toList s.vars apart W args.toList ds gs before)(hl:laidOutB P=true)(hr:∀t∈f.params.toList,P.readableRec t=true∧t<P.types.size)(hv:s.vars=[])(hf:s.fn H (ds++gs)={results:=[.lit (.bool true)],args:=ds})(hres:f.resultTypes= #[tb])(hbool:P.underlying tb=some .bool)(hb:Below W.heap.size W W'):s.post enc P f apart fresh handsOn again W args (.bool true) W':=by
 have hW0:=hW;have hlt:∀p∈before,p.block<W.heap.size:=fun p hp=>hW.lt p hp;obtain⟨p,q,hA,hV,rfl,hz,hn⟩:=hW;rw[hv]at hV;obtain⟨rfl,rfl⟩:=trodVars_none hV;simp only[List.append_nil]at *;have hst:∀sp:Nat→Bool,(∀x∈p,sp x.block=true)→DataW.TrodAll enc P W' 0 sp true f.params.toList args.toList ds p:=fun sp hs=>P9 hl hb sp hr hA hs hlt rfl;have hold:∀x∈p,(fun b=>decide (b<W.heap.size)) x.block=true:=fun x hx=>by simpa using hlt x hx
 have hR:∀(b:Nat) (sp:Nat→Bool) (hd:Bool),DataW.TrodAll enc P W' b sp hd f.resultTypes.toList ((Value.bool true).resultList f.resultTypes.size) [.lit (.bool true)] []:=fun b sp hd=>by
  rw[hres];exact trodAll_cons_mk (shut_bool hbool _) trodAll_mk0
 refine⟨ds,[],p,[],p,[],hW0,?_,?_,?_,?_,fun _=>?_⟩
 ·rw[List.append_nil,hf];exact hR _ _ _
 ·rw[List.append_nil,hf];exact hst _ hold
 ·rw[List.append_nil,hv,hf];rfl
 ·exact World.keptBut_mono (fun x hx=>⟨hx,by simp[hx]⟩) (hb.frame (·∈p))
 ·obtain⟨_,_,_,_,_,hz',hn'⟩:=hW0;refine⟨ok_one hres rfl (okWide_bool_mk hbool _),_,[],([]++p)++[],⟨[]++p,[],trodAll_append (hst _ (fun _ _=>rfl)) (hR _ _ _),?_,rfl,?_,?_⟩,?_⟩
  ·rw[hv];rfl
  ·intro b off hp;rw[hb.frozen (hlt _ (by simpa using hp))];exact hz b off (by simpa using hp)
  ·intro ha;simpa using hn ha
  ·intro x hx _;simpa using hx
end
end
section
open Go.Joins Go.ChangeShapes Go.WideShapes Go.Deep
inductive Ty where
 |i
 |s
 |b
 |l (row:List Ty)
inductive T5:Ty→V→Prop where
 |i (n:Int) (h1: -9223372036854775808≤n) (h2:n≤9223372036854775807):T5 .i (.v (.int .i64 n))
 |s (x:ByteArray) (h:x.size≤9223372036854775807):T5 .s (.v (.string x))
 |b (x:Bool):T5 .b (.v (.bool x))
 |l (tys:List Ty) (rows:List (List V)) (hl:rows.length≤9223372036854775807) (hr:∀row∈rows,tys.length=row.length) (h:∀row∈rows,∀(j:Nat) (t:Ty) (u:V),tys[j]? =some t→row[j]? =some u→T5 t u):T5 (.l tys) (.sl false rows)
def Ov(tys:List Ty)(us:List V):Prop:=tys.length=us.length∧∀(j:Nat) (t:Ty) (u:V),tys[j]? =some t→us[j]? =some u→T5 t u
def Amq(P:Program)(rc:TypeId→Option (List Ty)):List Field→Nat→Option (List Ty)
 |[],_=>some []
 |f::fs,off=>match rc f.type with
  |some ts=>if f.offset==off&&P.cellsOf f.type==ts.length then(match Amq P rc fs (off+ts.length)with
   |some r=>some (ts++r)
   |none=>none)else none
  |none=>none
def Af2(P:Program):Nat→TypeId→Option (List Ty)
 |0,_=>none
 |d+1,t=>match P.underlying t with
  |some (.int .i64)=>some [.i]
  |some .string=>some [.s]
  |some .bool=>some [.b]
  |some (.struct fs)=>match Amq P (Af2 P d) fs.toList 0 with
   |some ts=>if P.cellsOf t==ts.length then some ts else none
   |none=>none
  |some (.slice e)=>match Af2 P d e with
   |some ts=>if P.cellsOf e==ts.length&&0<ts.length then some [.l ts]else none
   |none=>none
  |_=>none
section
variable {H:Type} {enc:TypeId×Value→H} {P:Program} {w:World} {base:Nat} {spare:Nat→Bool} {held:Bool}
def Qd(w:World)(tys:List Ty)(cs:List Value)(us:List V):Prop:=
 Ov tys us∧cs.length=us.length∧∀(j:Nat) (u:V) (x:Value),us[j]? =some u→cs[j]? =some x→RV w (fun b=>b<w.heap.size) noG u x
theorem Qd.app{t1 t2:List Ty}{c1 c2:List Value}{u1 u2:List V}(h1:Qd w t1 c1 u1)(h2:Qd w t2 c2 u2):Qd w (t1++t2) (c1++c2) (u1++u2):=by
 obtain⟨⟨a1,a2⟩,a3,a4⟩:=h1;obtain⟨⟨b1,b2⟩,b3,b4⟩:=h2;refine⟨⟨by simp[a1,b1],fun j t u g1 g2=>?_⟩,by simp[a3,b3],fun j u x g1 g2=>?_⟩
 ·by_cases hj:j<t1.length
  ·rw[ZQ hj]at g1;rw[ZQ (by omega)]at g2;exact a2 j t u g1 g2
  ·rw[ZP (by omega)]at g1 g2;rw[←a1]at g2;exact b2 _ t u g1 g2
 ·by_cases hj:j<u1.length
  ·rw[ZQ hj]at g1;rw[ZQ (by omega)]at g2;exact a4 j u x g1 g2
  ·rw[ZP (by omega)]at g1 g2;rw[a3]at g2;exact b4 _ u x g1 g2
theorem L4{t:Ty}{x:Value}{u:V}(h:T5 t u)(hr:RV w (fun b=>b<w.heap.size) noG u x):Qd w [t] [x] [u]:=by
 refine⟨⟨rfl,fun j t' u' g1 g2=>?_⟩,rfl,fun j u' x' g1 g2=>?_⟩
 ·cases j with
  |zero=>simp at g1 g2;subst g1 g2;exact h
  |succ j=>simp at g1
 ·cases j with
  |zero=>simp at g1 g2;subst g1 g2;exact hr
  |succ j=>simp at g1
theorem Acv(a:Addr)(n:Nat)(h:a.spot=none):a.add n=⟨a.block,a.off+n,none⟩:=by
 obtain⟨b,o,sp⟩:=a;simp only at h;subst h;unfold Addr.add;split<;>simp_all
end
theorem Au{t:Ty}{ts:List Ty}{us:List V}(h:Ov (t::ts) us):∃u us',us=u::us'∧T5 t u∧Ov ts us':=by
 obtain⟨h1,h2⟩:=h
 match us,h1 with
 |u::us',h1=>exact⟨u,us',rfl,h2 0 _ _ rfl rfl,by simpa using h1,fun j t' u' g1 g2=>h2 (j+1) t' u' (by simpa using g1) (by simpa using g2)⟩
theorem Ig{us:List V}(h:Ov [] us):us=[]:=XR h.1.symm
theorem Ey{u:V}(h:T5 .i u):∃n:Int,u=.v (.int .i64 n)∧-9223372036854775808≤n∧n≤9223372036854775807:=by cases h with|i n h1 h2=>exact⟨n,rfl,h1,h2⟩
theorem Ou{u:V}(h:T5 .s u):∃x:ByteArray,u=.v (.string x)∧x.size≤9223372036854775807:=by cases h with|s x h=>exact⟨x,rfl,h⟩
theorem Ag5{u:V}(h:T5 .b u):∃x:Bool,u=.v (.bool x):=by cases h with|b x=>exact⟨x,rfl⟩
theorem Au2{tys:List Ty}{u:V}(h:T5 (.l tys) u):∃rows,u=.sl false rows∧rows.length≤9223372036854775807∧∀row∈rows,Ov tys row:=by
 cases h with|l tys rows hl hr h=>exact⟨rows,rfl,hl,fun row hm=>⟨hr row hm,h row hm⟩⟩
theorem Aci{α:Type}{enc:α→List V}{p:α→Prop}{tys:List Ty}(hd:∀row,Ov tys row→∃x:α,row=enc x∧p x):∀(rows:List (List V)),(∀row∈rows,Ov tys row)→∃l:List α,rows=l.map enc∧∀x∈l,p x
 |[],_=>⟨[],rfl,by simp⟩
 |row::rows,h=>by
  obtain⟨x,hx,px⟩:=hd row (h row (by simp));obtain⟨l,hl,pl⟩:=Aci hd rows fun r hr=>h r (by simp[hr]);exact⟨x::l,by simp[hx,hl],by simpa using⟨px,pl⟩⟩
theorem J4{α:Type}{enc:α→List V}{p:α→Prop}{tys:List Ty}{u:V}(hd:∀row,Ov tys row→∃x:α,row=enc x∧p x)(h:T5 (.l tys) u):∃l:List α,u=.sl false (l.map enc)∧l.length≤9223372036854775807∧∀x∈l,p x:=by
 obtain⟨rows,rfl,hl,hr⟩:=Au2 h;obtain⟨l,rfl,hp⟩:=Aci hd rows hr;exact⟨l,rfl,by simpa using hl,hp⟩
theorem Alf{w:World}{R:Nat→Prop}:∀{xs ys:List Value},M3 w R (xs.map fun x=>.c (.v x)) ys→ys=xs
 |xs,ys,h=>by
  apply List.ext_getElem?;intro i;have hl:=h.len;rw[ZE]at hl;by_cases hi:i<xs.length
  ·have h1:xs[i]? =some xs[i]:=ZC hi;have h2:ys[i]? =some (ys[i]'(by omega)):=ZC (by omega);have h3:O4 w R (.c (.v xs[i])) (ys[i]'(by omega)):=h.ok i _ _ (by rw[XJ,h1];rfl) h2;have h4:RV w R noG (.v xs[i]) (ys[i]'(by omega)):=h3;rw[h1,h2,Cd h4]
  ·rw[XK (by omega),XK (by omega)]
theorem Fi{ps:List Par}{xs:List Value}{b:Nat}(h:∀p∈ps,∃u,p=.c u):¬A4 ps xs b:=by
 rintro ⟨i,T,sz,rows,x,h1,_⟩
 obtain⟨u,hu⟩:=h _ (ZH h1);cases hu
theorem Cn{L:Nat→Prop}{w w':World}(h:Below w.heap.size w w'):Fr L w w':=⟨h.os,h.tape,h.output,h.size,fun k hk _=>h.block k hk⟩
theorem Ze[Glob]{P:Program}{f:FuncId}{xs:List Value}{v:Value}(hc:Ds P f)(h:∀(w:World) (L:Nat→Prop),Cc w L→Calls P f xs.toArray w fun e w'=>e=.returned v∧Below w.heap.size w w'):Fun P f (xs.map fun x=>.c (.v x)) [.c (.v v)]:=by
 refine⟨hc,fun w R ys hlt hp hg=>?_⟩;obtain rfl:=Alf hp;refine(h w _ hg).mono fun e w' ⟨he,hb⟩=>⟨[v],R,by rw[he];rfl,Cn hb,fun _ h=>h,fun b h=>.inl h,⟨rfl,?_,?_,?_⟩,?_⟩
 ·intro i p x h1 h2;cases i with
  |zero=>simp at h1 h2;subst h1 h2;exact .v _
  |succ i=>simp at h1
 ·intro i j T sz rows T' sz' rows' x y b _ h1;cases i with
  |zero=>simp at h1
  |succ i=>simp at h1
 ·intro b hb';exact absurd hb' (Fi (by simp))
 ·intro b hb';exact absurd hb' (Fi (by simp))
theorem Pi[Glob]{P:Program}{f:FuncId}{xs:List Value}{v:Value}(hc:Ds P f)(h:∀w,Calls P f xs.toArray w fun e w'=>e=.returned v∧Below w.heap.size w w'):Fun P f (xs.map fun x=>.c (.v x)) [.c (.v v)]:=Ze hc fun w _ _=>h w
theorem Df {P : Program} {f : FuncId} {fn : Func} (h1 : P.funcs[f]? = some fn) (h2 : (fn.name == "runtime.NumGoroutine") = false) (h3 : fn.body.isNone = false) : Ds P f := ⟨fn, h1, h2, h3⟩
theorem Aub[Glob]{P:Program}{f:FuncId}{ps:List Par}{xs:List Value}{v:Value}{w:World}(hF:Fun P f ps [.c (.v v)])(hc:∀p∈ps,∃u,p=.c u)(hl:ps.length=xs.length)(hp:∀(i:Nat) (u:V) (x:Value),ps[i]? =some (.c u)→xs[i]? =some x→RV w (fun b=>b<w.heap.size) noG u x)(hg:Cc w (fun _=>False):=by exact fun _ _ h=>nomatch h):Calls P f xs.toArray w fun e w'=>e=.returned v∧Below w.heap.size w w':=by
 refine(hF.2 w (fun b=>b<w.heap.size) xs (fun _ h=>h) ⟨hl,?_,?_,?_⟩ (fun b o q=>⟨(hg b o q).1,Fi hc⟩)).mono ?_
 ·intro i p x h1 h2;obtain⟨u,rfl⟩:=hc p (ZH h1);exact hp i u x h1 h2
 ·intro i j T sz rows T' sz' rows' x y b _ h1;obtain⟨u,hu⟩:=hc _ (ZH h1);cases hu
 ·intro b hb;exact absurd hb (Fi hc)
 ·rintro e w' ⟨ys,R',rfl,hfr,_,_,hpr,_⟩
  have hy:ys.length=1:=hpr.len.symm
  match ys,hy with
  |[y],_=>
   have:RV w' R' noG (.v v) y:=hpr.ok 0 _ y rfl rfl;obtain rfl:=Cd this;exact⟨rfl,hfr.os,hfr.tape,hfr.output,hfr.size,fun k hk=>hfr.block k hk (Fi hc)⟩
def RVL(w:World):List V→List Value→Prop
 |[],[]=>True
 |u::us,x::xs=>RV w (fun b=>b<w.heap.size) noG u x∧RVL w us xs
 |_,_=>False
theorem Ahk{w:World}:∀{us:List V} {xs:List Value},RVL w us xs→us.length=xs.length
 |[],[],_=>rfl
 |u::us,x::xs,h=>by simp[Ahk h.2]
 |[],_::_,h=>h.elim
 |_::_,[],h=>h.elim
theorem Aly{w:World}:∀{us:List V} {xs:List Value},RVL w us xs→∀(i:Nat) (u:V) (x:Value),us[i]? =some u→xs[i]? =some x→RV w (fun b=>b<w.heap.size) noG u x
 |[],[],_,i,u,x,h1,_=>by simp at h1
 |u'::us,x'::xs,h,0,u,x,h1,h2=>by simp at h1 h2;subst h1 h2;exact h.1
 |u'::us,x'::xs,h,i+1,u,x,h1,h2=>Aly h.2 i u x (by simpa using h1) (by simpa using h2)
 |[],_::_,h,_,_,_,_,_=>h.elim
 |_::_,[],h,_,_,_,_,_=>h.elim
theorem Auf[Glob]{P:Program}{f:FuncId}{us:List V}{xs:List Value}{v:Value}{w:World}(hF:Fun P f (us.map .c) [.c (.v v)])(h:RVL w us xs)(hg:Cc w (fun _=>False):=by exact fun _ _ h=>nomatch h):Calls P f xs.toArray w fun e w'=>e=.returned v∧Below w.heap.size w w':=
 Aub hF (by simp) (by rw[ZE];exact Ahk h) (fun i u x h1 h2=>by
  rw[XJ]at h1;cases hq:us[i]? with
  |none=>rw[hq]at h1;cases h1
  |some u'=>rw[hq]at h1;simp at h1;subst h1;exact Aly h i u' x hq h2) hg
end
namespace Pl
def wi(n a b:Int):Bool:=decide (a≤n)&&decide (n≤b)
theorem Fv{n a b:Int}:wi n a b=true↔a≤n∧n≤b:=by simp[wi]
theorem At6{n a b:Int}:wi n a b=false↔¬(a≤n∧n≤b):=by rw[←Fv];simp
def Ajz(x y z h s:Int):Bool:=wi x (-10000000) 10000000&&wi y (-10000000) 10000000&&wi z (-10000000) 10000000&&wi h 0 1000000&&wi s 0 1000
def Afu(x y z h s:Int):Int:=if Ajz x y z h s then 0 else 3
end Pl
namespace Pl
def Fk(a b:ByteArray):Int:=if slt a b then -1 else if slt b a then 1 else 0
theorem Amz{a b:ByteArray}(h:slt a b=true):Fk a b= -1:=by simp[Fk,h]
theorem Aob{a b:ByteArray}(h:slt b a=true):Fk a b=1:=by simp[Fk,Zf h,h]
theorem Vn(a:ByteArray):Fk a a=0:=by simp[Fk,Fx]
theorem Q7{a b:ByteArray}:Fk a b<0↔slt a b=true:=by
 unfold Fk;split
 ·simp_all
 ·split<;>simp_all
theorem I5{a b:ByteArray}:Fk a b=0↔a=b:=by
 unfold Fk;split
 ·rename_i h;exact⟨fun e=>by omega,fun e=>by subst e;rw[Fx]at h;cases h⟩
 ·split
  ·rename_i h;exact⟨fun e=>by omega,fun e=>by subst e;rw[Fx]at h;cases h⟩
  ·rename_i h1 h2;exact⟨fun _=>Ab4 (by simpa using h1) (by simpa using h2),fun _=>rfl⟩
section
variable {α:Type} {cf:α→Int} {l:List α}
def low(cf:α→Int):List α→Nat
 |[]=>0
 |x::r=>if cf x<0 then low cf r+1 else 0
def Aqq(cf:α→Int)(l:List α):Prop:=∀i j,(hi:i<l.length)→(hj:j<l.length)→i≤j→cf l[j]<0→cf l[i]<0
theorem Alx:∀l:List α,low cf l≤l.length
 |[]=>ZT _
 |x::r=>by simp only[low,ZJ];split<;>have:=Alx r<;>omega
theorem Yf:∀{l:List α} {i:Nat} (hi:i<l.length),i<low cf l→cf l[i]<0
 |x::r,0,_,h=>by
  simp only[low]at h;split at h
  ·assumption
  ·omega
 |x::r,i+1,hi,h=>by
  simp only[low]at h;split at h
  ·exact Yf (l:=r) (by simpa using hi) (by omega)
  ·omega
theorem Afy:∀{l:List α} (h:low cf l<l.length),0≤cf l[low cf l]
 |[],h=>by simp at h
 |x::r,h=>by
  by_cases hx:cf x<0
  ·have e:low cf (x::r)=low cf r+1:=by simp[low,hx]
   have h':low cf r<r.length:=by rw[e]at h;simpa using h
   have:=Afy h';simp only[e,List.getElem_cons_succ];exact this
  ·have e:low cf (x::r)=0:=by simp[low,hx]
   simp only[e,List.getElem_cons_zero];omega
theorem Aki{a:Nat}(ha:a≤l.length)(h1:∀i,(hi:i<l.length)→i<a→cf l[i]<0)(h2:∀i,(hi:i<l.length)→a≤i→0≤cf l[i]):a=low cf l:=by
 have hl:=Alx (cf:=cf) l;rcases Nat.lt_trichotomy a (low cf l)with h|h|h
 ·have:=Yf (cf:=cf) (l:=l) (i:=a) (by omega) h;have:=h2 a (by omega) (ZT _);omega
 ·exact h
 ·have:=Afy (cf:=cf) (l:=l) (by omega);have:=h1 (low cf l) (by omega) h;omega
def hit(cf:α→Int)(l:List α):Bool:=match l[low cf l]? with
 |some x=>decide (cf x=0)
 |none=>false
theorem Afl(h:low cf l<l.length):hit cf l=decide (cf l[low cf l]=0):=by simp[hit,h]
theorem Ahd(h:¬low cf l<l.length):hit cf l=false:=by
 have:l[low cf l]? =none:=XK (by omega);simp[hit,this]
end
end Pl
namespace Pl
section
variable {α:Type}
def Ad(e:α→Int):List α→Int
 |[]=>0
 |x::r=>if e x=0 then Ad e r else e x
def Co(lt:α→α→Bool):List α→Bool
 |[]=>true
 |[_]=>true
 |x::y::r=>lt x y&&Co lt (y::r)
def ckL(mx:Nat)(e:α→Int)(lt:α→α→Bool)(l:List α):Int:=
 if mx<l.length then 2 else if Ad e l=0 then(if Co lt l then 0 else 4)else Ad e l
theorem A8{e:α→Int}:∀{l:List α},(∀i,(h:i<l.length)→e l[i]=0)→Ad e l=0
 |[],_=>rfl
 |x::r,h=>by
  have h0:e x=0:=h 0 (by simp);simp only[Ad,h0,if_true];exact A8 fun i hi=>h (i+1) (by simpa using hi)
theorem Bb{e:α→Int}:∀{l:List α} {k:Nat} (hk:k<l.length),(∀i,(h:i<l.length)→i<k→e l[i]=0)→e l[k]≠0→Ad e l=e l[k]
 |x::r,0,_,_,hne=>by
  simp only[List.getElem_cons_zero]at hne ⊢;simp[Ad,hne]
 |x::r,k+1,hk,h,hne=>by
  have h0:e x=0:=h 0 (by simp) (by omega);simp only[Ad,h0,if_true,List.getElem_cons_succ]at hne ⊢;exact Bb (by simpa using hk) (fun i hi hik=>h (i+1) (by simpa using hi) (by omega)) hne
theorem Ef{lt:α→α→Bool}:∀{l:List α},(∀i,(h:i+1<l.length)→lt l[i] l[i+1]=true)→Co lt l=true
 |[],_=>rfl
 |[_],_=>rfl
 |x::y::r,h=>by
  simp only[Co,Bool.and_eq_true_iff];exact⟨h 0 (by simp),Ef fun i hi=>h (i+1) (by simpa using hi)⟩
theorem D8{lt:α→α→Bool}:∀{l:List α} {k:Nat} (hk:k+1<l.length),lt l[k] l[k+1]=false→Co lt l=false
 |[_],k,hk,_=>by simp at hk
 |x::y::r,0,_,h=>by
  simp only[List.getElem_cons_zero,List.getElem_cons_succ]at h;simp[Co,h]
 |x::y::r,k+1,hk,h=>by
  have:Co lt (y::r)=false:=D8 (k:=k) (by simpa using hk) (by simpa using h);simp[Co,this]
theorem Wj{lt:α→α→Bool}:∀{l:List α},Co lt l=true→∀i,(h:i+1<l.length)→lt l[i] l[i+1]=true
 |[],_,i,h=>by simp at h
 |[_],_,i,h=>by simp at h
 |x::y::r,hs,0,_=>by
  simp only[Co,Bool.and_eq_true_iff]at hs;exact hs.1
 |x::y::r,hs,i+1,h=>by
  simp only[Co,Bool.and_eq_true_iff]at hs;exact Wj hs.2 i (by simpa using h)
theorem Gx{e:α→Int}:∀{l:List α},Ad e l=0→∀i,(h:i<l.length)→e l[i]=0
 |[],_,i,h=>by simp at h
 |x::r,hs,i,h=>by
  by_cases h0:e x=0
  ·simp only[Ad,h0,if_true]at hs;cases i with
   |zero=>exact h0
   |succ i=>exact Gx hs i (by simpa using h)
  ·simp[Ad,h0]at hs
variable {mx:Nat} {e:α→Int} {lt:α→α→Bool} {l:List α}
theorem Ie(h:mx<l.length):ckL mx e lt l=2:=by simp[ckL,h]
theorem Abd(he:∀x,e x=0∨e x=1∨e x=3∨e x=7)(h:ckL mx e lt l=0):l.length≤mx∧(∀i,(hi:i<l.length)→e l[i]=0)∧Co lt l=true:=by
 unfold ckL at h;split at h
 ·omega
 ·split at h
  ·rename_i h1 h2;split at h
   ·rename_i h3;exact⟨by omega,Gx h2,h3⟩
   ·omega
  ·rename_i h1 h2;exact absurd h h2
end
end Pl
namespace Pl
section
variable {α:Type}
def at_(p:α→Bool)(l:List α):Int:=match l.findIdx? p with
 |some i=>(i:Int)
 |none=> -1
theorem Abj{p:α→Bool}{l:List α}{k:Nat}(hk:k<l.length)(h0:∀i,(h:i<l.length)→i<k→p l[i]=false)(h1:p l[k]=true):at_ p l=k:=by
 have:l.findIdx? p=some k:=by
  rw[List.findIdx?_eq_some_iff_getElem];exact⟨hk,h1,fun j hj=>by simp[h0 j (by omega) hj]⟩
 simp[at_,this]
theorem Agg{p:α→Bool}{l:List α}(h0:∀i,(h:i<l.length)→p l[i]=false):at_ p l= -1:=by
 have:l.findIdx? p=none:=by
  rw[List.findIdx?_eq_none_iff];intro x hx;obtain⟨i,hi,rfl⟩:=List.getElem_of_mem hx;exact h0 i hi
 simp[at_,this]
theorem Aph{p:α→Bool}{l:List α}:(at_ p l= -1∧∀i,(h:i<l.length)→p l[i]=false)∨∃k,∃hk:k<l.length,at_ p l=(k:Int)∧p l[k]=true∧∀i,(h:i<l.length)→i<k→p l[i]=false:=by
 cases h:l.findIdx? p with
 |none=>
  left;refine⟨by simp[at_,h],fun i hi=>?_⟩;rw[List.findIdx?_eq_none_iff]at h;exact h _ (ZK hi)
 |some k=>
  right;rw[List.findIdx?_eq_some_iff_getElem]at h;obtain⟨hk,h1,h2⟩:=h;refine⟨k,hk,?_,h1,fun i hi hik=>by simpa using h2 i hik⟩;have:l.findIdx? p=some k:=by
   rw[List.findIdx?_eq_some_iff_getElem];exact⟨hk,h1,h2⟩
  simp[at_,this]
end
end Pl
open Pl
theorem Rn{n:Int}(h1:0≤n)(h2:n≤18446744073709551615):IntKind.u64.wrap n=n:=IntWalk.u64_in n ⟨h1,h2⟩
theorem P0{n:Int}(h:0≤n):n.fdiv (2^(min (1:Int).toNat IntKind.u64.bits))=n/2:=by
 have e:(2:Int)^(min (1:Int).toNat IntKind.u64.bits)=2:=by decide
 rw[e,Int.fdiv_eq_ediv_of_nonneg _ (by decide)]
class FlatRow {α:Type} (enc:α→List V):Prop where
 flat:∀x,∀u∈enc x,∃v,u=.v v
theorem Am{α:Type}{f:α→List V}{l:List α}{k:Nat}(h:k<l.length):(l.map f)[k]? =some (f l[k]):=by simp[h]
theorem Apa{α:Type}{enc:α→List V}[hf:FlatRow enc]{x:α}:∀u∈enc x,Fl u:=fun u hu=>by
 obtain⟨v,rfl⟩:=hf.flat x u hu;exact Ak2 v
theorem Ao6{α:Type}{enc:α→List V}[FlatRow enc]{l:List α}:∀row∈l.map enc,∀u∈row,Fl u:=fun row hr u hu=>by
 obtain⟨x,_,rfl⟩:=XO.1 hr;exact Apa u hu
theorem B5{α:Type}{enc:α→List V}[FlatRow enc]{l:List α}:∀row∈l.map enc,∀u∈row,Cl u:=fun row hr u hu=>(Ao6 row hr u hu).cl
theorem Dj{α:Type}{enc:α→List V}[FlatRow enc]{c:Bool}{l:List α}:Cl (.sl c (l.map enc)):=Zq B5
theorem F3{c:Bool}:Cl (.sl c []):=Zq (by simp)
def vB:V→Bool
 |.v _=>true
 |_=>false
def vsB:List V→Bool
 |[]=>true
 |u::us=>bif vB u then vsB us else false
def clB:V→Bool
 |.v _=>true
 |.agg cs=>vsB cs
 |.tup cs=>vsB cs
 |.clo _ cs=>vsB cs
 |.sl false []=>true
 |_=>false
def Aec:List (List V)→Bool
 |[]=>true
 |r::rs=>bif vsB r then Aec rs else false
theorem Att{u:V}(h:vB u=true):Fl u:=by
 cases u<;>first|exact Ak2 _|cases h
theorem Yd:∀{us:List V},vsB us=true→∀u∈us,Fl u
 |[],_,u,hu=>by cases hu
 |v::us,h,u,hu=>by
  unfold vsB at h;cases hv:vB v with
  |false=>rw[hv]at h;cases h
  |true=>
   rw[hv]at h;rcases XC.1 hu with rfl|hu
   ·exact Att hv
   ·exact Yd h u hu
theorem Ab2:∀{rs:List (List V)},Aec rs=true→∀r∈rs,∀u∈r,Fl u
 |[],_,r,hr=>by cases hr
 |r'::rs,h,r,hr=>by
  unfold Aec at h;cases hv:vsB r' with
  |false=>rw[hv]at h;cases h
  |true=>
   rw[hv]at h;rcases XC.1 hr with rfl|hr
   ·exact Yd hv
   ·exact Ab2 h r hr
theorem Are{f:FuncId}{cs:List V}(h:∀u∈cs,Fl u):Fl (.clo f cs):=fun w w' R R' G G' x hx=>by
 cases hx with
 |clo f cs xs hl hh=>exact .clo f cs xs hl fun i u x h1 h2=>h u (ZH h1) _ _ _ _ _ _ _ (hh i u x h1 h2)
theorem As7{u:V}(h:clB u=true):Fl u:=by
 cases u with
 |v x=>exact Ak2 x
 |agg cs=>exact Aqg (Yd h)
 |tup cs=>exact Aqa (Yd h)
 |clo f cs=>exact Are (Yd h)
 |sl c rows=>cases c<;>cases rows<;>first|exact Ara|cases h
 |_=>cases h
theorem Cw{u:V}(h:clB u=true):Cl u:=(As7 h).cl
theorem Fg{rs:List (List V)}(h:Aec rs=true):∀r∈rs,∀u∈r,Cl u:=fun r hr u hu=>(Ab2 h r hr u hu).cl
theorem Nm{α:Type}{enc:α→List V}[FlatRow enc]{c:Bool}{l:List α}:∀row∈[[V.sl c (l.map enc)]],∀u∈row,Cl u:=by
 intro row hr u hu;simp only[XC,XD,or_false]at hr;subst hr;simp only[XC,XD,or_false]at hu;subst hu;exact Dj
def flB:List Par→Bool
 |[]=>true
 |.c u::ps=>bif clB u then flB ps else false
 |_=>false
theorem Abn:∀{rs:List Par},flB rs=true→Dx rs
 |[],_=>fun r hr=>by cases hr
 |.c u::ps,h=>by
  unfold flB at h;cases hv:clB u with
  |false=>rw[hv]at h;cases h
  |true=>
   rw[hv]at h;intro r hr;rcases XC.1 hr with rfl|hr
   ·exact As7 hv
   ·exact Abn h r hr
 |.o _ _ _::_,h=>by cases h
theorem Ht{rs rs':List (List V)}(h:∀r∈rs,∀u∈r,Cl u)(h':∀r∈rs',∀u∈r,Cl u):∀r∈rs++rs',∀u∈r,Cl u:=fun r hr u hu=>by
 rcases XM.1 hr with h1|h1
 ·exact h r h1 u hu
 ·exact h' r h1 u hu
theorem Ah9{H:Nat→Option Ent}{all:List Nat}{bor:Bool}{gone:List Nat}{id g:Nat}{T:TypeId}{sz:Nat}{rows:List (List V)}{us:List V}{ps:List Par}(he:H id=some ⟨g,.t T,sz,rows⟩)(hr:∀row∈rows,∀u∈row,Cl u)(hn:id∉gone)(ha:id∈all)(h:Ar H all bor gone us ps):Ar H all bor (id::gone) (.own id g::us) (.o T sz rows::ps):=
 Ar.give (e:=⟨g,.t T,sz,rows⟩) he rfl rfl hr hn ha h
theorem Dt{b:Bool}(h:(!b)=true):b=false:=by cases b;rfl;cases h
theorem Dq{b:Bool}(h:(!b)=false):b=true:=by cases b;cases h;rfl
theorem Af{p:Prop}:false=true→p:=by simp
theorem Am0{n a b:Int}(h:decide (a≤n)=true):wi n a b=decide (n≤b):=by simp[wi,h]
theorem Alc{n a b:Int}(h:decide (a≤n)=false):wi n a b=false:=by simp[wi,h]
theorem up1{n k:Nat}{p:(j:Nat)→(j<n)→Prop}(h0:∀j (h:j<n),j<k→p j h)(hk:∀h:k<n,p k h):∀j (h:j<n),j<k+1→p j h:=fun j h hj=>by
 rcases(by omega:j<k∨j=k)with g|rfl
 ·exact h0 j h g
 ·exact hk h
theorem up2{n k:Nat}{p:(j:Nat)→(j+1<n)→Prop}(h0:∀j (h:j+1<n),j<k→p j h)(hk:∀h:k+1<n,p k h):∀j (h:j+1<n),j<k+1→p j h:=fun j h hj=>by
 rcases(by omega:j<k∨j=k)with g|rfl
 ·exact h0 j h g
 ·exact hk h
theorem Li{row:List V}(h:Aec [row]=true):∀u∈row,Cl u:=fun u hu=>Fg h row (by simp) u hu
theorem Il.cell1{env:Nat→V}{H:Nat→Option Ent}{a id gen k off sz:Nat}{agg:Bool}{e:Ent}{row:List V}{r:List RT}{u:V}{us:List V}(h1:env a=.ptr id gen k off)(h2:H id=some e)(h3:e.gen=gen)(h4:e.rows[k]? =some row)(h5:Nat.ble (off+sz) row.length=true)(hu:u=mkV agg ((row.drop off).take sz))(h:Il env H r us):
  Il env H ((a,some (agg,sz))::r) (u::us):=by rw[hu];exact .cell h1 h2 h3 h4 (Nat.le_of_ble_eq_true h5) h
theorem Il.tmp1{env:Nat→V}{H:Nat→Option Ent}{t:Nat}{r:List RT}{u:V}{us:List V}(hu:u=env t)(h:Il env H r us):Il env H ((t,none)::r) (u::us):=by rw[hu];exact .tmp h
class OneRow {α:Type} (enc:α→List V) (sz:outParam Nat):Prop where
 len:∀x,(enc x).length=sz
 one:∀x,∀u∈enc x,∃v,u=.v v∧v.oneCell'=true
theorem Ag4{H:Nat→Option Ent}:∀{us:List V},(∀u∈us,∃v,u=.v v∧v.oneCell'=true)→Hl H us
 |[],_=>trivial
 |u::us,h=>by
  obtain⟨v,rfl,hv⟩:=h u (XB ..);exact⟨hv,Ag4 fun w hw=>h w (ZL _ hw)⟩
theorem Zv{α:Type}{enc:α→List V}{sz:Nat}[OneRow enc sz]{H:Nat→Option Ent}{l:List α}:∀row∈l.map enc,row.length=sz∧Hl H row:=fun row hr=>by
 obtain⟨x,_,rfl⟩:=XO.1 hr;exact⟨OneRow.len x,Ag4 (OneRow.one x)⟩
theorem Ar8{rs:List Bf}(h:rs.all Aaz=true):∀p∈rs,Aaz p=true:=List.all_eq_true.1 h
theorem Aps{rs rs':List (List V)}(h:∀r∈rs,∀u∈r,Cl u)(h':∀r∈rs',∀u∈r,Cl u):∀r∈rs++rs',∀u∈r,Cl u:=Ht h h'
theorem Aod{rs:List (List V)}{n:Nat}(h:∀r∈rs,∀u∈r,Cl u):∀r∈rs.take n,∀u∈r,Cl u:=fun r hr=>h r (List.mem_of_mem_take hr)
theorem Aog{rs:List (List V)}{n:Nat}(h:∀r∈rs,∀u∈r,Cl u):∀r∈rs.drop n,∀u∈r,Cl u:=fun r hr=>h r (List.mem_of_mem_drop hr)
theorem Amv{row:List V}{n:Nat}(h:Aec [row]=true):∀r∈List.replicate n row,∀u∈r,Cl u:=fun r hr=>by
 obtain⟨_,rfl⟩:=List.mem_replicate.1 hr;exact Li h
theorem Akl{H:Nat→Option Ent}{id g n sz:Nat}{e:Ent}{T:TypeId}{rows:List (List V)}{us:List V}(hu:us=[.osub id g 0 n])(he:H id=some e)(hg:e.gen=g)(hT:e.T=.t T)(hs:e.sz=sz)(hl:n≤e.rows.length)(hr:∀row∈e.rows,∀u∈row,Cl u)(hq:rows=e.rows.take n):Ar H [id] true [id] us [.o T sz rows]:=by
 rw[hu,hq,←hs];exact .givv he hg hT hl hr (by simp) (by simp) (.nil _)
theorem nI{a b:Nat}(h:Nat.ble a b=true:=by exact rfl):a≤b:=Nat.le_of_ble_eq_true h
theorem oI{rs:List Bf}(h:rs.all Aaz=true:=by exact rfl):∀p∈rs,Aaz p=true:=Ar8 h
theorem dI{l:List Nat}(h:ndB l=true:=by exact rfl):l.Nodup:=Qk h
theorem tI{p:Prop}(h:p:=by(repeat' (first|exact trivial|refine⟨rfl,?_⟩))):p:=h
theorem lI{p:Prop}(h:p:=by(simp only[ZE,ZF,ZJ,ZN,List.length_set,List.length_replicate,maxLen];omega)):p:=h
theorem fI{rs:List Par}(h:Dx rs:=by(first|exact Abn rfl|exact flat_own|exact flat_own1 rfl|exact flat_own2 rfl)):Dx rs:=h
theorem cBI{H:Nat→Option Ent}{all:List Nat}{cs cs':List V}(h:Bt H all cs cs':=by(repeat' (first|exact Bt.nil|refine Bt.same (by first|exact Cw rfl|exact Dj|exact F3|assumption) ?_|refine Bt.nilsl _ ?_|refine Jt rfl rfl (by first|exact Fg rfl|exact B5|exact cl_setB rfl|exact cl_setG (cl_setB rfl) rfl|exact Ht B5 (Fg rfl)|exact Nm|exact cl_rl2) (by decide) ?_))):Bt H all cs cs':=h
theorem aI{H:Nat→Option Ent}{all gone:List Nat}{bor:Bool}{us:List V}{ps:List Par}(h:Ar H all bor gone us ps:=by(repeat' (first|exact Ar.nil _|exact My (by assumption)|refine Ar.same (by first|exact Cw rfl|exact Dj|exact F3|exact cl_one|exact cl_ll1|exact cl_ll2|exact cl_clo (by assumption)|exact Pw (by repeat' (first|exact L8|refine I2 (by first|exact Cw rfl|exact Dj|exact F3|assumption) ?_))) ?_|refine Ar.nilsl _ ?_|refine Ar.nilown _ _ (by decide) ?_|refine Ar.borp rfl rfl rfl (Li rfl) (by decide) ?_|refine Ar.borc (by(repeat' (first|exact cap_n|refine cap_p rfl rfl rfl (by first|exact Li rfl|exact cl_r1 rfl|exact cl_r1b) ?_ ?_|refine cap_m rfl (by decide) ?_|refine cap_c (by first|exact Cw rfl|exact Dj|exact F3|exact cl_one|exact cl_ll1|exact cl_ll2|exact cl_clo (by assumption)|exact Pw (by repeat' (first|exact L8|refine I2 (by first|exact Cw rfl|exact Dj|exact F3|assumption) ?_))) ?_|decide))) ?_|refine Ar.bora cBI ?_|refine Ar.bor rfl rfl (Qj (by first|exact Fg rfl|exact B5|exact cl_setB rfl|exact cl_setG (cl_setB rfl) rfl|exact Ht B5 (Fg rfl)|exact Nm|exact cl_rl2)) (by decide) ?_|refine Ah9 rfl (by first|exact Fg rfl|exact B5|exact cl_setB rfl|exact cl_setG (cl_setB rfl) rfl|exact Ht B5 (Fg rfl)|exact Nm|exact cl_rl2) (by decide) (by decide) ?_))):Ar H all bor gone us ps:=h
theorem aM{H:Nat→Option Ent}{all gone:List Nat}{bor:Bool}{us:List V}{ps:List Bf}(h:Bm H all bor gone us ps:=by(repeat' (first|exact Bm.nil _|refine Ci (by first|exact Cw rfl|exact Dj|exact F3|exact cl_one|exact cl_ll1|exact cl_ll2|exact cl_clo (by assumption)|exact Pw (by repeat' (first|exact L8|refine I2 (by first|exact Cw rfl|exact Dj|exact F3|assumption) ?_))) ?_|refine aM_nilsl _ ?_|refine aM_nilown _ _ (by decide) ?_|refine aM_mf rfl (Li rfl) (by decide) (by decide) rfl ?_|refine aM_pf rfl (Li rfl) (by decide) (by decide) ?_|refine Asn rfl (by decide) (by decide) ?_|refine Ato rfl (by decide) (by decide) ?_|refine aM_borp rfl rfl rfl (Li rfl) (by decide) ?_|refine aM_borc (by(repeat' (first|exact cap_n|refine cap_p rfl rfl rfl (by first|exact Li rfl|exact cl_r1 rfl|exact cl_r1b) ?_ ?_|refine cap_m rfl (by decide) ?_|refine cap_c (by first|exact Cw rfl|exact Dj|exact F3|exact cl_one|exact cl_ll1|exact cl_ll2|exact cl_clo (by assumption)|exact Pw (by repeat' (first|exact L8|refine I2 (by first|exact Cw rfl|exact Dj|exact F3|assumption) ?_))) ?_|decide))) ?_|refine Agw cBI ?_|refine Apc rfl rfl (Qj (by first|exact Fg rfl|exact B5|exact cl_setB rfl|exact cl_setG (cl_setB rfl) rfl|exact Ht B5 (Fg rfl)|exact Nm|exact cl_rl2)) (by decide) ?_|refine aM_give rfl (by first|exact Fg rfl|exact B5|exact cl_setB rfl|exact cl_setG (cl_setB rfl) rfl|exact Ht B5 (Fg rfl)|exact Nm|exact cl_rl2) (by decide) (by decide) ?_|refine aM_ms rfl (by first|exact Fg rfl|exact B5|exact cl_setB rfl|exact cl_setG (cl_setB rfl) rfl|exact Ht B5 (Fg rfl)|exact Nm|exact cl_rl2) (by decide) (by decide) (by simp) ?_))):Bm H all bor gone us ps:=h
structure Ap7(q:Prop):Prop where
 out:q
theorem goI{p q:Prop}(h:q)(e:Ap7 q→p:=by(intro hq;(conv=>whnf);(repeat' ((first|refine⟨rfl,?_⟩|refine⟨_,Am (by assumption),?_⟩|refine⟨_,(by exact Ro),?_⟩|refine⟨_,K5 (by omega) (by omega),?_⟩|refine⟨_,Rn (by omega) (by omega),?_⟩|refine⟨by decide,_,P0 (by omega),?_⟩);(conv=>whnf)));exact hq.out)):p:=e ⟨h⟩
theorem G0{p q:Prop}(h:q)(e:Ap7 q→p:=by(intro hq;(conv=>whnf);(repeat' ((first|refine⟨rfl,?_⟩|refine⟨_,Am (by assumption),?_⟩|refine⟨_,(by exact Ro),?_⟩|refine⟨_,K5 (by omega) (by omega),?_⟩|refine⟨_,Rn (by omega) (by omega),?_⟩|refine⟨by decide,_,P0 (by omega),?_⟩);(conv=>whnf)));exact hq.out)):p:=e ⟨h⟩
theorem wI{p:Prop}(h:p:=by exact Ate (gone:=[]) (gone1:=[]) rfl aI (by decide) (by decide) (by decide) rfl aM):p:=h
theorem cX{A:List Par→Bool→List Nat→Prop}{F:List Par→List Par→Prop}{B L:List Par→Prop}{K:List Par→List Nat→Prop}{ps rs:List Par}(hF:F ps rs)(hK:K rs [])(hA:A ps false []:=by exact aI)(hL:L rs:=by exact nI):∃ps rs bor gone,A ps bor gone∧F ps rs∧(bor=true→B rs)∧L rs∧K rs gone:=⟨ps,rs,false,[],hA,hF,Af,hL,hK⟩
theorem cY{A:List Par→Bool→List Nat→Prop}{F:List Par→List Par→Prop}{B L:List Par→Prop}{K:List Par→List Nat→Prop}{ps rs:List Par}(hF:F ps rs)(hK:K rs [])(hA:A ps true []:=by exact aI)(hB:B rs:=by exact fI)(hL:L rs:=by exact nI):∃ps rs bor gone,A ps bor gone∧F ps rs∧(bor=true→B rs)∧L rs∧K rs gone:=⟨ps,rs,true,[],hA,hF,fun _=>hB,hL,hK⟩
theorem G1{α0:Type}{p:Prop}{q:α0→Prop}(h:∀a0,q a0)(e:(∀a0,Ap7 (q a0))→p:=by(intro hq;(conv=>whnf);(repeat' ((first|refine⟨rfl,?_⟩|refine⟨_,Am (by assumption),?_⟩|refine⟨_,(by exact Ro),?_⟩|refine⟨_,K5 (by omega) (by omega),?_⟩|refine⟨_,Rn (by omega) (by omega),?_⟩|refine⟨by decide,_,P0 (by omega),?_⟩);(conv=>whnf)));intro g0;(conv=>whnf);(repeat' ((first|refine⟨rfl,?_⟩|refine⟨_,Am (by assumption),?_⟩|refine⟨_,(by exact Ro),?_⟩|refine⟨_,K5 (by omega) (by omega),?_⟩|refine⟨_,Rn (by omega) (by omega),?_⟩|refine⟨by decide,_,P0 (by omega),?_⟩);(conv=>whnf)));exact(hq g0).out)):p:=e fun a0=>⟨h a0⟩
abbrev Arw:List Value:=[(.int .i64 0),(.int .i64 0),(.int .i64 0),(.int .i64 0),(.int .i64 0)]
abbrev At0:List Value:=[(.int .i64 0),(.int .i64 0),(.int .i64 0),(.int .i64 0),(.string ⟨#[]⟩),(.int .i64 0),(.int .i64 0),(.int .i64 0),(.int .i64 0),(.int .i64 0),(.string ⟨#[]⟩),(.string ⟨#[]⟩),(.string ⟨#[]⟩),(.string ⟨#[]⟩),(.int .i64 0),(.int .i64 0),(.bool false),(.int .i64 0),(.bool false)]
abbrev T8:List Value:=[(.string ⟨#[]⟩),(.bool false),(.slice none 0 0),(.slice none 0 0),(.slice none 0 0),(.slice none 0 0)]
abbrev Ye:List Value:=[(.string ⟨#[]⟩),(.int .i64 0),(.int .i64 0),(.int .i64 0),(.bool false)]
abbrev Aas:List Value:=[(.string ⟨#[]⟩),(.int .i64 0),(.int .i64 0),(.int .i64 0),(.int .i64 0),(.int .i64 0)]
abbrev Lj:List Value:=[(.string ⟨#[]⟩),(.string ⟨#[]⟩),(.slice none 0 0),(.slice none 0 0),(.slice none 0 0),(.slice none 0 0),(.int .i64 0),(.int .i64 0),(.int .i64 0),(.int .i64 0),(.int .i64 0),(.slice none 0 0)]
abbrev Ajb:List Value:=[(.string ⟨#[]⟩),(.string ⟨#[]⟩),(.string ⟨#[]⟩),(.string ⟨#[]⟩),(.int .i64 0),(.int .i64 0),(.bool false),(.int .i64 0),(.bool false)]
def Mi:Ae:=
 .seq (.reg [Rq 1 (.box 25 2 0),Rq 2 (.mv (.const (.bool false)))]) (.seq (.reg [Rq 7 (.load true 2 1),Cq 8 5 ([7]),Mq 6 8,Eq1 9 6 0,Eq1 10 6 1,Mq 3 9,Mq 4 10]) (.seq (.reg [Rq 11 (.load true 2 1),Cq 12 6 ([11]),Mq 5 12]) (.seq (.reg [Cq 13 7 ([]),Mq 14 13,Gq 15 14 true (.load true 2 1),Gq 16 14 true (.call (.func 8) [15]),Hq 17 14 true 5,Gq 18 14 true (.bin .eql 16 17),Rq 19 (.pick 14 18 (.const (.bool false))),Mq 20 19,Hq 21 20 true 4,Hq 22 20 true 5,Gq 23 20 true (.bin .eql 21 22),Rq 24 (.pick 20 23 (.const (.bool false))),Mq 25 24,Hq 26 25 true 3,Hq 27 25 true 5,Gq 28 25 true (.bin .eql 27 (Kq 0)),Hq 29 25 true 28,Gq 30 29 true (.load true 2 1),Gq 31 29 true (.call (.func 9) [30]),Gq 32 25 true (.pick 29 31 (.const (.bool false))),Gq 33 25 true (.eqb false 26 32),Rq 34 (.pick 25 33 (.const (.bool false))),Mq 2 34]) (.ret))))
theorem L0:Al Tryz.prog 3 1=some (Mi,[2]):=by kernel_rfl
def Ab5:Ae:=
 .seq (.reg [Rq 1 (.box 25 2 0),Rq 2 (.mv (.const (.bool false))),Nq 3 0]) (.seq (.seq (.reg [Rq 8 (.load true 2 1),Cq 9 8 ([8]),Mq 4 9]) (.seq (.reg [Mq 10 4,Bq 11 .neq 10 (Kq 0)]) (.cond 11 (.seq (.reg [Mq 12 4,Rq 2 (.mv (.const (.bool false))),Mq 3 12]) (.ret)) (.skip)))) (.seq (.seq (.reg [Fq 13 0 1,Lq 14 13,Rq 15 (.len false 14),Nq 16 0]) (.block 0 (.loop (.seq (.reg [Bq 17 .lss 16 15]) (.seq (.cond 17 (.skip) (.exit 0)) (.seq (.block 1 (.seq (.reg [Iq 18 12 14 16,Rq 19 (.load true 12 18),Rq 6 (.zbox 44 Lj),Sq 12 6 19]) (.seq (.reg [Fq 20 0 1,Lq 21 20,Rq 22 (.idxA 12 21 (Kq 0)),Rq 23 (.load true 12 22),Rq 7 (.zbox 44 Lj),Sq 12 7 23]) (.seq (.reg [Fq 24 2 6,Lq 25 24,Fq 26 2 7,Lq 27 26,Cq 28 12 ([25,27]),Rq 29 (.not 28),Mq 30 29,Gq 31 30 false (.fldA 4 6),Gq 32 30 false (.load false 1 31),Gq 33 30 false (.fldA 4 7),Gq 34 30 false (.load false 1 33),Gq 35 30 false (.call (.func 13) [32,34]),Gq 36 30 false (.not 35),Rq 37 (.pick 30 (.const (.bool true)) 36),Mq 38 37,Gq 39 38 false (.fldA 5 6),Gq 40 38 false (.load false 1 39),Gq 41 38 false (.fldA 5 7),Gq 42 38 false (.load false 1 41),Gq 43 38 false (.call (.func 14) [40,42]),Gq 44 38 false (.not 43),Rq 45 (.pick 38 (.const (.bool true)) 44)]) (.cond 45 (.seq (.reg [Rq 2 (.mv (.const (.bool false))),Nq 3 0]) (.ret)) (.skip)))))) (.reg [Bq 46 .add 16 (Kq 1),Mq 16 46]))))))) (.seq (.reg [Rq 2 (.mv (.const (.bool true))),Nq 3 0]) (.ret))))
theorem Aat:Al Tryz.prog 5 1=some (Ab5,[2,3]):=by kernel_rfl
def Nl:Ae:=
 .seq (.reg [Rq 1 (.box 25 2 0),Nq 2 0]) (.seq (.seq (.reg [Fq 10 0 1,Lq 11 10,Rq 12 (.len false 11),Bq 13 .gtr 12 (Kq 6),Mq 14 13,Gq 15 14 false (.fldA 1 1),Gq 16 14 false (.load false 1 15),Gq 17 14 false (.len false 16),Gq 18 14 false (.bin .gtr 17 (Kq 20)),Rq 19 (.pick 14 (.const (.bool true)) 18)]) (.cond 19 (.seq (.reg [Nq 2 2]) (.ret)) (.skip))) (.seq (.seq (.reg [Nq 3 0]) (.block 0 (.loop (.seq (.seq (.reg [Mq 20 3,Fq 21 0 1,Lq 22 21,Rq 23 (.len false 22),Bq 24 .lss 20 23]) (.cond 24 (.skip) (.exit 0))) (.seq (.block 1 (.seq (.reg [Fq 27 0 1,Lq 28 27,Mq 29 3,Iq 30 12 28 29,Rq 31 (.load true 12 30),Cq 32 15 ([31]),Mq 4 32]) (.seq (.reg [Mq 33 4,Bq 34 .neq 33 (Kq 0)]) (.cond 34 (.seq (.reg [Mq 35 4,Mq 2 35]) (.ret)) (.skip))))) (.reg [Mq 25 3,Bq 26 .add 25 (Kq 1),Mq 3 26])))))) (.seq (.seq (.reg [Nq 5 0]) (.block 2 (.loop (.seq (.seq (.reg [Mq 36 5,Fq 37 0 1,Lq 38 37,Rq 39 (.len false 38),Bq 40 .lss 36 39]) (.cond 40 (.skip) (.exit 2))) (.seq (.block 3 (.seq (.reg [Nq 6 0]) (.block 4 (.loop (.seq (.seq (.reg [Mq 43 6,Mq 44 5,Bq 45 .lss 43 44]) (.cond 45 (.skip) (.exit 4))) (.seq (.block 5 (.seq (.dreg [[Fq 48 0 1,Lq 49 48,Mq 50 6,Iq 51 12 49 50,Fq 52 0 51,Lq 53 52,Fq 54 0 1,Lq 55 54,Mq 56 5,Iq 57 12 55 56,Fq 58 0 57,Lq 59 58],[Bq 60 .eql 53 59]]) (.cond 60 (.seq (.reg [Nq 2 6]) (.ret)) (.skip)))) (.reg [Mq 46 6,Bq 47 .add 46 (Kq 1),Mq 6 47]))))))) (.reg [Mq 41 5,Bq 42 .add 41 (Kq 1),Mq 5 42])))))) (.seq (.seq (.reg [Nq 7 0]) (.block 6 (.loop (.seq (.seq (.reg [Mq 61 7,Fq 62 1 1,Lq 63 62,Rq 64 (.len false 63),Bq 65 .lss 61 64]) (.cond 65 (.skip) (.exit 6))) (.seq (.block 7 (.seq (.seq (.dreg [[Fq 68 1 1,Lq 69 68,Mq 70 7,Iq 71 2 69 70,Fq 72 0 71,Lq 73 72,Fq 74 0 1,Lq 75 74,Rq 76 (.len false 75),Bq 77 .sub 76 (Kq 1)],[Cq 78 16 ([73,(Kq 0),77])],[Rq 79 (.not 78)]]) (.cond 79 (.seq (.reg [Nq 2 3]) (.ret)) (.skip))) (.seq (.reg [Fq 81 1 1,Lq 82 81,Mq 83 7,Iq 84 2 82 83,Fq 85 1 84,Lq 86 85,Cq 87 17 ([86]),Mq 80 87,Eq1 88 80 0,Eq1 89 80 1,Rq 8 (.zbox 59 T8),Sq 6 8 88,Mq 9 89]) (.seq (.reg [Mq 90 9,Bq 91 .neq 90 (Kq 0)]) (.cond 91 (.seq (.reg [Mq 92 9,Mq 2 92]) (.ret)) (.skip)))))) (.reg [Mq 66 7,Bq 67 .add 66 (Kq 1),Mq 7 67])))))) (.seq (.reg [Nq 2 0]) (.ret))))))
theorem Nc:Al Tryz.prog 6 1=some (Nl,[2]):=by kernel_rfl
def Ng:Ae:=
 .seq (.reg [Rq 0 (.mv (.const (.bool false)))]) (.seq (.reg [Cq 10 18 ([(.const (.string ⟨#[97]⟩)),(.const (.string ⟨#[99]⟩)),(Kq 1),(.const (.bool false))]),Mq 9 10,Eq1 11 9 0,Eq1 12 9 1,Rq 1 (.zbox 44 Lj),Sq 12 1 11,Mq 2 12]) (.seq (.reg [Cq 14 18 ([(.const (.string ⟨#[98]⟩)),(.const (.string ⟨#[99]⟩)),(Kq 2),(.const (.bool true))]),Mq 13 14,Eq1 15 13 0,Eq1 16 13 1,Rq 3 (.zbox 44 Lj),Sq 12 3 15,Mq 4 16]) (.seq (.reg [Rq 18 (.load true 12 1),Rq 19 (.load true 12 3),Rq 20 (.mks 44 12 2 Lj [(0,18),(1,19)]),Cq 21 10 ([20]),Mq 17 21,Eq1 22 17 0,Eq1 23 17 1,Rq 5 (.zbox 25 [(.slice none 0 0),(.slice none 0 0)]),Sq 2 5 22,Mq 6 23]) (.seq (.reg [Rq 25 (.load true 2 5),Rq 26 (.build At0 [(0,1,(Kq 2)),(2,1,(Kq 1))]),Cq 27 19 ([25,26]),Mq 24 27,Eq1 28 24 0,Eq1 29 24 1,Sq 2 5 28,Mq 7 29]) (.seq (.reg [Rq 31 (.load true 2 5),Rq 32 (.build At0 [(0,1,(Kq 3))]),Cq 33 19 ([31,32]),Mq 30 33,Eq1 34 30 0,Eq1 35 30 1,Sq 2 5 34,Mq 8 35]) (.seq (.reg [Mq 36 2,Bq 37 .eql 36 (Kq 0),Mq 38 37,Hq 39 38 true 4,Gq 40 38 true (.bin .eql 39 (Kq 0)),Rq 41 (.pick 38 40 (.const (.bool false))),Mq 42 41,Hq 43 42 true 6,Gq 44 42 true (.bin .eql 43 (Kq 0)),Rq 45 (.pick 42 44 (.const (.bool false))),Mq 46 45,Hq 47 46 true 7,Gq 48 46 true (.bin .eql 47 (Kq 0)),Rq 49 (.pick 46 48 (.const (.bool false))),Mq 50 49,Hq 51 50 true 8,Gq 52 50 true (.bin .eql 51 (Kq 0)),Rq 53 (.pick 50 52 (.const (.bool false))),Mq 54 53,Gq 55 54 true (.fldA 0 5),Gq 56 54 true (.load false 1 55),Gq 57 54 true (.len false 56),Gq 58 54 true (.bin .eql 57 (Kq 2)),Rq 59 (.pick 54 58 (.const (.bool false))),Mq 60 59,Gq 61 60 true (.fldA 0 5),Gq 62 60 true (.load false 1 61),Gq 63 60 true (.idxA 12 62 (Kq 1)),Gq 64 60 true (.fldA 2 63),Gq 65 60 true (.load false 1 64),Gq 66 60 true (.len false 65),Gq 67 60 true (.bin .eql 66 (Kq 2)),Rq 68 (.pick 60 67 (.const (.bool false))),Mq 69 68,Gq 70 69 true (.fldA 1 5),Gq 71 69 true (.load false 1 70),Gq 72 69 true (.len false 71),Gq 73 69 true (.bin .eql 72 (Kq 0)),Rq 74 (.pick 69 73 (.const (.bool false))),Mq 0 74]) (.ret)))))))
theorem M4:Al Tryz.prog 7 0=some (Ng,[0]):=by kernel_rfl
def Z7:Ae:=
 .seq (.reg [Rq 1 (.box 25 2 0),Nq 2 0]) (.seq (.seq (.reg [Fq 11 0 1,Lq 12 11,Rq 13 (.len false 12),Bq 14 .gtr 13 (Kq 6),Mq 15 14,Gq 16 15 false (.fldA 1 1),Gq 17 15 false (.load false 1 16),Gq 18 15 false (.len false 17),Gq 19 15 false (.bin .gtr 18 (Kq 20)),Rq 20 (.pick 15 (.const (.bool true)) 19)]) (.cond 20 (.seq (.reg [Nq 2 2]) (.ret)) (.skip))) (.seq (.reg [Rq 21 (.mkm),Mq 3 21]) (.seq (.seq (.reg [Fq 22 0 1,Lq 23 22,Rq 24 (.len false 23),Nq 25 0]) (.block 0 (.loop (.seq (.reg [Bq 26 .lss 25 24]) (.seq (.cond 26 (.skip) (.exit 0)) (.seq (.block 1 (.seq (.reg [Iq 27 12 23 25,Rq 28 (.load true 12 27),Rq 5 (.zbox 44 Lj),Sq 12 5 28]) (.seq (.seq (.reg [Rq 29 (.load true 12 5),Cq 30 20 ([29]),Mq 6 30]) (.seq (.reg [Mq 31 6,Bq 32 .neq 31 (Kq 0)]) (.cond 32 (.seq (.reg [Mq 33 6,Mq 2 33]) (.ret)) (.skip)))) (.reg [Mq 34 3,Fq 35 0 5,Lq 36 35,⟨none,none,.mupd .string 34 36 (.const (.bool true))⟩])))) (.reg [Bq 37 .add 25 (Kq 1),Mq 25 37]))))))) (.seq (.seq (.reg [Mq 38 3,Rq 39 (.mlen 38),Fq 40 0 1,Lq 41 40,Rq 42 (.len false 41),Bq 43 .lss 39 42]) (.cond 43 (.seq (.reg [Nq 2 6]) (.ret)) (.skip))) (.seq (.seq (.reg [Fq 44 1 1,Lq 45 44,Rq 46 (.len false 45),Nq 47 0]) (.block 2 (.loop (.seq (.reg [Bq 48 .lss 47 46]) (.seq (.cond 48 (.skip) (.exit 2)) (.seq (.block 3 (.seq (.reg [Iq 49 2 45 47,Rq 50 (.load true 2 49),Rq 8 (.zbox 57 [(.int .i64 0),(.string ⟨#[]⟩)]),Sq 2 8 50]) (.seq (.seq (.reg [Fq 51 0 8,Lq 52 51,Bq 53 .lss 52 (Kq 0),Mq 54 53,Gq 55 54 false (.fldA 0 8),Gq 56 54 false (.load false 1 55),Gq 57 54 false (.fldA 0 1),Gq 58 54 false (.load false 1 57),Gq 59 54 false (.len false 58),Gq 60 54 false (.bin .geq 56 59),Rq 61 (.pick 54 (.const (.bool true)) 60)]) (.cond 61 (.seq (.reg [Nq 2 3]) (.ret)) (.skip))) (.seq (.reg [Fq 63 1 8,Lq 64 63,Cq 65 21 ([64]),Mq 62 65,Eq1 66 62 0,Eq1 67 62 1,Rq 9 (.zbox 59 T8),Sq 6 9 66,Mq 10 67]) (.seq (.reg [Mq 68 10,Bq 69 .neq 68 (Kq 0)]) (.cond 69 (.seq (.reg [Mq 70 10,Mq 2 70]) (.ret)) (.skip))))))) (.reg [Bq 71 .add 47 (Kq 1),Mq 47 71]))))))) (.seq (.reg [Nq 2 0]) (.ret)))))))
theorem Aaj:Al Tryz.prog 8 1=some (Z7,[2]):=by kernel_rfl
def N7:Ae:=
 .seq (.reg [Rq 1 (.box 25 2 0),Rq 2 (.mv (.const (.bool false)))]) (.seq (.seq (.reg [Nq 3 1]) (.block 0 (.loop (.seq (.seq (.reg [Mq 6 3,Fq 7 0 1,Lq 8 7,Rq 9 (.len false 8),Bq 10 .lss 6 9]) (.cond 10 (.skip) (.exit 0))) (.seq (.block 1 (.seq (.dreg [[],[Rq 17 (.mkm),Rq 18 (.mkm),Rq 19 (.mkm),Rq 20 (.mkm),Rq 21 (.mkm)],[Fq 13 0 1,Lq 14 13,Rq 15 (.idxA 12 14 (Kq 0)),Rq 16 (.load true 12 15),Fq 17 0 1,Lq 18 17,Mq 19 3,Iq 20 12 18 19,Rq 21 (.load true 12 20),Rq 4 (.zbox 44 Lj),Rq 5 (.zbox 44 Lj),Sq 12 4 16],[Sq 12 5 21]]) (.seq (.reg [Fq 22 2 4,Lq 23 22,Fq 24 2 5,Lq 25 24,Cq 26 22 ([23,25]),Rq 27 (.not 26),Mq 28 27,Gq 29 28 false (.fldA 4 4),Gq 30 28 false (.load false 1 29),Gq 31 28 false (.fldA 4 5),Gq 32 28 false (.load false 1 31),Gq 33 28 false (.call (.func 23) [30,32]),Gq 34 28 false (.not 33),Rq 35 (.pick 28 (.const (.bool true)) 34),Mq 36 35,Gq 37 36 false (.fldA 5 4),Gq 38 36 false (.load false 1 37),Gq 39 36 false (.fldA 5 5),Gq 40 36 false (.load false 1 39),Gq 41 36 false (.call (.func 24) [38,40]),Gq 42 36 false (.not 41),Rq 43 (.pick 36 (.const (.bool true)) 42)]) (.cond 43 (.seq (.reg [Rq 2 (.mv (.const (.bool false)))]) (.ret)) (.skip))))) (.reg [Mq 11 3,Bq 12 .add 11 (Kq 1),Mq 3 12])))))) (.seq (.reg [Rq 2 (.mv (.const (.bool true)))]) (.ret)))
theorem N3:Al Tryz.prog 9 1=some (N7,[2]):=by kernel_rfl
def Ae7:Ae:=
 .seq (.reg [Rq 2 (.zbox 25 [(.slice none 0 0),(.slice none 0 0)]),Nq 3 0]) (.seq (.reg [Mq 6 0,Rq 7 (.build [(.slice none 0 0),(.slice none 0 0)] [(0,1,6)]),Rq 4 (.zbox 25 [(.slice none 0 0),(.slice none 0 0)]),Sq 2 4 7]) (.seq (.seq (.reg [Rq 8 (.load true 2 4),Cq 9 8 ([8]),Mq 5 9]) (.seq (.reg [Mq 10 5,Bq 11 .neq 10 (Kq 0)]) (.cond 11 (.seq (.reg [Rq 12 (.build [(.slice none 0 0),(.slice none 0 0)] []),Mq 13 5,Sq 2 2 12,Mq 3 13]) (.ret)) (.skip)))) (.seq (.reg [Rq 14 (.load true 2 4),Cq 15 25 ([14]),Sq 2 2 15,Nq 3 0]) (.ret))))
theorem Xm:Bi Tryz.prog 10 1=some (Ae7,[(2,some (true,2)),(3,none)]):=by kernel_rfl
def L1:Ae:=
 .seq (.reg [Rq 1 (.box 44 12 0),Nq 2 0]) (.seq (.seq (.reg [Fq 8 0 1,Lq 9 8,Cq 10 27 ([9]),Rq 11 (.not 10),Mq 12 11,Gq 13 12 false (.fldA 1 1),Gq 14 12 false (.load false 1 13),Gq 15 12 false (.call (.func 27) [14]),Gq 16 12 false (.not 15),Rq 17 (.pick 12 (.const (.bool true)) 16)]) (.cond 17 (.seq (.reg [Nq 2 1]) (.ret)) (.skip))) (.seq (.reg [Fq 18 2 1,Lq 19 18,Cq 20 28 ([19]),Mq 3 20]) (.seq (.seq (.reg [Mq 21 3,Bq 22 .eql 21 (Kq 0)]) (.cond 22 (.reg [Fq 23 3 1,Lq 24 23,Cq 25 29 ([24]),Mq 3 25]) (.skip))) (.seq (.seq (.reg [Mq 26 3,Bq 27 .eql 26 (Kq 0)]) (.cond 27 (.reg [Fq 28 4 1,Lq 29 28,Cq 30 30 ([29]),Mq 3 30]) (.skip))) (.seq (.seq (.reg [Mq 31 3,Bq 32 .eql 31 (Kq 0)]) (.cond 32 (.reg [Fq 33 5 1,Lq 34 33,Cq 35 31 ([34]),Mq 3 35]) (.skip))) (.seq (.seq (.reg [Mq 36 3,Bq 37 .eql 36 (Kq 0)]) (.cond 37 (.reg [Fq 38 6 1,Rq 39 (.load true 5 38),Cq 40 32 ([39]),Mq 3 40]) (.skip))) (.seq (.seq (.reg [Mq 41 3,Bq 42 .eql 41 (Kq 0)]) (.cond 42 (.reg [Fq 43 11 1,Lq 44 43,Cq 45 33 ([44]),Mq 3 45]) (.skip))) (.seq (.seq (.reg [Mq 46 3,Bq 47 .neq 46 (Kq 0)]) (.cond 47 (.seq (.reg [Mq 48 3,Mq 2 48]) (.ret)) (.skip))) (.seq (.reg [Fq 49 2 1,Lq 50 49,Fq 51 0 1,Lq 52 51,Cq 53 34 ([50,52]),Mq 4 53]) (.seq (.seq (.reg [Mq 54 4,Bq 55 .lss 54 (Kq 0)]) (.cond 55 (.seq (.reg [Nq 2 5]) (.ret)) (.skip))) (.seq (.seq (.reg [Fq 56 2 1,Lq 57 56,Mq 58 4,Iq 59 5 57 58,Fq 60 1 59,Lq 61 60,Bq 62 .eql 61 (Kq 2),Mq 63 62,Gq 64 63 false (.fldA 2 1),Gq 65 63 false (.load false 1 64),Hq 66 63 false 4,Gq 67 63 false (.idxA 5 65 66),Gq 68 63 false (.fldA 1 67),Gq 69 63 false (.load false 1 68),Gq 70 63 false (.bin .eql 69 (Kq 3)),Rq 71 (.pick 63 (.const (.bool true)) 70)]) (.cond 71 (.seq (.reg [Nq 2 4]) (.ret)) (.skip))) (.seq (.seq (.reg [Nq 5 0]) (.block 0 (.loop (.seq (.seq (.reg [Mq 72 5,Fq 73 3 1,Lq 74 73,Rq 75 (.len false 74),Bq 76 .lss 72 75]) (.cond 76 (.skip) (.exit 0))) (.seq (.block 1 (.seq (.reg [Fq 79 3 1,Lq 80 79,Mq 81 5,Iq 82 6 80 81,Fq 83 0 82,Rq 84 (.load true 5 83),Rq 6 (.zbox 47 Ye),Sq 5 6 84]) (.seq (.reg [Fq 85 2 1,Lq 86 85,Fq 87 0 6,Lq 88 87,Cq 89 34 ([86,88]),Mq 7 89]) (.seq (.dreg [[Mq 90 7],[Bq 91 .lss 90 (Kq 0)],[Mq 92 91],[Gq 93 92 false (.load true 5 6),Gq 94 92 false (.fldA 2 1),Gq 95 92 false (.load false 1 94),Hq 96 92 false 7,Gq 97 92 false (.idxA 5 95 96),Gq 98 92 false (.load true 5 97)],[Gq 99 92 false (.call (.func 35) [93,98])],[Rq 100 (.pick 92 (.const (.bool true)) 99)]]) (.cond 100 (.seq (.reg [Nq 2 4]) (.ret)) (.skip)))))) (.reg [Mq 77 5,Bq 78 .add 77 (Kq 1),Mq 5 78])))))) (.seq (.reg [Nq 2 0]) (.ret))))))))))))))
theorem Mc:Al Tryz.prog 15 1=some (L1,[2]):=by kernel_rfl
def N5:Ae:=
 .seq (.reg [Rq 6 (.mv (.const (.bool false)))]) (.seq (.reg [Mq 7 0,Mq 8 1,Bq 9 .geq 7 8,Mq 10 9,Hq 11 10 true 0,Hq 12 10 true 2,Gq 13 10 true (.bin .leq 11 12),Rq 14 (.pick 10 13 (.const (.bool false))),Mq 6 14]) (.ret))
theorem N0:Al Tryz.prog 16 3=some (N5,[6]):=by kernel_rfl
def Gn:Ae:=
 .seq (.reg [Rq 2 (.zbox 59 T8),Nq 3 0]) (.seq (.reg [Mq 15 0,Rq 16 (.build [(.string ⟨#[]⟩),(.int .i64 0),(.bool false)] [(0,1,15)]),Rq 17 (.box 83 3 16),Mq 4 17]) (.seq (.reg [Rq 5 (.zbox 59 T8)]) (.seq (.reg [Mq 18 4,Cq 19 36 ([18]),Fq 20 0 5,Sq 1 20 19]) (.seq (.reg [Mq 21 4,Cq 22 37 ([21]),Fq 23 1 5,Sq 1 23 22]) (.seq (.reg [Mq 24 4,Cq 25 38 ([24,(Kq 20)]),Mq 6 25]) (.seq (.seq (.reg [Nq 7 0]) (.block 0 (.loop (.seq (.seq (.reg [Mq 26 7,Mq 27 6,Bq 28 .lss 26 27,Mq 29 28,Hq 30 29 true 4,Gq 31 29 true (.fldA 0 30),Gq 32 29 true (.fldA 2 31),Gq 33 29 true (.load false 1 32),Gq 34 29 true (.not 33),Rq 35 (.pick 29 34 (.const (.bool false)))]) (.cond 35 (.skip) (.exit 0))) (.seq (.block 1 (.seq (.reg [Rq 8 (.zbox 47 Ye)]) (.seq (.reg [Mq 38 4,Cq 39 36 ([38]),Fq 40 0 8,Sq 1 40 39]) (.seq (.reg [Mq 41 4,Cq 42 39 ([41]),Fq 43 1 8,Sq 1 43 42]) (.seq (.reg [Mq 44 4,Cq 45 39 ([44]),Fq 46 2 8,Sq 1 46 45]) (.seq (.reg [Mq 47 4,Cq 48 39 ([47]),Fq 49 3 8,Sq 1 49 48]) (.seq (.reg [Mq 50 4,Cq 51 37 ([50]),Fq 52 4 8,Sq 1 52 51]) (.reg [Fq 53 2 5,Lq 54 53,Rq 55 (.load true 5 8),Rq 56 (.mks 47 5 1 Ye [(0,55)]),Rq 57 (.app 47 5 48 (.agg #[(.string ⟨#[]⟩),(.int .i64 0),(.int .i64 0),(.int .i64 0),(.bool false)]) 54 56),Fq 58 2 5,Sq 1 58 57])))))))) (.reg [Mq 36 7,Bq 37 .add 36 (Kq 1),Mq 7 37])))))) (.seq (.reg [Mq 59 4,Cq 60 38 ([59,(Kq 40)]),Mq 6 60]) (.seq (.seq (.reg [Nq 9 0]) (.block 2 (.loop (.seq (.seq (.reg [Mq 61 9,Mq 62 6,Bq 63 .lss 61 62,Mq 64 63,Hq 65 64 true 4,Gq 66 64 true (.fldA 0 65),Gq 67 64 true (.fldA 2 66),Gq 68 64 true (.load false 1 67),Gq 69 64 true (.not 68),Rq 70 (.pick 64 69 (.const (.bool false)))]) (.cond 70 (.skip) (.exit 2))) (.seq (.block 3 (.seq (.reg [Rq 10 (.zbox 50 Ajb)]) (.seq (.reg [Mq 73 4,Cq 74 36 ([73]),Fq 75 0 10,Sq 1 75 74]) (.seq (.reg [Mq 76 4,Cq 77 36 ([76]),Fq 78 1 10,Sq 1 78 77]) (.seq (.reg [Mq 79 4,Cq 80 36 ([79]),Fq 81 2 10,Sq 1 81 80]) (.seq (.reg [Mq 82 4,Cq 83 36 ([82]),Fq 84 3 10,Sq 1 84 83]) (.seq (.reg [Mq 85 4,Cq 86 39 ([85]),Fq 87 4 10,Sq 1 87 86]) (.seq (.reg [Mq 88 4,Cq 89 39 ([88]),Fq 90 5 10,Sq 1 90 89]) (.seq (.reg [Mq 91 4,Cq 92 37 ([91]),Fq 93 6 10,Sq 1 93 92]) (.seq (.reg [Mq 94 4,Cq 95 39 ([94]),Fq 96 7 10,Sq 1 96 95]) (.seq (.reg [Mq 97 4,Cq 98 37 ([97]),Fq 99 8 10,Sq 1 99 98]) (.reg [Fq 100 3 5,Lq 101 100,Rq 102 (.load true 9 10),Rq 103 (.mks 50 9 1 Ajb [(0,102)]),Rq 104 (.app 50 9 104 (.agg #[(.string ⟨#[]⟩),(.string ⟨#[]⟩),(.string ⟨#[]⟩),(.string ⟨#[]⟩),(.int .i64 0),(.int .i64 0),(.bool false),(.int .i64 0),(.bool false)]) 101 103),Fq 105 3 5,Sq 1 105 104])))))))))))) (.reg [Mq 71 9,Bq 72 .add 71 (Kq 1),Mq 9 72])))))) (.seq (.reg [Mq 106 4,Cq 107 38 ([106,(Kq 6)]),Mq 6 107]) (.seq (.seq (.reg [Nq 11 0]) (.block 4 (.loop (.seq (.seq (.reg [Mq 108 11,Mq 109 6,Bq 110 .lss 108 109,Mq 111 110,Hq 112 111 true 4,Gq 113 111 true (.fldA 0 112),Gq 114 111 true (.fldA 2 113),Gq 115 111 true (.load false 1 114),Gq 116 111 true (.not 115),Rq 117 (.pick 111 116 (.const (.bool false)))]) (.cond 117 (.skip) (.exit 4))) (.seq (.block 5 (.seq (.reg [Rq 12 (.zbox 53 [(.string ⟨#[]⟩),(.int .i64 0),(.int .i64 0)])]) (.seq (.reg [Mq 120 4,Cq 121 36 ([120]),Fq 122 0 12,Sq 1 122 121]) (.seq (.reg [Mq 123 4,Cq 124 39 ([123]),Fq 125 1 12,Sq 1 125 124]) (.seq (.reg [Mq 126 4,Cq 127 39 ([126]),Fq 128 2 12,Sq 1 128 127]) (.reg [Fq 129 4 5,Lq 130 129,Rq 131 (.load true 3 12),Rq 132 (.mks 53 3 1 [(.string ⟨#[]⟩),(.int .i64 0),(.int .i64 0)] [(0,131)]),Rq 133 (.app 53 3 32 (.agg #[(.string ⟨#[]⟩),(.int .i64 0),(.int .i64 0)]) 130 132),Fq 134 4 5,Sq 1 134 133])))))) (.reg [Mq 118 11,Bq 119 .add 118 (Kq 1),Mq 11 119])))))) (.seq (.reg [Mq 135 4,Cq 136 38 ([135,(Kq 20)]),Mq 6 136]) (.seq (.seq (.reg [Nq 13 0]) (.block 6 (.loop (.seq (.seq (.reg [Mq 137 13,Mq 138 6,Bq 139 .lss 137 138,Mq 140 139,Hq 141 140 true 4,Gq 142 140 true (.fldA 0 141),Gq 143 140 true (.fldA 2 142),Gq 144 140 true (.load false 1 143),Gq 145 140 true (.not 144),Rq 146 (.pick 140 145 (.const (.bool false)))]) (.cond 146 (.skip) (.exit 6))) (.seq (.block 7 (.seq (.reg [Rq 14 (.zbox 88 Aas)]) (.seq (.reg [Mq 149 4,Cq 150 36 ([149]),Fq 151 0 14,Sq 1 151 150]) (.seq (.reg [Mq 152 4,Cq 153 39 ([152]),Fq 154 1 14,Fq 155 0 154,Sq 1 155 153]) (.seq (.reg [Mq 156 4,Cq 157 39 ([156]),Fq 158 1 14,Fq 159 1 158,Sq 1 159 157]) (.seq (.reg [Mq 160 4,Cq 161 39 ([160]),Fq 162 1 14,Fq 163 2 162,Sq 1 163 161]) (.seq (.reg [Mq 164 4,Cq 165 39 ([164]),Fq 166 1 14,Fq 167 3 166,Sq 1 167 165]) (.seq (.reg [Mq 168 4,Cq 169 39 ([168]),Fq 170 1 14,Fq 171 4 170,Sq 1 171 169]) (.reg [Fq 172 5 5,Lq 173 172,Rq 174 (.load true 6 14),Rq 175 (.mks 88 6 1 Aas [(0,174)]),Rq 176 (.app 88 6 56 (.agg #[(.string ⟨#[]⟩),(.int .i64 0),(.int .i64 0),(.int .i64 0),(.int .i64 0),(.int .i64 0)]) 173 175),Fq 177 5 5,Sq 1 177 176]))))))))) (.reg [Mq 147 13,Bq 148 .add 147 (Kq 1),Mq 13 148])))))) (.seq (.seq (.reg [Mq 178 4,Fq 179 0 178,Fq 180 2 179,Lq 181 180,Mq 182 181,Hq 183 182 false 4,Gq 184 182 false (.fldA 0 183),Gq 185 182 false (.fldA 1 184),Gq 186 182 false (.load false 1 185),Hq 187 182 false 0,Gq 188 182 false (.len true 187),Gq 189 182 false (.bin .neq 186 188),Rq 190 (.pick 182 (.const (.bool true)) 189),Mq 191 190,Gq 192 191 false (.load true 6 5),Gq 193 191 false (.call (.func 40) [192]),Gq 194 191 false (.bin .neq 193 (Kq 0)),Rq 195 (.pick 191 (.const (.bool true)) 194)]) (.cond 195 (.seq (.reg [Rq 196 (.build T8 []),Sq 6 2 196,Nq 3 1]) (.ret)) (.skip))) (.seq (.reg [Rq 197 (.load true 6 5),Sq 6 2 197,Nq 3 0]) (.ret)))))))))))))))
theorem Ni:Bi Tryz.prog 17 1=some (Gn,[(2,some (true,6)),(3,none)]):=by kernel_rfl
def Ae2:Ae:=
 .seq (.reg [Rq 8 (.zbox 44 Lj),Nq 9 0]) (.seq (.reg [Mq 12 0,Mq 13 1,Rq 14 (.build Arw [(4,1,(Kq 1000))]),Rq 15 (.build Lj [(0,1,12),(1,1,13),(6,5,14)]),Rq 10 (.zbox 44 Lj),Sq 12 10 15]) (.seq (.reg [Mq 16 0,Mq 17 2,Mq 18 3,Rq 19 (.build Ye [(0,1,16),(1,1,(Kq 1)),(2,1,(Kq 1)),(3,1,17),(4,1,18)]),Rq 20 (.mks 47 5 1 Ye [(0,19)]),Fq 21 2 10,Sq 1 21 20]) (.seq (.seq (.reg [Rq 22 (.load true 12 10),Cq 23 20 ([22]),Mq 11 23]) (.seq (.reg [Mq 24 11,Bq 25 .neq 24 (Kq 0)]) (.cond 25 (.seq (.reg [Rq 26 (.build Lj []),Mq 27 11,Sq 12 8 26,Mq 9 27]) (.ret)) (.skip)))) (.seq (.reg [Rq 28 (.load true 12 10),Sq 12 8 28,Nq 9 0]) (.ret)))))
theorem U0:Bi Tryz.prog 18 4=some (Ae2,[(8,some (true,12)),(9,none)]):=by kernel_rfl
def Adu:Ae:=
 .seq (.reg [Rq 2 (.box 25 2 0),Rq 3 (.box 66 19 1),Rq 4 (.zbox 25 [(.slice none 0 0),(.slice none 0 0)]),Nq 5 0]) (.seq (.seq (.reg [Rq 9 (.load true 2 2),Cq 10 8 ([9]),Mq 6 10]) (.seq (.reg [Mq 11 6,Bq 12 .neq 11 (Kq 0)]) (.cond 12 (.seq (.reg [Rq 13 (.build [(.slice none 0 0),(.slice none 0 0)] []),Mq 14 6,Sq 2 4 13,Mq 5 14]) (.ret)) (.skip)))) (.seq (.seq (.reg [Fq 15 0 3,Lq 16 15,Bq 17 .lss 16 (Kq 1),Mq 18 17,Gq 19 18 false (.fldA 0 3),Gq 20 18 false (.load false 1 19),Gq 21 18 false (.bin .gtr 20 (Kq 12)),Rq 22 (.pick 18 (.const (.bool true)) 21)]) (.cond 22 (.seq (.reg [Rq 23 (.build [(.slice none 0 0),(.slice none 0 0)] []),Sq 2 4 23,Nq 5 7]) (.ret)) (.skip))) (.seq (.dreg [[],[⟨none,none,.mkm⟩,⟨none,none,.mkm⟩],[Rq 24 (.load true 2 2),Cq 25 25 ([24]),Rq 26 (.load true 19 3)],[Rq 27 (.build [(.slice none 0 0),(.slice none 0 0),(.int .i64 0),(.int .i64 0),(.int .i64 0),(.int .i64 0),(.string ⟨#[]⟩),(.int .i64 0),(.int .i64 0),(.int .i64 0),(.int .i64 0),(.int .i64 0),(.string ⟨#[]⟩),(.string ⟨#[]⟩),(.string ⟨#[]⟩),(.string ⟨#[]⟩),(.int .i64 0),(.int .i64 0),(.bool false),(.int .i64 0),(.bool false)] [(0,2,25),(2,19,26)])],[Rq 28 (.box 92 21 27)],[Mq 7 28]]) (.seq (.reg [Nq 8 5]) (.seq (.block 0 (.seq (.reg [Fq 30 0 3,Lq 31 30,Bq 32 .geq 31 (Kq 3),Mq 33 32,Gq 34 33 true (.fldA 0 3),Gq 35 33 true (.load false 1 34),Gq 36 33 true (.bin .leq 35 (Kq 5)),Rq 37 (.pick 33 36 (.const (.bool false))),Mq 29 37]) (.cond 29 (.reg [Mq 38 7,Cq 39 41 ([38]),Mq 8 39]) (.seq (.reg [Mq 41 7,Fq 42 1 3,Lq 43 42,Cq 44 42 ([41,43]),Mq 40 44]) (.cond 40 (.reg [Mq 45 7,Cq 46 43 ([45]),Mq 8 46]) (.skip)))))) (.seq (.seq (.reg [Mq 47 8,Bq 48 .neq 47 (Kq 0)]) (.cond 48 (.seq (.reg [Rq 49 (.build [(.slice none 0 0),(.slice none 0 0)] []),Mq 50 8,Sq 2 4 49,Mq 5 50]) (.ret)) (.skip))) (.seq (.reg [Mq 51 7,Fq 52 0 51,Fq 53 0 52,Rq 54 (.load true 2 53),Sq 2 4 54,Nq 5 0]) (.ret))))))))
theorem Ux:Bi Tryz.prog 19 2=some (Adu,[(4,some (true,2)),(5,none)]):=by kernel_rfl
def Yl:Ae:=
 .seq (.reg [Rq 1 (.box 44 12 0),Nq 2 0]) (.seq (.seq (.reg [Fq 7 0 1,Lq 8 7,Cq 9 44 ([8]),Rq 10 (.not 9),Mq 11 10,Gq 12 11 false (.fldA 1 1),Gq 13 11 false (.load false 1 12),Gq 14 11 false (.call (.func 44) [13]),Gq 15 11 false (.not 14),Rq 16 (.pick 11 (.const (.bool true)) 15)]) (.cond 16 (.seq (.reg [Nq 2 1]) (.ret)) (.skip))) (.seq (.seq (.dreg [[Fq 17 2 1,Lq 18 17,Cq 19 45 ([18]),Fq 20 3 1,Lq 21 20,Cq 22 46 ([21]),Fq 23 4 1,Lq 24 23,Cq 25 47 ([24]),Fq 26 5 1,Lq 27 26,Cq 28 48 ([27]),Fq 29 6 1,Rq 30 (.load true 5 29),Cq 31 49 ([30]),Fq 32 11 1,Lq 33 32,Cq 34 50 ([33]),Rq 35 (.mks 26 1 6 [(.int .i64 0)] [(0,19),(1,22),(2,25),(3,28),(4,31),(5,34)]),Rq 36 (.len false 35),Nq 37 0]]) (.block 0 (.loop (.seq (.reg [Bq 38 .lss 37 36]) (.seq (.cond 38 (.skip) (.exit 0)) (.seq (.block 1 (.seq (.reg [Iq 39 1 35 37,Lq 40 39,Mq 4 40]) (.seq (.reg [Mq 41 4,Bq 42 .neq 41 (Kq 0)]) (.cond 42 (.seq (.reg [Mq 43 4,Mq 2 43]) (.ret)) (.skip))))) (.reg [Bq 44 .add 37 (Kq 1),Mq 37 44]))))))) (.seq (.reg [Fq 46 2 1,Lq 47 46,Fq 48 0 1,Lq 49 48,Cq 50 51 ([47,49]),Mq 45 50,Eq1 51 45 0,Eq1 52 45 1,Mq 5 51,Mq 6 52]) (.seq (.block 2 (.seq (.reg [Mq 54 6,Rq 55 (.not 54),Mq 53 55]) (.cond 53 (.seq (.reg [Nq 2 5]) (.ret)) (.seq (.seq (.reg [Fq 57 2 1,Lq 58 57,Mq 59 5,Iq 60 5 58 59,Fq 61 1 60,Lq 62 61,Bq 63 .eql 62 (Kq 2),Mq 64 63,Gq 65 64 false (.fldA 2 1),Gq 66 64 false (.load false 1 65),Hq 67 64 false 5,Gq 68 64 false (.idxA 5 66 67),Gq 69 64 false (.fldA 1 68),Gq 70 64 false (.load false 1 69),Gq 71 64 false (.bin .eql 70 (Kq 3)),Rq 72 (.pick 64 (.const (.bool true)) 71),Mq 56 72]) (.cond 56 (.skip) (.reg [Rq 73 (.load true 12 1),Cq 74 52 ([73]),Rq 75 (.not 74),Mq 56 75]))) (.cond 56 (.seq (.reg [Nq 2 4]) (.ret)) (.skip)))))) (.seq (.reg [Nq 2 0]) (.ret))))))
theorem Ls:Al Tryz.prog 20 1=some (Yl,[2]):=by kernel_rfl
def J9:Ae:=
 .seq (.reg [Rq 4 (.mv (.const (.bool false)))]) (.seq (.seq (.reg [Mq 6 0,Rq 7 (.len false 6),Mq 8 1,Rq 9 (.len false 8),Bq 10 .neq 7 9]) (.cond 10 (.seq (.reg [Rq 4 (.mv (.const (.bool false)))]) (.ret)) (.skip))) (.seq (.seq (.reg [Nq 5 0]) (.block 0 (.loop (.seq (.seq (.reg [Mq 11 5,Mq 12 0,Rq 13 (.len false 12),Bq 14 .lss 11 13]) (.cond 14 (.skip) (.exit 0))) (.seq (.block 1 (.seq (.dreg [[Mq 17 0,Mq 18 5,Iq 19 5 17 18,Rq 20 (.load true 5 19),Mq 21 1,Mq 22 5,Iq 23 5 21 22,Rq 24 (.load true 5 23)],[Rq 25 (.eqS true [1,0,0,0,2] 20 24)]]) (.cond 25 (.seq (.reg [Rq 4 (.mv (.const (.bool false)))]) (.ret)) (.skip)))) (.reg [Mq 15 5,Bq 16 .add 15 (Kq 1),Mq 5 16])))))) (.seq (.reg [Rq 4 (.mv (.const (.bool true)))]) (.ret))))
theorem Kf:Al Tryz.prog 22 2=some (J9,[4]):=by kernel_rfl
def J7:Ae:=
 .seq (.reg [Rq 4 (.mv (.const (.bool false)))]) (.seq (.seq (.reg [Mq 6 0,Rq 7 (.len false 6),Mq 8 1,Rq 9 (.len false 8),Bq 10 .neq 7 9]) (.cond 10 (.seq (.reg [Rq 4 (.mv (.const (.bool false)))]) (.ret)) (.skip))) (.seq (.seq (.reg [Nq 5 0]) (.block 0 (.loop (.seq (.seq (.reg [Mq 11 5,Mq 12 0,Rq 13 (.len false 12),Bq 14 .lss 11 13]) (.cond 14 (.skip) (.exit 0))) (.seq (.block 1 (.seq (.dreg [[Mq 17 0,Mq 18 5,Iq 19 9 17 18,Rq 20 (.load true 9 19),Mq 21 1,Mq 22 5,Iq 23 9 21 22,Rq 24 (.load true 9 23)],[Rq 25 (.eqS true [1,1,1,1,0,0,2,0,2] 20 24)]]) (.cond 25 (.seq (.reg [Rq 4 (.mv (.const (.bool false)))]) (.ret)) (.skip)))) (.reg [Mq 15 5,Bq 16 .add 15 (Kq 1),Mq 5 16])))))) (.seq (.reg [Rq 4 (.mv (.const (.bool true)))]) (.ret))))
theorem Jw:Al Tryz.prog 23 2=some (J7,[4]):=by kernel_rfl
def Jq:Ae:=
 .seq (.reg [Rq 4 (.mv (.const (.bool false)))]) (.seq (.seq (.reg [Mq 6 0,Rq 7 (.len false 6),Mq 8 1,Rq 9 (.len false 8),Bq 10 .neq 7 9]) (.cond 10 (.seq (.reg [Rq 4 (.mv (.const (.bool false)))]) (.ret)) (.skip))) (.seq (.seq (.reg [Nq 5 0]) (.block 0 (.loop (.seq (.seq (.reg [Mq 11 5,Mq 12 0,Rq 13 (.len false 12),Bq 14 .lss 11 13]) (.cond 14 (.skip) (.exit 0))) (.seq (.block 1 (.seq (.dreg [[Mq 17 0,Mq 18 5,Iq 19 3 17 18,Rq 20 (.load true 3 19),Mq 21 1,Mq 22 5,Iq 23 3 21 22,Rq 24 (.load true 3 23)],[Rq 25 (.eqS true [1,0,0] 20 24)]]) (.cond 25 (.seq (.reg [Rq 4 (.mv (.const (.bool false)))]) (.ret)) (.skip)))) (.reg [Mq 15 5,Bq 16 .add 15 (Kq 1),Mq 5 16])))))) (.seq (.reg [Rq 4 (.mv (.const (.bool true)))]) (.ret))))
theorem J1:Al Tryz.prog 24 2=some (Jq,[4]):=by kernel_rfl
def Af1:Ae:=
 .seq (.reg [Rq 1 (.box 25 2 0),Rq 2 (.zbox 25 [(.slice none 0 0),(.slice none 0 0)])]) (.seq (.dreg [[Fq 5 0 1,Lq 6 5,Cq 7 56 ([6]),Fq 8 1 1,Lq 9 8],[Cq 10 57 ([9]),Fq 11 0 1],[Sq 1 11 7],[Fq 12 1 1],[Sq 1 12 10]]) (.seq (.seq (.reg [Fq 13 0 1,Lq 14 13,Rq 15 (.len false 14),Nq 16 0]) (.block 0 (.loop (.seq (.reg [Bq 17 .lss 16 15]) (.seq (.cond 17 (.skip) (.exit 0)) (.seq (.block 1 (.seq (.reg [Mq 18 16,Iq 19 12 14 16,Rq 20 (.load true 12 19),Rq 4 (.zbox 44 Lj),Mq 3 18,Sq 12 4 20]) (.dreg [[Fq 21 0 1,Lq 22 21,Mq 23 3,Rq 24 (.load true 12 4),Cq 25 58 ([24])],[Iq 26 12 22 23],[Sq 12 26 25]]))) (.reg [Bq 27 .add 16 (Kq 1),Mq 16 27]))))))) (.seq (.reg [Rq 28 (.load true 2 1),Sq 2 2 28]) (.ret))))
theorem Qu:Bi Tryz.prog 25 1=some (Af1,[(2,some (true,2))]):=by kernel_rfl
def Js:Ae:=
 .seq (.reg [Nq 2 0]) (.seq (.seq (.reg [Mq 6 0,Rq 7 (.len false 6),Bq 8 .gtr 7 (Kq 20)]) (.cond 8 (.seq (.reg [Nq 2 2]) (.ret)) (.skip))) (.seq (.seq (.reg [Nq 3 0]) (.block 0 (.loop (.seq (.seq (.reg [Mq 9 3,Mq 10 0,Rq 11 (.len false 10),Bq 12 .lss 9 11]) (.cond 12 (.skip) (.exit 0))) (.seq (.block 1 (.seq (.reg [Mq 15 0,Mq 16 3,Iq 17 5 15 16,Rq 18 (.load true 5 17),Cq 19 60 ([18]),Mq 4 19]) (.seq (.reg [Mq 20 4,Bq 21 .neq 20 (Kq 0)]) (.cond 21 (.seq (.reg [Mq 22 4,Mq 2 22]) (.ret)) (.skip))))) (.reg [Mq 13 3,Bq 14 .add 13 (Kq 1),Mq 3 14])))))) (.seq (.seq (.reg [Nq 5 1]) (.block 2 (.loop (.seq (.seq (.reg [Mq 23 5,Mq 24 0,Rq 25 (.len false 24),Bq 26 .lss 23 25]) (.cond 26 (.skip) (.exit 2))) (.seq (.block 3 (.seq (.dreg [[Mq 29 0,Mq 30 5,Iq 31 5 29 30,Fq 32 0 31,Lq 33 32,Mq 34 0,Mq 35 5,Bq 36 .sub 35 (Kq 1),Iq 37 5 34 36,Fq 38 0 37,Lq 39 38],[Bq 40 .leq 33 39]]) (.cond 40 (.seq (.reg [Nq 2 4]) (.ret)) (.skip)))) (.reg [Mq 27 5,Bq 28 .add 27 (Kq 1),Mq 5 28])))))) (.seq (.reg [Nq 2 0]) (.ret)))))
theorem J6:Al Tryz.prog 28 1=some (Js,[2]):=by kernel_rfl
def Kv:Ae:=
 .seq (.reg [Nq 2 0]) (.seq (.seq (.reg [Mq 8 0,Rq 9 (.len false 8),Bq 10 .gtr 9 (Kq 20)]) (.cond 10 (.seq (.reg [Nq 2 2]) (.ret)) (.skip))) (.seq (.seq (.reg [Nq 3 0]) (.block 0 (.loop (.seq (.seq (.reg [Mq 11 3,Mq 12 0,Rq 13 (.len false 12),Bq 14 .lss 11 13]) (.cond 14 (.skip) (.exit 0))) (.seq (.block 1 (.seq (.reg [Mq 17 0,Mq 18 3,Iq 19 6 17 18,Fq 20 0 19,Rq 21 (.load true 5 20),Cq 22 60 ([21]),Mq 4 22]) (.seq (.reg [Mq 23 4,Bq 24 .neq 23 (Kq 0)]) (.cond 24 (.seq (.reg [Mq 25 4,Mq 2 25]) (.ret)) (.skip))))) (.reg [Mq 15 3,Bq 16 .add 15 (Kq 1),Mq 3 16])))))) (.seq (.seq (.reg [Nq 5 0]) (.block 2 (.loop (.seq (.seq (.reg [Mq 26 5,Mq 27 0,Rq 28 (.len false 27),Bq 29 .lss 26 28]) (.cond 29 (.skip) (.exit 2))) (.seq (.block 3 (.seq (.reg [Mq 32 0,Mq 33 5,Iq 34 6 32 33,Fq 35 5 34,Lq 36 35,Cq 37 16 ([36,(Kq 0),(Kq 100)]),Rq 38 (.not 37)]) (.cond 38 (.seq (.reg [Nq 2 3]) (.ret)) (.skip)))) (.reg [Mq 30 5,Bq 31 .add 30 (Kq 1),Mq 5 31])))))) (.seq (.seq (.reg [Nq 6 0]) (.block 4 (.loop (.seq (.seq (.reg [Mq 39 6,Mq 40 0,Rq 41 (.len false 40),Bq 42 .lss 39 41]) (.cond 42 (.skip) (.exit 4))) (.seq (.block 5 (.seq (.reg [Nq 7 0]) (.block 6 (.loop (.seq (.seq (.reg [Mq 45 7,Mq 46 6,Bq 47 .lss 45 46]) (.cond 47 (.skip) (.exit 6))) (.seq (.block 7 (.seq (.dreg [[Mq 50 0,Mq 51 7,Iq 52 6 50 51,Fq 53 0 52,Fq 54 0 53,Lq 55 54,Mq 56 0,Mq 57 6,Iq 58 6 56 57,Fq 59 0 58,Fq 60 0 59,Lq 61 60],[Bq 62 .eql 55 61]]) (.cond 62 (.seq (.reg [Nq 2 6]) (.ret)) (.skip)))) (.reg [Mq 48 7,Bq 49 .add 48 (Kq 1),Mq 7 49]))))))) (.reg [Mq 43 6,Bq 44 .add 43 (Kq 1),Mq 6 44])))))) (.seq (.reg [Nq 2 0]) (.ret))))))
theorem Ku:Al Tryz.prog 29 1=some (Kv,[2]):=by kernel_rfl
def Jk:Ae:=
 .seq (.reg [Nq 2 0]) (.seq (.seq (.reg [Mq 6 0,Rq 7 (.len false 6),Bq 8 .gtr 7 (Kq 40)]) (.cond 8 (.seq (.reg [Nq 2 2]) (.ret)) (.skip))) (.seq (.seq (.reg [Nq 3 0]) (.block 0 (.loop (.seq (.seq (.reg [Mq 9 3,Mq 10 0,Rq 11 (.len false 10),Bq 12 .lss 9 11]) (.cond 12 (.skip) (.exit 0))) (.seq (.block 1 (.seq (.reg [Mq 15 0,Mq 16 3,Iq 17 9 15 16,Rq 18 (.load true 9 17),Cq 19 61 ([18]),Mq 4 19]) (.seq (.reg [Mq 20 4,Bq 21 .neq 20 (Kq 0)]) (.cond 21 (.seq (.reg [Mq 22 4,Mq 2 22]) (.ret)) (.skip))))) (.reg [Mq 13 3,Bq 14 .add 13 (Kq 1),Mq 3 14])))))) (.seq (.seq (.reg [Nq 5 1]) (.block 2 (.loop (.seq (.seq (.reg [Mq 23 5,Mq 24 0,Rq 25 (.len false 24),Bq 26 .lss 23 25]) (.cond 26 (.skip) (.exit 2))) (.seq (.block 3 (.seq (.dreg [[Mq 29 0,Mq 30 5,Bq 31 .sub 30 (Kq 1),Iq 32 9 29 31,Rq 33 (.load true 9 32),Mq 34 0,Mq 35 5,Iq 36 9 34 35,Rq 37 (.load true 9 36)],[Cq 38 62 ([33,37])],[Rq 39 (.not 38)]]) (.cond 39 (.seq (.reg [Nq 2 4]) (.ret)) (.skip)))) (.reg [Mq 27 5,Bq 28 .add 27 (Kq 1),Mq 5 28])))))) (.seq (.reg [Nq 2 0]) (.ret)))))
theorem Jz:Al Tryz.prog 30 1=some (Jk,[2]):=by kernel_rfl
def Ir:Ae:=
 .seq (.reg [Nq 2 0]) (.seq (.seq (.reg [Mq 5 0,Rq 6 (.len false 5),Bq 7 .gtr 6 (Kq 6)]) (.cond 7 (.seq (.reg [Nq 2 2]) (.ret)) (.skip))) (.seq (.seq (.reg [Nq 3 0]) (.block 0 (.loop (.seq (.seq (.reg [Mq 8 3,Mq 9 0,Rq 10 (.len false 9),Bq 11 .lss 8 10]) (.cond 11 (.skip) (.exit 0))) (.seq (.block 1 (.seq (.seq (.reg [Mq 14 0,Mq 15 3,Iq 16 3 14 15,Fq 17 0 16,Lq 18 17,Cq 19 27 ([18]),Rq 20 (.not 19)]) (.cond 20 (.seq (.reg [Nq 2 1]) (.ret)) (.skip))) (.seq (.reg [Mq 21 0,Mq 22 3,Iq 23 3 21 22,Fq 24 1 23,Lq 25 24,Cq 26 63 ([25]),Rq 27 (.not 26),Mq 28 27,Hq 29 28 false 0,Hq 30 28 false 3,Gq 31 28 false (.idxA 3 29 30),Gq 32 28 false (.fldA 2 31),Gq 33 28 false (.load false 1 32),Gq 34 28 false (.call (.func 16) [33,(Kq 1),(Kq 1000000)]),Gq 35 28 false (.not 34),Rq 36 (.pick 28 (.const (.bool true)) 35)]) (.cond 36 (.seq (.reg [Nq 2 3]) (.ret)) (.skip))))) (.reg [Mq 12 3,Bq 13 .add 12 (Kq 1),Mq 3 13])))))) (.seq (.seq (.reg [Nq 4 1]) (.block 2 (.loop (.seq (.seq (.reg [Mq 37 4,Mq 38 0,Rq 39 (.len false 38),Bq 40 .lss 37 39]) (.cond 40 (.skip) (.exit 2))) (.seq (.block 3 (.seq (.dreg [[Mq 43 0,Mq 44 4,Iq 45 3 43 44,Fq 46 0 45,Lq 47 46,Mq 48 0,Mq 49 4,Bq 50 .sub 49 (Kq 1),Iq 51 3 48 50,Fq 52 0 51,Lq 53 52],[Bq 54 .leq 47 53]]) (.cond 54 (.seq (.reg [Nq 2 4]) (.ret)) (.skip)))) (.reg [Mq 41 4,Bq 42 .add 41 (Kq 1),Mq 4 42])))))) (.seq (.reg [Nq 2 0]) (.ret)))))
theorem Is:Al Tryz.prog 31 1=some (Ir,[2]):=by kernel_rfl
def Lm:Ae:=
 .seq (.reg [Rq 1 (.box 41 5 0),Nq 2 0]) (.seq (.seq (.reg [Fq 3 0 1,Lq 4 3,Cq 5 16 ([4,(.const (.int .i64 (-10000000))),(Kq 10000000)]),Rq 6 (.not 5),Mq 7 6,Gq 8 7 false (.fldA 1 1),Gq 9 7 false (.load false 1 8),Gq 10 7 false (.call (.func 16) [9,(.const (.int .i64 (-10000000))),(Kq 10000000)]),Gq 11 7 false (.not 10),Rq 12 (.pick 7 (.const (.bool true)) 11),Mq 13 12,Gq 14 13 false (.fldA 2 1),Gq 15 13 false (.load false 1 14),Gq 16 13 false (.call (.func 16) [15,(.const (.int .i64 (-10000000))),(Kq 10000000)]),Gq 17 13 false (.not 16),Rq 18 (.pick 13 (.const (.bool true)) 17),Mq 19 18,Gq 20 19 false (.fldA 3 1),Gq 21 19 false (.load false 1 20),Gq 22 19 false (.call (.func 16) [21,(Kq 0),(Kq 1000000)]),Gq 23 19 false (.not 22),Rq 24 (.pick 19 (.const (.bool true)) 23),Mq 25 24,Gq 26 25 false (.fldA 4 1),Gq 27 25 false (.load false 1 26),Gq 28 25 false (.call (.func 16) [27,(Kq 0),(Kq 1000)]),Gq 29 25 false (.not 28),Rq 30 (.pick 25 (.const (.bool true)) 29)]) (.cond 30 (.seq (.reg [Nq 2 3]) (.ret)) (.skip))) (.seq (.reg [Nq 2 0]) (.ret)))
theorem Ly:Al Tryz.prog 32 1=some (Lm,[2]):=by kernel_rfl
def Lw:Ae:=
 .seq (.reg [Nq 2 0]) (.seq (.seq (.reg [Mq 6 0,Rq 7 (.len false 6),Bq 8 .gtr 7 (Kq 20)]) (.cond 8 (.seq (.reg [Nq 2 2]) (.ret)) (.skip))) (.seq (.seq (.reg [Nq 3 0]) (.block 0 (.loop (.seq (.seq (.reg [Mq 9 3,Mq 10 0,Rq 11 (.len false 10),Bq 12 .lss 9 11]) (.cond 12 (.skip) (.exit 0))) (.seq (.block 1 (.seq (.seq (.reg [Mq 15 0,Mq 16 3,Iq 17 6 15 16,Fq 18 0 17,Lq 19 18,Cq 20 27 ([19]),Rq 21 (.not 20)]) (.cond 21 (.seq (.reg [Nq 2 1]) (.ret)) (.skip))) (.seq (.reg [Mq 22 0,Mq 23 3,Iq 24 6 22 23,Fq 25 1 24,Rq 26 (.load true 5 25),Cq 27 32 ([26]),Mq 4 27]) (.seq (.reg [Mq 28 4,Bq 29 .neq 28 (Kq 0)]) (.cond 29 (.seq (.reg [Mq 30 4,Mq 2 30]) (.ret)) (.skip)))))) (.reg [Mq 13 3,Bq 14 .add 13 (Kq 1),Mq 3 14])))))) (.seq (.seq (.reg [Nq 5 1]) (.block 2 (.loop (.seq (.seq (.reg [Mq 31 5,Mq 32 0,Rq 33 (.len false 32),Bq 34 .lss 31 33]) (.cond 34 (.skip) (.exit 2))) (.seq (.block 3 (.seq (.dreg [[Mq 37 0,Mq 38 5,Iq 39 6 37 38,Fq 40 0 39,Lq 41 40,Mq 42 0,Mq 43 5,Bq 44 .sub 43 (Kq 1),Iq 45 6 42 44,Fq 46 0 45,Lq 47 46],[Bq 48 .leq 41 47]]) (.cond 48 (.seq (.reg [Nq 2 4]) (.ret)) (.skip)))) (.reg [Mq 35 5,Bq 36 .add 35 (Kq 1),Mq 5 36])))))) (.seq (.reg [Nq 2 0]) (.ret)))))
theorem Lk:Al Tryz.prog 33 1=some (Lw,[2]):=by kernel_rfl
def Nf:Ae:=
 .seq (.reg [Nq 4 0]) (.seq (.seq (.reg [Nq 5 0]) (.block 0 (.loop (.seq (.seq (.reg [Mq 6 5,Mq 7 0,Rq 8 (.len false 7),Bq 9 .lss 6 8]) (.cond 9 (.skip) (.exit 0))) (.seq (.block 1 (.seq (.reg [Mq 12 0,Mq 13 5,Iq 14 5 12 13,Fq 15 0 14,Lq 16 15,Mq 17 1,Bq 18 .eql 16 17]) (.cond 18 (.seq (.reg [Mq 19 5,Mq 4 19]) (.ret)) (.skip)))) (.reg [Mq 10 5,Bq 11 .add 10 (Kq 1),Mq 5 11])))))) (.seq (.reg [Rq 4 (.mv (.const (.int .i64 (-1))))]) (.ret)))
theorem M2:Al Tryz.prog 34 2=some (Nf,[4]):=by kernel_rfl
def Ks:Ae:=
 .seq (.reg [Rq 2 (.box 47 5 0),Rq 3 (.box 47 5 1),Rq 4 (.mv (.const (.bool false)))]) (.seq (.seq (.reg [Fq 5 2 2,Lq 6 5,Fq 7 2 3,Lq 8 7,Bq 9 .neq 6 8]) (.cond 9 (.seq (.reg [Fq 10 2 2,Lq 11 10,Fq 12 2 3,Lq 13 12,Bq 14 .gtr 11 13,Mq 4 14]) (.ret)) (.skip))) (.seq (.seq (.reg [Fq 15 1 2,Lq 16 15,Fq 17 1 3,Lq 18 17,Bq 19 .neq 16 18]) (.cond 19 (.seq (.reg [Fq 20 1 2,Lq 21 20,Fq 22 1 3,Lq 23 22,Bq 24 .gtr 21 23,Mq 4 24]) (.ret)) (.skip))) (.seq (.seq (.reg [Fq 25 3 2,Lq 26 25,Fq 27 3 3,Lq 28 27,Bq 29 .neq 26 28]) (.cond 29 (.seq (.reg [Fq 30 3 2,Lq 31 30,Fq 32 3 3,Lq 33 32,Bq 34 .gtr 31 33,Mq 4 34]) (.ret)) (.skip))) (.seq (.reg [Fq 35 4 2,Lq 36 35,Mq 37 36,Gq 38 37 true (.fldA 4 3),Gq 39 37 true (.load false 1 38),Gq 40 37 true (.not 39),Rq 41 (.pick 37 40 (.const (.bool false))),Mq 4 41]) (.ret)))))
theorem Km:Al Tryz.prog 35 2=some (Ks,[4]):=by kernel_rfl
def Kr:Ae:=
 .seq (.reg [Rq 2 (.mv (.const (.string ⟨#[]⟩)))]) (.seq (.reg [Mq 4 0,Cq 5 39 ([4]),Mq 3 5]) (.seq (.seq (.dreg [[Mq 6 0],[Fq 7 0 6],[Fq 8 2 7],[Lq 9 8],[Mq 10 9],[Hq 11 10 false 3],[Gq 12 10 false (.bin .lss 11 (Kq 0))],[Rq 13 (.pick 10 (.const (.bool true)) 12)],[Mq 14 13],[Hq 15 14 false 3,Hq 16 14 false 0,Gq 17 14 false (.fldA 0 16),Gq 18 14 false (.fldA 0 17),Gq 19 14 false (.load false 1 18),Gq 20 14 false (.len true 19),Hq 21 14 false 0,Gq 22 14 false (.fldA 0 21),Gq 23 14 false (.fldA 1 22),Gq 24 14 false (.load false 1 23),Gq 25 14 false (.bin .sub 20 24)],[Gq 26 14 false (.bin .gtr 15 25)],[Rq 27 (.pick 14 (.const (.bool true)) 26)]]) (.cond 27 (.seq (.reg [Mq 28 0,Fq 29 0 28,Fq 30 2 29,Sq 1 30 (.const (.bool true))]) (.seq (.reg [Rq 2 (.mv (.const (.string ⟨#[]⟩)))]) (.ret))) (.skip))) (.seq (.reg [Mq 31 0,Fq 32 0 31,Fq 33 1 32,Lq 34 33,Mq 35 3,Bq 36 .add 34 35,Fq 37 0 31,Fq 38 1 37,Sq 1 38 36]) (.seq (.dreg [[Mq 39 0,Fq 40 0 39,Fq 41 0 40,Lq 42 41,Mq 43 0,Fq 44 0 43,Fq 45 1 44,Lq 46 45,Mq 47 3,Bq 48 .sub 46 47,Mq 49 0,Fq 50 0 49,Fq 51 1 50,Lq 52 51],[Rq 53 (.slcS 42 (some 48) (some 52))],[Mq 2 53]]) (.ret)))))
theorem Kn:Al Tryz.prog 36 1=some (Kr,[2]):=by kernel_rfl
def Lc:Ae:=
 .seq (.reg [Rq 2 (.mv (.const (.bool false)))]) (.seq (.reg [Mq 4 0,Cq 5 39 ([4]),Mq 3 5]) (.seq (.reg [Mq 6 0,Mq 7 0,Fq 8 0 7,Fq 9 2 8,Lq 10 9,Mq 11 10,Hq 12 11 false 3,Gq 13 11 false (.bin .lss 12 (Kq 0)),Rq 14 (.pick 11 (.const (.bool true)) 13),Mq 15 14,Hq 16 15 false 3,Gq 17 15 false (.bin .gtr 16 (Kq 1)),Rq 18 (.pick 15 (.const (.bool true)) 17),Fq 19 0 6,Fq 20 2 19,Sq 1 20 18]) (.seq (.reg [Mq 21 3,Bq 22 .eql 21 (Kq 1),Mq 2 22]) (.ret))))
theorem Ln:Al Tryz.prog 37 1=some (Lc,[2]):=by kernel_rfl
def Jp:Ae:=
 .seq (.reg [Nq 4 0]) (.seq (.reg [Mq 6 0,Cq 7 39 ([6]),Mq 5 7]) (.seq (.seq (.reg [Mq 8 5,Bq 9 .lss 8 (Kq 0),Mq 10 9,Hq 11 10 false 5,Hq 12 10 false 1,Gq 13 10 false (.bin .gtr 11 12),Rq 14 (.pick 10 (.const (.bool true)) 13)]) (.cond 14 (.reg [Mq 15 0,Fq 16 0 15,Fq 17 2 16,Sq 1 17 (.const (.bool true))]) (.skip))) (.seq (.seq (.reg [Mq 18 0,Fq 19 0 18,Fq 20 2 19,Lq 21 20]) (.cond 21 (.seq (.reg [Nq 4 0]) (.ret)) (.skip))) (.seq (.reg [Mq 22 5,Mq 4 22]) (.ret)))))
theorem J2:Al Tryz.prog 38 2=some (Jp,[4]):=by kernel_rfl
def Eh:Ae:=
 .seq (.reg [Nq 2 0]) (.seq (.reg [Mq 6 0,Fq 7 0 6,Fq 8 1 7,Lq 9 8,Mq 3 9]) (.seq (.dreg [[Mq 10 0,Fq 11 0 10,Fq 12 1 11,Lq 13 12,Mq 14 0,Fq 15 0 14,Fq 16 0 15,Lq 17 16,Rq 18 (.len true 17)],[Bq 19 .lss 13 18],[Mq 20 19],[Hq 21 20 true 0,Gq 22 20 true (.fldA 0 21),Gq 23 20 true (.fldA 0 22),Gq 24 20 true (.load false 1 23),Hq 25 20 true 0,Gq 26 20 true (.fldA 0 25),Gq 27 20 true (.fldA 1 26),Gq 28 20 true (.load false 1 27)],[Gq 29 20 true (.idxS 24 28)],[Gq 30 20 true (.bin .eql 29 (.const (.int .u8 45)))],[Rq 31 (.pick 20 30 (.const (.bool false)))],[Mq 4 31]]) (.seq (.seq (.reg [Mq 32 4]) (.cond 32 (.reg [Mq 33 0,Fq 34 0 33,Fq 35 1 34,Lq 36 35,Bq 37 .add 36 (Kq 1),Fq 38 0 33,Fq 39 1 38,Sq 1 39 37]) (.skip))) (.seq (.reg [Nq 5 0]) (.seq (.block 0 (.loop (.seq (.seq (.dreg [[Mq 40 0,Fq 41 0 40,Fq 42 1 41,Lq 43 42,Mq 44 0,Fq 45 0 44,Fq 46 0 45,Lq 47 46,Rq 48 (.len true 47)],[Bq 49 .lss 43 48],[Mq 50 49],[Hq 51 50 true 0,Gq 52 50 true (.fldA 0 51),Gq 53 50 true (.fldA 0 52),Gq 54 50 true (.load false 1 53),Hq 55 50 true 0,Gq 56 50 true (.fldA 0 55),Gq 57 50 true (.fldA 1 56),Gq 58 50 true (.load false 1 57)],[Gq 59 50 true (.idxS 54 58)],[Gq 60 50 true (.bin .geq 59 (.const (.int .u8 48)))],[Rq 61 (.pick 50 60 (.const (.bool false)))],[Mq 62 61],[Hq 63 62 true 0,Gq 64 62 true (.fldA 0 63),Gq 65 62 true (.fldA 0 64),Gq 66 62 true (.load false 1 65),Hq 67 62 true 0,Gq 68 62 true (.fldA 0 67),Gq 69 62 true (.fldA 1 68),Gq 70 62 true (.load false 1 69)],[Gq 71 62 true (.idxS 66 70)],[Gq 72 62 true (.bin .leq 71 (.const (.int .u8 57)))],[Rq 73 (.pick 62 72 (.const (.bool false)))],[Mq 74 73],[Hq 75 74 true 5],[Gq 76 74 true (.bin .lss 75 (Kq 1099511627776))],[Rq 77 (.pick 74 76 (.const (.bool false)))]]) (.cond 77 (.skip) (.exit 0))) (.block 1 (.seq (.dreg [[Mq 78 5,Rq 79 (.bin .mul (Kq 10) 78),Mq 80 0,Fq 81 0 80,Fq 82 0 81,Lq 83 82,Mq 84 0,Fq 85 0 84,Fq 86 1 85,Lq 87 86,Rq 88 (.idxS 83 87),Rq 89 (.conv .i64 88)],[Bq 90 .add 79 89],[Bq 91 .sub 90 (Kq 48)],[Mq 5 91]]) (.reg [Mq 92 0,Fq 93 0 92,Fq 94 1 93,Lq 95 94,Bq 96 .add 95 (Kq 1),Fq 97 0 92,Fq 98 1 97,Sq 1 98 96])))))) (.seq (.seq (.reg [Mq 99 4]) (.cond 99 (.reg [Mq 100 5,Rq 101 (.neg 100),Mq 5 101]) (.skip))) (.seq (.seq (.dreg [[Mq 102 0],[Fq 103 0 102],[Fq 104 2 103],[Lq 105 104],[Mq 106 105],[Hq 107 106 false 0,Gq 108 106 false (.fldA 0 107),Gq 109 106 false (.fldA 1 108),Gq 110 106 false (.load false 1 109),Hq 111 106 false 0,Gq 112 106 false (.fldA 0 111),Gq 113 106 false (.fldA 0 112),Gq 114 106 false (.load false 1 113),Gq 115 106 false (.len true 114)],[Gq 116 106 false (.bin .geq 110 115)],[Rq 117 (.pick 106 (.const (.bool true)) 116)],[Mq 118 117],[Hq 119 118 false 0,Gq 120 118 false (.fldA 0 119),Gq 121 118 false (.fldA 0 120),Gq 122 118 false (.load false 1 121),Hq 123 118 false 3,Hq 124 118 false 0,Gq 125 118 false (.fldA 0 124),Gq 126 118 false (.fldA 1 125),Gq 127 118 false (.load false 1 126),Gq 128 118 false (.bin .add 127 (Kq 1)),Gq 129 118 false (.slcS 122 (some 123) (some 128)),Hq 130 118 false 5,Gq 131 118 false (.call (.func 64) [130])],[Gq 132 118 false (.bin .neq 129 131)],[Rq 133 (.pick 118 (.const (.bool true)) 132)]]) (.cond 133 (.seq (.reg [Mq 134 0,Fq 135 0 134,Fq 136 2 135,Sq 1 136 (.const (.bool true))]) (.seq (.reg [Nq 2 0]) (.ret))) (.skip))) (.seq (.reg [Mq 137 0,Fq 138 0 137,Fq 139 1 138,Lq 140 139,Bq 141 .add 140 (Kq 1),Fq 142 0 137,Fq 143 1 142,Sq 1 143 141]) (.seq (.reg [Mq 144 5,Mq 2 144]) (.ret))))))))))
def Kl:Ae:=
 .seq (.reg [Rq 1 (.box 59 6 0),Nq 2 0]) (.seq (.seq (.reg [Fq 8 0 1,Lq 9 8,Cq 10 27 ([9]),Rq 11 (.not 10),Mq 12 11,Gq 13 12 false (.fldA 1 1),Gq 14 12 false (.load false 1 13),Gq 15 12 false (.not 14),Hq 16 12 false 15,Gq 17 16 true (.fldA 3 1),Gq 18 16 true (.load false 1 17),Gq 19 16 true (.len false 18),Gq 20 16 true (.bin .gtr 19 (Kq 0)),Hq 21 16 true 20,Gq 22 21 false (.fldA 4 1),Gq 23 21 false (.load false 1 22),Gq 24 21 false (.len false 23),Gq 25 21 false (.bin .gtr 24 (Kq 0)),Gq 26 16 true (.pick 21 (.const (.bool true)) 25),Hq 27 16 true 26,Gq 28 27 false (.fldA 5 1),Gq 29 27 false (.load false 1 28),Gq 30 27 false (.len false 29),Gq 31 27 false (.bin .gtr 30 (Kq 0)),Gq 32 16 true (.pick 27 (.const (.bool true)) 31),Gq 33 12 false (.pick 16 32 (.const (.bool false))),Rq 34 (.pick 12 (.const (.bool true)) 33)]) (.cond 34 (.seq (.reg [Nq 2 1]) (.ret)) (.skip))) (.seq (.seq (.reg [Fq 35 1 1,Lq 36 35]) (.cond 36 (.seq (.reg [Fq 37 2 1,Lq 38 37,Cq 39 28 ([38]),Mq 3 39]) (.seq (.seq (.reg [Mq 40 3,Bq 41 .eql 40 (Kq 0)]) (.cond 41 (.reg [Fq 42 3 1,Lq 43 42,Cq 44 30 ([43]),Mq 3 44]) (.skip))) (.seq (.seq (.reg [Mq 45 3,Bq 46 .eql 45 (Kq 0)]) (.cond 46 (.reg [Fq 47 4 1,Lq 48 47,Cq 49 31 ([48]),Mq 3 49]) (.skip))) (.seq (.seq (.reg [Mq 50 3,Bq 51 .eql 50 (Kq 0)]) (.cond 51 (.reg [Fq 52 5 1,Lq 53 52,Cq 54 33 ([53]),Mq 3 54]) (.skip))) (.seq (.reg [Mq 55 3,Mq 2 55]) (.ret)))))) (.skip))) (.seq (.seq (.reg [Fq 56 2 1,Lq 57 56,Rq 58 (.len false 57),Bq 59 .gtr 58 (Kq 5)]) (.cond 59 (.seq (.reg [Nq 2 2]) (.ret)) (.skip))) (.seq (.seq (.reg [Nq 4 0]) (.block 0 (.loop (.seq (.seq (.reg [Mq 60 4,Fq 61 2 1,Lq 62 61,Rq 63 (.len false 62),Bq 64 .lss 60 63]) (.cond 64 (.skip) (.exit 0))) (.seq (.block 1 (.seq (.reg [Fq 67 2 1,Lq 68 67,Mq 69 4,Iq 70 5 68 69,Rq 71 (.load true 5 70),Cq 72 60 ([71]),Mq 5 72]) (.seq (.reg [Mq 73 5,Bq 74 .neq 73 (Kq 0)]) (.cond 74 (.seq (.reg [Mq 75 5,Mq 2 75]) (.ret)) (.skip))))) (.reg [Mq 65 4,Bq 66 .add 65 (Kq 1),Mq 4 66])))))) (.seq (.seq (.reg [Nq 6 0]) (.block 2 (.loop (.seq (.seq (.reg [Mq 76 6,Fq 77 2 1,Lq 78 77,Rq 79 (.len false 78),Bq 80 .lss 76 79]) (.cond 80 (.skip) (.exit 2))) (.seq (.block 3 (.seq (.reg [Nq 7 0]) (.block 4 (.loop (.seq (.seq (.reg [Mq 83 7,Mq 84 6,Bq 85 .lss 83 84]) (.cond 85 (.skip) (.exit 4))) (.seq (.block 5 (.seq (.dreg [[Fq 88 2 1,Lq 89 88,Mq 90 7,Iq 91 5 89 90,Fq 92 0 91,Lq 93 92,Fq 94 2 1,Lq 95 94,Mq 96 6,Iq 97 5 95 96,Fq 98 0 97,Lq 99 98],[Bq 100 .eql 93 99]]) (.cond 100 (.seq (.reg [Nq 2 6]) (.ret)) (.skip)))) (.reg [Mq 86 7,Bq 87 .add 86 (Kq 1),Mq 7 87]))))))) (.reg [Mq 81 6,Bq 82 .add 81 (Kq 1),Mq 6 82])))))) (.seq (.reg [Nq 2 0]) (.ret)))))))
theorem Ki:Al Tryz.prog 40 1=some (Kl,[2]):=by kernel_rfl
def N2:Ae:=
 .seq (.reg [Nq 2 0]) (.seq (.reg [Mq 9 0,Fq 10 0 9,Fq 11 2 10,Fq 12 1 11,Lq 13 12,Mq 3 13]) (.seq (.seq (.reg [Mq 14 3,Bq 15 .lss 14 (Kq 0),Mq 16 15,Hq 17 16 false 3,Hq 18 16 false 0,Gq 19 16 false (.fldA 0 18),Gq 20 16 false (.fldA 0 19),Gq 21 16 false (.fldA 1 20),Gq 22 16 false (.load false 1 21),Gq 23 16 false (.len false 22),Gq 24 16 false (.bin .geq 17 23),Rq 25 (.pick 16 (.const (.bool true)) 24)]) (.cond 25 (.seq (.reg [Nq 2 5]) (.ret)) (.skip))) (.seq (.reg [Mq 26 0,Fq 27 0 26,Fq 28 0 27,Fq 29 1 28,Lq 30 29,Mq 31 3,Iq 32 2 30 31,Rq 33 (.load true 2 32),Rq 4 (.zbox 57 [(.int .i64 0),(.string ⟨#[]⟩)]),Sq 2 4 33]) (.seq (.seq (.reg [Mq 34 0,Fq 35 0 34,Fq 36 2 35,Fq 37 0 36,Lq 38 37]) (.block 0 (.seq (.reg [Bq 40 .eql 38 (Kq 5),Mq 39 40]) (.cond 39 (.seq (.seq (.reg [Mq 41 0,Fq 42 0 41,Fq 43 0 42,Fq 44 1 43,Lq 45 44,Rq 46 (.len false 45),Bq 47 .eql 46 (Kq 20)]) (.cond 47 (.seq (.reg [Nq 2 2]) (.ret)) (.skip))) (.seq (.dreg [[],[Rq 56 (.app 57 2 24 (.agg #[(.int .i64 0),(.string ⟨#[]⟩)]) 53 55)],[Mq 48 0,Mq 49 0,Fq 50 0 49,Fq 51 0 50,Fq 52 1 51,Lq 53 52,Rq 54 (.load true 2 4),Rq 55 (.mks 57 2 1 [(.int .i64 0),(.string ⟨#[]⟩)] [(0,54)])],[Fq 57 0 48],[Fq 58 0 57],[Fq 59 1 58],[Sq 1 59 56]]) (.seq (.reg [Nq 2 0]) (.ret)))) (.seq (.reg [Bq 61 .eql 38 (Kq 3),Mq 60 61]) (.cond 60 (.seq (.reg [Fq 63 1 4,Lq 64 63,Cq 65 21 ([64]),Mq 62 65,Eq1 66 62 0,Eq1 67 62 1,Rq 5 (.zbox 59 T8),Sq 6 5 66,Mq 6 67]) (.seq (.dreg [[],[Rq 81 (.mkm)],[Mq 69 0,Fq 70 0 69,Fq 71 0 70,Fq 72 0 71,Lq 73 72,Fq 74 0 4,Lq 75 74,Iq 76 12 73 75,Rq 77 (.load true 12 76),Rq 78 (.load true 6 5),Cq 79 65 ([77,78]),Mq 68 79,Eq1 80 68 0,Eq1 81 68 1,Rq 7 (.zbox 44 Lj),Sq 12 7 80],[Mq 8 81]]) (.seq (.reg [Mq 82 8,Bq 83 .eql 82 (Kq 0)]) (.cond 83 (.dreg [[Mq 84 0,Fq 85 0 84,Fq 86 0 85,Fq 87 0 86,Lq 88 87,Fq 89 0 4,Lq 90 89,Rq 91 (.load true 12 7)],[Iq 92 12 88 90],[Sq 12 92 91]]) (.skip))))) (.skip))))))) (.seq (.reg [Mq 93 0,Mq 94 0,Fq 95 0 94,Fq 96 0 95,Fq 97 1 96,Lq 98 97,Mq 99 3,Mq 100 3,Bq 101 .add 100 (Kq 1),Cq 102 66 ([98,99,101]),Fq 103 0 93,Fq 104 0 103,Fq 105 1 104,Sq 1 105 102]) (.seq (.reg [Nq 2 0]) (.ret)))))))
theorem N4:Al Tryz.prog 41 1=some (N2,[2]):=by kernel_rfl
def Om:Ae:=
 .seq (.reg [Rq 4 (.mv (.const (.bool false)))]) (.seq (.reg [Mq 5 1,Bq 6 .geq 5 (Kq 0),Mq 7 6,Hq 8 7 true 1,Hq 9 7 true 0,Gq 10 7 true (.fldA 0 9),Gq 11 7 true (.fldA 0 10),Gq 12 7 true (.fldA 0 11),Gq 13 7 true (.load false 1 12),Gq 14 7 true (.len false 13),Gq 15 7 true (.bin .lss 8 14),Rq 16 (.pick 7 15 (.const (.bool false))),Mq 4 16]) (.ret))
theorem H6:Al Tryz.prog 42 2=some (Om,[4]):=by kernel_rfl
def Tn:Ae:=
 .seq (.reg [Nq 2 0]) (.seq (.seq (.reg [Mq 7 0,Rq 8 (.len false 7),Bq 9 .gtr 8 (Kq 20)]) (.cond 9 (.seq (.reg [Nq 2 2]) (.ret)) (.skip))) (.seq (.seq (.reg [Mq 10 0,Rq 11 (.len false 10),Nq 12 0]) (.block 0 (.loop (.seq (.reg [Bq 13 .lss 12 11]) (.seq (.cond 13 (.skip) (.exit 0)) (.seq (.block 1 (.seq (.reg [Iq 14 6 10 12,Rq 15 (.load true 6 14),Rq 4 (.zbox 88 Aas),Sq 6 4 15]) (.seq (.seq (.reg [Fq 16 0 4,Lq 17 16,Cq 18 44 ([17]),Rq 19 (.not 18)]) (.cond 19 (.seq (.reg [Nq 2 1]) (.ret)) (.skip))) (.seq (.reg [Fq 20 1 4,Rq 21 (.load true 5 20),Cq 22 49 ([21]),Mq 5 22]) (.seq (.reg [Mq 23 5,Bq 24 .neq 23 (Kq 0)]) (.cond 24 (.seq (.reg [Mq 25 5,Mq 2 25]) (.ret)) (.skip))))))) (.reg [Bq 26 .add 12 (Kq 1),Mq 12 26]))))))) (.seq (.seq (.reg [Nq 6 1]) (.block 2 (.loop (.seq (.seq (.reg [Mq 27 6,Mq 28 0,Rq 29 (.len false 28),Bq 30 .lss 27 29]) (.cond 30 (.skip) (.exit 2))) (.seq (.block 3 (.seq (.dreg [[Mq 33 0,Mq 34 6,Iq 35 6 33 34,Fq 36 0 35,Lq 37 36,Mq 38 0,Mq 39 6,Bq 40 .sub 39 (Kq 1),Iq 41 6 38 40,Fq 42 0 41,Lq 43 42],[Bq 44 .leq 37 43]]) (.cond 44 (.seq (.reg [Nq 2 4]) (.ret)) (.skip)))) (.reg [Mq 31 6,Bq 32 .add 31 (Kq 1),Mq 6 32])))))) (.seq (.reg [Nq 2 0]) (.ret)))))
theorem L2:Al Tryz.prog 50 1=some (Tn,[2]):=by kernel_rfl
def Vz:Ae:=
 .seq (.reg [Rq 1 (.box 44 12 0),Rq 2 (.mv (.const (.bool false)))]) (.seq (.seq (.reg [Fq 7 3 1,Lq 8 7,Rq 9 (.len false 8),Nq 10 0]) (.block 0 (.loop (.seq (.reg [Bq 11 .lss 10 9]) (.seq (.cond 11 (.skip) (.exit 0)) (.seq (.block 1 (.seq (.reg [Iq 12 6 8 10,Rq 13 (.load true 6 12),Rq 4 (.zbox 79 [(.string ⟨#[]⟩),(.int .i64 0),(.int .i64 0),(.int .i64 0),(.bool false),(.int .i64 0)]),Sq 6 4 13]) (.seq (.reg [Fq 15 2 1,Lq 16 15,Fq 17 0 4,Fq 18 0 17,Lq 19 18,Cq 20 51 ([16,19]),Mq 14 20,Eq1 21 14 0,Eq1 22 14 1,Mq 5 21,Mq 6 22]) (.seq (.dreg [[Mq 23 6],[Rq 24 (.not 23)],[Mq 25 24],[Gq 26 25 false (.fldA 0 4),Gq 27 25 false (.load true 5 26),Gq 28 25 false (.fldA 2 1),Gq 29 25 false (.load false 1 28),Hq 30 25 false 5,Gq 31 25 false (.idxA 5 29 30),Gq 32 25 false (.load true 5 31)],[Gq 33 25 false (.call (.func 94) [27,32])],[Gq 34 25 false (.bin .gtr 33 (Kq 0))],[Rq 35 (.pick 25 (.const (.bool true)) 34)]]) (.cond 35 (.seq (.reg [Rq 2 (.mv (.const (.bool false)))]) (.ret)) (.skip)))))) (.reg [Bq 36 .add 10 (Kq 1),Mq 10 36]))))))) (.seq (.reg [Rq 2 (.mv (.const (.bool true)))]) (.ret)))
theorem Jh:Al Tryz.prog 52 1=some (Vz,[2]):=by kernel_rfl
def Dy:Ae:=
 .seq (.reg [Rq 1 (.box 102 1 0),Rq 2 (.zbox 59 T8)]) (.seq (.dreg [[],[⟨none,none,.mkm⟩,⟨none,none,.mkm⟩],[Lq 4 1,Cq 5 95 ([4]),Lq 6 1,Cq 7 96 ([6]),Rq 8 (.build T8 [(0,1,5),(1,1,7)]),Rq 3 (.zbox 59 T8)],[Sq 6 3 8]]) (.seq (.reg [Lq 9 1,Rq 10 (.mkfn 98 [1]),Cq 11 97 ([9,(Kq 20),10]),Fq 12 2 3,Sq 1 12 11]) (.seq (.reg [Lq 13 1,Rq 14 (.mkfn 101 [1]),Cq 15 100 ([13,(Kq 40),14]),Fq 16 3 3,Sq 1 16 15]) (.seq (.reg [Lq 17 1,Rq 18 (.mkfn 103 [1]),Cq 19 102 ([17,(Kq 6),18]),Fq 20 4 3,Sq 1 20 19]) (.seq (.reg [Lq 21 1,Rq 22 (.mkfn 105 [1]),Cq 23 104 ([21,(Kq 20),22]),Fq 24 5 3,Sq 1 24 23]) (.seq (.reg [Rq 25 (.load true 6 3),Sq 6 2 25]) (.ret)))))))
theorem F8:Bi Tryz.prog 54 1=some (Dy,[(2,some (true,6))]):=by kernel_rfl
def Va:Ae:=
 .seq (.reg [Rq 1 (.box 59 6 0),Nq 2 0]) (.seq (.seq (.reg [Fq 5 0 1,Lq 6 5,Cq 7 44 ([6]),Rq 8 (.not 7),Mq 9 8,Gq 10 9 false (.fldA 1 1),Gq 11 9 false (.load false 1 10),Gq 12 9 false (.not 11),Hq 13 9 false 12,Gq 14 13 true (.fldA 3 1),Gq 15 13 true (.load false 1 14),Gq 16 13 true (.len false 15),Gq 17 13 true (.fldA 4 1),Gq 18 13 true (.load false 1 17),Gq 19 13 true (.len false 18),Gq 20 13 true (.bin .add 16 19),Gq 21 13 true (.fldA 5 1),Gq 22 13 true (.load false 1 21),Gq 23 13 true (.len false 22),Gq 24 13 true (.bin .add 20 23),Gq 25 13 true (.bin .gtr 24 (Kq 0)),Gq 26 9 false (.pick 13 25 (.const (.bool false))),Rq 27 (.pick 9 (.const (.bool true)) 26)]) (.cond 27 (.seq (.reg [Nq 2 1]) (.ret)) (.skip))) (.seq (.seq (.reg [Fq 28 1 1,Lq 29 28,Rq 30 (.not 29)]) (.cond 30 (.seq (.reg [Fq 31 2 1,Lq 32 31,Cq 33 106 ([32]),Mq 2 33]) (.ret)) (.skip))) (.seq (.seq (.dreg [[Fq 34 2 1,Lq 35 34,Cq 36 45 ([35]),Fq 37 3 1,Lq 38 37,Cq 39 47 ([38]),Fq 40 4 1,Lq 41 40,Cq 42 48 ([41]),Fq 43 5 1,Lq 44 43,Cq 45 50 ([44]),Rq 46 (.mks 26 1 4 [(.int .i64 0)] [(0,36),(1,39),(2,42),(3,45)]),Rq 47 (.len false 46),Nq 48 0]]) (.block 0 (.loop (.seq (.reg [Bq 49 .lss 48 47]) (.seq (.cond 49 (.skip) (.exit 0)) (.seq (.block 1 (.seq (.reg [Iq 50 1 46 48,Lq 51 50,Mq 4 51]) (.seq (.reg [Mq 52 4,Bq 53 .neq 52 (Kq 0)]) (.cond 53 (.seq (.reg [Mq 54 4,Mq 2 54]) (.ret)) (.skip))))) (.reg [Bq 55 .add 48 (Kq 1),Mq 48 55]))))))) (.seq (.reg [Nq 2 0]) (.ret)))))
theorem Nw:Al Tryz.prog 55 1=some (Va,[2]):=by kernel_rfl
def Wy:Ae:=
 .seq (.reg [Rq 1 (.box 44 12 0),Rq 2 (.zbox 44 Lj)]) (.seq (.dreg [[Fq 3 2 1,Lq 4 3,Cq 5 107 ([4]),Fq 6 3 1,Lq 7 6,Cq 8 108 ([7]),Fq 9 4 1,Lq 10 9,Cq 11 109 ([10]),Fq 12 2 1],[Sq 1 12 5],[Fq 13 3 1],[Sq 1 13 8],[Fq 14 4 1],[Sq 1 14 11]]) (.seq (.dreg [[Fq 15 5 1,Lq 16 15,Cq 17 110 ([16]),Fq 18 11 1,Lq 19 18],[Cq 20 111 ([19]),Fq 21 5 1],[Sq 1 21 17],[Fq 22 11 1],[Sq 1 22 20]]) (.seq (.reg [Rq 23 (.load true 12 1),Sq 12 2 23]) (.ret))))
theorem Wn:Bi Tryz.prog 58 1=some (Wy,[(2,some (true,12))]):=by kernel_rfl
def Mf:Ae:=
 .seq (.reg [Rq 1 (.box 47 5 0),Nq 2 0]) (.seq (.block 0 (.seq (.reg [Fq 4 0 1,Lq 5 4,Cq 6 27 ([5]),Rq 7 (.not 6),Mq 3 7]) (.cond 3 (.seq (.reg [Nq 2 1]) (.ret)) (.seq (.reg [Fq 9 1 1,Lq 10 9,Cq 11 16 ([10,(Kq 1),(Kq 4)]),Rq 12 (.not 11),Mq 8 12]) (.cond 8 (.seq (.reg [Nq 2 7]) (.ret)) (.seq (.seq (.reg [Fq 14 2 1,Lq 15 14,Cq 16 16 ([15,(Kq 1),(Kq 1000000)]),Rq 17 (.not 16),Mq 13 17]) (.cond 13 (.skip) (.reg [Fq 18 3 1,Lq 19 18,Cq 20 63 ([19]),Rq 21 (.not 20),Mq 13 21]))) (.cond 13 (.seq (.reg [Nq 2 3]) (.ret)) (.skip)))))))) (.seq (.reg [Nq 2 0]) (.ret)))
theorem L6:Al Tryz.prog 60 1=some (Mf,[2]):=by kernel_rfl
def Lr:Ae:=
 .seq (.reg [Rq 1 (.box 50 9 0),Nq 2 0]) (.seq (.seq (.reg [Fq 3 0 1,Lq 4 3,Cq 5 27 ([4]),Rq 6 (.not 5),Mq 7 6,Gq 8 7 false (.fldA 1 1),Gq 9 7 false (.load false 1 8),Gq 10 7 false (.call (.func 27) [9]),Gq 11 7 false (.not 10),Rq 12 (.pick 7 (.const (.bool true)) 11),Mq 13 12,Gq 14 13 false (.fldA 2 1),Gq 15 13 false (.load false 1 14),Gq 16 13 false (.call (.func 27) [15]),Gq 17 13 false (.not 16),Rq 18 (.pick 13 (.const (.bool true)) 17),Mq 19 18,Gq 20 19 false (.fldA 3 1),Gq 21 19 false (.load false 1 20),Gq 22 19 false (.bin .neq 21 (.const (.string ⟨#[]⟩))),Hq 23 19 false 22,Gq 24 23 true (.fldA 3 1),Gq 25 23 true (.load false 1 24),Gq 26 23 true (.call (.func 27) [25]),Gq 27 23 true (.not 26),Gq 28 19 false (.pick 23 27 (.const (.bool false))),Rq 29 (.pick 19 (.const (.bool true)) 28)]) (.cond 29 (.seq (.reg [Nq 2 1]) (.ret)) (.skip))) (.seq (.seq (.reg [Fq 30 4 1,Lq 31 30,Cq 32 63 ([31]),Rq 33 (.not 32),Mq 34 33,Gq 35 34 false (.fldA 5 1),Gq 36 34 false (.load false 1 35),Gq 37 34 false (.call (.func 16) [36,(Kq 0),(Kq 65535)]),Gq 38 34 false (.not 37),Rq 39 (.pick 34 (.const (.bool true)) 38),Mq 40 39,Gq 41 40 false (.fldA 7 1),Gq 42 40 false (.load false 1 41),Gq 43 40 false (.call (.func 16) [42,(Kq 1),(Kq 1000000)]),Gq 44 40 false (.not 43),Rq 45 (.pick 40 (.const (.bool true)) 44)]) (.cond 45 (.seq (.reg [Nq 2 3]) (.ret)) (.skip))) (.seq (.reg [Nq 2 0]) (.ret))))
theorem Le:Al Tryz.prog 61 1=some (Lr,[2]):=by kernel_rfl
def P6:Ae:=
 .seq (.reg [Rq 2 (.box 50 9 0),Rq 3 (.box 50 9 1),Rq 4 (.mv (.const (.bool false)))]) (.seq (.reg [Fq 5 0 2,Lq 6 5,Fq 7 0 3,Lq 8 7,Bq 9 .lss 6 8,Mq 10 9,Gq 11 10 false (.fldA 0 2),Gq 12 10 false (.load false 1 11),Gq 13 10 false (.fldA 0 3),Gq 14 10 false (.load false 1 13),Gq 15 10 false (.bin .eql 12 14),Hq 16 10 false 15,Gq 17 16 true (.fldA 1 2),Gq 18 16 true (.load false 1 17),Gq 19 16 true (.fldA 1 3),Gq 20 16 true (.load false 1 19),Gq 21 16 true (.bin .lss 18 20),Gq 22 10 false (.pick 16 21 (.const (.bool false))),Rq 23 (.pick 10 (.const (.bool true)) 22),Mq 4 23]) (.ret))
theorem P5:Al Tryz.prog 62 2=some (P6,[4]):=by kernel_rfl
def L9:Ae:=
 .seq (.reg [Rq 2 (.mv (.const (.bool false)))]) (.seq (.reg [Mq 3 0,Cq 4 16 ([3,(Kq 0),(Kq 4294967295)]),Mq 2 4]) (.ret))
theorem Ml:Al Tryz.prog 63 1=some (L9,[2]):=by kernel_rfl
def N8:Ae:=
 .seq (.reg [Rq 2 (.mv (.const (.string ⟨#[]⟩)))]) (.seq (.seq (.reg [Mq 5 0,Bq 6 .lss 5 (Kq 0),Mq 7 6,Hq 8 7 true 0,Gq 9 7 true (.bin .gtr 8 (.const (.int .i64 (-10)))),Rq 10 (.pick 7 9 (.const (.bool false)))]) (.cond 10 (.seq (.reg [Mq 11 0,Rq 12 (.neg 11),Cq 13 64 ([12]),Rq 14 (.bin .add (.const (.string ⟨#[45]⟩)) 13),Mq 2 14]) (.ret)) (.skip))) (.seq (.seq (.reg [Mq 15 0,Bq 16 .lss 15 (Kq 0)]) (.cond 16 (.seq (.reg [Mq 17 0,Bq 18 .quo 17 (Kq 10),Rq 19 (.neg 18),Cq 20 64 ([19]),Mq 3 20]) (.seq (.dreg [[Mq 21 3,Mq 22 3,Rq 23 (.len true 22),Bq 24 .sub 23 (Kq 1),Rq 25 (.slcS 21 none (some 24)),Rq 26 (.bin .add (.const (.string ⟨#[45]⟩)) 25),Mq 27 0,Bq 28 .rem 27 (Kq 10),Rq 29 (.neg 28),Cq 30 64 ([29])],[Bq 31 .add 26 30],[Mq 2 31]]) (.ret))) (.skip))) (.seq (.reg [Rq 4 (.mv (.const (.string ⟨#[59]⟩)))]) (.block 0 (.loop (.block 1 (.seq (.reg [Mq 32 0,Bq 33 .rem 32 (Kq 10),Rq 34 (.bin .add (Kq 48) 33),Rq 35 (.conv .u8 34),Rq 36 (.mks 5 1 1 [(.int .u8 0)] [(0,35)]),Rq 37 (.ofB 36),Mq 38 4,Bq 39 .add 37 38,Mq 4 39]) (.seq (.reg [Mq 40 0,Bq 41 .quo 40 (Kq 10),Mq 0 41]) (.seq (.reg [Mq 42 0,Bq 43 .eql 42 (Kq 0)]) (.cond 43 (.seq (.reg [Mq 44 4,Mq 2 44]) (.ret)) (.skip)))))))))))
theorem Eg:Al Tryz.prog 64 1=some (N8,[2]):=by kernel_rfl
def Aac:Ae:=
 .seq (.reg [Rq 2 (.box 44 12 0),Rq 3 (.box 59 6 1),Rq 4 (.zbox 44 Lj),Nq 5 0]) (.seq (.reg [Rq 16 (.load true 12 2),Cq 17 114 ([16]),Mq 15 17,Eq1 18 15 0,Eq1 19 15 1,Mq 6 18,Mq 7 19]) (.seq (.seq (.reg [Mq 20 7,Bq 21 .eql 20 (Kq 0)]) (.cond 21 (.reg [Rq 22 (.load true 6 3),Cq 23 55 ([22]),Mq 7 23]) (.skip))) (.seq (.seq (.reg [Mq 24 7,Bq 25 .neq 24 (Kq 0)]) (.cond 25 (.seq (.reg [Rq 26 (.build Lj []),Mq 27 7,Sq 12 4 26,Mq 5 27]) (.ret)) (.skip))) (.seq (.seq (.reg [Fq 28 2 3,Lq 29 28,Rq 30 (.len false 29),Nq 31 0]) (.block 0 (.loop (.seq (.reg [Bq 32 .lss 31 30]) (.seq (.cond 32 (.skip) (.exit 0)) (.seq (.block 1 (.seq (.reg [Iq 33 5 29 31,Rq 34 (.load true 5 33),Rq 9 (.zbox 47 Ye),Sq 5 9 34]) (.seq (.reg [Mq 35 6,Rq 36 (.load true 5 9),Cq 37 115 ([35,36]),Mq 10 37]) (.seq (.reg [Mq 38 10,Bq 39 .neq 38 (Kq 0)]) (.cond 39 (.seq (.reg [Rq 40 (.build Lj []),Mq 41 10,Sq 12 4 40,Mq 5 41]) (.ret)) (.skip)))))) (.reg [Bq 42 .add 31 (Kq 1),Mq 31 42]))))))) (.seq (.seq (.dreg [[],[Rq 54 (.mkm)],[Mq 44 6,Mq 45 6,Fq 46 0 45,Fq 47 0 46,Fq 48 4 47,Lq 49 48,Fq 50 3 3,Lq 51 50,Cq 52 116 ([49,51]),Mq 43 52,Eq1 53 43 0,Eq1 54 43 1,Fq 55 0 44,Fq 56 0 55,Fq 57 4 56,Sq 1 57 53],[Mq 7 54]]) (.seq (.reg [Mq 58 7,Bq 59 .neq 58 (Kq 0)]) (.cond 59 (.seq (.reg [Rq 60 (.build Lj []),Mq 61 7,Sq 12 4 60,Mq 5 61]) (.ret)) (.skip)))) (.seq (.seq (.dreg [[],[Rq 73 (.mkm)],[Mq 63 6,Mq 64 6,Fq 65 0 64,Fq 66 0 65,Fq 67 5 66,Lq 68 67,Fq 69 4 3,Lq 70 69,Cq 71 117 ([68,70]),Mq 62 71,Eq1 72 62 0,Eq1 73 62 1,Fq 74 0 63,Fq 75 0 74,Fq 76 5 75,Sq 1 76 72],[Mq 7 73]]) (.seq (.reg [Mq 77 7,Bq 78 .neq 77 (Kq 0)]) (.cond 78 (.seq (.reg [Rq 79 (.build Lj []),Mq 80 7,Sq 12 4 79,Mq 5 80]) (.ret)) (.skip)))) (.seq (.seq (.reg [Fq 81 5 3,Lq 82 81,Rq 83 (.len false 82),Nq 84 0]) (.block 2 (.loop (.seq (.reg [Bq 85 .lss 84 83]) (.seq (.cond 85 (.skip) (.exit 2)) (.seq (.block 3 (.seq (.reg [Iq 86 6 82 84,Rq 87 (.load true 6 86),Rq 12 (.zbox 88 Aas),Sq 6 12 87]) (.seq (.reg [Mq 89 6,Fq 90 0 12,Lq 91 90,Cq 92 118 ([89,91]),Mq 88 92,Eq1 93 88 0,Eq1 94 88 1,Mq 13 93,Mq 14 94]) (.seq (.reg [Mq 95 14,Rq 96 (.not 95),Mq 97 96,Hq 98 97 true 6,Gq 99 97 true (.fldA 0 98),Gq 100 97 true (.fldA 0 99),Gq 101 97 true (.fldA 11 100),Gq 102 97 true (.load false 1 101),Gq 103 97 true (.len false 102),Gq 104 97 true (.bin .lss 103 (Kq 20)),Rq 105 (.pick 97 104 (.const (.bool false)))]) (.cond 105 (.dreg [[],[Cq 115 119 ([111,112,114])],[Mq 106 6,Mq 107 6,Fq 108 0 107,Fq 109 0 108,Fq 110 11 109,Lq 111 110,Mq 112 13,Rq 113 (.load true 6 12),Rq 114 (.mks 88 6 1 Aas [(0,113)])],[Fq 116 0 106],[Fq 117 0 116],[Fq 118 11 117],[Sq 1 118 115]]) (.skip)))))) (.reg [Bq 119 .add 84 (Kq 1),Mq 84 119]))))))) (.seq (.reg [Mq 120 6,Fq 121 0 120,Fq 122 0 121,Rq 123 (.load true 12 122),Sq 12 4 123,Nq 5 0]) (.ret)))))))))
theorem Aaw:Bi Tryz.prog 65 2=some (Aac,[(4,some (true,12)),(5,none)]):=by kernel_rfl
def P4:Ae:=
 .seq (.reg [Nq 2 0]) (.seq (.seq (.reg [Mq 5 0,Mq 6 0,Fq 7 0 6,Fq 8 2 7,Fq 9 2 8,Lq 10 9,Cq 11 42 ([5,10]),Rq 12 (.not 11)]) (.cond 12 (.seq (.reg [Nq 2 5]) (.ret)) (.skip))) (.seq (.dreg [[],[Rq 28 (.mkm)],[Mq 14 0,Fq 15 0 14,Fq 16 0 15,Fq 17 0 16,Lq 18 17,Mq 19 0,Fq 20 0 19,Fq 21 2 20,Fq 22 1 21,Lq 23 22,Iq 24 12 18 23,Rq 25 (.load true 12 24),Cq 26 122 ([25]),Mq 13 26,Eq1 27 13 0,Eq1 28 13 1,Rq 3 (.zbox 59 T8),Sq 6 3 27],[Mq 4 28]]) (.seq (.seq (.reg [Mq 29 4,Bq 30 .eql 29 (Kq 0)]) (.cond 30 (.reg [Mq 31 0,Rq 32 (.load true 6 3),Cq 33 121 ([31,32]),Mq 4 33]) (.skip))) (.seq (.reg [Mq 34 4,Mq 2 34]) (.ret)))))
theorem P2:Al Tryz.prog 68 1=some (P4,[2]):=by kernel_rfl
def Nz:Ae:=
 .seq (.reg [Rq 2 (.mv (.const (.string ⟨#[]⟩)))]) (.seq (.reg [Mq 5 0,Cq 6 99 ([5]),Mq 3 6]) (.seq (.seq (.reg [Mq 7 3,Bq 8 .lss 7 (Kq 0),Mq 9 8,Hq 10 9 false 3,Hq 11 9 false 0,Gq 12 9 false (.fldA 0 11),Gq 13 9 false (.fldA 0 12),Gq 14 9 false (.load false 1 13),Gq 15 9 false (.len true 14),Gq 16 9 false (.bin .gtr 10 15),Rq 17 (.pick 9 (.const (.bool true)) 16)]) (.cond 17 (.reg [Rq 18 (.build [] []),Rq 19 (.mki 100 18),⟨none,none,.die 19⟩]) (.skip))) (.seq (.reg [Mq 20 0,Fq 21 0 20,Fq 22 0 21,Lq 23 22,Mq 24 3,Rq 25 (.slcS 23 none (some 24)),Mq 4 25]) (.seq (.reg [Mq 26 0,Mq 27 0,Fq 28 0 27,Fq 29 0 28,Lq 30 29,Mq 31 3,Rq 32 (.slcS 30 (some 31) none),Fq 33 0 26,Fq 34 0 33,Sq 1 34 32]) (.seq (.reg [Mq 35 4,Mq 2 35]) (.ret))))))
theorem G8:Al Tryz.prog 95 1=some (Nz,[2]):=by kernel_rfl
def Ok:Ae:=
 .seq (.reg [Rq 2 (.mv (.const (.bool false)))]) (.seq (.reg [Mq 4 0,Cq 5 99 ([4]),Mq 3 5]) (.seq (.seq (.reg [Mq 6 3,Bq 7 .lss 6 (Kq 0),Mq 8 7,Hq 9 8 false 3,Gq 10 8 false (.bin .gtr 9 (Kq 1)),Rq 11 (.pick 8 (.const (.bool true)) 10)]) (.cond 11 (.reg [Rq 12 (.build [] []),Rq 13 (.mki 100 12),⟨none,none,.die 13⟩]) (.skip))) (.seq (.reg [Mq 14 3,Bq 15 .eql 14 (Kq 1),Mq 2 15]) (.ret))))
theorem Ia:Al Tryz.prog 96 1=some (Ok,[2]):=by kernel_rfl
def Kk:Ae:=
 .seq (.reg [Rq 6 (.mv (.const (.slice none 0 0)))]) (.seq (.reg [Mq 9 0,Cq 10 99 ([9]),Mq 7 10]) (.seq (.seq (.reg [Mq 11 7,Bq 12 .lss 11 (Kq 0),Mq 13 12,Hq 14 13 false 7,Hq 15 13 false 1,Gq 16 13 false (.bin .gtr 14 15),Rq 17 (.pick 13 (.const (.bool true)) 16)]) (.cond 17 (.reg [Rq 18 (.build [] []),Rq 19 (.mki 100 18),⟨none,none,.die 19⟩]) (.skip))) (.seq (.reg [Rq 8 (.mv (.const (.slice none 0 0)))]) (.seq (.seq (.reg [Mq 20 7,Nq 21 0]) (.block 0 (.loop (.seq (.reg [Bq 22 .lss 21 20]) (.seq (.cond 22 (.skip) (.exit 0)) (.seq (.block 1 (.reg [Mq 23 8,Mq 24 2,Rq 25 (.call 24 []),Rq 26 (.mks 47 5 1 Ye [(0,25)]),Rq 27 (.app 47 5 48 (.agg #[(.string ⟨#[]⟩),(.int .i64 0),(.int .i64 0),(.int .i64 0),(.bool false)]) 23 26),Mq 8 27])) (.reg [Bq 28 .add 21 (Kq 1),Mq 21 28]))))))) (.seq (.reg [Mq 29 8,Mq 6 29]) (.ret))))))
theorem Kd:Al Tryz.prog 97 3=some (Kk,[6]):=by kernel_rfl
def Ke:Ae:=
 .seq (.reg [Rq 1 (.zbox 47 Ye)]) (.seq (.dreg [[],[⟨none,none,.mkm⟩,⟨none,none,.mkm⟩],[Lq 2 0,Cq 3 95 ([2]),Lq 4 0,Cq 5 99 ([4]),Lq 6 0,Cq 7 99 ([6]),Lq 8 0,Cq 9 99 ([8]),Lq 10 0],[Cq 11 96 ([10])],[Rq 12 (.build Ye [(0,1,3),(1,1,5),(2,1,7),(3,1,9),(4,1,11)])],[Sq 5 1 12]]) (.ret))
theorem Ka:Bi Tryz.prog 98 1=some (Ke,[(1,some (true,5))]):=by kernel_rfl
def J0:Ae:=
 .seq (.reg [Rq 6 (.mv (.const (.slice none 0 0)))]) (.seq (.reg [Mq 9 0,Cq 10 99 ([9]),Mq 7 10]) (.seq (.seq (.reg [Mq 11 7,Bq 12 .lss 11 (Kq 0),Mq 13 12,Hq 14 13 false 7,Hq 15 13 false 1,Gq 16 13 false (.bin .gtr 14 15),Rq 17 (.pick 13 (.const (.bool true)) 16)]) (.cond 17 (.reg [Rq 18 (.build [] []),Rq 19 (.mki 100 18),⟨none,none,.die 19⟩]) (.skip))) (.seq (.reg [Rq 8 (.mv (.const (.slice none 0 0)))]) (.seq (.seq (.reg [Mq 20 7,Nq 21 0]) (.block 0 (.loop (.seq (.reg [Bq 22 .lss 21 20]) (.seq (.cond 22 (.skip) (.exit 0)) (.seq (.block 1 (.reg [Mq 23 8,Mq 24 2,Rq 25 (.call 24 []),Rq 26 (.mks 50 9 1 Ajb [(0,25)]),Rq 27 (.app 50 9 104 (.agg #[(.string ⟨#[]⟩),(.string ⟨#[]⟩),(.string ⟨#[]⟩),(.string ⟨#[]⟩),(.int .i64 0),(.int .i64 0),(.bool false),(.int .i64 0),(.bool false)]) 23 26),Mq 8 27])) (.reg [Bq 28 .add 21 (Kq 1),Mq 21 28]))))))) (.seq (.reg [Mq 29 8,Mq 6 29]) (.ret))))))
theorem Jn:Al Tryz.prog 100 3=some (J0,[6]):=by kernel_rfl
def Kc:Ae:=
 .seq (.reg [Rq 1 (.zbox 50 Ajb)]) (.seq (.dreg [[],[⟨none,none,.mkm⟩,⟨none,none,.mkm⟩],[Lq 2 0,Cq 3 95 ([2]),Lq 4 0,Cq 5 95 ([4]),Lq 6 0,Cq 7 95 ([6]),Lq 8 0,Cq 9 95 ([8]),Lq 10 0,Cq 11 99 ([10]),Lq 12 0,Cq 13 99 ([12]),Lq 14 0,Cq 15 96 ([14]),Lq 16 0,Cq 17 99 ([16]),Lq 18 0],[Cq 19 96 ([18])],[Rq 20 (.build Ajb [(0,1,3),(1,1,5),(2,1,7),(3,1,9),(4,1,11),(5,1,13),(6,1,15),(7,1,17),(8,1,19)])],[Sq 9 1 20]]) (.ret))
theorem Kh:Bi Tryz.prog 101 1=some (Kc,[(1,some (true,9))]):=by kernel_rfl
def Jo:Ae:=
 .seq (.reg [Rq 6 (.mv (.const (.slice none 0 0)))]) (.seq (.reg [Mq 9 0,Cq 10 99 ([9]),Mq 7 10]) (.seq (.seq (.reg [Mq 11 7,Bq 12 .lss 11 (Kq 0),Mq 13 12,Hq 14 13 false 7,Hq 15 13 false 1,Gq 16 13 false (.bin .gtr 14 15),Rq 17 (.pick 13 (.const (.bool true)) 16)]) (.cond 17 (.reg [Rq 18 (.build [] []),Rq 19 (.mki 100 18),⟨none,none,.die 19⟩]) (.skip))) (.seq (.reg [Rq 8 (.mv (.const (.slice none 0 0)))]) (.seq (.seq (.reg [Mq 20 7,Nq 21 0]) (.block 0 (.loop (.seq (.reg [Bq 22 .lss 21 20]) (.seq (.cond 22 (.skip) (.exit 0)) (.seq (.block 1 (.reg [Mq 23 8,Mq 24 2,Rq 25 (.call 24 []),Rq 26 (.mks 53 3 1 [(.string ⟨#[]⟩),(.int .i64 0),(.int .i64 0)] [(0,25)]),Rq 27 (.app 53 3 32 (.agg #[(.string ⟨#[]⟩),(.int .i64 0),(.int .i64 0)]) 23 26),Mq 8 27])) (.reg [Bq 28 .add 21 (Kq 1),Mq 21 28]))))))) (.seq (.reg [Mq 29 8,Mq 6 29]) (.ret))))))
theorem J5:Al Tryz.prog 102 3=some (Jo,[6]):=by kernel_rfl
def Kb:Ae:=
 .seq (.reg [Rq 1 (.zbox 53 [(.string ⟨#[]⟩),(.int .i64 0),(.int .i64 0)])]) (.seq (.dreg [[],[⟨none,none,.mkm⟩,⟨none,none,.mkm⟩],[Lq 2 0,Cq 3 95 ([2]),Lq 4 0,Cq 5 99 ([4]),Lq 6 0],[Cq 7 99 ([6])],[Rq 8 (.build [(.string ⟨#[]⟩),(.int .i64 0),(.int .i64 0)] [(0,1,3),(1,1,5),(2,1,7)])],[Sq 3 1 8]]) (.ret))
theorem Kp:Bi Tryz.prog 103 1=some (Kb,[(1,some (true,3))]):=by kernel_rfl
def Ll:Ae:=
 .seq (.reg [Rq 6 (.mv (.const (.slice none 0 0)))]) (.seq (.reg [Mq 9 0,Cq 10 99 ([9]),Mq 7 10]) (.seq (.seq (.reg [Mq 11 7,Bq 12 .lss 11 (Kq 0),Mq 13 12,Hq 14 13 false 7,Hq 15 13 false 1,Gq 16 13 false (.bin .gtr 14 15),Rq 17 (.pick 13 (.const (.bool true)) 16)]) (.cond 17 (.reg [Rq 18 (.build [] []),Rq 19 (.mki 100 18),⟨none,none,.die 19⟩]) (.skip))) (.seq (.reg [Rq 8 (.mv (.const (.slice none 0 0)))]) (.seq (.seq (.reg [Mq 20 7,Nq 21 0]) (.block 0 (.loop (.seq (.reg [Bq 22 .lss 21 20]) (.seq (.cond 22 (.skip) (.exit 0)) (.seq (.block 1 (.reg [Mq 23 8,Mq 24 2,Rq 25 (.call 24 []),Rq 26 (.mks 88 6 1 Aas [(0,25)]),Rq 27 (.app 88 6 56 (.agg #[(.string ⟨#[]⟩),(.int .i64 0),(.int .i64 0),(.int .i64 0),(.int .i64 0),(.int .i64 0)]) 23 26),Mq 8 27])) (.reg [Bq 28 .add 21 (Kq 1),Mq 21 28]))))))) (.seq (.reg [Mq 29 8,Mq 6 29]) (.ret))))))
theorem Lb:Al Tryz.prog 104 3=some (Ll,[6]):=by kernel_rfl
def Kw:Ae:=
 .seq (.reg [Rq 1 (.zbox 88 Aas)]) (.seq (.dreg [[],[⟨none,none,.mkm⟩,⟨none,none,.mkm⟩],[Lq 2 0,Cq 3 95 ([2]),Lq 4 0,Cq 5 99 ([4]),Lq 6 0,Cq 7 99 ([6]),Lq 8 0,Cq 9 99 ([8]),Lq 10 0,Cq 11 99 ([10]),Lq 12 0],[Cq 13 99 ([12])],[Rq 14 (.build Arw [(0,1,5),(1,1,7),(2,1,9),(3,1,11),(4,1,13)])],[Rq 15 (.build Aas [(0,1,3),(1,5,14)])],[Sq 6 1 15]]) (.ret))
theorem Kg:Bi Tryz.prog 105 1=some (Kw,[(1,some (true,6))]):=by kernel_rfl
def Yp:Ae:=
 .seq (.reg [Nq 2 0]) (.seq (.seq (.reg [Mq 7 0,Rq 8 (.len false 7),Bq 9 .gtr 8 (Kq 5)]) (.cond 9 (.seq (.reg [Nq 2 2]) (.ret)) (.skip))) (.seq (.seq (.reg [Mq 10 0,Cq 11 129 ([10]),Mq 3 11]) (.seq (.reg [Mq 12 3,Bq 13 .neq 12 (Kq 0)]) (.cond 13 (.seq (.reg [Mq 14 3,Mq 2 14]) (.ret)) (.skip)))) (.seq (.reg [Rq 15 (.mkm),Mq 4 15]) (.seq (.seq (.reg [Mq 16 0,Rq 17 (.len false 16),Nq 18 0]) (.block 0 (.loop (.seq (.reg [Bq 19 .lss 18 17]) (.seq (.cond 19 (.skip) (.exit 0)) (.seq (.block 1 (.seq (.reg [Iq 20 5 16 18,Rq 21 (.load true 5 20),Rq 6 (.zbox 47 Ye),Sq 5 6 21]) (.reg [Mq 22 4,Fq 23 0 6,Lq 24 23,⟨none,none,.mupd .string 22 24 (.const (.bool true))⟩]))) (.reg [Bq 25 .add 18 (Kq 1),Mq 18 25]))))))) (.seq (.seq (.reg [Mq 26 4,Rq 27 (.mlen 26),Mq 28 0,Rq 29 (.len false 28),Bq 30 .lss 27 29]) (.cond 30 (.seq (.reg [Nq 2 6]) (.ret)) (.skip))) (.seq (.reg [Nq 2 0]) (.ret)))))))
theorem Ys:Al Tryz.prog 106 1=some (Yp,[2]):=by kernel_rfl
def Aaf:Ae:=
 .seq (.reg [Rq 1 (.box 44 12 0),Rq 2 (.mv (.const (.pointer none))),Nq 3 0]) (.seq (.seq (.reg [Rq 5 (.load true 12 1),Cq 6 20 ([5]),Mq 4 6]) (.seq (.reg [Mq 7 4,Bq 8 .neq 7 (Kq 0)]) (.cond 8 (.seq (.reg [Mq 9 4,Rq 2 (.mv (.const (.pointer none))),Mq 3 9]) (.ret)) (.skip)))) (.seq (.dreg [[Fq 10 2 1,Lq 11 10,Cq 12 107 ([11]),Fq 13 3 1,Lq 14 13,Cq 15 108 ([14]),Fq 16 4 1,Lq 17 16,Cq 18 109 ([17]),Fq 19 2 1],[Sq 1 19 12],[Fq 20 3 1],[Sq 1 20 15],[Fq 21 4 1],[Sq 1 21 18]]) (.seq (.dreg [[Fq 22 5 1,Lq 23 22,Cq 24 110 ([23]),Fq 25 11 1,Lq 26 25],[Cq 27 111 ([26]),Fq 28 5 1],[Sq 1 28 24],[Fq 29 11 1],[Sq 1 29 27]]) (.seq (.reg [Rq 30 (.load true 12 1),Rq 31 (.build Lj [(0,12,30)]),Rq 32 (.box 153 12 31),Mq 2 32,Nq 3 0]) (.ret)))))
theorem Sd:Al Tryz.prog 114 1=some (Aaf,[2,3]):=by kernel_rfl
def N9:Ae:=
 .seq (.reg [Rq 3 (.box 47 5 1),Nq 4 0]) (.seq (.dreg [[Mq 10 0,Fq 11 0 10,Fq 12 0 11,Fq 13 2 12,Lq 14 13,Rq 15 (.load true 5 3)],[Cq 16 142 ([14,15])],[Mq 9 16],[Eq1 17 9 0,Eq1 18 9 1,Eq1 19 9 2,Mq 5 17,Mq 6 18],[Mq 7 19]]) (.seq (.seq (.reg [Mq 20 7,Bq 21 .neq 20 (Kq 0),Mq 22 21,Hq 23 22 false 6,Gq 24 22 false (.not 23),Rq 25 (.pick 22 (.const (.bool true)) 24)]) (.cond 25 (.seq (.reg [Mq 26 7,Mq 4 26]) (.ret)) (.skip))) (.seq (.reg [Mq 27 0,Mq 28 5,Fq 29 0 27,Fq 30 0 29,Fq 31 2 30,Sq 1 31 28]) (.seq (.seq (.reg [Mq 32 0,Fq 33 0 3,Lq 34 33,Cq 35 143 ([32,34]),Mq 8 35]) (.seq (.dreg [[Mq 36 8],[Bq 37 .neq 36 (Kq 0)],[Mq 38 37],[Gq 39 38 false (.fldA 0 3),Gq 40 38 false (.load false 1 39),Hq 41 38 false 0,Gq 42 38 false (.fldA 0 41),Gq 43 38 false (.fldA 0 42),Gq 44 38 false (.fldA 0 43),Gq 45 38 false (.load false 1 44)],[Gq 46 38 false (.bin .neq 40 45)],[Rq 47 (.pick 38 (.const (.bool true)) 46)]]) (.cond 47 (.seq (.reg [Mq 48 8,Mq 4 48]) (.ret)) (.skip)))) (.seq (.dreg [[Mq 50 0,Fq 51 0 50,Fq 52 0 51,Fq 53 2 52,Lq 54 53,Mq 55 0,Fq 56 0 55,Fq 57 0 56,Fq 58 0 57,Lq 59 58],[Cq 60 144 ([54,59])],[Mq 49 60],[Eq1 61 49 0,Eq1 62 49 1,Eq1 63 49 2,Mq 5 61,Mq 6 62],[Mq 7 63]]) (.seq (.seq (.reg [Mq 64 7,Bq 65 .neq 64 (Kq 0),Mq 66 65,Hq 67 66 false 6,Gq 68 66 false (.not 67),Rq 69 (.pick 66 (.const (.bool true)) 68)]) (.cond 69 (.seq (.reg [Mq 70 7,Mq 4 70]) (.ret)) (.skip))) (.seq (.reg [Mq 71 0,Mq 72 5,Fq 73 0 71,Fq 74 0 73,Fq 75 2 74,Sq 1 75 72]) (.seq (.reg [Mq 76 0,Mq 77 0,Fq 78 0 77,Fq 79 0 78,Fq 80 0 79,Lq 81 80,Cq 82 143 ([76,81]),Mq 4 82]) (.ret)))))))))
theorem N6:Al Tryz.prog 115 2=some (N9,[4]):=by kernel_rfl
def Qp:Ae:=
 .seq (.reg [Rq 3 (.box 59 6 1),Nq 4 0]) (.seq (.seq (.reg [Mq 7 0,Fq 8 0 7,Fq 9 0 8,Fq 10 1 9,Lq 11 10,Rq 12 (.len false 11),Bq 13 .eql 12 (Kq 20)]) (.cond 13 (.seq (.reg [Nq 4 2]) (.ret)) (.skip))) (.seq (.reg [Rq 15 (.load true 6 3),Cq 16 159 ([15]),Mq 14 16,Eq1 17 14 0,Eq1 18 14 1,Mq 5 17,Mq 6 18]) (.seq (.seq (.reg [Mq 19 6,Bq 20 .eql 19 (Kq 0)]) (.cond 20 (.dreg [[],[Rq 35 (.app 57 2 24 (.agg #[(.int .i64 0),(.string ⟨#[]⟩)]) 26 34)],[Mq 21 0,Mq 22 0,Fq 23 0 22,Fq 24 0 23,Fq 25 1 24,Lq 26 25,Mq 27 0,Fq 28 0 27,Fq 29 2 28,Fq 30 2 29,Lq 31 30,Mq 32 5,Rq 33 (.build [(.int .i64 0),(.string ⟨#[]⟩)] [(0,1,31),(1,1,32)]),Rq 34 (.mks 57 2 1 [(.int .i64 0),(.string ⟨#[]⟩)] [(0,33)])],[Fq 36 0 21],[Fq 37 0 36],[Fq 38 1 37],[Sq 1 38 35]]) (.skip))) (.seq (.reg [Mq 39 6,Mq 4 39]) (.ret)))))
theorem Q1:Al Tryz.prog 121 2=some (Qp,[4]):=by kernel_rfl
def Yx:Ae:=
 .seq (.reg [Rq 1 (.box 44 12 0),Rq 2 (.zbox 59 T8),Nq 3 0]) (.seq (.reg [Rq 7 (.load true 12 1),Cq 8 114 ([7]),Mq 6 8,Eq1 9 6 0,Eq1 10 6 1,Mq 4 9,Mq 5 10]) (.seq (.seq (.reg [Mq 11 5,Bq 12 .neq 11 (Kq 0)]) (.cond 12 (.seq (.reg [Rq 13 (.build T8 []),Mq 14 5,Sq 6 2 13,Mq 3 14]) (.ret)) (.skip))) (.seq (.dreg [[Mq 15 4,Fq 16 0 15,Fq 17 0 16,Fq 18 0 17,Lq 19 18,Mq 20 4,Fq 21 0 20,Fq 22 0 21,Fq 23 2 22,Lq 24 23,Mq 25 4,Fq 26 0 25,Fq 27 0 26,Fq 28 4 27,Lq 29 28,Mq 30 4,Fq 31 0 30,Fq 32 0 31,Fq 33 5 32,Lq 34 33,Mq 35 4,Fq 36 0 35,Fq 37 0 36,Fq 38 11 37,Lq 39 38],[Rq 40 (.build T8 [(0,1,19),(1,1,(.const (.bool true))),(2,1,24),(3,1,29),(4,1,34),(5,1,39)])],[Sq 6 2 40],[Nq 3 0]]) (.ret))))
theorem Yo:Bi Tryz.prog 122 1=some (Yx,[(2,some (true,6)),(3,none)]):=by kernel_rfl
def Qs:Ae:=
 .seq (.reg [Nq 4 0]) (.seq (.reg [Mq 10 0,Fq 11 0 10,Fq 12 0 11,Fq 13 2 12,Lq 14 13,Mq 15 1,Cq 16 51 ([14,15]),Mq 9 16,Eq1 17 9 0,Eq1 18 9 1,Mq 5 17,Mq 6 18]) (.seq (.dreg [[Mq 20 0,Fq 21 0 20,Fq 22 0 21,Fq 23 3 22,Lq 24 23,Mq 25 0,Fq 26 0 25,Fq 27 0 26,Fq 28 2 27,Lq 29 28,Mq 30 5,Iq 31 5 29 30,Rq 32 (.load true 5 31)],[Cq 33 172 ([24,32])],[Mq 19 33],[Eq1 34 19 0,Eq1 35 19 1,Mq 7 34],[Mq 8 35]]) (.seq (.seq (.reg [Mq 36 8,Bq 37 .eql 36 (Kq 0)]) (.cond 37 (.reg [Mq 38 0,Mq 39 7,Fq 40 0 38,Fq 41 0 40,Fq 42 3 41,Sq 1 42 39]) (.skip))) (.seq (.reg [Mq 43 8,Mq 4 43]) (.ret)))))
theorem Ql:Al Tryz.prog 143 2=some (Qs,[4]):=by kernel_rfl
def Vi:Ae:=
 .seq (.reg [Rq 1 (.box 59 6 0),Rq 2 (.mv (.const (.string ⟨#[]⟩))),Nq 3 0]) (.seq (.seq (.reg [Rq 5 (.load true 6 1),Cq 6 55 ([5]),Mq 4 6]) (.seq (.reg [Mq 7 4,Bq 8 .neq 7 (Kq 0)]) (.cond 8 (.seq (.reg [Mq 9 4,Rq 2 (.mv (.const (.string ⟨#[]⟩))),Mq 3 9]) (.ret)) (.skip)))) (.seq (.reg [Rq 10 (.load true 6 1),Cq 11 188 ([10]),Mq 2 11,Nq 3 0]) (.ret)))
theorem Nu:Al Tryz.prog 159 1=some (Vi,[2,3]):=by kernel_rfl
def U4:Ae:=
 .seq (.reg [Rq 1 (.box 59 6 0),Rq 2 (.mv (.const (.string ⟨#[]⟩)))]) (.seq (.reg [Rq 4 (.build [(.pointer none),(.slice none 0 0)] []),Rq 5 (.box 252 2 4),Rq 3 (.zbox 247 [(.pointer none)]),Sq 1 3 5]) (.seq (.reg [Lq 6 3,Fq 7 0 1,Lq 8 7,Rq 9 (.mks 9 1 1 [(.string ⟨#[]⟩)] [(0,8)]),Cq 10 218 ([6,9])]) (.seq (.reg [Lq 11 3,Fq 12 1 1,Lq 13 12,Cq 14 219 ([11,13])]) (.seq (.reg [Lq 15 3,Fq 16 2 1,Lq 17 16,Rq 18 (.mkfn 221 [3]),Cq 19 220 ([15,17,18])]) (.seq (.reg [Lq 20 3,Fq 21 3 1,Lq 22 21,Rq 23 (.mkfn 224 [3]),Cq 24 223 ([20,22,23])]) (.seq (.reg [Lq 25 3,Fq 26 4 1,Lq 27 26,Rq 28 (.mkfn 226 [3]),Cq 29 225 ([25,27,28])]) (.seq (.reg [Lq 30 3,Fq 31 5 1,Lq 32 31,Rq 33 (.mkfn 228 [3]),Cq 34 227 ([30,32,33])]) (.seq (.reg [Lq 35 3,Fq 36 0 35,Fq 37 0 36,Cq 38 229 ([37]),Mq 2 38]) (.ret)))))))))
theorem Vc:Al Tryz.prog 188 1=some (U4,[2]):=by kernel_rfl
def Nb:Ae:=
 .seq (.reg [Mq 6 1,Rq 7 (.len false 6),Nq 8 0]) (.block 0 (.loop (.seq (.reg [Bq 9 .lss 8 7]) (.seq (.cond 9 (.skip) (.exit 0)) (.seq (.block 1 (.seq (.reg [Iq 10 1 6 8,Lq 11 10,Mq 5 11]) (.seq (.reg [Mq 12 0,Mq 13 5,Rq 14 (.len true 13),Rq 15 (.mks 3 1 1 [(.int .i64 0)] [(0,14)]),Cq 16 222 ([12,15])]) (.reg [Mq 17 0,Fq 18 0 17,Fq 19 0 18,Mq 20 5,Cq 21 259 ([19,20])])))) (.reg [Bq 22 .add 8 (Kq 1),Mq 8 22]))))))
theorem M0:Al Tryz.prog 218 2=some (Nb,[]):=by kernel_rfl
def Oh:Ae:=
 .seq (.reg [Nq 4 0]) (.seq (.seq (.reg [Mq 5 1]) (.cond 5 (.reg [Nq 4 1]) (.skip))) (.reg [Mq 6 0,Mq 7 4,Rq 8 (.mks 3 1 1 [(.int .i64 0)] [(0,7)]),Cq 9 222 ([6,8])]))
theorem Oe:Al Tryz.prog 219 2=some (Oh,[]):=by kernel_rfl
def Kj:Ae:=
 .seq (.reg [Mq 8 0,Mq 9 1,Rq 10 (.len false 9),Rq 11 (.mks 3 1 1 [(.int .i64 0)] [(0,10)]),Cq 12 222 ([8,11])]) (.seq (.reg [Mq 13 1,Rq 14 (.len false 13),Nq 15 0]) (.block 0 (.loop (.seq (.reg [Bq 16 .lss 15 14]) (.seq (.cond 16 (.skip) (.exit 0)) (.seq (.block 1 (.seq (.reg [Iq 17 5 13 15,Rq 18 (.load true 5 17),Rq 7 (.zbox 47 Ye),Sq 5 7 18]) (.reg [Mq 19 2,Rq 20 (.load true 5 7),Rq 21 (.call 19 [20])]))) (.reg [Bq 22 .add 15 (Kq 1),Mq 15 22])))))))
theorem Ko:Al Tryz.prog 220 3=some (Kj,[]):=by kernel_rfl
def Rx:Ae:=
 .seq (.reg [Rq 2 (.box 47 5 0)]) (.seq (.reg [Lq 3 1,Fq 4 0 2,Lq 5 4,Rq 6 (.mks 9 1 1 [(.string ⟨#[]⟩)] [(0,5)]),Cq 7 218 ([3,6])]) (.seq (.reg [Lq 8 1,Fq 9 1 2,Lq 10 9,Fq 11 2 2,Lq 12 11,Fq 13 3 2,Lq 14 13,Rq 15 (.mks 3 1 3 [(.int .i64 0)] [(0,10),(1,12),(2,14)]),Cq 16 222 ([8,15])]) (.reg [Lq 17 1,Fq 18 4 2,Lq 19 18,Cq 20 219 ([17,19])])))
theorem Ra:Al Tryz.prog 221 2=some (Rx,[]):=by kernel_rfl
def Lv:Ae:=
 .seq (.reg [Mq 6 1,Rq 7 (.len false 6),Nq 8 0]) (.block 0 (.loop (.seq (.reg [Bq 9 .lss 8 7]) (.seq (.cond 9 (.skip) (.exit 0)) (.seq (.block 1 (.seq (.reg [Iq 10 1 6 8,Lq 11 10,Mq 5 11]) (.dreg [[Mq 12 0,Fq 13 0 12,Fq 14 0 13,Mq 15 5,Cq 16 141 ([15]),Rq 17 (.bin .add 16 (.const (.string ⟨#[59]⟩)))],[Cq 18 259 ([14,17])]]))) (.reg [Bq 19 .add 8 (Kq 1),Mq 8 19]))))))
theorem Lo:Al Tryz.prog 222 2=some (Lv,[]):=by kernel_rfl
def I7:Ae:=
 .seq (.reg [Mq 8 0,Mq 9 1,Rq 10 (.len false 9),Rq 11 (.mks 3 1 1 [(.int .i64 0)] [(0,10)]),Cq 12 222 ([8,11])]) (.seq (.reg [Mq 13 1,Rq 14 (.len false 13),Nq 15 0]) (.block 0 (.loop (.seq (.reg [Bq 16 .lss 15 14]) (.seq (.cond 16 (.skip) (.exit 0)) (.seq (.block 1 (.seq (.reg [Iq 17 9 13 15,Rq 18 (.load true 9 17),Rq 7 (.zbox 50 Ajb),Sq 9 7 18]) (.reg [Mq 19 2,Rq 20 (.load true 9 7),Rq 21 (.call 19 [20])]))) (.reg [Bq 22 .add 15 (Kq 1),Mq 15 22])))))))
theorem I9:Al Tryz.prog 223 3=some (I7,[]):=by kernel_rfl
def Rj:Ae:=
 .seq (.reg [Rq 2 (.box 50 9 0)]) (.seq (.reg [Lq 3 1,Fq 4 0 2,Lq 5 4,Fq 6 1 2,Lq 7 6,Fq 8 2 2,Lq 9 8,Fq 10 3 2,Lq 11 10,Rq 12 (.mks 9 1 4 [(.string ⟨#[]⟩)] [(0,5),(1,7),(2,9),(3,11)]),Cq 13 218 ([3,12])]) (.seq (.reg [Lq 14 1,Fq 15 4 2,Lq 16 15,Fq 17 5 2,Lq 18 17,Rq 19 (.mks 3 1 2 [(.int .i64 0)] [(0,16),(1,18)]),Cq 20 222 ([14,19])]) (.seq (.reg [Lq 21 1,Fq 22 6 2,Lq 23 22,Cq 24 219 ([21,23])]) (.seq (.reg [Lq 25 1,Fq 26 7 2,Lq 27 26,Rq 28 (.mks 3 1 1 [(.int .i64 0)] [(0,27)]),Cq 29 222 ([25,28])]) (.reg [Lq 30 1,Fq 31 8 2,Lq 32 31,Cq 33 219 ([30,32])])))))
theorem Sl:Al Tryz.prog 224 2=some (Rj,[]):=by kernel_rfl
def Jb:Ae:=
 .seq (.reg [Mq 8 0,Mq 9 1,Rq 10 (.len false 9),Rq 11 (.mks 3 1 1 [(.int .i64 0)] [(0,10)]),Cq 12 222 ([8,11])]) (.seq (.reg [Mq 13 1,Rq 14 (.len false 13),Nq 15 0]) (.block 0 (.loop (.seq (.reg [Bq 16 .lss 15 14]) (.seq (.cond 16 (.skip) (.exit 0)) (.seq (.block 1 (.seq (.reg [Iq 17 3 13 15,Rq 18 (.load true 3 17),Rq 7 (.zbox 53 [(.string ⟨#[]⟩),(.int .i64 0),(.int .i64 0)]),Sq 3 7 18]) (.reg [Mq 19 2,Rq 20 (.load true 3 7),Rq 21 (.call 19 [20])]))) (.reg [Bq 22 .add 15 (Kq 1),Mq 15 22])))))))
theorem Jr:Al Tryz.prog 225 3=some (Jb,[]):=by kernel_rfl
def Se:Ae:=
 .seq (.reg [Rq 2 (.box 53 3 0)]) (.seq (.reg [Lq 3 1,Fq 4 0 2,Lq 5 4,Rq 6 (.mks 9 1 1 [(.string ⟨#[]⟩)] [(0,5)]),Cq 7 218 ([3,6])]) (.reg [Lq 8 1,Fq 9 1 2,Lq 10 9,Fq 11 2 2,Lq 12 11,Rq 13 (.mks 3 1 2 [(.int .i64 0)] [(0,10),(1,12)]),Cq 14 222 ([8,13])]))
theorem Sj:Al Tryz.prog 226 2=some (Se,[]):=by kernel_rfl
def La:Ae:=
 .seq (.reg [Mq 8 0,Mq 9 1,Rq 10 (.len false 9),Rq 11 (.mks 3 1 1 [(.int .i64 0)] [(0,10)]),Cq 12 222 ([8,11])]) (.seq (.reg [Mq 13 1,Rq 14 (.len false 13),Nq 15 0]) (.block 0 (.loop (.seq (.reg [Bq 16 .lss 15 14]) (.seq (.cond 16 (.skip) (.exit 0)) (.seq (.block 1 (.seq (.reg [Iq 17 6 13 15,Rq 18 (.load true 6 17),Rq 7 (.zbox 88 Aas),Sq 6 7 18]) (.reg [Mq 19 2,Rq 20 (.load true 6 7),Rq 21 (.call 19 [20])]))) (.reg [Bq 22 .add 15 (Kq 1),Mq 15 22])))))))
theorem Lx:Al Tryz.prog 227 3=some (La,[]):=by kernel_rfl
def Sw:Ae:=
 .seq (.reg [Rq 2 (.box 88 6 0)]) (.seq (.reg [Lq 3 1,Fq 4 0 2,Lq 5 4,Rq 6 (.mks 9 1 1 [(.string ⟨#[]⟩)] [(0,5)]),Cq 7 218 ([3,6])]) (.reg [Lq 8 1,Fq 9 1 2,Fq 10 0 9,Lq 11 10,Fq 12 1 2,Fq 13 1 12,Lq 14 13,Fq 15 1 2,Fq 16 2 15,Lq 17 16,Fq 18 1 2,Fq 19 3 18,Lq 20 19,Fq 21 1 2,Fq 22 4 21,Lq 23 22,Rq 24 (.mks 3 1 5 [(.int .i64 0)] [(0,11),(1,14),(2,17),(3,20),(4,23)]),Cq 25 222 ([8,24])]))
theorem Rh:Al Tryz.prog 228 2=some (Sw,[]):=by kernel_rfl
abbrev zq1:List Value:=[(.string ⟨#[]⟩),(.int .i64 0),(.int .i64 0),(.int .i64 0),(.bool false),(.int .i64 0)]
abbrev zq2:List Value:=[(.string ⟨#[]⟩),(.int .i64 0),(.int .i64 0),(.int .i64 0),(.bool false)]
abbrev zq4:List Value:=[(.string ⟨#[]⟩),(.string ⟨#[]⟩),(.slice none 0 0),(.slice none 0 0),(.slice none 0 0),(.slice none 0 0),(.int .i64 0),(.int .i64 0),(.int .i64 0),(.int .i64 0),(.int .i64 0),(.slice none 0 0)]
abbrev zq5:List Value:=[(.string ⟨#[]⟩),(.string ⟨#[]⟩),(.string ⟨#[]⟩),(.string ⟨#[]⟩),(.int .i64 0),(.int .i64 0),(.bool false),(.int .i64 0),(.bool false)]
def Fe:Ae:=
 .seq (.reg [Rq 4 (.mv (.const (.bool false)))]) (.seq (.seq (.reg [Mq 6 0,Rq 7 (.len false 6),Mq 8 1,Rq 9 (.len false 8),Bq 10 .neq 7 9]) (.cond 10 (.seq (.reg [Rq 4 (.mv (.const (.bool false)))]) (.ret)) (.skip))) (.seq (.seq (.reg [Mq 11 0,Rq 12 (.len false 11),Nq 13 0]) (.block 0 (.loop (.seq (.reg [Bq 14 .lss 13 12]) (.seq (.cond 14 (.skip) (.exit 0)) (.seq (.block 1 (.seq (.reg [Mq 15 13,Mq 5 15]) (.seq (.dreg [[Mq 16 0,Mq 17 5,Iq 18 5 16 17,Rq 19 (.load true 5 18),Mq 20 1,Mq 21 5,Iq 22 5 20 21,Rq 23 (.load true 5 22)],[Rq 24 (.eqS true [1,0,0,0,2] 19 23)]]) (.cond 24 (.seq (.reg [Rq 4 (.mv (.const (.bool false)))]) (.ret)) (.skip))))) (.reg [Bq 25 .add 13 (Kq 1),Mq 13 25]))))))) (.seq (.reg [Rq 4 (.mv (.const (.bool true)))]) (.ret))))
theorem E7:Al Tryz.prog 12 2=some (Fe,[4]):=by kernel_rfl
def El:Ae:=
 .seq (.reg [Rq 4 (.mv (.const (.bool false)))]) (.seq (.seq (.reg [Mq 6 0,Rq 7 (.len false 6),Mq 8 1,Rq 9 (.len false 8),Bq 10 .neq 7 9]) (.cond 10 (.seq (.reg [Rq 4 (.mv (.const (.bool false)))]) (.ret)) (.skip))) (.seq (.seq (.reg [Mq 11 0,Rq 12 (.len false 11),Nq 13 0]) (.block 0 (.loop (.seq (.reg [Bq 14 .lss 13 12]) (.seq (.cond 14 (.skip) (.exit 0)) (.seq (.block 1 (.seq (.reg [Mq 15 13,Mq 5 15]) (.seq (.dreg [[Mq 16 0,Mq 17 5,Iq 18 9 16 17,Rq 19 (.load true 9 18),Mq 20 1,Mq 21 5,Iq 22 9 20 21,Rq 23 (.load true 9 22)],[Rq 24 (.eqS true [1,1,1,1,0,0,2,0,2] 19 23)]]) (.cond 24 (.seq (.reg [Rq 4 (.mv (.const (.bool false)))]) (.ret)) (.skip))))) (.reg [Bq 25 .add 13 (Kq 1),Mq 13 25]))))))) (.seq (.reg [Rq 4 (.mv (.const (.bool true)))]) (.ret))))
theorem Ep:Al Tryz.prog 13 2=some (El,[4]):=by kernel_rfl
def En:Ae:=
 .seq (.reg [Rq 4 (.mv (.const (.bool false)))]) (.seq (.seq (.reg [Mq 6 0,Rq 7 (.len false 6),Mq 8 1,Rq 9 (.len false 8),Bq 10 .neq 7 9]) (.cond 10 (.seq (.reg [Rq 4 (.mv (.const (.bool false)))]) (.ret)) (.skip))) (.seq (.seq (.reg [Mq 11 0,Rq 12 (.len false 11),Nq 13 0]) (.block 0 (.loop (.seq (.reg [Bq 14 .lss 13 12]) (.seq (.cond 14 (.skip) (.exit 0)) (.seq (.block 1 (.seq (.reg [Mq 15 13,Mq 5 15]) (.seq (.dreg [[Mq 16 0,Mq 17 5,Iq 18 3 16 17,Rq 19 (.load true 3 18),Mq 20 1,Mq 21 5,Iq 22 3 20 21,Rq 23 (.load true 3 22)],[Rq 24 (.eqS true [1,0,0] 19 23)]]) (.cond 24 (.seq (.reg [Rq 4 (.mv (.const (.bool false)))]) (.ret)) (.skip))))) (.reg [Bq 25 .add 13 (Kq 1),Mq 13 25]))))))) (.seq (.reg [Rq 4 (.mv (.const (.bool true)))]) (.ret))))
theorem Eo:Al Tryz.prog 14 2=some (En,[4]):=by kernel_rfl
def U6:Ae:=
 .seq (.reg [Nq 2 0]) (.seq (.reg [Mq 3 0,Rq 4 (.mks 36 1 1 [(.slice none 0 0)] [(0,3)]),Cq 5 83 ([4]),Mq 2 5]) (.ret))
theorem Ii:Al Tryz.prog 45 1=some (U6,[2]):=by kernel_rfl
def Wo:Ae:=
 .seq (.reg [Nq 2 0]) (.seq (.seq (.reg [Mq 7 0,Rq 8 (.len false 7),Bq 9 .gtr 8 (Kq 20)]) (.cond 9 (.seq (.reg [Nq 2 2]) (.ret)) (.skip))) (.seq (.reg [Rq 10 (.mkm),Mq 3 10]) (.seq (.seq (.reg [Mq 11 0,Rq 12 (.len false 11),Nq 13 0]) (.block 0 (.loop (.seq (.reg [Bq 14 .lss 13 12]) (.seq (.cond 14 (.skip) (.exit 0)) (.seq (.block 1 (.seq (.reg [Iq 15 6 11 13,Rq 16 (.load true 6 15),Rq 5 (.zbox 79 zq1),Sq 6 5 16]) (.seq (.seq (.reg [Fq 17 0 5,Rq 18 (.load true 5 17),Cq 19 84 ([18]),Mq 6 19]) (.seq (.reg [Mq 20 6,Bq 21 .neq 20 (Kq 0)]) (.cond 21 (.seq (.reg [Mq 22 6,Mq 2 22]) (.ret)) (.skip)))) (.reg [Mq 23 3,Fq 24 0 5,Fq 25 0 24,Lq 26 25,⟨none,none,.mupd .string 23 26 (.const (.bool true))⟩])))) (.reg [Bq 27 .add 13 (Kq 1),Mq 13 27]))))))) (.seq (.block 2 (.seq (.reg [Mq 29 0,Cq 30 85 ([29,(.func 86)]),Mq 28 30]) (.cond 28 (.seq (.reg [Nq 2 3]) (.ret)) (.seq (.reg [Mq 32 3,Rq 33 (.mlen 32),Mq 34 0,Rq 35 (.len false 34),Bq 36 .lss 33 35,Mq 31 36]) (.cond 31 (.seq (.reg [Nq 2 6]) (.ret)) (.skip)))))) (.seq (.reg [Nq 2 0]) (.ret))))))
theorem O7:Al Tryz.prog 46 1=some (Wo,[2]):=by kernel_rfl
def S3:Ae:=
 .seq (.reg [Nq 2 0]) (.seq (.reg [Mq 3 0,Rq 4 (.mks 38 1 1 [(.slice none 0 0)] [(0,3)]),Cq 5 87 ([4]),Mq 2 5]) (.ret))
theorem Mh:Al Tryz.prog 47 1=some (S3,[2]):=by kernel_rfl
def Vd:Ae:=
 .seq (.reg [Nq 2 0]) (.seq (.reg [Mq 3 0,Rq 4 (.mks 39 1 1 [(.slice none 0 0)] [(0,3)]),Cq 5 88 ([4]),Mq 2 5]) (.ret))
theorem Nx:Al Tryz.prog 48 1=some (Vd,[2]):=by kernel_rfl
def X8:Ae:=
 .seq (.reg [Rq 1 (.box 41 5 0),Nq 2 0]) (.seq (.reg [Rq 3 (.mv (.func 89))]) (.seq (.seq (.reg [Mq 4 3,Fq 5 0 1,Lq 6 5,Rq 7 (.call 4 [6]),Rq 8 (.not 7),Mq 9 8,Hq 10 9 false 3,Gq 11 9 false (.fldA 1 1),Gq 12 9 false (.load false 1 11),Gq 13 9 false (.call 10 [12]),Gq 14 9 false (.not 13),Rq 15 (.pick 9 (.const (.bool true)) 14),Mq 16 15,Hq 17 16 false 3,Gq 18 16 false (.fldA 2 1),Gq 19 16 false (.load false 1 18),Gq 20 16 false (.call 17 [19]),Gq 21 16 false (.not 20),Rq 22 (.pick 16 (.const (.bool true)) 21),Mq 23 22,Gq 24 23 false (.fldA 3 1),Gq 25 23 false (.load false 1 24),Gq 26 23 false (.call (.func 90) [25,(Kq 0),(Kq 1000000)]),Gq 27 23 false (.not 26),Rq 28 (.pick 23 (.const (.bool true)) 27),Mq 29 28,Gq 30 29 false (.fldA 4 1),Gq 31 29 false (.load false 1 30),Gq 32 29 false (.call (.func 90) [31,(Kq 0),(Kq 1000)]),Gq 33 29 false (.not 32),Rq 34 (.pick 29 (.const (.bool true)) 33)]) (.cond 34 (.seq (.reg [Nq 2 3]) (.ret)) (.skip))) (.seq (.reg [Nq 2 0]) (.ret))))
theorem Oq:Al Tryz.prog 49 1=some (X8,[2]):=by kernel_rfl
def Yb:Ae:=
 .seq (.reg [Nq 4 0,Rq 5 (.mv (.const (.bool false)))]) (.seq (.reg [Mq 6 0,Mq 7 1,Cq 8 91 ([6,7,(.func 92)]),Eq1 9 8 0,Eq1 10 8 1,Mq 4 9,Mq 5 10]) (.ret))
theorem Ev:Al Tryz.prog 51 2=some (Yb,[4,5]):=by kernel_rfl
def Gi:Ae:=
 .seq (.reg [Rq 2 (.mv (.const (.slice none 0 0)))]) (.seq (.seq (.reg [Mq 3 0,Rq 4 (.isnil false 3)]) (.cond 4 (.seq (.reg [Rq 2 (.mv (.const (.slice none 0 0)))]) (.ret)) (.skip))) (.seq (.reg [Rq 5 (.mks 44 12 0 zq4 []),Mq 6 0,Rq 7 (.app 44 12 192 (.agg #[(.string ⟨#[]⟩),(.string ⟨#[]⟩),(.slice none 0 0),(.slice none 0 0),(.slice none 0 0),(.slice none 0 0),(.int .i64 0),(.int .i64 0),(.int .i64 0),(.int .i64 0),(.int .i64 0),(.slice none 0 0)]) 5 6),Mq 2 7]) (.ret)))
theorem Gh:Al Tryz.prog 56 1=some (Gi,[2]):=by kernel_rfl
def E9:Ae:=
 .seq (.reg [Rq 2 (.mv (.const (.slice none 0 0)))]) (.seq (.seq (.reg [Mq 3 0,Rq 4 (.isnil false 3)]) (.cond 4 (.seq (.reg [Rq 2 (.mv (.const (.slice none 0 0)))]) (.ret)) (.skip))) (.seq (.reg [Rq 5 (.mks 57 2 0 [(.int .i64 0),(.string ⟨#[]⟩)] []),Mq 6 0,Rq 7 (.app 57 2 24 (.agg #[(.int .i64 0),(.string ⟨#[]⟩)]) 5 6),Mq 2 7]) (.ret)))
theorem Fa:Al Tryz.prog 57 1=some (E9,[2]):=by kernel_rfl
def E6:Ae:=
 .seq (.reg [Rq 6 (.mv (.const (.slice none 0 0)))]) (.seq (.reg [Mq 8 0,Mq 9 1,Mq 10 2,Mq 11 0,Rq 12 (.len false 11),Rq 13 (.slcL 2 8 (some 9) (some 10) (some 12))]) (.seq (.seq (.reg [Mq 14 1,Mq 15 2,Bq 16 .eql 14 15]) (.cond 16 (.seq (.reg [Mq 17 0,Mq 6 17]) (.ret)) (.skip))) (.seq (.reg [Mq 18 0,Rq 19 (.len false 18),Mq 7 19]) (.seq (.dreg [[Mq 20 0,Mq 21 1,Rq 22 (.slcL 2 20 none (some 21) none),Mq 23 0,Mq 24 2,Rq 25 (.slcL 2 23 (some 24) none none)],[Rq 26 (.app 57 2 24 (.agg #[(.int .i64 0),(.string ⟨#[]⟩)]) 22 25)],[Mq 0 26]]) (.seq (.reg [Mq 27 0,Mq 28 0,Rq 29 (.len false 28),Mq 30 7,Rq 31 (.slcL 2 27 (some 29) (some 30) none),⟨none,none,.clr 2 [(.int .i64 0),(.string ⟨#[]⟩)] 31⟩]) (.seq (.reg [Mq 32 0,Mq 6 32]) (.ret)))))))
theorem E4:Al Tryz.prog 66 3=some (E6,[6]):=by kernel_rfl
def Vg:Ae:=
 .seq (.reg [Nq 2 0]) (.seq (.seq (.reg [Mq 7 0,Rq 8 (.len false 7),Nq 9 0]) (.block 0 (.loop (.seq (.reg [Bq 10 .lss 9 8]) (.seq (.cond 10 (.skip) (.exit 0)) (.seq (.block 1 (.seq (.reg [Iq 11 1 7 9,Lq 12 11,Mq 4 12]) (.seq (.seq (.reg [Mq 13 4,Rq 14 (.len false 13),Bq 15 .gtr 14 (Kq 20)]) (.cond 15 (.seq (.reg [Nq 2 2]) (.ret)) (.skip))) (.seq (.seq (.reg [Mq 16 4,Cq 17 129 ([16]),Mq 5 17]) (.seq (.reg [Mq 18 5,Bq 19 .neq 18 (Kq 0)]) (.cond 19 (.seq (.reg [Mq 20 5,Mq 2 20]) (.ret)) (.skip)))) (.seq (.reg [Nq 6 1]) (.block 2 (.loop (.seq (.seq (.reg [Mq 21 6,Mq 22 4,Rq 23 (.len false 22),Bq 24 .lss 21 23]) (.cond 24 (.skip) (.exit 2))) (.seq (.block 3 (.seq (.dreg [[Mq 27 4,Mq 28 6,Iq 29 5 27 28,Fq 30 0 29,Lq 31 30,Mq 32 4,Mq 33 6,Bq 34 .sub 33 (Kq 1),Iq 35 5 32 34,Fq 36 0 35,Lq 37 36],[Bq 38 .leq 31 37]]) (.cond 38 (.seq (.reg [Nq 2 4]) (.ret)) (.skip)))) (.reg [Mq 25 6,Bq 26 .add 25 (Kq 1),Mq 6 26])))))))))) (.reg [Bq 39 .add 9 (Kq 1),Mq 9 39]))))))) (.seq (.reg [Nq 2 0]) (.ret)))
theorem Fu:Al Tryz.prog 83 1=some (Vg,[2]):=by kernel_rfl
def Yt:Ae:=
 .seq (.reg [Rq 1 (.box 47 5 0),Nq 2 0]) (.seq (.reg [Rq 3 (.load true 5 1),Cq 4 130 ([3]),Mq 2 4]) (.ret))
theorem Qc:Al Tryz.prog 84 1=some (Yt,[2]):=by kernel_rfl
def D9:Ae:=
 .seq (.reg [Rq 4 (.mv (.const (.bool false)))]) (.seq (.reg [Mq 5 0,Mq 6 1,Cq 7 131 ([5,6]),Bq 8 .geq 7 (Kq 0),Mq 4 8]) (.ret))
theorem Cj:Al Tryz.prog 85 2=some (D9,[4]):=by kernel_rfl
def T7:Ae:=
 .seq (.reg [Rq 1 (.box 79 6 0),Rq 2 (.mv (.const (.bool false)))]) (.seq (.reg [Fq 3 5 1,Lq 4 3,Bq 5 .lss 4 (Kq 0),Mq 6 5,Gq 7 6 false (.fldA 5 1),Gq 8 6 false (.load false 1 7),Gq 9 6 false (.bin .gtr 8 (Kq 100)),Rq 10 (.pick 6 (.const (.bool true)) 9),Mq 2 10]) (.ret))
theorem S9:Al Tryz.prog 86 1=some (T7,[2]):=by kernel_rfl
def Td:Ae:=
 .seq (.reg [Nq 2 0]) (.seq (.seq (.reg [Mq 9 0,Rq 10 (.len false 9),Nq 11 0]) (.block 0 (.loop (.seq (.reg [Bq 12 .lss 11 10]) (.seq (.cond 12 (.skip) (.exit 0)) (.seq (.block 1 (.seq (.reg [Iq 13 1 9 11,Lq 14 13,Mq 4 14]) (.seq (.seq (.reg [Mq 15 4,Rq 16 (.len false 15),Bq 17 .gtr 16 (Kq 40)]) (.cond 17 (.seq (.reg [Nq 2 2]) (.ret)) (.skip))) (.seq (.seq (.reg [Mq 18 4,Rq 19 (.len false 18),Nq 20 0]) (.block 2 (.loop (.seq (.reg [Bq 21 .lss 20 19]) (.seq (.cond 21 (.skip) (.exit 2)) (.seq (.block 3 (.seq (.reg [Iq 22 9 18 20,Rq 23 (.load true 9 22),Rq 6 (.zbox 50 zq5),Sq 9 6 23]) (.seq (.reg [Rq 24 (.load true 9 6),Cq 25 132 ([24]),Mq 7 25]) (.seq (.reg [Mq 26 7,Bq 27 .neq 26 (Kq 0)]) (.cond 27 (.seq (.reg [Mq 28 7,Mq 2 28]) (.ret)) (.skip)))))) (.reg [Bq 29 .add 20 (Kq 1),Mq 20 29]))))))) (.seq (.reg [Nq 8 1]) (.block 4 (.loop (.seq (.seq (.reg [Mq 30 8,Mq 31 4,Rq 32 (.len false 31),Bq 33 .lss 30 32]) (.cond 33 (.skip) (.exit 4))) (.seq (.block 5 (.seq (.dreg [[Mq 36 4,Mq 37 8,Bq 38 .sub 37 (Kq 1),Iq 39 9 36 38,Rq 40 (.load true 9 39),Mq 41 4,Mq 42 8,Iq 43 9 41 42,Rq 44 (.load true 9 43)],[Cq 45 133 ([40,44])],[Bq 46 .geq 45 (Kq 0)]]) (.cond 46 (.seq (.reg [Nq 2 4]) (.ret)) (.skip)))) (.reg [Mq 34 8,Bq 35 .add 34 (Kq 1),Mq 8 35])))))))))) (.reg [Bq 47 .add 11 (Kq 1),Mq 11 47]))))))) (.seq (.reg [Nq 2 0]) (.ret)))
theorem Hh:Al Tryz.prog 87 1=some (Td,[2]):=by kernel_rfl
def U9:Ae:=
 .seq (.reg [Nq 2 0]) (.seq (.seq (.reg [Mq 9 0,Rq 10 (.len false 9),Nq 11 0]) (.block 0 (.loop (.seq (.reg [Bq 12 .lss 11 10]) (.seq (.cond 12 (.skip) (.exit 0)) (.seq (.block 1 (.seq (.reg [Iq 13 1 9 11,Lq 14 13,Mq 4 14]) (.seq (.seq (.reg [Mq 15 4,Rq 16 (.len false 15),Bq 17 .gtr 16 (Kq 6)]) (.cond 17 (.seq (.reg [Nq 2 2]) (.ret)) (.skip))) (.seq (.seq (.reg [Mq 18 4,Rq 19 (.len false 18),Nq 20 0]) (.block 2 (.loop (.seq (.reg [Bq 21 .lss 20 19]) (.seq (.cond 21 (.skip) (.exit 2)) (.seq (.block 3 (.seq (.reg [Iq 22 3 18 20,Rq 23 (.load true 3 22),Rq 6 (.zbox 53 [(.string ⟨#[]⟩),(.int .i64 0),(.int .i64 0)]),Sq 3 6 23]) (.seq (.reg [Rq 24 (.load true 3 6),Cq 25 134 ([24]),Mq 7 25]) (.seq (.reg [Mq 26 7,Bq 27 .neq 26 (Kq 0)]) (.cond 27 (.seq (.reg [Mq 28 7,Mq 2 28]) (.ret)) (.skip)))))) (.reg [Bq 29 .add 20 (Kq 1),Mq 20 29]))))))) (.seq (.reg [Nq 8 1]) (.block 4 (.loop (.seq (.seq (.reg [Mq 30 8,Mq 31 4,Rq 32 (.len false 31),Bq 33 .lss 30 32]) (.cond 33 (.skip) (.exit 4))) (.seq (.block 5 (.seq (.dreg [[Mq 36 4,Mq 37 8,Iq 38 3 36 37,Fq 39 0 38,Lq 40 39,Mq 41 4,Mq 42 8,Bq 43 .sub 42 (Kq 1),Iq 44 3 41 43,Fq 45 0 44,Lq 46 45],[Bq 47 .leq 40 46]]) (.cond 47 (.seq (.reg [Nq 2 4]) (.ret)) (.skip)))) (.reg [Mq 34 8,Bq 35 .add 34 (Kq 1),Mq 8 35])))))))))) (.reg [Bq 48 .add 11 (Kq 1),Mq 11 48]))))))) (.seq (.reg [Nq 2 0]) (.ret)))
theorem Ik:Al Tryz.prog 88 1=some (U9,[2]):=by kernel_rfl
def S6:Ae:=
 .seq (.reg [Rq 2 (.mv (.const (.bool false)))]) (.seq (.reg [Mq 3 0,Cq 4 90 ([3,(.const (.int .i64 (-10000000))),(Kq 10000000)]),Mq 2 4]) (.ret))
theorem Ff:Al Tryz.prog 89 1=some (S6,[2]):=by kernel_rfl
def Vh:Ae:=
 .seq (.reg [Rq 6 (.mv (.const (.bool false)))]) (.seq (.reg [Mq 7 0,Mq 8 1,Bq 9 .geq 7 8,Mq 10 9,Hq 11 10 true 0,Hq 12 10 true 2,Gq 13 10 true (.bin .leq 11 12),Rq 14 (.pick 10 13 (.const (.bool false))),Mq 6 14]) (.ret))
theorem Dn:Al Tryz.prog 90 3=some (Vh,[6]):=by kernel_rfl
def C3:Ae:=
 .seq (.reg [Nq 6 0,Rq 7 (.mv (.const (.bool false)))]) (.seq (.reg [Mq 12 0,Rq 13 (.len false 12),Mq 8 13]) (.seq (.reg [Mq 14 8,Nq 9 0,Mq 10 14]) (.seq (.block 0 (.loop (.seq (.seq (.reg [Mq 15 9,Mq 16 10,Bq 17 .lss 15 16]) (.cond 17 (.skip) (.exit 0))) (.block 1 (.seq (.reg [Mq 18 9,Mq 19 10,Bq 20 .add 18 19,Rq 21 (.conv .u64 20),Rq 22 (.bin .shr 21 (.const (.int .u64 1))),Rq 23 (.conv .i64 22),Mq 11 23]) (.seq (.reg [Mq 24 2,Mq 25 0,Mq 26 11,Iq 27 5 25 26,Rq 28 (.load true 5 27),Mq 29 1,Rq 30 (.call 24 [28,29]),Bq 31 .lss 30 (Kq 0)]) (.cond 31 (.reg [Mq 32 11,Bq 33 .add 32 (Kq 1),Mq 9 33]) (.reg [Mq 34 11,Mq 10 34])))))))) (.seq (.reg [Mq 35 9,Mq 36 9,Mq 37 8,Bq 38 .lss 36 37,Mq 39 38,Hq 40 39 true 2,Hq 41 39 true 0,Hq 42 39 true 9,Gq 43 39 true (.idxA 5 41 42),Gq 44 39 true (.load true 5 43),Hq 45 39 true 1,Gq 46 39 true (.call 40 [44,45]),Gq 47 39 true (.bin .eql 46 (Kq 0)),Rq 48 (.pick 39 47 (.const (.bool false))),Mq 6 35,Mq 7 48]) (.ret)))))
theorem Av:Al Tryz.prog 91 3=some (C3,[6,7]):=by kernel_rfl
def Sx:Ae:=
 .seq (.reg [Rq 2 (.box 47 5 0),Nq 4 0]) (.seq (.reg [Fq 5 0 2,Lq 6 5,Mq 7 1,Cq 8 93 ([6,7]),Mq 4 8]) (.ret))
theorem Bo:Al Tryz.prog 92 2=some (Sx,[4]):=by kernel_rfl
def Ob:Ae:=
 .seq (.reg [Nq 4 0]) (.seq (.reg [Mq 7 0,Cq 8 135 ([7]),Mq 5 8]) (.seq (.reg [Mq 9 1,Cq 10 135 ([9]),Mq 6 10]) (.seq (.seq (.reg [Mq 11 5]) (.cond 11 (.seq (.seq (.reg [Mq 12 6]) (.cond 12 (.seq (.reg [Nq 4 0]) (.ret)) (.skip))) (.seq (.reg [Rq 4 (.mv (.const (.int .i64 (-1))))]) (.ret))) (.skip))) (.seq (.seq (.reg [Mq 13 6]) (.cond 13 (.seq (.reg [Nq 4 1]) (.ret)) (.skip))) (.seq (.seq (.reg [Mq 14 0,Mq 15 1,Bq 16 .lss 14 15]) (.cond 16 (.seq (.reg [Rq 4 (.mv (.const (.int .i64 (-1))))]) (.ret)) (.skip))) (.seq (.seq (.reg [Mq 17 0,Mq 18 1,Bq 19 .gtr 17 18]) (.cond 19 (.seq (.reg [Nq 4 1]) (.ret)) (.skip))) (.seq (.reg [Nq 4 0]) (.ret))))))))
theorem Bc:Al Tryz.prog 93 2=some (Ob,[4]):=by kernel_rfl
def Rg:Ae:=
 .seq (.reg [Rq 2 (.box 47 5 0),Rq 3 (.box 47 5 1),Nq 4 0]) (.seq (.dreg [[Fq 5 2 2,Lq 6 5,Fq 7 2 3,Lq 8 7,Cq 9 137 ([6,8]),Fq 10 1 2,Lq 11 10,Fq 12 1 3,Lq 13 12,Cq 14 137 ([11,13]),Fq 15 3 2,Lq 16 15,Fq 17 3 3,Lq 18 17,Cq 19 137 ([16,18]),Fq 20 4 2,Lq 21 20,Cq 22 138 ([21]),Fq 23 4 3,Lq 24 23],[Cq 25 138 ([24])],[Cq 26 137 ([22,25])],[Rq 27 (.mks 3 1 4 [(.int .i64 0)] [(0,9),(1,14),(2,19),(3,26)])],[Cq 28 136 ([27])],[Mq 4 28]]) (.ret))
theorem Sg:Al Tryz.prog 94 2=some (Rg,[4]):=by kernel_rfl
def Fo:Ae:=
 .seq (.reg [Rq 2 (.mv (.const (.slice none 0 0)))]) (.seq (.seq (.reg [Mq 3 0,Rq 4 (.isnil false 3)]) (.cond 4 (.seq (.reg [Rq 2 (.mv (.const (.slice none 0 0)))]) (.ret)) (.skip))) (.seq (.reg [Rq 5 (.mks 79 6 0 zq1 []),Mq 6 0,Rq 7 (.app 79 6 56 (.agg #[(.string ⟨#[]⟩),(.int .i64 0),(.int .i64 0),(.int .i64 0),(.bool false),(.int .i64 0)]) 5 6),Mq 2 7]) (.ret)))
theorem Fp:Al Tryz.prog 108 1=some (Fo,[2]):=by kernel_rfl
def U5:Ae:=
 .seq (.reg [Rq 4 (.mv (.const (.slice none 0 0))),Nq 5 0]) (.seq (.seq (.reg [Mq 12 0,Mq 13 1,Rq 14 (.mks 38 1 2 [(.slice none 0 0)] [(0,12),(1,13)]),Cq 15 87 ([14]),Mq 6 15]) (.seq (.reg [Mq 16 6,Bq 17 .neq 16 (Kq 0)]) (.cond 17 (.seq (.reg [Mq 18 6,Rq 4 (.mv (.const (.slice none 0 0))),Mq 5 18]) (.ret)) (.skip)))) (.seq (.reg [Mq 19 0,Cq 20 109 ([19]),Mq 7 20]) (.seq (.seq (.reg [Mq 21 1,Rq 22 (.len false 21),Nq 23 0]) (.block 0 (.loop (.seq (.reg [Bq 24 .lss 23 22]) (.seq (.cond 24 (.skip) (.exit 0)) (.seq (.block 1 (.seq (.reg [Iq 25 9 21 23,Rq 26 (.load true 9 25),Rq 9 (.zbox 50 zq5),Sq 9 9 26]) (.seq (.reg [Mq 28 7,Fq 29 0 9,Lq 30 29,Fq 31 1 9,Lq 32 31,Cq 33 145 ([28,30,32]),Mq 27 33,Eq1 34 27 0,Eq1 35 27 1,Mq 10 34,Mq 11 35]) (.block 2 (.seq (.reg [Mq 37 11,Rq 38 (.not 37),Mq 36 38]) (.cond 36 (.reg [Mq 39 7,Mq 40 10,Rq 41 (.load true 9 9),Rq 42 (.mks 50 9 1 zq5 [(0,41)]),Cq 43 146 ([39,40,42]),Mq 7 43]) (.seq (.dreg [[Rq 45 (.load true 9 9),Mq 46 7,Mq 47 10,Iq 48 9 46 47,Rq 49 (.load true 9 48)],[Cq 50 147 ([45,49])],[Bq 51 .gtr 50 (Kq 0)],[Mq 44 51]]) (.cond 44 (.reg [Mq 52 7,Mq 53 10,Rq 54 (.load true 9 9),Iq 55 9 52 53,Sq 9 55 54]) (.skip))))))))) (.reg [Bq 56 .add 23 (Kq 1),Mq 23 56]))))))) (.seq (.seq (.reg [Mq 57 7,Rq 58 (.len false 57),Bq 59 .gtr 58 (Kq 40)]) (.cond 59 (.seq (.reg [Rq 4 (.mv (.const (.slice none 0 0))),Nq 5 2]) (.ret)) (.skip))) (.seq (.reg [Mq 60 7,Mq 4 60,Nq 5 0]) (.ret))))))
theorem Vf:Al Tryz.prog 116 2=some (U5,[4,5]):=by kernel_rfl
def We:Ae:=
 .seq (.reg [Rq 4 (.mv (.const (.slice none 0 0))),Nq 5 0]) (.seq (.seq (.reg [Mq 12 0,Mq 13 1,Rq 14 (.mks 39 1 2 [(.slice none 0 0)] [(0,12),(1,13)]),Cq 15 88 ([14]),Mq 6 15]) (.seq (.reg [Mq 16 6,Bq 17 .neq 16 (Kq 0)]) (.cond 17 (.seq (.reg [Mq 18 6,Rq 4 (.mv (.const (.slice none 0 0))),Mq 5 18]) (.ret)) (.skip)))) (.seq (.reg [Mq 19 0,Cq 20 110 ([19]),Mq 7 20]) (.seq (.seq (.reg [Mq 21 1,Rq 22 (.len false 21),Nq 23 0]) (.block 0 (.loop (.seq (.reg [Bq 24 .lss 23 22]) (.seq (.cond 24 (.skip) (.exit 0)) (.seq (.block 1 (.seq (.reg [Iq 25 3 21 23,Rq 26 (.load true 3 25),Rq 9 (.zbox 53 [(.string ⟨#[]⟩),(.int .i64 0),(.int .i64 0)]),Sq 3 9 26]) (.seq (.reg [Mq 28 7,Fq 29 0 9,Lq 30 29,Cq 31 148 ([28,30]),Mq 27 31,Eq1 32 27 0,Eq1 33 27 1,Mq 10 32,Mq 11 33]) (.block 2 (.seq (.reg [Mq 35 11,Rq 36 (.not 35),Mq 34 36]) (.cond 34 (.reg [Mq 37 7,Mq 38 10,Rq 39 (.load true 3 9),Rq 40 (.mks 53 3 1 [(.string ⟨#[]⟩),(.int .i64 0),(.int .i64 0)] [(0,39)]),Cq 41 149 ([37,38,40]),Mq 7 41]) (.seq (.dreg [[Fq 43 2 9,Lq 44 43,Mq 45 7,Mq 46 10,Iq 47 3 45 46,Fq 48 2 47,Lq 49 48,Cq 50 137 ([44,49]),Fq 51 1 9,Lq 52 51,Mq 53 7,Mq 54 10,Iq 55 3 53 54,Fq 56 1 55,Lq 57 56],[Cq 58 137 ([52,57])],[Rq 59 (.mks 3 1 2 [(.int .i64 0)] [(0,50),(1,58)])],[Cq 60 136 ([59])],[Bq 61 .gtr 60 (Kq 0)],[Mq 42 61]]) (.cond 42 (.reg [Mq 62 7,Mq 63 10,Rq 64 (.load true 3 9),Iq 65 3 62 63,Sq 3 65 64]) (.skip))))))))) (.reg [Bq 66 .add 23 (Kq 1),Mq 23 66]))))))) (.seq (.seq (.reg [Mq 67 7,Rq 68 (.len false 67),Bq 69 .gtr 68 (Kq 6)]) (.cond 69 (.seq (.reg [Rq 4 (.mv (.const (.slice none 0 0))),Nq 5 2]) (.ret)) (.skip))) (.seq (.reg [Mq 70 7,Mq 4 70,Nq 5 0]) (.ret))))))
theorem Xb:Al Tryz.prog 117 2=some (We,[4,5]):=by kernel_rfl
def Xc:Ae:=
 .seq (.reg [Nq 2 0]) (.seq (.seq (.reg [Mq 6 0,Rq 7 (.len false 6),Nq 8 0]) (.block 0 (.loop (.seq (.reg [Bq 9 .lss 8 7]) (.seq (.cond 9 (.skip) (.exit 0)) (.seq (.block 1 (.seq (.reg [Iq 10 5 6 8,Rq 11 (.load true 5 10),Rq 4 (.zbox 47 zq2),Sq 5 4 11]) (.seq (.reg [Rq 12 (.load true 5 4),Cq 13 130 ([12]),Mq 5 13]) (.seq (.reg [Mq 14 5,Bq 15 .neq 14 (Kq 0)]) (.cond 15 (.seq (.reg [Mq 16 5,Mq 2 16]) (.ret)) (.skip)))))) (.reg [Bq 17 .add 8 (Kq 1),Mq 8 17]))))))) (.seq (.reg [Nq 2 0]) (.ret)))
theorem Gs:Al Tryz.prog 129 1=some (Xc,[2]):=by kernel_rfl
def Yz:Ae:=
 .seq (.reg [Rq 1 (.box 47 5 0),Nq 2 0]) (.seq (.block 0 (.seq (.reg [Fq 4 0 1,Lq 5 4,Cq 6 44 ([5]),Rq 7 (.not 6),Mq 3 7]) (.cond 3 (.seq (.reg [Nq 2 1]) (.ret)) (.seq (.reg [Fq 9 1 1,Lq 10 9,Cq 11 162 ([10,(Kq 1),(Kq 4)]),Rq 12 (.not 11),Mq 8 12]) (.cond 8 (.seq (.reg [Nq 2 7]) (.ret)) (.seq (.reg [Fq 14 2 1,Lq 15 14,Cq 16 162 ([15,(Kq 1),(Kq 1000000)]),Rq 17 (.not 16),Mq 18 17,Gq 19 18 false (.fldA 3 1),Gq 20 18 false (.load false 1 19),Gq 21 18 false (.call (.func 162) [20,(Kq 0),(Kq 4294967295)]),Gq 22 18 false (.not 21),Rq 23 (.pick 18 (.const (.bool true)) 22),Mq 13 23]) (.cond 13 (.seq (.reg [Nq 2 3]) (.ret)) (.skip)))))))) (.seq (.reg [Nq 2 0]) (.ret)))
theorem Lp:Al Tryz.prog 130 1=some (Yz,[2]):=by kernel_rfl
def Em:Ae:=
 .seq (.reg [Nq 4 0]) (.seq (.seq (.reg [Mq 6 0,Rq 7 (.len false 6),Nq 8 0]) (.block 0 (.loop (.seq (.reg [Bq 9 .lss 8 7]) (.seq (.cond 9 (.skip) (.exit 0)) (.seq (.block 1 (.seq (.reg [Mq 10 8,Mq 5 10]) (.seq (.reg [Mq 11 1,Mq 12 0,Mq 13 5,Iq 14 6 12 13,Rq 15 (.load true 6 14),Rq 16 (.call 11 [15])]) (.cond 16 (.seq (.reg [Mq 17 5,Mq 4 17]) (.ret)) (.skip))))) (.reg [Bq 18 .add 8 (Kq 1),Mq 8 18]))))))) (.seq (.reg [Rq 4 (.mv (.const (.int .i64 (-1))))]) (.ret)))
theorem Be:Al Tryz.prog 131 2=some (Em,[4]):=by kernel_rfl
def Wb:Ae:=
 .seq (.reg [Rq 1 (.box 50 9 0),Nq 2 0]) (.seq (.block 0 (.seq (.reg [Fq 4 0 1,Lq 5 4,Cq 6 44 ([5]),Rq 7 (.not 6),Mq 8 7,Gq 9 8 false (.fldA 1 1),Gq 10 8 false (.load false 1 9),Gq 11 8 false (.call (.func 44) [10]),Gq 12 8 false (.not 11),Rq 13 (.pick 8 (.const (.bool true)) 12),Mq 14 13,Gq 15 14 false (.fldA 2 1),Gq 16 14 false (.load false 1 15),Gq 17 14 false (.call (.func 44) [16]),Gq 18 14 false (.not 17),Rq 19 (.pick 14 (.const (.bool true)) 18),Mq 20 19,Gq 21 20 false (.fldA 3 1),Gq 22 20 false (.load false 1 21),Gq 23 20 false (.call (.func 163) [22]),Gq 24 20 false (.not 23),Rq 25 (.pick 20 (.const (.bool true)) 24),Mq 3 25]) (.cond 3 (.seq (.reg [Nq 2 1]) (.ret)) (.seq (.reg [Fq 27 4 1,Lq 28 27,Cq 29 164 ([28,(Kq 0),(Kq 4294967295)]),Rq 30 (.not 29),Mq 31 30,Gq 32 31 false (.fldA 5 1),Gq 33 31 false (.load false 1 32),Gq 34 31 false (.call (.func 164) [33,(Kq 0),(Kq 65535)]),Gq 35 31 false (.not 34),Rq 36 (.pick 31 (.const (.bool true)) 35),Mq 37 36,Gq 38 37 false (.fldA 7 1),Gq 39 37 false (.load false 1 38),Gq 40 37 false (.call (.func 164) [39,(Kq 1),(Kq 1000000)]),Gq 41 37 false (.not 40),Rq 42 (.pick 37 (.const (.bool true)) 41),Mq 26 42]) (.cond 26 (.seq (.reg [Nq 2 3]) (.ret)) (.skip)))))) (.seq (.reg [Nq 2 0]) (.ret)))
theorem Wc:Al Tryz.prog 132 1=some (Wb,[2]):=by kernel_rfl
def T9:Ae:=
 .seq (.reg [Rq 2 (.box 50 9 0),Rq 3 (.box 50 9 1),Nq 4 0]) (.seq (.dreg [[Fq 5 0 2,Lq 6 5,Fq 7 0 3,Lq 8 7,Cq 9 93 ([6,8]),Fq 10 1 2,Lq 11 10,Fq 12 1 3,Lq 13 12],[Cq 14 93 ([11,13])],[Rq 15 (.mks 3 1 2 [(.int .i64 0)] [(0,9),(1,14)])],[Cq 16 136 ([15])],[Mq 4 16]]) (.ret))
theorem S2:Al Tryz.prog 133 2=some (T9,[4]):=by kernel_rfl
def Ym:Ae:=
 .seq (.reg [Rq 1 (.box 53 3 0),Nq 2 0]) (.seq (.block 0 (.seq (.reg [Fq 4 0 1,Lq 5 4,Cq 6 44 ([5]),Rq 7 (.not 6),Mq 3 7]) (.cond 3 (.seq (.reg [Nq 2 1]) (.ret)) (.seq (.reg [Fq 9 1 1,Lq 10 9,Cq 11 165 ([10,(Kq 0),(Kq 4294967295)]),Rq 12 (.not 11),Mq 13 12,Gq 14 13 false (.fldA 2 1),Gq 15 13 false (.load false 1 14),Gq 16 13 false (.call (.func 165) [15,(Kq 1),(Kq 1000000)]),Gq 17 13 false (.not 16),Rq 18 (.pick 13 (.const (.bool true)) 17),Mq 8 18]) (.cond 8 (.seq (.reg [Nq 2 3]) (.ret)) (.skip)))))) (.seq (.reg [Nq 2 0]) (.ret)))
theorem Yq:Al Tryz.prog 134 1=some (Ym,[2]):=by kernel_rfl
def P3:Ae:=
 .seq (.reg [Rq 2 (.mv (.const (.bool false)))]) (.seq (.reg [Mq 3 0,Mq 4 0,Bq 5 .neq 3 4,Mq 2 5]) (.ret))
theorem As:Al Tryz.prog 135 1=some (P3,[2]):=by kernel_rfl
def Y0:Ae:=
 .seq (.reg [Nq 2 0]) (.seq (.reg [Nq 3 0]) (.seq (.seq (.reg [Mq 6 0,Rq 7 (.len false 6),Nq 8 0]) (.block 0 (.loop (.seq (.reg [Bq 9 .lss 8 7]) (.seq (.cond 9 (.skip) (.exit 0)) (.seq (.block 1 (.seq (.reg [Iq 10 1 6 8,Lq 11 10,Mq 5 11]) (.seq (.reg [Mq 12 5,Mq 13 3,Bq 14 .neq 12 13]) (.cond 14 (.seq (.reg [Mq 15 5,Mq 2 15]) (.ret)) (.skip))))) (.reg [Bq 16 .add 8 (Kq 1),Mq 8 16]))))))) (.seq (.reg [Mq 17 3,Mq 2 17]) (.ret))))
theorem Yn:Al Tryz.prog 136 1=some (Y0,[2]):=by kernel_rfl
def S0:Ae:=
 .seq (.reg [Nq 2 0]) (.seq (.seq (.reg [Mq 3 0]) (.cond 3 (.seq (.reg [Nq 2 1]) (.ret)) (.skip))) (.seq (.reg [Nq 2 0]) (.ret)))
theorem Tr:Al Tryz.prog 138 1=some (S0,[2]):=by kernel_rfl
def V8:Ae:=
 .seq (.reg [Rq 4 (.mv (.const (.string ⟨#[]⟩))),Rq 5 (.mv (.const (.string ⟨#[]⟩))),Rq 6 (.mv (.const (.bool false)))]) (.seq (.reg [Mq 7 0,Mq 8 1,Cq 9 167 ([7,8]),Eq1 10 9 0,Eq1 11 9 1,Eq1 12 9 2,Mq 4 10,Mq 5 11,Mq 6 12]) (.ret))
theorem Oz:Al Tryz.prog 139 2=some (V8,[4,5,6]):=by kernel_rfl
def Xr:Ae:=
 .seq (.reg [Rq 3 (.box 47 5 1),Rq 4 (.mv (.const (.slice none 0 0))),Rq 5 (.mv (.const (.bool false))),Nq 6 0]) (.seq (.reg [Mq 9 0,Rq 10 (.mks 36 1 1 [(.slice none 0 0)] [(0,9)]),Cq 11 83 ([10]),Mq 7 11]) (.seq (.seq (.reg [Mq 12 7,Bq 13 .eql 12 (Kq 0)]) (.cond 13 (.reg [Rq 14 (.load true 5 3),Cq 15 130 ([14]),Mq 7 15]) (.skip))) (.seq (.seq (.reg [Mq 16 7,Bq 17 .neq 16 (Kq 0)]) (.cond 17 (.seq (.reg [Mq 18 7,Rq 4 (.mv (.const (.slice none 0 0))),Rq 5 (.mv (.const (.bool false))),Mq 6 18]) (.ret)) (.skip))) (.seq (.dreg [[Mq 20 0,Cq 21 107 ([20]),Rq 22 (.load true 5 3)],[Cq 23 171 ([21,22])],[Mq 19 23],[Eq1 24 19 0,Eq1 25 19 1,Mq 0 24],[Mq 8 25]]) (.seq (.seq (.reg [Mq 26 0,Rq 27 (.len false 26),Bq 28 .gtr 27 (Kq 20)]) (.cond 28 (.seq (.reg [Rq 4 (.mv (.const (.slice none 0 0))),Rq 5 (.mv (.const (.bool false))),Nq 6 2]) (.ret)) (.skip))) (.seq (.reg [Mq 29 0,Mq 30 8,Mq 4 29,Mq 5 30,Nq 6 0]) (.ret)))))))
theorem X7:Al Tryz.prog 142 2=some (Xr,[4,5,6]):=by kernel_rfl
def S4:Ae:=
 .seq (.reg [Rq 6 (.mv (.const (.bool false)))]) (.seq (.reg [Mq 7 0,Mq 8 1,Bq 9 .geq 7 8,Mq 10 9,Hq 11 10 true 0,Hq 12 10 true 2,Gq 13 10 true (.bin .leq 11 12),Rq 14 (.pick 10 13 (.const (.bool false))),Mq 6 14]) (.ret))
theorem Cx:Al Tryz.prog 162 3=some (S4,[6]):=by kernel_rfl
def Tb:Ae:=
 .seq (.reg [Rq 2 (.mv (.const (.bool false)))]) (.seq (.reg [Mq 3 0,Rq 4 (.bin .eql 3 (.const (.string ⟨#[]⟩))),Mq 5 4,Hq 6 5 false 0,Gq 7 5 false (.call (.func 44) [6]),Rq 8 (.pick 5 (.const (.bool true)) 7),Mq 2 8]) (.ret))
theorem Th:Al Tryz.prog 163 1=some (Tb,[2]):=by kernel_rfl
def R8:Ae:=
 .seq (.reg [Rq 6 (.mv (.const (.bool false)))]) (.seq (.reg [Mq 7 0,Mq 8 1,Bq 9 .geq 7 8,Mq 10 9,Hq 11 10 true 0,Hq 12 10 true 2,Gq 13 10 true (.bin .leq 11 12),Rq 14 (.pick 10 13 (.const (.bool false))),Mq 6 14]) (.ret))
theorem Su:Al Tryz.prog 164 3=some (R8,[6]):=by kernel_rfl
def Sz:Ae:=
 .seq (.reg [Rq 6 (.mv (.const (.bool false)))]) (.seq (.reg [Mq 7 0,Mq 8 1,Bq 9 .geq 7 8,Mq 10 9,Hq 11 10 true 0,Hq 12 10 true 2,Gq 13 10 true (.bin .leq 11 12),Rq 14 (.pick 10 13 (.const (.bool false))),Mq 6 14]) (.ret))
theorem Tz:Al Tryz.prog 165 3=some (Sz,[6]):=by kernel_rfl
def Y1:Ae:=
 .seq (.reg [Rq 3 (.box 47 5 1),Rq 4 (.mv (.const (.slice none 0 0))),Rq 5 (.mv (.const (.bool false)))]) (.seq (.reg [Mq 9 0,Fq 10 0 3,Lq 11 10,Cq 12 51 ([9,11]),Mq 8 12,Eq1 13 8 0,Eq1 14 8 1,Mq 6 13,Mq 7 14]) (.seq (.block 0 (.seq (.reg [Mq 16 7,Rq 17 (.not 16),Mq 15 17]) (.cond 15 (.seq (.reg [Mq 18 0,Mq 19 6,Rq 20 (.load true 5 3),Rq 21 (.mks 47 5 1 zq2 [(0,20)]),Cq 22 201 ([18,19,21]),Mq 4 22,Rq 5 (.mv (.const (.bool true)))]) (.ret)) (.seq (.dreg [[Rq 24 (.load true 5 3),Mq 25 0,Mq 26 6,Iq 27 5 25 26,Rq 28 (.load true 5 27)],[Cq 29 94 ([24,28])],[Bq 30 .gtr 29 (Kq 0)],[Mq 23 30]]) (.cond 23 (.seq (.reg [Mq 31 0,Mq 32 6,Rq 33 (.load true 5 3),Iq 34 5 31 32,Sq 5 34 33]) (.seq (.reg [Mq 35 0,Mq 4 35,Rq 5 (.mv (.const (.bool true)))]) (.ret))) (.skip)))))) (.seq (.reg [Mq 36 0,Mq 4 36,Rq 5 (.mv (.const (.bool false)))]) (.ret))))
theorem Yy:Al Tryz.prog 171 2=some (Y1,[4,5]):=by kernel_rfl
def Aam:Ae:=
 .seq (.reg [Rq 3 (.box 47 5 1),Rq 4 (.mv (.const (.slice none 0 0))),Nq 5 0]) (.seq (.reg [Mq 8 0,Cq 9 46 ([8]),Mq 6 9]) (.seq (.seq (.reg [Mq 10 6,Bq 11 .eql 10 (Kq 0)]) (.cond 11 (.reg [Rq 12 (.load true 5 3),Cq 13 84 ([12]),Mq 6 13]) (.skip))) (.seq (.seq (.reg [Mq 14 6,Bq 15 .neq 14 (Kq 0)]) (.cond 15 (.seq (.reg [Mq 16 6,Rq 4 (.mv (.const (.slice none 0 0))),Mq 5 16]) (.ret)) (.skip))) (.seq (.reg [Mq 17 0,Cq 18 108 ([17]),Mq 0 18]) (.seq (.seq (.reg [Mq 19 0,Rq 20 (.mkfn 202 [3]),Cq 21 131 ([19,20]),Mq 7 21]) (.seq (.reg [Mq 22 7,Bq 23 .geq 22 (Kq 0)]) (.cond 23 (.seq (.seq (.dreg [[Rq 24 (.load true 5 3),Mq 25 0,Mq 26 7,Iq 27 6 25 26,Fq 28 0 27,Rq 29 (.load true 5 28)],[Cq 30 94 ([24,29])],[Bq 31 .leq 30 (Kq 0)]]) (.cond 31 (.seq (.reg [Mq 32 0,Mq 4 32,Nq 5 0]) (.ret)) (.skip))) (.reg [Mq 33 0,Mq 34 7,Mq 35 7,Bq 36 .add 35 (Kq 1),Cq 37 203 ([33,34,36]),Mq 0 37])) (.skip)))) (.seq (.seq (.reg [Mq 38 0,Rq 39 (.len false 38),Bq 40 .eql 39 (Kq 20)]) (.cond 40 (.seq (.reg [Rq 4 (.mv (.const (.slice none 0 0))),Nq 5 2]) (.ret)) (.skip))) (.seq (.reg [Mq 41 0,Rq 42 (.load true 5 3),Rq 43 (.build zq1 [(0,5,42)]),Rq 44 (.mks 79 6 1 zq1 [(0,43)]),Rq 45 (.app 79 6 56 (.agg #[(.string ⟨#[]⟩),(.int .i64 0),(.int .i64 0),(.int .i64 0),(.bool false),(.int .i64 0)]) 41 44),Mq 4 45,Nq 5 0]) (.ret))))))))
theorem Aag:Al Tryz.prog 172 2=some (Aam,[4,5]):=by kernel_rfl

end Go.Proofs.YtchbkgnobpejnaaGreatDoor
