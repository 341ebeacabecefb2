/- Texts of this claim, joined. -/
import Derived.WalkKit
import Derived.Below
import Derived.WalkSmall
import Derived.Test.YteflnbjmjcbmmaaGreatDoorRows
import Derived.Lib.Strings
import Derived.Lib.Slices
import Derived.Lib.Walk
import Derived.Lib.Bytealg
import Derived.ProofKit
import Derived.OpenShut
import Derived.ChangeSame
import Derived.Test.YteflnbjmjcbmmaaGreatDoorWAbsG
import Derived.Deep.Slices
import Derived.Deep.Fields
import Derived.Lib.SmallJoins
import Derived.Test.YteflnbjmjcbmmaaGreatDoorWAbsQ
import Derived.Test.YteflnbjmjcbmmaaGreatDoorProg
import Derived.KernelRfl
import Derived.Shelf.Strings.BuilderK
import Derived.Maps.AppendAt
import Derived.Lib.AppendStr
set_option linter.unusedSimpArgs false
set_option linter.unusedVariables false
namespace Go.Proofs.YteflnbjmjcbmmaaGreatDoor
open Go.RowKit
theorem hid{p:Prop}(h:p):Hid p:=h
theorem Wj{k:IntKind}{a b:Int}(h:a=b):Ending.returned (.int k a)=.returned (.int k b):=by rw[h]
theorem K4{a b:Bool}(h:a=b):Ending.returned (.bool a)=.returned (.bool b):=by rw[h]
def Blk(w:World)(g:Nat)(t:TypeId)(cs:Array Value):Prop:=w.heap[g]? =some (.cells cs t (0,0))
section
variable {w w':World} {g:Nat} {t:TypeId} {cs:Array Value}
theorem Blk.lt(h:Blk w g t cs):g<w.heap.size:=by
 rcases Nat.lt_or_ge g w.heap.size with hlt|hge
 ·exact hlt
 ·unfold Blk at h;rw[Array.getElem?_eq_none hge]at h;cases h
theorem Blk.cell(h:Blk w g t cs)(i:Nat):w.cell? ⟨g,i,none⟩=cs[i]? :=by
 unfold Blk at h;simp[World.cell?,h]
theorem Blk.frozen(h:Blk w g t cs)(i:Nat):w.frozen? ⟨g,i,none⟩=false:=by
 unfold Blk at h;simp[World.frozen?,h]
theorem Blk.new(w:World)(t:TypeId)(cs:Array Value):Blk (w.alloc (.cells cs t)) w.heap.size t cs:=heap_alloc_new w _
theorem Blk.new_(w:World)(t:TypeId)(cs:Array Value){g:Nat}(h:g=w.heap.size):Blk (w.alloc (.cells cs t)) g t cs:=h▸heap_alloc_new w _
theorem Blk.alloc(h:Blk w g t cs)(o:Obj):Blk (w.alloc o) g t cs:=(Below.heap_alloc w o g h.lt).trans h
theorem Blk.set_(h:Blk w g t cs)(i:Nat)(u:Value):Blk (w.setCell ⟨g,i,none⟩ u) g t (cs.setIfInBounds i u):=by
 unfold Blk at h ⊢;simp[World.setCell,Array.getElem?_modify,h]
theorem Blk.far(h:Blk w g t cs){p:Addr}(hp:g≠p.block)(u:Value):Blk (w.setCell p u) g t cs:=(Below.heap_setCell w p u g hp).trans h
end
open Go
set_option maxHeartbeats 1000000 in
set_option maxRecDepth 100000 in
theorem Uy(s:ByteArray)(c:Int)(w:World):
  Calls Tryz.prog 108 #[.string s,.int .u8 c] w fun e w'=>e=.returned (.int .i64 (Lib.indexByte s.data.toList c.toNat.toUInt8))∧w'=w:=by
 go_enter Tryz.func108,Tryz.ntmps108
 go_wp2
 rw[run_callFunc_extern Tryz.func120 (by kernel_rfl) (by kernel_rfl) (by kernel_rfl) (e:=Extern.BytealgIndexByte.indexByte) (by kernel_rfl),Lib.run_indexByteString];simp only[Result.andThen];rw[Oper.upon_value]
 go_wp2
 go_ret
 exact⟨rfl,rfl⟩
set_option maxHeartbeats 2000000 in
set_option maxRecDepth 100000 in
theorem U7(s:ByteArray)(c:UInt8)(w:World):
  Calls Tryz.prog 98 #[.string s,.string ⟨#[c]⟩] w fun e w'=>e=.returned (.int .i64 (Lib.indexByte s.data.toList c))∧w'=w:=by
 go_enter Tryz.func98,Tryz.ntmps98
 go_wp2_with (go_at_call 108;refine(Uy _ _ _).mono ?_;rintro e w' ⟨rfl,rfl⟩)
 ·have h:([c]==s.toList)=true:=by assumption
  go_ret
  refine⟨?_,rfl⟩;have e:s.data.toList=[c]:=by rw[←Lib.toList_data];exact(ZR.1 h).symm
  rw[e];simp[Lib.indexByte]
 ·go_ret
  exact⟨rfl,rfl⟩
namespace Pl
theorem Vw:∀x:List UInt8,Op.bytesLess x x=false
 |[]=>rfl
 |a::x=>by simp[Op.bytesLess,Vw x,UInt8.lt_irrefl]
theorem Y3:∀{x y z:List UInt8},Op.bytesLess x y=true→Op.bytesLess y z=true→Op.bytesLess x z=true
 |[],_::_,[],_,h=>by simp[Op.bytesLess]at h
 |_,[],_,h,_=>by cases ‹List UInt8› <;>simp[Op.bytesLess]at h
 |[],b::y,c::z,_,_=>rfl
 |a::x,b::y,[],_,h=>by simp[Op.bytesLess]at h
 |a::x,b::y,c::z,h1,h2=>by
  simp only[Op.bytesLess,Bool.or_eq_true,decide_eq_true_eq,ZO,ZR]at h1 h2 ⊢;rcases h1 with h1|⟨rfl,h1⟩
  ·rcases h2 with h2|⟨rfl,h2⟩
   ·exact .inl (UInt8.lt_trans h1 h2)
   ·exact .inl h1
  ·rcases h2 with h2|⟨rfl,h2⟩
   ·exact .inl h2
   ·exact .inr ⟨rfl,Y3 h1 h2⟩
theorem Af5:∀{x y:List UInt8},Op.bytesLess x y=false→Op.bytesLess y x=false→x=y
 |[],[],_,_=>rfl
 |[],b::y,h,_=>by simp[Op.bytesLess]at h
 |a::x,[],_,h=>by simp[Op.bytesLess]at h
 |a::x,b::y,h1,h2=>by
  simp only[Op.bytesLess,Bool.or_eq_false_iff,decide_eq_false_iff_not,Bool.and_eq_false_iff]at h1 h2;have hab:a=b:=by
   have g1:¬a.toNat<b.toNat:=h1.1;have g2:¬b.toNat<a.toNat:=h2.1;exact UInt8.toNat_inj.1 (by omega)
  subst hab;have e1:Op.bytesLess x y=false:=by rcases h1.2 with h|h<;>simp_all
  have e2:Op.bytesLess y x=false:=by rcases h2.2 with h|h<;>simp_all
  rw[Af5 e1 e2]
def slt(a b:ByteArray):Bool:=Op.bytesLess a.toList b.toList
theorem toList_inj{a b:ByteArray}(h:a.toList=b.toList):a=b:=by
 rw[ByteArray.toList_eq,ByteArray.toList_eq]at h;cases a;cases b;congr;exact Array.toList_inj.1 h
theorem Ej(a:ByteArray):slt a a=false:=Vw _
theorem Acw{a b c:ByteArray}(h1:slt a b=true)(h2:slt b c=true):slt a c=true:=Y3 h1 h2
theorem Xh{a b:ByteArray}(h1:slt a b=false)(h2:slt b a=false):a=b:=toList_inj (Af5 h1 h2)
theorem Wc{a b:ByteArray}(h1:slt a b=true):slt b a=false:=by
 rcases Bool.eq_false_or_eq_true (slt b a)with h|h
 ·have:=Acw h1 h;rw[Ej]at this;cases this
 ·exact h
theorem Se{a b:ByteArray}:(a.toList==b.toList)=true↔a=b:=by
 rw[ZR];exact⟨toList_inj,fun h=>by rw[h]⟩
theorem W5{a b:ByteArray}(h:a≠b):(a.toList==b.toList)=false:=by
 rcases Bool.eq_false_or_eq_true (a.toList==b.toList)with g|g
 ·exact absurd (Se.1 g) h
 ·exact g
theorem Qw(a b:ByteArray):(Op.bytesLess a.toList b.toList||a.toList==b.toList)= !(slt b a):=by
 rcases Bool.eq_false_or_eq_true (slt b a)with h|h
 ·rw[h];have h1:=Wc h;unfold slt at h1;rw[h1,W5 (fun e=>by subst e;rw[Ej]at h;cases h)];rfl
 ·rw[h];rcases Bool.eq_false_or_eq_true (slt a b)with g|g
  ·unfold slt at g;rw[g];rfl
  ·have:=Xh g h;subst this;simp
end Pl
namespace Pl
def ixb(r:ByteArray)(c:UInt8):Int:=Lib.indexByte r.data.toList c
end Pl
section
open Go.ChangeShapes Go.WideShapes Go.ChangeAt
section
variable {H:Type} {enc:TypeId×Value→H} {P:Program}
theorem Nw(hl:laidOutB P=true){W W':World}{B:Nat}(hb:Below B W W')(sp:Nat→Bool):
  ∀{ts:List TypeId} {vs:List Value} {ds:List (DataW H)} {p:List MemPlace},(∀t∈ts,P.readableRec t=true∧t<P.types.size)→
   DataW.TrodAll enc P W 0 (fun _=>true) true ts vs ds p→(∀x∈p,sp x.block=true)→(∀x∈p,x.block<B)→B=W.heap.size→DataW.TrodAll enc P W' 0 sp true ts vs ds p
 |[],_,_,_,_,h,_,_,_=>by
  obtain⟨rfl,rfl,rfl⟩:=trodAll_nil h;exact trodAll_mk0
 |t::ts,_,_,_,ht,h,hs,hlt,hB=>by
  obtain⟨v,vs1,d,ds1,a,b,rfl,rfl,rfl,h1,h2⟩:=trodAll_cons h;obtain⟨hr,hrow⟩:=ht t (by simp);subst hB;refine⟨a,b,WideElems.Trod_stays hl hr hrow h1 (fun x hx=>hb.same (hlt x (by simp[hx]))) (fun x hx=>hs x (by simp[hx])),?_,rfl⟩;exact Nw hl hb sp (fun t h=>ht t (by simp[h])) h2 (fun x hx=>hs x (by simp[hx])) (fun x hx=>hlt x (by simp[hx])) rfl
theorem S8{f:Func}{s:ChangeSpec}{apart fresh handsOn again:Bool}{W W':World}{args:Array Value}{ds gs:List (DataW H)}{before:List MemPlace}{tb:TypeId}(hW:DataW.Whole enc P f.params.toList s.vars apart W args.toList ds gs before)(hl:laidOutB P=true)(hr:∀t∈f.params.toList,P.readableRec t=true∧t<P.types.size)(hv:s.vars=[])(hf:s.fn H (ds++gs)={results:=[.lit (.bool true)],args:=ds})(hres:f.resultTypes= #[tb])(hbool:P.underlying tb=some .bool)(hb:Below W.heap.size W W'):s.post enc P f apart fresh handsOn again W args (.bool true) W':=by
 have hW0:=hW;have hlt:∀p∈before,p.block<W.heap.size:=fun p hp=>hW.lt p hp;obtain⟨p,q,hA,hV,rfl,hz,hn⟩:=hW;rw[hv]at hV;obtain⟨rfl,rfl⟩:=trodVars_none hV;simp only[List.append_nil]at *;have hst:∀sp:Nat→Bool,(∀x∈p,sp x.block=true)→DataW.TrodAll enc P W' 0 sp true f.params.toList args.toList ds p:=fun sp hs=>Nw hl hb sp hr hA hs hlt rfl;have hold:∀x∈p,(fun b=>decide (b<W.heap.size)) x.block=true:=fun x hx=>by simpa using hlt x hx
 have hR:∀(b:Nat) (sp:Nat→Bool) (hd:Bool),DataW.TrodAll enc P W' b sp hd f.resultTypes.toList ((Value.bool true).resultList f.resultTypes.size) [.lit (.bool true)] []:=fun b sp hd=>by
  rw[hres];exact trodAll_cons_mk (shut_bool hbool _) trodAll_mk0
 refine⟨ds,[],p,[],p,[],hW0,?_,?_,?_,?_,fun _=>?_⟩
 ·rw[List.append_nil,hf];exact hR _ _ _
 ·rw[List.append_nil,hf];exact hst _ hold
 ·rw[List.append_nil,hv,hf];rfl
 ·exact World.keptBut_mono (fun x hx=>⟨hx,by simp[hx]⟩) (hb.frame (·∈p))
 ·obtain⟨_,_,_,_,_,hz',hn'⟩:=hW0;refine⟨ok_one hres rfl (okWide_bool_mk hbool _),_,[],([]++p)++[],⟨[]++p,[],trodAll_append (hst _ (fun _ _=>rfl)) (hR _ _ _),?_,rfl,?_,?_⟩,?_⟩
  ·rw[hv];rfl
  ·intro b off hp;rw[hb.frozen (hlt _ (by simpa using hp))];exact hz b off (by simpa using hp)
  ·intro ha;simpa using hn ha
  ·intro x hx _;simpa using hx
end
end
section
open Go.Joins Go.ChangeShapes Go.WideShapes Go.Deep
inductive Ty where
 |i
 |s
 |b
 |l (row:List Ty)
inductive Qo:Ty→V→Prop where
 |i (n:Int) (h1: -9223372036854775808≤n) (h2:n≤9223372036854775807):Qo .i (.v (.int .i64 n))
 |s (x:ByteArray) (h:x.size≤9223372036854775807):Qo .s (.v (.string x))
 |b (x:Bool):Qo .b (.v (.bool x))
 |l (tys:List Ty) (rows:List (List V)) (hl:rows.length≤9223372036854775807) (hr:∀row∈rows,tys.length=row.length) (h:∀row∈rows,∀(j:Nat) (t:Ty) (u:V),tys[j]? =some t→row[j]? =some u→Qo t u):Qo (.l tys) (.sl false rows)
def Pa(tys:List Ty)(us:List V):Prop:=tys.length=us.length∧∀(j:Nat) (t:Ty) (u:V),tys[j]? =some t→us[j]? =some u→Qo t u
def Ag3(P:Program)(rc:TypeId→Option (List Ty)):List Field→Nat→Option (List Ty)
 |[],_=>some []
 |f::fs,off=>match rc f.type with
  |some ts=>if f.offset==off&&P.cellsOf f.type==ts.length then(match Ag3 P rc fs (off+ts.length)with
   |some r=>some (ts++r)
   |none=>none)else none
  |none=>none
def Z3(P:Program):Nat→TypeId→Option (List Ty)
 |0,_=>none
 |d+1,t=>match P.underlying t with
  |some (.int .i64)=>some [.i]
  |some .string=>some [.s]
  |some .bool=>some [.b]
  |some (.struct fs)=>match Ag3 P (Z3 P d) fs.toList 0 with
   |some ts=>if P.cellsOf t==ts.length then some ts else none
   |none=>none
  |some (.slice e)=>match Z3 P d e with
   |some ts=>if P.cellsOf e==ts.length&&0<ts.length then some [.l ts]else none
   |none=>none
  |_=>none
section
variable {H:Type} {enc:TypeId×Value→H} {P:Program} {w:World} {base:Nat} {spare:Nat→Bool} {held:Bool}
def Ot(w:World)(tys:List Ty)(cs:List Value)(us:List V):Prop:=
 Pa tys us∧cs.length=us.length∧∀(j:Nat) (u:V) (x:Value),us[j]? =some u→cs[j]? =some x→RV w (fun b=>b<w.heap.size) noG u x
theorem Ot.app{t1 t2:List Ty}{c1 c2:List Value}{u1 u2:List V}(h1:Ot w t1 c1 u1)(h2:Ot w t2 c2 u2):Ot w (t1++t2) (c1++c2) (u1++u2):=by
 obtain⟨⟨a1,a2⟩,a3,a4⟩:=h1;obtain⟨⟨b1,b2⟩,b3,b4⟩:=h2;refine⟨⟨by simp[a1,b1],fun j t u g1 g2=>?_⟩,by simp[a3,b3],fun j u x g1 g2=>?_⟩
 ·by_cases hj:j<t1.length
  ·rw[ZQ hj]at g1;rw[ZQ (by omega)]at g2;exact a2 j t u g1 g2
  ·rw[ZP (by omega)]at g1 g2;rw[←a1]at g2;exact b2 _ t u g1 g2
 ·by_cases hj:j<u1.length
  ·rw[ZQ hj]at g1;rw[ZQ (by omega)]at g2;exact a4 j u x g1 g2
  ·rw[ZP (by omega)]at g1 g2;rw[a3]at g2;exact b4 _ u x g1 g2
theorem Kx{t:Ty}{x:Value}{u:V}(h:Qo t u)(hr:RV w (fun b=>b<w.heap.size) noG u x):Ot w [t] [x] [u]:=by
 refine⟨⟨rfl,fun j t' u' g1 g2=>?_⟩,rfl,fun j u' x' g1 g2=>?_⟩
 ·cases j with
  |zero=>simp at g1 g2;subst g1 g2;exact h
  |succ j=>simp at g1
 ·cases j with
  |zero=>simp at g1 g2;subst g1 g2;exact hr
  |succ j=>simp at g1
theorem Aez(a:Addr)(n:Nat)(h:a.spot=none):a.add n=⟨a.block,a.off+n,none⟩:=by
 obtain⟨b,o,sp⟩:=a;simp only at h;subst h;unfold Addr.add;split<;>simp_all
theorem W1{d fuel:Nat}{cs:List Value}(rc:∀(t:TypeId) (tys:List Ty) (cs:List Value) (x:DataW H×List MemPlace),Z3 P d t=some tys→DataW.trod enc P w base spare held fuel t cs=some x→∃us,Ot w tys cs us):
  ∀(fs:List Field) (off:Nat) (tys:List Ty) (xs:List (DataW H×List MemPlace)),Ag3 P (Z3 P d) fs off=some tys→(∀(i:Nat) (f:Field),fs[i]? =some f→∃x,DataW.trod enc P w base spare held fuel f.type ((cs.drop f.offset).take (P.cellsOf f.type))=some x)→
   ∃us,Ot w tys ((cs.drop off).take tys.length) us:=by
 intro fs
 induction fs with
 |nil=>
  intro off tys xs h _;simp only[Ag3,ZD]at h;subst h;exact⟨[],⟨rfl,by simp⟩,by simp,by simp⟩
 |cons f fs ih=>
  intro off tys xs h hf;simp only[Ag3]at h;split at h
  ·rename_i ts hts;split at h
   ·rename_i hc;simp only[ZO,ZR]at hc;split at h
    ·rename_i r hr;injection h with h;subst h
     obtain⟨x0,hx0⟩:=hf 0 f rfl;obtain⟨us1,h1⟩:=rc _ _ _ _ hts hx0;obtain⟨us2,h2⟩:=ih _ _ xs hr (fun i g hg=>hf (i+1) g (by simpa using hg));rw[hc.1,hc.2]at h1;have hlen:((cs.drop off).take ts.length).length=ts.length:=by rw[h1.2.1,←h1.1.1]
     refine⟨us1++us2,?_⟩;have e:(cs.drop off).take (ts++r).length=(cs.drop off).take ts.length++(cs.drop (off+ts.length)).take r.length:=by
      rw[ZF,List.take_add,List.drop_drop]
     rw[e];exact h1.app h2
    ·cases h
   ·cases h
  ·cases h
theorem Aeb:∀(d fuel:Nat) (t:TypeId) (tys:List Ty) (cs:List Value) (x:DataW H×List MemPlace),Z3 P d t=some tys→DataW.trod enc P w base spare held fuel t cs=some x→∃us,Ot w tys cs us:=by
 intro d
 induction d with
 |zero=>intro fuel t tys cs x h;cases h
 |succ d ih=>
  intro fuel t tys cs x h hd;simp only[Z3]at h;split at h
  ·rename_i hu;injection h with h;subst h
   obtain⟨n,rfl,_,hw⟩:=DataW.trod_int hu hd;have hb: -9223372036854775808≤n∧n≤9223372036854775807:=by simpa[Lit.wf,IntKind.min,IntKind.max,IntKind.signed,IntKind.bits]using hw
   exact⟨_,Kx (.i n hb.1 hb.2) (.v _)⟩
  ·rename_i hu;injection h with h;subst h
   obtain⟨s,rfl,_,hs⟩:=DataW.trod_string hu hd;exact⟨_,Kx (.s s (by simpa[maxLen]using hs)) (.v _)⟩
  ·rename_i hu;injection h with h;subst h
   obtain⟨s,rfl,_⟩:=DataW.trod_bool hu hd;exact⟨_,Kx (.b s) (.v _)⟩
  ·rename_i fs hu;split at h
   ·rename_i ts hts;split at h
    ·rename_i hc;simp only[ZR]at hc;injection h with h;subst h
     obtain⟨xs,n,rfl,_,hcl,hxl,hf⟩:=DataW.trod_struct hu hd;obtain⟨us,hus⟩:=W1 (cs:=cs) (fun t tys cs x h1 h2=>ih n t tys cs x h1 h2) fs.toList 0 ts xs hts (fun i f hi=>by
      have hi':fs[i]? =some f:=by simpa using hi
      have hlt:i<xs.length:=by rw[hxl];exact(XL.1 hi').1
      exact⟨_,(hf i f hi').trans (ZC hlt)⟩)
     refine⟨us,?_⟩
     rwa[List.drop_zero,←hc,←hcl,XF]at hus
    ·cases h
   ·cases h
  ·rename_i e hu;split at h
   ·rename_i ts hts;split at h
    ·rename_i hc;simp only[ZO,ZR,decide_eq_true_eq]at hc;injection h with h;subst h
     rcases open_slice hu hd with⟨rfl,_⟩|⟨a,len,cap,m,n,D,Pl,rfl,hb,hl,hm,hmm,_,hi⟩
     ·exact⟨[.sl false []],Kx (.l _ [] (by simp) (by simp) (by simp)) (.nil _ _ _ (by simp))⟩
     ·have hlm:len≤m:=by rw[hmm];split<;>omega
      have hall:∀i:Nat,∃p:List Value×List V,i<len→Ot w ts p.1 p.2∧∀j,j<ts.length→w.cell? (a.add (i*ts.length+j))=p.1[j]? :=fun i=>by
       by_cases hil:i<len
       ·obtain⟨cs',h1,h2⟩:=hi i (by omega);obtain⟨us,hus⟩:=ih n e ts cs' _ hts h2;obtain⟨_,h3,h4⟩:=World.cells?_some h1;rw[hc.1]at h3 h4;exact⟨(cs',us),fun _=>⟨hus,fun j hj=>by rw[←Go.Deep.add_add];exact h4 j hj⟩⟩
       ·exact⟨([],[]),fun h=>absurd h hil⟩
      obtain⟨f,hf⟩:=Classical.axiomOfChoice hall;have hsp:0<len→a.spot=none∧a.block<w.heap.size:=fun h0=>by
       obtain⟨h1,h2⟩:=hf 0 h0;have hx:=h2 0 hc.2;have hlt:0<(f 0).1.length:=by rw[h1.2.1,←h1.1.1];exact hc.2
       rw[ZC hlt]at hx;have e:a.add (0*ts.length+0)=a:=by simp[Addr.add]
       rw[e]at hx;refine⟨?_,World.block_lt_of_cell? w _ hx⟩;unfold World.cell? at hx;split at hx
       ·cases hq:a.spot with
        |none=>rfl
        |some k=>simp[hq]at hx
       ·cases hx
      refine⟨[.sl false ((List.range len).map fun i=>(f i).2)],Kx (.l _ _ (by simp only[ZE,List.length_range];simp only[maxLen]at hm;omega) ?_ ?_) ?_⟩
      ·intro row hrow;simp only[XO,List.mem_range]at hrow;obtain⟨i,hil,rfl⟩:=hrow;exact(hf i hil).1.1.1
      ·intro row hrow j t u g1 g2;simp only[XO,List.mem_range]at hrow;obtain⟨i,hil,rfl⟩:=hrow;exact(hf i hil).1.1.2 j t u g1 g2
      ·rcases Nat.eq_zero_or_pos len with h0|h0
       ·subst h0;exact .nil _ _ _ (by simp)
       ·obtain⟨h1,h2⟩:=hsp h0;obtain⟨b,off,sp⟩:=a;simp only at h1 h2;subst h1;have hrows:∀(i:Nat) (row:List V),((List.range len).map fun i=>(f i).2)[i]? =some row→i<len∧row=(f i).2:=fun i row h=>by
         have hlt:=(ZB.1 h).1;simp only[ZE,List.length_range]at hlt;simp[hlt]at h;exact⟨hlt,h.symm⟩
        have e:=RV.sl (w:=w) (R:=fun b=>b<w.heap.size) (G:=noG) false ((List.range len).map fun i=>(f i).2) b off cap ts.length (fun i j=>((f i).1[j]?).getD undef) h2 (by simpa using hl) (by simp) (by
          intro row hrow;simp only[XO,List.mem_range]at hrow;obtain⟨i,hil,rfl⟩:=hrow;exact(hf i hil).1.1.1.symm) (by
          intro i j row u g1 g2;obtain⟨hil,rfl⟩:=hrows i row g1;have hj:j<ts.length:=by have:=(ZB.1 g2).1;rw[(hf i hil).1.1.1];exact this
          have hjl:j<(f i).1.length:=by rw[(hf i hil).1.2.1,←(hf i hil).1.1.1];exact hj
          have hx:=(hf i hil).2 j hj;rw[Aez _ _ rfl,ZC hjl]at hx;rw[ZC hjl];simp only[Option.getD_some];rw[Nat.add_assoc];exact hx) (by
          intro i j row u g1 g2;obtain⟨hil,rfl⟩:=hrows i row g1;have hj:j<ts.length:=by have:=(ZB.1 g2).1;rw[(hf i hil).1.1.1];exact this
          have hjl:j<(f i).1.length:=by rw[(hf i hil).1.2.1,←(hf i hil).1.1.1];exact hj
          rw[ZC hjl];exact(hf i hil).1.2.2 j u _ g2 (ZC hjl))
        have e2:((List.range len).map fun i=>(f i).2).length=len:=by simp
        rw[e2]at e;exact e
    ·cases h
   ·cases h
  ·cases h
theorem Rc{t:TypeId}{tys:List Ty}{r:Reach}{b0:Nat}{v:Value}{fs:Array Field}{d:DataW H}{p:List MemPlace}{dp:Nat}(hs:P.underlying t=some (.struct fs))(ht:Z3 P dp t=some tys)(hv:Value.okWide P w r b0 t v)(h:DataW.Trod enc P w base spare held t v d p):
  ∃us,Pa tys us∧RV w (fun b=>b<w.heap.size) noG (.agg us) v:=by
 obtain⟨cs,rfl,hsz⟩:=okWide_struct hs hv;obtain⟨fuel,hf⟩:=h;obtain⟨us,h1,h3,h4⟩:=Aeb dp fuel t _ _ _ ht hf;obtain⟨cs⟩:=cs;exact⟨us,h1,.agg us cs h3.symm h4⟩
end
theorem A6{t:Ty}{ts:List Ty}{us:List V}(h:Pa (t::ts) us):∃u us',us=u::us'∧Qo t u∧Pa ts us':=by
 obtain⟨h1,h2⟩:=h
 match us,h1 with
 |u::us',h1=>exact⟨u,us',rfl,h2 0 _ _ rfl rfl,by simpa using h1,fun j t' u' g1 g2=>h2 (j+1) t' u' (by simpa using g1) (by simpa using g2)⟩
theorem M5{us:List V}(h:Pa [] us):us=[]:=XR h.1.symm
theorem Kk{u:V}(h:Qo .i u):∃n:Int,u=.v (.int .i64 n)∧-9223372036854775808≤n∧n≤9223372036854775807:=by cases h with|i n h1 h2=>exact⟨n,rfl,h1,h2⟩
theorem Qz{u:V}(h:Qo .s u):∃x:ByteArray,u=.v (.string x)∧x.size≤9223372036854775807:=by cases h with|s x h=>exact⟨x,rfl,h⟩
theorem Abu{u:V}(h:Qo .b u):∃x:Bool,u=.v (.bool x):=by cases h with|b x=>exact⟨x,rfl⟩
theorem Ajz{tys:List Ty}{u:V}(h:Qo (.l tys) u):∃rows,u=.sl false rows∧rows.length≤9223372036854775807∧∀row∈rows,Pa tys row:=by
 cases h with|l tys rows hl hr h=>exact⟨rows,rfl,hl,fun row hm=>⟨hr row hm,h row hm⟩⟩
theorem Yt{α:Type}{enc:α→List V}{p:α→Prop}{tys:List Ty}(hd:∀row,Pa tys row→∃x:α,row=enc x∧p x):∀(rows:List (List V)),(∀row∈rows,Pa tys row)→∃l:List α,rows=l.map enc∧∀x∈l,p x
 |[],_=>⟨[],rfl,by simp⟩
 |row::rows,h=>by
  obtain⟨x,hx,px⟩:=hd row (h row (by simp));obtain⟨l,hl,pl⟩:=Yt hd rows fun r hr=>h r (by simp[hr]);exact⟨x::l,by simp[hx,hl],by simpa using⟨px,pl⟩⟩
theorem Pd{α:Type}{enc:α→List V}{p:α→Prop}{tys:List Ty}{u:V}(hd:∀row,Pa tys row→∃x:α,row=enc x∧p x)(h:Qo (.l tys) u):∃l:List α,u=.sl false (l.map enc)∧l.length≤9223372036854775807∧∀x∈l,p x:=by
 obtain⟨rows,rfl,hl,hr⟩:=Ajz h;obtain⟨l,rfl,hp⟩:=Yt hd rows hr;exact⟨l,rfl,by simpa using hl,hp⟩
theorem Adr{w:World}{R:Nat→Prop}:∀{xs ys:List Value},N7 w R (xs.map fun x=>.c (.v x)) ys→ys=xs
 |xs,ys,h=>by
  apply List.ext_getElem?;intro i;have hl:=h.len;rw[ZE]at hl;by_cases hi:i<xs.length
  ·have h1:xs[i]? =some xs[i]:=ZC hi;have h2:ys[i]? =some (ys[i]'(by omega)):=ZC (by omega);have h3:Pq w R (.c (.v xs[i])) (ys[i]'(by omega)):=h.ok i _ _ (by rw[XJ,h1];rfl) h2;have h4:RV w R noG (.v xs[i]) (ys[i]'(by omega)):=h3;rw[h1,h2,B9 h4]
  ·rw[XK (by omega),XK (by omega)]
theorem Fa{ps:List Par}{xs:List Value}{b:Nat}(h:∀p∈ps,∃u,p=.c u):¬A7 ps xs b:=by
 rintro ⟨i,T,sz,rows,x,h1,_⟩
 obtain⟨u,hu⟩:=h _ (ZH h1);cases hu
theorem Dh{L:Nat→Prop}{w w':World}(h:Below w.heap.size w w'):Fr L w w':=⟨h.os,h.tape,h.output,h.size,fun k hk _=>h.block k hk⟩
theorem Vx[Glob]{P:Program}{f:FuncId}{xs:List Value}{v:Value}(hc:Dt P f)(h:∀(w:World) (L:Nat→Prop),Bz w L→Calls P f xs.toArray w fun e w'=>e=.returned v∧Below w.heap.size w w'):Fun P f (xs.map fun x=>.c (.v x)) [.c (.v v)]:=by
 refine⟨hc,fun w R ys hlt hp hg=>?_⟩;obtain rfl:=Adr hp;refine(h w _ hg).mono fun e w' ⟨he,hb⟩=>⟨[v],R,by rw[he];rfl,Dh hb,fun _ h=>h,fun b h=>.inl h,⟨rfl,?_,?_,?_⟩,?_⟩
 ·intro i p x h1 h2;cases i with
  |zero=>simp at h1 h2;subst h1 h2;exact .v _
  |succ i=>simp at h1
 ·intro i j T sz rows T' sz' rows' x y b _ h1;cases i with
  |zero=>simp at h1
  |succ i=>simp at h1
 ·intro b hb';exact absurd hb' (Fa (by simp))
 ·intro b hb';exact absurd hb' (Fa (by simp))
theorem Oi[Glob]{P:Program}{f:FuncId}{xs:List Value}{v:Value}(hc:Dt P f)(h:∀w,Calls P f xs.toArray w fun e w'=>e=.returned v∧Below w.heap.size w w'):Fun P f (xs.map fun x=>.c (.v x)) [.c (.v v)]:=Vx hc fun w _ _=>h w
theorem Ff {P : Program} {f : FuncId} {fn : Func} (h1 : P.funcs[f]? = some fn) (h2 : (fn.name == "runtime.NumGoroutine") = false) (h3 : fn.body.isNone = false) : Dt P f := ⟨fn, h1, h2, h3⟩
theorem Am3[Glob]{P:Program}{f:FuncId}{ps:List Par}{xs:List Value}{v:Value}{w:World}(hF:Fun P f ps [.c (.v v)])(hc:∀p∈ps,∃u,p=.c u)(hl:ps.length=xs.length)(hp:∀(i:Nat) (u:V) (x:Value),ps[i]? =some (.c u)→xs[i]? =some x→RV w (fun b=>b<w.heap.size) noG u x)(hg:Bz w (fun _=>False):=by exact fun _ _ h=>nomatch h):Calls P f xs.toArray w fun e w'=>e=.returned v∧Below w.heap.size w w':=by
 refine(hF.2 w (fun b=>b<w.heap.size) xs (fun _ h=>h) ⟨hl,?_,?_,?_⟩ (fun b o q=>⟨(hg b o q).1,Fa hc⟩)).mono ?_
 ·intro i p x h1 h2;obtain⟨u,rfl⟩:=hc p (ZH h1);exact hp i u x h1 h2
 ·intro i j T sz rows T' sz' rows' x y b _ h1;obtain⟨u,hu⟩:=hc _ (ZH h1);cases hu
 ·intro b hb;exact absurd hb (Fa hc)
 ·rintro e w' ⟨ys,R',rfl,hfr,_,_,hpr,_⟩
  have hy:ys.length=1:=hpr.len.symm
  match ys,hy with
  |[y],_=>
   have:RV w' R' noG (.v v) y:=hpr.ok 0 _ y rfl rfl;obtain rfl:=B9 this;exact⟨rfl,hfr.os,hfr.tape,hfr.output,hfr.size,fun k hk=>hfr.block k hk (Fa hc)⟩
def RVL(w:World):List V→List Value→Prop
 |[],[]=>True
 |u::us,x::xs=>RV w (fun b=>b<w.heap.size) noG u x∧RVL w us xs
 |_,_=>False
theorem Abq{w:World}:∀{us:List V} {xs:List Value},RVL w us xs→us.length=xs.length
 |[],[],_=>rfl
 |u::us,x::xs,h=>by simp[Abq h.2]
 |[],_::_,h=>h.elim
 |_::_,[],h=>h.elim
theorem Aee{w:World}:∀{us:List V} {xs:List Value},RVL w us xs→∀(i:Nat) (u:V) (x:Value),us[i]? =some u→xs[i]? =some x→RV w (fun b=>b<w.heap.size) noG u x
 |[],[],_,i,u,x,h1,_=>by simp at h1
 |u'::us,x'::xs,h,0,u,x,h1,h2=>by simp at h1 h2;subst h1 h2;exact h.1
 |u'::us,x'::xs,h,i+1,u,x,h1,h2=>Aee h.2 i u x (by simpa using h1) (by simpa using h2)
 |[],_::_,h,_,_,_,_,_=>h.elim
 |_::_,[],h,_,_,_,_,_=>h.elim
theorem Aie[Glob]{P:Program}{f:FuncId}{us:List V}{xs:List Value}{v:Value}{w:World}(hF:Fun P f (us.map .c) [.c (.v v)])(h:RVL w us xs)(hg:Bz w (fun _=>False):=by exact fun _ _ h=>nomatch h):Calls P f xs.toArray w fun e w'=>e=.returned v∧Below w.heap.size w w':=
 Am3 hF (by simp) (by rw[ZE];exact Abq h) (fun i u x h1 h2=>by
  rw[XJ]at h1;cases hq:us[i]? with
  |none=>rw[hq]at h1;cases h1
  |some u'=>rw[hq]at h1;simp at h1;subst h1;exact Aee h i u' x hq h2) hg
end
namespace Pl
def wi(n a b:Int):Bool:=decide (a≤n)&&decide (n≤b)
theorem F3{n a b:Int}:wi n a b=true↔a≤n∧n≤b:=by simp[wi]
def Aen(x y z h s:Int):Bool:=wi x (-10000000) 10000000&&wi y (-10000000) 10000000&&wi z (-10000000) 10000000&&wi h 0 1000000&&wi s 0 1000
def Zf(x y z h s:Int):Int:=if Aen x y z h s then 0 else 3
end Pl
namespace Pl
def E4(a b:ByteArray):Int:=if slt a b then -1 else if slt b a then 1 else 0
theorem Ah4{a b:ByteArray}(h:slt a b=true):E4 a b= -1:=by simp[E4,h]
theorem Agw{a b:ByteArray}(h:slt b a=true):E4 a b=1:=by simp[E4,Wc h,h]
theorem Sc(a:ByteArray):E4 a a=0:=by simp[E4,Ej]
theorem K0{a b:ByteArray}:E4 a b=0↔a=b:=by
 unfold E4;split
 ·rename_i h;exact⟨fun e=>by omega,fun e=>by subst e;rw[Ej]at h;cases h⟩
 ·split
  ·rename_i h;exact⟨fun e=>by omega,fun e=>by subst e;rw[Ej]at h;cases h⟩
  ·rename_i h1 h2;exact⟨fun _=>Xh (by simpa using h1) (by simpa using h2),fun _=>rfl⟩
section
variable {α:Type} {cf:α→Int} {l:List α}
def low(cf:α→Int):List α→Nat
 |[]=>0
 |x::r=>if cf x<0 then low cf r+1 else 0
theorem Ag8:∀{l:List α} {i:Nat} (hi:i<l.length),i<low cf l→cf l[i]<0
 |x::r,0,_,h=>by
  simp only[low]at h;split at h
  ·assumption
  ·omega
 |x::r,i+1,hi,h=>by
  simp only[low]at h;split at h
  ·exact Ag8 (l:=r) (by simpa using hi) (by omega)
  ·omega
theorem Adi:∀{l:List α} (h:low cf l<l.length),0≤cf l[low cf l]
 |[],h=>by simp at h
 |x::r,h=>by
  by_cases hx:cf x<0
  ·have e:low cf (x::r)=low cf r+1:=by simp[low,hx]
   have h':low cf r<r.length:=by rw[e]at h;simpa using h
   have:=Adi h';simp only[e,List.getElem_cons_succ];exact this
  ·have e:low cf (x::r)=0:=by simp[low,hx]
   simp only[e,List.getElem_cons_zero];omega
def hit(cf:α→Int)(l:List α):Bool:=match l[low cf l]? with
 |some x=>decide (cf x=0)
 |none=>false
theorem Ae2(h:low cf l<l.length):hit cf l=decide (cf l[low cf l]=0):=by simp[hit,h]
theorem Ah1(h:¬low cf l<l.length):hit cf l=false:=by
 have:l[low cf l]? =none:=XK (by omega);simp[hit,this]
end
end Pl
namespace Pl
section
variable {α:Type}
def Am(e:α→Int):List α→Int
 |[]=>0
 |x::r=>if e x=0 then Am e r else e x
def C2(lt:α→α→Bool):List α→Bool
 |[]=>true
 |[_]=>true
 |x::y::r=>lt x y&&C2 lt (y::r)
def ckL(mx:Nat)(e:α→Int)(lt:α→α→Bool)(l:List α):Int:=
 if mx<l.length then 2 else if Am e l=0 then(if C2 lt l then 0 else 4)else Am e l
theorem Bc{e:α→Int}:∀{l:List α},(∀i,(h:i<l.length)→e l[i]=0)→Am e l=0
 |[],_=>rfl
 |x::r,h=>by
  have h0:e x=0:=h 0 (by simp);simp only[Am,h0,if_true];exact Bc fun i hi=>h (i+1) (by simpa using hi)
theorem Br{e:α→Int}:∀{l:List α} {k:Nat} (hk:k<l.length),(∀i,(h:i<l.length)→i<k→e l[i]=0)→e l[k]≠0→Am e l=e l[k]
 |x::r,0,_,_,hne=>by
  simp only[List.getElem_cons_zero]at hne ⊢;simp[Am,hne]
 |x::r,k+1,hk,h,hne=>by
  have h0:e x=0:=h 0 (by simp) (by omega);simp only[Am,h0,if_true,List.getElem_cons_succ]at hne ⊢;exact Br (by simpa using hk) (fun i hi hik=>h (i+1) (by simpa using hi) (by omega)) hne
theorem Dv{lt:α→α→Bool}:∀{l:List α},(∀i,(h:i+1<l.length)→lt l[i] l[i+1]=true)→C2 lt l=true
 |[],_=>rfl
 |[_],_=>rfl
 |x::y::r,h=>by
  simp only[C2,Bool.and_eq_true_iff];exact⟨h 0 (by simp),Dv fun i hi=>h (i+1) (by simpa using hi)⟩
theorem Dn{lt:α→α→Bool}:∀{l:List α} {k:Nat} (hk:k+1<l.length),lt l[k] l[k+1]=false→C2 lt l=false
 |[_],k,hk,_=>by simp at hk
 |x::y::r,0,_,h=>by
  simp only[List.getElem_cons_zero,List.getElem_cons_succ]at h;simp[C2,h]
 |x::y::r,k+1,hk,h=>by
  have:C2 lt (y::r)=false:=Dn (k:=k) (by simpa using hk) (by simpa using h);simp[C2,this]
theorem Tx{lt:α→α→Bool}:∀{l:List α},C2 lt l=true→∀i,(h:i+1<l.length)→lt l[i] l[i+1]=true
 |[],_,i,h=>by simp at h
 |[_],_,i,h=>by simp at h
 |x::y::r,hs,0,_=>by
  simp only[C2,Bool.and_eq_true_iff]at hs;exact hs.1
 |x::y::r,hs,i+1,h=>by
  simp only[C2,Bool.and_eq_true_iff]at hs;exact Tx hs.2 i (by simpa using h)
theorem Lr{e:α→Int}:∀{l:List α},Am e l=0→∀i,(h:i<l.length)→e l[i]=0
 |[],_,i,h=>by simp at h
 |x::r,hs,i,h=>by
  by_cases h0:e x=0
  ·simp only[Am,h0,if_true]at hs;cases i with
   |zero=>exact h0
   |succ i=>exact Lr hs i (by simpa using h)
  ·simp[Am,h0]at hs
variable {mx:Nat} {e:α→Int} {lt:α→α→Bool} {l:List α}
theorem Ge(h:mx<l.length):ckL mx e lt l=2:=by simp[ckL,h]
end
end Pl
namespace Pl
section
variable {α:Type}
def at_(p:α→Bool)(l:List α):Int:=match l.findIdx? p with
 |some i=>(i:Int)
 |none=> -1
end
end Pl
open Pl
class FlatRow {α:Type} (enc:α→List V):Prop where
 flat:∀x,∀u∈enc x,∃v,u=.v v
theorem Ap{α:Type}{f:α→List V}{l:List α}{k:Nat}(h:k<l.length):(l.map f)[k]? =some (f l[k]):=by simp[h]
theorem Ai5{α:Type}{enc:α→List V}[hf:FlatRow enc]{x:α}:∀u∈enc x,Fl u:=fun u hu=>by
 obtain⟨v,rfl⟩:=hf.flat x u hu;exact Ajh v
theorem Ah3{α:Type}{enc:α→List V}[FlatRow enc]{l:List α}:∀row∈l.map enc,∀u∈row,Fl u:=fun row hr u hu=>by
 obtain⟨x,_,rfl⟩:=XO.1 hr;exact Ai5 u hu
theorem C4{α:Type}{enc:α→List V}[FlatRow enc]{l:List α}:∀row∈l.map enc,∀u∈row,Cl u:=fun row hr u hu=>(Ah3 row hr u hu).cl
theorem Gd{α:Type}{enc:α→List V}[FlatRow enc]{c:Bool}{l:List α}:Cl (.sl c (l.map enc)):=Akz C4
def vB:V→Bool
 |.v _=>true
 |_=>false
def vsB:List V→Bool
 |[]=>true
 |u::us=>bif vB u then vsB us else false
def clB:V→Bool
 |.v _=>true
 |.agg cs=>vsB cs
 |.tup cs=>vsB cs
 |.clo _ cs=>vsB cs
 |.sl false []=>true
 |_=>false
def Ae3:List (List V)→Bool
 |[]=>true
 |r::rs=>bif vsB r then Ae3 rs else false
theorem Aka{u:V}(h:vB u=true):Fl u:=by
 cases u<;>first|exact Ajh _|cases h
theorem S4:∀{us:List V},vsB us=true→∀u∈us,Fl u
 |[],_,u,hu=>by cases hu
 |v::us,h,u,hu=>by
  unfold vsB at h;cases hv:vB v with
  |false=>rw[hv]at h;cases h
  |true=>
   rw[hv]at h;rcases XC.1 hu with rfl|hu
   ·exact Aka hv
   ·exact S4 h u hu
theorem Abo:∀{rs:List (List V)},Ae3 rs=true→∀r∈rs,∀u∈r,Fl u
 |[],_,r,hr=>by cases hr
 |r'::rs,h,r,hr=>by
  unfold Ae3 at h;cases hv:vsB r' with
  |false=>rw[hv]at h;cases h
  |true=>
   rw[hv]at h;rcases XC.1 hr with rfl|hr
   ·exact S4 hv
   ·exact Abo h r hr
theorem Ajp{f:FuncId}{cs:List V}(h:∀u∈cs,Fl u):Fl (.clo f cs):=fun w w' R R' G G' x hx=>by
 cases hx with
 |clo f cs xs hl hh=>exact .clo f cs xs hl fun i u x h1 h2=>h u (ZH h1) _ _ _ _ _ _ _ (hh i u x h1 h2)
theorem Akb{u:V}(h:clB u=true):Fl u:=by
 cases u with
 |v x=>exact Ajh x
 |agg cs=>exact Aij (S4 h)
 |tup cs=>exact Aid (S4 h)
 |clo f cs=>exact Ajp (S4 h)
 |sl c rows=>cases c<;>cases rows<;>first|exact Aiz|cases h
 |_=>cases h
theorem De{u:V}(h:clB u=true):Cl u:=(Akb h).cl
theorem Kr{rs:List (List V)}(h:Ae3 rs=true):∀r∈rs,∀u∈r,Cl u:=fun r hr u hu=>(Abo h r hr u hu).cl
theorem Pu{α:Type}{enc:α→List V}[FlatRow enc]{c:Bool}{l:List α}:∀row∈[[V.sl c (l.map enc)]],∀u∈row,Cl u:=by
 intro row hr u hu;simp only[XC,XD,or_false]at hr;subst hr;simp only[XC,XD,or_false]at hu;subst hu;exact Gd
def flB:List Par→Bool
 |[]=>true
 |.c u::ps=>bif clB u then flB ps else false
 |_=>false
theorem Aft:∀{rs:List Par},flB rs=true→Eb rs
 |[],_=>fun r hr=>by cases hr
 |.c u::ps,h=>by
  unfold flB at h;cases hv:clB u with
  |false=>rw[hv]at h;cases h
  |true=>
   rw[hv]at h;intro r hr;rcases XC.1 hr with rfl|hr
   ·exact Akb hv
   ·exact Aft h r hr
 |.o _ _ _::_,h=>by cases h
theorem Ey{b:Bool}(h:(!b)=true):b=false:=by cases b;rfl;cases h
theorem Eo{b:Bool}(h:(!b)=false):b=true:=by cases b;cases h;rfl
theorem Ak{p:Prop}:false=true→p:=by simp
theorem Ae9{n a b:Int}(h:decide (a≤n)=true):wi n a b=decide (n≤b):=by simp[wi,h]
theorem Afd{n a b:Int}(h:decide (a≤n)=false):wi n a b=false:=by simp[wi,h]
theorem up1{n k:Nat}{p:(j:Nat)→(j<n)→Prop}(h0:∀j (h:j<n),j<k→p j h)(hk:∀h:k<n,p k h):∀j (h:j<n),j<k+1→p j h:=fun j h hj=>by
 rcases(by omega:j<k∨j=k)with g|rfl
 ·exact h0 j h g
 ·exact hk h
theorem up2{n k:Nat}{p:(j:Nat)→(j+1<n)→Prop}(h0:∀j (h:j+1<n),j<k→p j h)(hk:∀h:k+1<n,p k h):∀j (h:j+1<n),j<k+1→p j h:=fun j h hj=>by
 rcases(by omega:j<k∨j=k)with g|rfl
 ·exact h0 j h g
 ·exact hk h
theorem N6{row:List V}(h:Ae3 [row]=true):∀u∈row,Cl u:=fun u hu=>Kr h row (by simp) u hu
theorem G3.cell1{env:Nat→V}{H:Nat→Option Ent}{a id gen k off sz:Nat}{agg:Bool}{e:Ent}{row:List V}{r:List RT}{u:V}{us:List V}(h1:env a=.ptr id gen k off)(h2:H id=some e)(h3:e.gen=gen)(h4:e.rows[k]? =some row)(h5:Nat.ble (off+sz) row.length=true)(hu:u=mkV agg ((row.drop off).take sz))(h:G3 env H r us):
  G3 env H ((a,some (agg,sz))::r) (u::us):=by rw[hu];exact .cell h1 h2 h3 h4 (Nat.le_of_ble_eq_true h5) h
class OneRow {α:Type} (enc:α→List V) (sz:outParam Nat):Prop where
 len:∀x,(enc x).length=sz
 one:∀x,∀u∈enc x,∃v,u=.v v∧v.oneCell'=true
theorem Aj2{rs:List Ba}(h:rs.all Wo=true):∀p∈rs,Wo p=true:=List.all_eq_true.1 h
theorem nI{a b:Nat}(h:Nat.ble a b=true:=by exact rfl):a≤b:=Nat.le_of_ble_eq_true h
theorem oI{rs:List Ba}(h:rs.all Wo=true:=by exact rfl):∀p∈rs,Wo p=true:=Aj2 h
theorem dI{l:List Nat}(h:ndB l=true:=by exact rfl):l.Nodup:=N3 h
theorem tI{p:Prop}(h:p:=by(repeat' (first|exact trivial|refine⟨rfl,?_⟩))):p:=h
theorem lI{p:Prop}(h:p:=by(simp only[ZE,ZF,ZJ,ZN,List.length_set,List.length_replicate,maxLen];omega)):p:=h
theorem fI{rs:List Par}(h:Eb rs:=by(first|exact Aft rfl|exact flat_own|exact flat_own1 rfl|exact flat_own2 rfl)):Eb rs:=h
theorem cBI{H:Nat→Option Ent}{all:List Nat}{cs cs':List V}(h:Bo H all cs cs':=by(repeat' (first|exact Bo.nil|refine Bo.same (by first|exact De rfl|exact Gd|exact cl_nil|assumption) ?_|refine Bo.nilsl _ ?_|refine Su rfl rfl (by first|exact Kr rfl|exact C4|exact cl_setB rfl|exact cl_setG (cl_setB rfl) rfl|exact cl_appB C4 (Kr rfl)|exact Pu|exact cl_rl2) (by decide) ?_))):Bo H all cs cs':=h
theorem aI{H:Nat→Option Ent}{all gone:List Nat}{bor:Bool}{us:List V}{ps:List Par}(h:A4 H all bor gone us ps:=by(repeat' (first|exact A4.nil _|exact argsOk_cells (by assumption)|refine A4.same (by first|exact De rfl|exact Gd|exact cl_nil|exact cl_one|exact cl_ll1|exact cl_ll2|exact cl_clo (by assumption)|exact Sj (by repeat' (first|exact O0|refine Nh (by first|exact De rfl|exact Gd|exact cl_nil|assumption) ?_))) ?_|refine A4.nilsl _ ?_|refine A4.nilown _ _ (by decide) ?_|refine A4.borp rfl rfl rfl (N6 rfl) (by decide) ?_|refine A4.borc (by(repeat' (first|exact cap_n|refine cap_p rfl rfl rfl (by first|exact N6 rfl|exact cl_r1 rfl|exact cl_r1b) ?_ ?_|refine cap_m rfl (by decide) ?_|refine cap_c (by first|exact De rfl|exact Gd|exact cl_nil|exact cl_one|exact cl_ll1|exact cl_ll2|exact cl_clo (by assumption)|exact Sj (by repeat' (first|exact O0|refine Nh (by first|exact De rfl|exact Gd|exact cl_nil|assumption) ?_))) ?_|decide))) ?_|refine A4.bora cBI ?_|refine A4.bor rfl rfl (Uh (by first|exact Kr rfl|exact C4|exact cl_setB rfl|exact cl_setG (cl_setB rfl) rfl|exact cl_appB C4 (Kr rfl)|exact Pu|exact cl_rl2)) (by decide) ?_|refine give' rfl (by first|exact Kr rfl|exact C4|exact cl_setB rfl|exact cl_setG (cl_setB rfl) rfl|exact cl_appB C4 (Kr rfl)|exact Pu|exact cl_rl2) (by decide) (by decide) ?_))):A4 H all bor gone us ps:=h
theorem aM{H:Nat→Option Ent}{all gone:List Nat}{bor:Bool}{us:List V}{ps:List Ba}(h:Bg H all bor gone us ps:=by(repeat' (first|exact Bg.nil _|refine B7 (by first|exact De rfl|exact Gd|exact cl_nil|exact cl_one|exact cl_ll1|exact cl_ll2|exact cl_clo (by assumption)|exact Sj (by repeat' (first|exact O0|refine Nh (by first|exact De rfl|exact Gd|exact cl_nil|assumption) ?_))) ?_|refine aM_nilsl _ ?_|refine aM_nilown _ _ (by decide) ?_|refine aM_mf rfl (N6 rfl) (by decide) (by decide) rfl ?_|refine aM_pf rfl (N6 rfl) (by decide) (by decide) ?_|refine Ald rfl (by decide) (by decide) ?_|refine Al6 rfl (by decide) (by decide) ?_|refine aM_borp rfl rfl rfl (N6 rfl) (by decide) ?_|refine aM_borc (by(repeat' (first|exact cap_n|refine cap_p rfl rfl rfl (by first|exact N6 rfl|exact cl_r1 rfl|exact cl_r1b) ?_ ?_|refine cap_m rfl (by decide) ?_|refine cap_c (by first|exact De rfl|exact Gd|exact cl_nil|exact cl_one|exact cl_ll1|exact cl_ll2|exact cl_clo (by assumption)|exact Sj (by repeat' (first|exact O0|refine Nh (by first|exact De rfl|exact Gd|exact cl_nil|assumption) ?_))) ?_|decide))) ?_|refine Abg cBI ?_|refine Aiq rfl rfl (Uh (by first|exact Kr rfl|exact C4|exact cl_setB rfl|exact cl_setG (cl_setB rfl) rfl|exact cl_appB C4 (Kr rfl)|exact Pu|exact cl_rl2)) (by decide) ?_|refine aM_give rfl (by first|exact Kr rfl|exact C4|exact cl_setB rfl|exact cl_setG (cl_setB rfl) rfl|exact cl_appB C4 (Kr rfl)|exact Pu|exact cl_rl2) (by decide) (by decide) ?_|refine aM_ms rfl (by first|exact Kr rfl|exact C4|exact cl_setB rfl|exact cl_setG (cl_setB rfl) rfl|exact cl_appB C4 (Kr rfl)|exact Pu|exact cl_rl2) (by decide) (by decide) (by simp) ?_))):Bg H all bor gone us ps:=h
structure Aig(q:Prop):Prop where
 out:q
theorem goI{p q:Prop}(h:q)(e:Aig q→p:=by(intro hq;(conv=>whnf);(repeat' ((first|refine⟨rfl,?_⟩|refine⟨_,Ap (by assumption),?_⟩|refine⟨_,(by exact O2),?_⟩|refine⟨_,Jf (by omega) (by omega),?_⟩|refine⟨_,wrap_u64 (by omega) (by omega),?_⟩|refine⟨by decide,_,fdiv_half (by omega),?_⟩);(conv=>whnf)));exact hq.out)):p:=e ⟨h⟩
theorem G0{p q:Prop}(h:q)(e:Aig q→p:=by(intro hq;(conv=>whnf);(repeat' ((first|refine⟨rfl,?_⟩|refine⟨_,Ap (by assumption),?_⟩|refine⟨_,(by exact O2),?_⟩|refine⟨_,Jf (by omega) (by omega),?_⟩|refine⟨_,wrap_u64 (by omega) (by omega),?_⟩|refine⟨by decide,_,fdiv_half (by omega),?_⟩);(conv=>whnf)));exact hq.out)):p:=e ⟨h⟩
theorem wI{p:Prop}(h:p:=by exact Ala (gone:=[]) (gone1:=[]) rfl aI (by decide) (by decide) (by decide) rfl aM):p:=h
theorem cX{A:List Par→Bool→List Nat→Prop}{F:List Par→List Par→Prop}{B L:List Par→Prop}{K:List Par→List Nat→Prop}{ps rs:List Par}(hF:F ps rs)(hK:K rs [])(hA:A ps false []:=by exact aI)(hL:L rs:=by exact nI):∃ps rs bor gone,A ps bor gone∧F ps rs∧(bor=true→B rs)∧L rs∧K rs gone:=⟨ps,rs,false,[],hA,hF,Ak,hL,hK⟩
theorem cY{A:List Par→Bool→List Nat→Prop}{F:List Par→List Par→Prop}{B L:List Par→Prop}{K:List Par→List Nat→Prop}{ps rs:List Par}(hF:F ps rs)(hK:K rs [])(hA:A ps true []:=by exact aI)(hB:B rs:=by exact fI)(hL:L rs:=by exact nI):∃ps rs bor gone,A ps bor gone∧F ps rs∧(bor=true→B rs)∧L rs∧K rs gone:=⟨ps,rs,true,[],hA,hF,fun _=>hB,hL,hK⟩
theorem G1{α0:Type}{p:Prop}{q:α0→Prop}(h:∀a0,q a0)(e:(∀a0,Aig (q a0))→p:=by(intro hq;(conv=>whnf);(repeat' ((first|refine⟨rfl,?_⟩|refine⟨_,Ap (by assumption),?_⟩|refine⟨_,(by exact O2),?_⟩|refine⟨_,Jf (by omega) (by omega),?_⟩|refine⟨_,wrap_u64 (by omega) (by omega),?_⟩|refine⟨by decide,_,fdiv_half (by omega),?_⟩);(conv=>whnf)));intro g0;(conv=>whnf);(repeat' ((first|refine⟨rfl,?_⟩|refine⟨_,Ap (by assumption),?_⟩|refine⟨_,(by exact O2),?_⟩|refine⟨_,Jf (by omega) (by omega),?_⟩|refine⟨_,wrap_u64 (by omega) (by omega),?_⟩|refine⟨by decide,_,fdiv_half (by omega),?_⟩);(conv=>whnf)));exact(hq g0).out)):p:=e fun a0=>⟨h a0⟩
abbrev Ak3:List Value:=[(.int .i64 0),(.int .i64 0),(.int .i64 0),(.int .i64 0),(.int .i64 0)]
abbrev R7:List Value:=[(.string ⟨#[]⟩),(.bool false),(.slice none 0 0),(.slice none 0 0),(.slice none 0 0),(.slice none 0 0)]
abbrev Ym:List Value:=[(.string ⟨#[]⟩),(.int .i64 0),(.int .i64 0),(.int .i64 0),(.bool false)]
abbrev Zb:List Value:=[(.string ⟨#[]⟩),(.int .i64 0),(.int .i64 0),(.int .i64 0),(.int .i64 0),(.int .i64 0)]
abbrev Aan:List Value:=[(.string ⟨#[]⟩),(.string ⟨#[]⟩),(.string ⟨#[]⟩),(.string ⟨#[]⟩),(.int .i64 0),(.int .i64 0),(.bool false),(.int .i64 0),(.bool false)]
def Kc:Ag:=
 .seq (.reg [Rq 2 (.box 27 6 0),Rq 4 (.mv (.const (.bool false)))]) (.seq (.seq (.reg [Cq 12 9 ([]),Rq 13 (.not 12)]) (.cond 13 (.seq (.reg [Rq 4 (.mv (.const (.bool false)))]) (.ret)) (.skip))) (.seq (.seq (.reg [Rq 15 (.load true 6 2),Cq 16 6 ([15]),Mq 14 16,Eq1 17 14 0,Eq1 18 14 1,Mq 5 17,Mq 6 18]) (.seq (.reg [Mq 19 6,Bq 20 .eql 19 (Kq 0)]) (.cond 20 (.seq (.reg [Mq 22 5,Cq 23 12 ([22]),Mq 21 23,Eq1 24 21 0,Eq1 25 21 1,Rq 7 (.zbox 27 R7),Sq 6 7 24,Mq 8 25]) (.seq (.reg [Mq 26 8,Bq 27 .neq 26 (Kq 0),Mq 28 27,Gq 29 28 false (.load true 6 7),Gq 30 28 false (.load true 6 2),Gq 31 28 false (.call (.func 14) [29,30]),Gq 32 28 false (.not 31),Rq 33 (.pick 28 (.const (.bool true)) 32)]) (.cond 33 (.seq (.reg [Rq 4 (.mv (.const (.bool false)))]) (.ret)) (.skip)))) (.skip)))) (.seq (.reg [Mq 35 1,Cq 36 12 ([35]),Mq 34 36,Eq1 37 34 0,Eq1 38 34 1,Rq 9 (.zbox 27 R7),Sq 6 9 37,Mq 10 38]) (.seq (.seq (.reg [Mq 39 10,Bq 40 .neq 39 (Kq 0)]) (.cond 40 (.seq (.reg [Rq 4 (.mv (.const (.bool true)))]) (.ret)) (.skip))) (.seq (.reg [Rq 42 (.load true 6 9),Cq 43 6 ([42]),Mq 41 43,Eq1 44 41 0,Eq1 45 41 1,Mq 11 44,Mq 10 45]) (.seq (.reg [Mq 46 10,Bq 47 .eql 46 (Kq 0),Mq 48 47,Hq 49 48 true 11,Hq 50 48 true 1,Gq 51 48 true (.bin .eql 49 50),Rq 52 (.pick 48 51 (.const (.bool false))),Mq 4 52]) (.ret)))))))
theorem Ci:Ao Tryz.prog 5 2=some (Kc,[4]):=by kernel_rfl
def Rs:Ag:=
 .seq (.reg [Rq 1 (.box 27 6 0),Rq 2 (.mv (.const (.string ⟨#[]⟩))),Nq 3 0]) (.seq (.seq (.reg [Rq 5 (.load true 6 1),Cq 6 10 ([5]),Mq 4 6]) (.seq (.reg [Mq 7 4,Bq 8 .neq 7 (Kq 0)]) (.cond 8 (.seq (.reg [Mq 9 4,Rq 2 (.mv (.const (.string ⟨#[]⟩))),Mq 3 9]) (.ret)) (.skip)))) (.seq (.reg [Rq 10 (.load true 6 1),Cq 11 15 ([10]),Mq 2 11,Nq 3 0]) (.ret)))
theorem Lu:Ao Tryz.prog 6 1=some (Rs,[2,3]):=by kernel_rfl
def Iv:Ag:=
 .seq (.reg [Rq 0 (.mv (.const (.bool false)))]) (.seq (.reg [Rq 6 (.build R7 [(0,1,(.const (.string ⟨#[97]⟩)))]),Cq 7 6 ([6]),Mq 5 7,Eq1 8 5 0,Eq1 9 5 1,Mq 1 8,Mq 2 9]) (.seq (.reg [Mq 11 1,Cq 12 12 ([11]),Mq 10 12,Eq1 13 10 0,Eq1 14 10 1,Rq 3 (.zbox 27 R7),Sq 6 3 13,Mq 4 14]) (.seq (.reg [Mq 15 2,Bq 16 .eql 15 (Kq 0),Mq 17 16,Hq 18 17 true 4,Gq 19 17 true (.bin .eql 18 (Kq 0)),Rq 20 (.pick 17 19 (.const (.bool false))),Mq 21 20,Hq 22 21 true 1,Gq 23 21 true (.bin .eql 22 (.const (.string ⟨#[49,59,97,48,59,48,59,48,59,48,59,48,59]⟩))),Rq 24 (.pick 21 23 (.const (.bool false))),Mq 25 24,Gq 26 25 true (.fldA 0 3),Gq 27 25 true (.load false 1 26),Gq 28 25 true (.bin .eql 27 (.const (.string ⟨#[97]⟩))),Rq 29 (.pick 25 28 (.const (.bool false))),Mq 0 29]) (.ret))))
theorem I1:Ao Tryz.prog 9 0=some (Iv,[0]):=by kernel_rfl
def Rw:Ag:=
 .seq (.reg [Rq 1 (.box 27 6 0),Nq 2 0]) (.seq (.seq (.reg [Fq 5 0 1,Lq 6 5,Cq 7 25 ([6]),Rq 8 (.not 7),Mq 9 8,Gq 10 9 false (.fldA 1 1),Gq 11 9 false (.load false 1 10),Gq 12 9 false (.not 11),Hq 13 9 false 12,Gq 14 13 true (.fldA 3 1),Gq 15 13 true (.load false 1 14),Gq 16 13 true (.len false 15),Gq 17 13 true (.fldA 4 1),Gq 18 13 true (.load false 1 17),Gq 19 13 true (.len false 18),Gq 20 13 true (.bin .add 16 19),Gq 21 13 true (.fldA 5 1),Gq 22 13 true (.load false 1 21),Gq 23 13 true (.len false 22),Gq 24 13 true (.bin .add 20 23),Gq 25 13 true (.bin .gtr 24 (Kq 0)),Gq 26 9 false (.pick 13 25 (.const (.bool false))),Rq 27 (.pick 9 (.const (.bool true)) 26)]) (.cond 27 (.seq (.reg [Nq 2 1]) (.ret)) (.skip))) (.seq (.seq (.reg [Fq 28 1 1,Lq 29 28,Rq 30 (.not 29)]) (.cond 30 (.seq (.reg [Fq 31 2 1,Lq 32 31,Cq 33 26 ([32]),Mq 2 33]) (.ret)) (.skip))) (.seq (.seq (.dreg [[Fq 34 2 1,Lq 35 34,Cq 36 27 ([35]),Fq 37 3 1,Lq 38 37,Cq 39 28 ([38]),Fq 40 4 1,Lq 41 40,Cq 42 29 ([41]),Fq 43 5 1,Lq 44 43,Cq 45 30 ([44]),Rq 46 (.mks 28 1 4 [(.int .i64 0)] [(0,36),(1,39),(2,42),(3,45)]),Rq 47 (.len false 46),Nq 48 0]]) (.block 0 (.loop (.seq (.reg [Bq 49 .lss 48 47]) (.seq (.cond 49 (.skip) (.exit 0)) (.seq (.block 1 (.seq (.reg [Iq 50 1 46 48,Lq 51 50,Mq 4 51]) (.seq (.reg [Mq 52 4,Bq 53 .neq 52 (Kq 0)]) (.cond 53 (.seq (.reg [Mq 54 4,Mq 2 54]) (.ret)) (.skip))))) (.reg [Bq 55 .add 48 (Kq 1),Mq 48 55]))))))) (.seq (.reg [Nq 2 0]) (.ret)))))
theorem Ry:Ao Tryz.prog 10 1=some (Rw,[2]):=by kernel_rfl
def J9:Ag:=
 .seq (.reg [Rq 2 (.box 27 6 0),Rq 3 (.box 27 6 1),Rq 4 (.mv (.const (.bool false)))]) (.seq (.reg [Fq 5 0 2,Lq 6 5,Fq 7 0 3,Lq 8 7,Bq 9 .eql 6 8,Mq 10 9,Gq 11 10 true (.fldA 1 2),Gq 12 10 true (.load false 1 11),Gq 13 10 true (.fldA 1 3),Gq 14 10 true (.load false 1 13),Gq 15 10 true (.eqb false 12 14),Rq 16 (.pick 10 15 (.const (.bool false))),Mq 17 16,Gq 18 17 true (.fldA 2 2),Gq 19 17 true (.load false 1 18),Gq 20 17 true (.fldA 2 3),Gq 21 17 true (.load false 1 20),Gq 22 17 true (.call (.func 37) [19,21]),Rq 23 (.pick 17 22 (.const (.bool false))),Mq 24 23,Gq 25 24 true (.fldA 3 2),Gq 26 24 true (.load false 1 25),Gq 27 24 true (.fldA 3 3),Gq 28 24 true (.load false 1 27),Gq 29 24 true (.call (.func 38) [26,28]),Rq 30 (.pick 24 29 (.const (.bool false))),Mq 31 30,Gq 32 31 true (.fldA 4 2),Gq 33 31 true (.load false 1 32),Gq 34 31 true (.fldA 4 3),Gq 35 31 true (.load false 1 34),Gq 36 31 true (.call (.func 39) [33,35]),Rq 37 (.pick 31 36 (.const (.bool false))),Mq 38 37,Gq 39 38 true (.fldA 5 2),Gq 40 38 true (.load false 1 39),Gq 41 38 true (.fldA 5 3),Gq 42 38 true (.load false 1 41),Gq 43 38 true (.call (.func 40) [40,42]),Rq 44 (.pick 38 43 (.const (.bool false))),Mq 4 44]) (.ret))
theorem Jv:Ao Tryz.prog 14 2=some (J9,[4]):=by kernel_rfl
def Rn:Ag:=
 .seq (.reg [Rq 1 (.box 27 6 0),Rq 2 (.mv (.const (.string ⟨#[]⟩)))]) (.seq (.reg [Rq 4 (.build [(.pointer none),(.slice none 0 0)] []),Rq 5 (.box 83 2 4),Rq 3 (.zbox 77 [(.pointer none)]),Sq 1 3 5]) (.seq (.reg [Lq 6 3,Fq 7 0 1,Lq 8 7,Rq 9 (.mks 9 1 1 [(.string ⟨#[]⟩)] [(0,8)]),Cq 10 41 ([6,9])]) (.seq (.reg [Lq 11 3,Fq 12 1 1,Lq 13 12,Cq 14 42 ([11,13])]) (.seq (.reg [Lq 15 3,Fq 16 2 1,Lq 17 16,Rq 18 (.mkfn 44 [3]),Cq 19 43 ([15,17,18])]) (.seq (.reg [Lq 20 3,Fq 21 3 1,Lq 22 21,Rq 23 (.mkfn 47 [3]),Cq 24 46 ([20,22,23])]) (.seq (.reg [Lq 25 3,Fq 26 4 1,Lq 27 26,Rq 28 (.mkfn 49 [3]),Cq 29 48 ([25,27,28])]) (.seq (.reg [Lq 30 3,Fq 31 5 1,Lq 32 31,Rq 33 (.mkfn 51 [3]),Cq 34 50 ([30,32,33])]) (.seq (.reg [Lq 35 3,Fq 36 0 35,Fq 37 0 36,Cq 38 52 ([37]),Mq 2 38]) (.ret)))))))))
theorem R6:Ao Tryz.prog 15 1=some (Rn,[2]):=by kernel_rfl
def Uv:Ag:=
 .seq (.reg [Nq 2 0]) (.seq (.seq (.reg [Mq 7 0,Rq 8 (.len false 7),Bq 9 .gtr 8 (Kq 5)]) (.cond 9 (.seq (.reg [Nq 2 2]) (.ret)) (.skip))) (.seq (.seq (.reg [Mq 10 0,Cq 11 58 ([10]),Mq 3 11]) (.seq (.reg [Mq 12 3,Bq 13 .neq 12 (Kq 0)]) (.cond 13 (.seq (.reg [Mq 14 3,Mq 2 14]) (.ret)) (.skip)))) (.seq (.reg [Rq 15 (.mkm),Mq 4 15]) (.seq (.seq (.reg [Mq 16 0,Rq 17 (.len false 16),Nq 18 0]) (.block 0 (.loop (.seq (.reg [Bq 19 .lss 18 17]) (.seq (.cond 19 (.skip) (.exit 0)) (.seq (.block 1 (.seq (.reg [Iq 20 5 16 18,Rq 21 (.load true 5 20),Rq 6 (.zbox 47 Ym),Sq 5 6 21]) (.reg [Mq 22 4,Fq 23 0 6,Lq 24 23,⟨none,none,.mupd .string 22 24 (.const (.bool true))⟩]))) (.reg [Bq 25 .add 18 (Kq 1),Mq 18 25]))))))) (.seq (.seq (.reg [Mq 26 4,Rq 27 (.mlen 26),Mq 28 0,Rq 29 (.len false 28),Bq 30 .lss 27 29]) (.cond 30 (.seq (.reg [Nq 2 6]) (.ret)) (.skip))) (.seq (.reg [Nq 2 0]) (.ret)))))))
theorem U5:Ao Tryz.prog 26 1=some (Uv,[2]):=by kernel_rfl
def Qj:Ag:=
 .seq (.reg [Nq 2 0]) (.seq (.seq (.reg [Mq 7 0,Rq 8 (.len false 7),Bq 9 .gtr 8 (Kq 20)]) (.cond 9 (.seq (.reg [Nq 2 2]) (.ret)) (.skip))) (.seq (.seq (.reg [Mq 10 0,Rq 11 (.len false 10),Nq 12 0]) (.block 0 (.loop (.seq (.reg [Bq 13 .lss 12 11]) (.seq (.cond 13 (.skip) (.exit 0)) (.seq (.block 1 (.seq (.reg [Iq 14 6 10 12,Rq 15 (.load true 6 14),Rq 4 (.zbox 58 Zb),Sq 6 4 15]) (.seq (.seq (.reg [Fq 16 0 4,Lq 17 16,Cq 18 25 ([17]),Rq 19 (.not 18)]) (.cond 19 (.seq (.reg [Nq 2 1]) (.ret)) (.skip))) (.seq (.reg [Fq 20 1 4,Rq 21 (.load true 5 20),Cq 22 62 ([21]),Mq 5 22]) (.seq (.reg [Mq 23 5,Bq 24 .neq 23 (Kq 0)]) (.cond 24 (.seq (.reg [Mq 25 5,Mq 2 25]) (.ret)) (.skip))))))) (.reg [Bq 26 .add 12 (Kq 1),Mq 12 26]))))))) (.seq (.seq (.reg [Nq 6 1]) (.block 2 (.loop (.seq (.seq (.reg [Mq 27 6,Mq 28 0,Rq 29 (.len false 28),Bq 30 .lss 27 29]) (.cond 30 (.skip) (.exit 2))) (.seq (.block 3 (.seq (.dreg [[Mq 33 0,Mq 34 6,Iq 35 6 33 34,Fq 36 0 35,Lq 37 36,Mq 38 0,Mq 39 6,Bq 40 .sub 39 (Kq 1),Iq 41 6 38 40,Fq 42 0 41,Lq 43 42],[Bq 44 .leq 37 43]]) (.cond 44 (.seq (.reg [Nq 2 4]) (.ret)) (.skip)))) (.reg [Mq 31 6,Bq 32 .add 31 (Kq 1),Mq 6 32])))))) (.seq (.reg [Nq 2 0]) (.ret)))))
theorem P2:Ao Tryz.prog 30 1=some (Qj,[2]):=by kernel_rfl
def Df:Ag:=
 .seq (.reg [Rq 1 (.box 63 1 0),Rq 2 (.zbox 27 R7)]) (.seq (.dreg [[],[⟨none,none,.mkm⟩,⟨none,none,.mkm⟩],[Lq 4 1,Cq 5 63 ([4]),Lq 6 1,Cq 7 64 ([6]),Rq 8 (.build R7 [(0,1,5),(1,1,7)]),Rq 3 (.zbox 27 R7)],[Sq 6 3 8]]) (.seq (.reg [Lq 9 1,Rq 10 (.mkfn 66 [1]),Cq 11 65 ([9,(Kq 20),10]),Fq 12 2 3,Sq 1 12 11]) (.seq (.reg [Lq 13 1,Rq 14 (.mkfn 69 [1]),Cq 15 68 ([13,(Kq 40),14]),Fq 16 3 3,Sq 1 16 15]) (.seq (.reg [Lq 17 1,Rq 18 (.mkfn 71 [1]),Cq 19 70 ([17,(Kq 6),18]),Fq 20 4 3,Sq 1 20 19]) (.seq (.reg [Lq 21 1,Rq 22 (.mkfn 73 [1]),Cq 23 72 ([21,(Kq 20),22]),Fq 24 5 3,Sq 1 24 23]) (.seq (.reg [Rq 25 (.load true 6 3),Sq 6 2 25]) (.ret)))))))
theorem Ew:Cr Tryz.prog 32 1=some (Df,[(2,some (true,6))]):=by kernel_rfl
def I8:Ag:=
 .seq (.reg [Rq 4 (.mv (.const (.bool false)))]) (.seq (.seq (.reg [Mq 6 0,Rq 7 (.len false 6),Mq 8 1,Rq 9 (.len false 8),Bq 10 .neq 7 9]) (.cond 10 (.seq (.reg [Rq 4 (.mv (.const (.bool false)))]) (.ret)) (.skip))) (.seq (.seq (.reg [Nq 5 0]) (.block 0 (.loop (.seq (.seq (.reg [Mq 11 5,Mq 12 0,Rq 13 (.len false 12),Bq 14 .lss 11 13]) (.cond 14 (.skip) (.exit 0))) (.seq (.block 1 (.seq (.dreg [[Mq 17 0,Mq 18 5,Iq 19 5 17 18,Rq 20 (.load true 5 19),Mq 21 1,Mq 22 5,Iq 23 5 21 22,Rq 24 (.load true 5 23)],[Rq 25 (.eqS true [1,0,0,0,2] 20 24)]]) (.cond 25 (.seq (.reg [Rq 4 (.mv (.const (.bool false)))]) (.ret)) (.skip)))) (.reg [Mq 15 5,Bq 16 .add 15 (Kq 1),Mq 5 16])))))) (.seq (.reg [Rq 4 (.mv (.const (.bool true)))]) (.ret))))
theorem I5:Ao Tryz.prog 37 2=some (I8,[4]):=by kernel_rfl
def Hy:Ag:=
 .seq (.reg [Rq 4 (.mv (.const (.bool false)))]) (.seq (.seq (.reg [Mq 6 0,Rq 7 (.len false 6),Mq 8 1,Rq 9 (.len false 8),Bq 10 .neq 7 9]) (.cond 10 (.seq (.reg [Rq 4 (.mv (.const (.bool false)))]) (.ret)) (.skip))) (.seq (.seq (.reg [Nq 5 0]) (.block 0 (.loop (.seq (.seq (.reg [Mq 11 5,Mq 12 0,Rq 13 (.len false 12),Bq 14 .lss 11 13]) (.cond 14 (.skip) (.exit 0))) (.seq (.block 1 (.seq (.dreg [[Mq 17 0,Mq 18 5,Iq 19 9 17 18,Rq 20 (.load true 9 19),Mq 21 1,Mq 22 5,Iq 23 9 21 22,Rq 24 (.load true 9 23)],[Rq 25 (.eqS true [1,1,1,1,0,0,2,0,2] 20 24)]]) (.cond 25 (.seq (.reg [Rq 4 (.mv (.const (.bool false)))]) (.ret)) (.skip)))) (.reg [Mq 15 5,Bq 16 .add 15 (Kq 1),Mq 5 16])))))) (.seq (.reg [Rq 4 (.mv (.const (.bool true)))]) (.ret))))
theorem Ik:Ao Tryz.prog 38 2=some (Hy,[4]):=by kernel_rfl
def H5:Ag:=
 .seq (.reg [Rq 4 (.mv (.const (.bool false)))]) (.seq (.seq (.reg [Mq 6 0,Rq 7 (.len false 6),Mq 8 1,Rq 9 (.len false 8),Bq 10 .neq 7 9]) (.cond 10 (.seq (.reg [Rq 4 (.mv (.const (.bool false)))]) (.ret)) (.skip))) (.seq (.seq (.reg [Nq 5 0]) (.block 0 (.loop (.seq (.seq (.reg [Mq 11 5,Mq 12 0,Rq 13 (.len false 12),Bq 14 .lss 11 13]) (.cond 14 (.skip) (.exit 0))) (.seq (.block 1 (.seq (.dreg [[Mq 17 0,Mq 18 5,Iq 19 3 17 18,Rq 20 (.load true 3 19),Mq 21 1,Mq 22 5,Iq 23 3 21 22,Rq 24 (.load true 3 23)],[Rq 25 (.eqS true [1,0,0] 20 24)]]) (.cond 25 (.seq (.reg [Rq 4 (.mv (.const (.bool false)))]) (.ret)) (.skip)))) (.reg [Mq 15 5,Bq 16 .add 15 (Kq 1),Mq 5 16])))))) (.seq (.reg [Rq 4 (.mv (.const (.bool true)))]) (.ret))))
theorem Hr:Ao Tryz.prog 39 2=some (H5,[4]):=by kernel_rfl
def K1:Ag:=
 .seq (.reg [Rq 4 (.mv (.const (.bool false)))]) (.seq (.seq (.reg [Mq 6 0,Rq 7 (.len false 6),Mq 8 1,Rq 9 (.len false 8),Bq 10 .neq 7 9]) (.cond 10 (.seq (.reg [Rq 4 (.mv (.const (.bool false)))]) (.ret)) (.skip))) (.seq (.seq (.reg [Nq 5 0]) (.block 0 (.loop (.seq (.seq (.reg [Mq 11 5,Mq 12 0,Rq 13 (.len false 12),Bq 14 .lss 11 13]) (.cond 14 (.skip) (.exit 0))) (.seq (.block 1 (.seq (.dreg [[Mq 17 0,Mq 18 5,Iq 19 6 17 18,Rq 20 (.load true 6 19),Mq 21 1,Mq 22 5,Iq 23 6 21 22,Rq 24 (.load true 6 23)],[Rq 25 (.eqS true [1,0,0,0,0,0] 20 24)]]) (.cond 25 (.seq (.reg [Rq 4 (.mv (.const (.bool false)))]) (.ret)) (.skip)))) (.reg [Mq 15 5,Bq 16 .add 15 (Kq 1),Mq 5 16])))))) (.seq (.reg [Rq 4 (.mv (.const (.bool true)))]) (.ret))))
theorem K6:Ao Tryz.prog 40 2=some (K1,[4]):=by kernel_rfl
def La:Ag:=
 .seq (.reg [Mq 6 1,Rq 7 (.len false 6),Nq 8 0]) (.block 0 (.loop (.seq (.reg [Bq 9 .lss 8 7]) (.seq (.cond 9 (.skip) (.exit 0)) (.seq (.block 1 (.seq (.reg [Iq 10 1 6 8,Lq 11 10,Mq 5 11]) (.seq (.reg [Mq 12 0,Mq 13 5,Rq 14 (.len true 13),Rq 15 (.mks 3 1 1 [(.int .i64 0)] [(0,14)]),Cq 16 45 ([12,15])]) (.reg [Mq 17 0,Fq 18 0 17,Fq 19 0 18,Mq 20 5,Cq 21 74 ([19,20])])))) (.reg [Bq 22 .add 8 (Kq 1),Mq 8 22]))))))
theorem Lh:Ao Tryz.prog 41 2=some (La,[]):=by kernel_rfl
def Mo:Ag:=
 .seq (.reg [Nq 4 0]) (.seq (.seq (.reg [Mq 5 1]) (.cond 5 (.reg [Nq 4 1]) (.skip))) (.reg [Mq 6 0,Mq 7 4,Rq 8 (.mks 3 1 1 [(.int .i64 0)] [(0,7)]),Cq 9 45 ([6,8])]))
theorem Mu:Ao Tryz.prog 42 2=some (Mo,[]):=by kernel_rfl
def Jd:Ag:=
 .seq (.reg [Mq 8 0,Mq 9 1,Rq 10 (.len false 9),Rq 11 (.mks 3 1 1 [(.int .i64 0)] [(0,10)]),Cq 12 45 ([8,11])]) (.seq (.reg [Mq 13 1,Rq 14 (.len false 13),Nq 15 0]) (.block 0 (.loop (.seq (.reg [Bq 16 .lss 15 14]) (.seq (.cond 16 (.skip) (.exit 0)) (.seq (.block 1 (.seq (.reg [Iq 17 5 13 15,Rq 18 (.load true 5 17),Rq 7 (.zbox 47 Ym),Sq 5 7 18]) (.reg [Mq 19 2,Rq 20 (.load true 5 7),Rq 21 (.call 19 [20])]))) (.reg [Bq 22 .add 15 (Kq 1),Mq 15 22])))))))
theorem Iy:Ao Tryz.prog 43 3=some (Jd,[]):=by kernel_rfl
def Om:Ag:=
 .seq (.reg [Rq 2 (.box 47 5 0)]) (.seq (.reg [Lq 3 1,Fq 4 0 2,Lq 5 4,Rq 6 (.mks 9 1 1 [(.string ⟨#[]⟩)] [(0,5)]),Cq 7 41 ([3,6])]) (.seq (.reg [Lq 8 1,Fq 9 1 2,Lq 10 9,Fq 11 2 2,Lq 12 11,Fq 13 3 2,Lq 14 13,Rq 15 (.mks 3 1 3 [(.int .i64 0)] [(0,10),(1,12),(2,14)]),Cq 16 45 ([8,15])]) (.reg [Lq 17 1,Fq 18 4 2,Lq 19 18,Cq 20 42 ([17,19])])))
theorem Po:Ao Tryz.prog 44 2=some (Om,[]):=by kernel_rfl
def Kb:Ag:=
 .seq (.reg [Mq 6 1,Rq 7 (.len false 6),Nq 8 0]) (.block 0 (.loop (.seq (.reg [Bq 9 .lss 8 7]) (.seq (.cond 9 (.skip) (.exit 0)) (.seq (.block 1 (.seq (.reg [Iq 10 1 6 8,Lq 11 10,Mq 5 11]) (.dreg [[Mq 12 0,Fq 13 0 12,Fq 14 0 13,Mq 15 5,Cq 16 75 ([15]),Rq 17 (.bin .add 16 (.const (.string ⟨#[59]⟩)))],[Cq 18 74 ([14,17])]]))) (.reg [Bq 19 .add 8 (Kq 1),Mq 8 19]))))))
theorem Jx:Ao Tryz.prog 45 2=some (Kb,[]):=by kernel_rfl
def Hu:Ag:=
 .seq (.reg [Mq 8 0,Mq 9 1,Rq 10 (.len false 9),Rq 11 (.mks 3 1 1 [(.int .i64 0)] [(0,10)]),Cq 12 45 ([8,11])]) (.seq (.reg [Mq 13 1,Rq 14 (.len false 13),Nq 15 0]) (.block 0 (.loop (.seq (.reg [Bq 16 .lss 15 14]) (.seq (.cond 16 (.skip) (.exit 0)) (.seq (.block 1 (.seq (.reg [Iq 17 9 13 15,Rq 18 (.load true 9 17),Rq 7 (.zbox 52 Aan),Sq 9 7 18]) (.reg [Mq 19 2,Rq 20 (.load true 9 7),Rq 21 (.call 19 [20])]))) (.reg [Bq 22 .add 15 (Kq 1),Mq 15 22])))))))
theorem H2:Ao Tryz.prog 46 3=some (Hu,[]):=by kernel_rfl
def Ol:Ag:=
 .seq (.reg [Rq 2 (.box 52 9 0)]) (.seq (.reg [Lq 3 1,Fq 4 0 2,Lq 5 4,Fq 6 1 2,Lq 7 6,Fq 8 2 2,Lq 9 8,Fq 10 3 2,Lq 11 10,Rq 12 (.mks 9 1 4 [(.string ⟨#[]⟩)] [(0,5),(1,7),(2,9),(3,11)]),Cq 13 41 ([3,12])]) (.seq (.reg [Lq 14 1,Fq 15 4 2,Lq 16 15,Fq 17 5 2,Lq 18 17,Rq 19 (.mks 3 1 2 [(.int .i64 0)] [(0,16),(1,18)]),Cq 20 45 ([14,19])]) (.seq (.reg [Lq 21 1,Fq 22 6 2,Lq 23 22,Cq 24 42 ([21,23])]) (.seq (.reg [Lq 25 1,Fq 26 7 2,Lq 27 26,Rq 28 (.mks 3 1 1 [(.int .i64 0)] [(0,27)]),Cq 29 45 ([25,28])]) (.reg [Lq 30 1,Fq 31 8 2,Lq 32 31,Cq 33 42 ([30,32])])))))
theorem Oo:Ao Tryz.prog 47 2=some (Ol,[]):=by kernel_rfl
def Hl:Ag:=
 .seq (.reg [Mq 8 0,Mq 9 1,Rq 10 (.len false 9),Rq 11 (.mks 3 1 1 [(.int .i64 0)] [(0,10)]),Cq 12 45 ([8,11])]) (.seq (.reg [Mq 13 1,Rq 14 (.len false 13),Nq 15 0]) (.block 0 (.loop (.seq (.reg [Bq 16 .lss 15 14]) (.seq (.cond 16 (.skip) (.exit 0)) (.seq (.block 1 (.seq (.reg [Iq 17 3 13 15,Rq 18 (.load true 3 17),Rq 7 (.zbox 54 [(.string ⟨#[]⟩),(.int .i64 0),(.int .i64 0)]),Sq 3 7 18]) (.reg [Mq 19 2,Rq 20 (.load true 3 7),Rq 21 (.call 19 [20])]))) (.reg [Bq 22 .add 15 (Kq 1),Mq 15 22])))))))
theorem H4:Ao Tryz.prog 48 3=some (Hl,[]):=by kernel_rfl
def Pr:Ag:=
 .seq (.reg [Rq 2 (.box 54 3 0)]) (.seq (.reg [Lq 3 1,Fq 4 0 2,Lq 5 4,Rq 6 (.mks 9 1 1 [(.string ⟨#[]⟩)] [(0,5)]),Cq 7 41 ([3,6])]) (.reg [Lq 8 1,Fq 9 1 2,Lq 10 9,Fq 11 2 2,Lq 12 11,Rq 13 (.mks 3 1 2 [(.int .i64 0)] [(0,10),(1,12)]),Cq 14 45 ([8,13])]))
theorem Pg:Ao Tryz.prog 49 2=some (Pr,[]):=by kernel_rfl
def J0:Ag:=
 .seq (.reg [Mq 8 0,Mq 9 1,Rq 10 (.len false 9),Rq 11 (.mks 3 1 1 [(.int .i64 0)] [(0,10)]),Cq 12 45 ([8,11])]) (.seq (.reg [Mq 13 1,Rq 14 (.len false 13),Nq 15 0]) (.block 0 (.loop (.seq (.reg [Bq 16 .lss 15 14]) (.seq (.cond 16 (.skip) (.exit 0)) (.seq (.block 1 (.seq (.reg [Iq 17 6 13 15,Rq 18 (.load true 6 17),Rq 7 (.zbox 58 Zb),Sq 6 7 18]) (.reg [Mq 19 2,Rq 20 (.load true 6 7),Rq 21 (.call 19 [20])]))) (.reg [Bq 22 .add 15 (Kq 1),Mq 15 22])))))))
theorem J2:Ao Tryz.prog 50 3=some (J0,[]):=by kernel_rfl
def Pi:Ag:=
 .seq (.reg [Rq 2 (.box 58 6 0)]) (.seq (.reg [Lq 3 1,Fq 4 0 2,Lq 5 4,Rq 6 (.mks 9 1 1 [(.string ⟨#[]⟩)] [(0,5)]),Cq 7 41 ([3,6])]) (.reg [Lq 8 1,Fq 9 1 2,Fq 10 0 9,Lq 11 10,Fq 12 1 2,Fq 13 1 12,Lq 14 13,Fq 15 1 2,Fq 16 2 15,Lq 17 16,Fq 18 1 2,Fq 19 3 18,Lq 20 19,Fq 21 1 2,Fq 22 4 21,Lq 23 22,Rq 24 (.mks 3 1 5 [(.int .i64 0)] [(0,11),(1,14),(2,17),(3,20),(4,23)]),Cq 25 45 ([8,24])]))
theorem Ou:Ao Tryz.prog 51 2=some (Pi,[]):=by kernel_rfl
def Lz:Ag:=
 .seq (.reg [Rq 2 (.mv (.const (.string ⟨#[]⟩)))]) (.seq (.reg [Mq 5 0,Cq 6 67 ([5]),Mq 3 6]) (.seq (.seq (.reg [Mq 7 3,Bq 8 .lss 7 (Kq 0),Mq 9 8,Hq 10 9 false 3,Hq 11 9 false 0,Gq 12 9 false (.fldA 0 11),Gq 13 9 false (.fldA 0 12),Gq 14 9 false (.load false 1 13),Gq 15 9 false (.len true 14),Gq 16 9 false (.bin .gtr 10 15),Rq 17 (.pick 9 (.const (.bool true)) 16)]) (.cond 17 (.reg [Rq 18 (.build [] []),Rq 19 (.mki 61 18),⟨none,none,.die 19⟩]) (.skip))) (.seq (.reg [Mq 20 0,Fq 21 0 20,Fq 22 0 21,Lq 23 22,Mq 24 3,Rq 25 (.slcS 23 none (some 24)),Mq 4 25]) (.seq (.reg [Mq 26 0,Mq 27 0,Fq 28 0 27,Fq 29 0 28,Lq 30 29,Mq 31 3,Rq 32 (.slcS 30 (some 31) none),Fq 33 0 26,Fq 34 0 33,Sq 1 34 32]) (.seq (.reg [Mq 35 4,Mq 2 35]) (.ret))))))
theorem Fs:Ao Tryz.prog 63 1=some (Lz,[2]):=by kernel_rfl
def Mm:Ag:=
 .seq (.reg [Rq 2 (.mv (.const (.bool false)))]) (.seq (.reg [Mq 4 0,Cq 5 67 ([4]),Mq 3 5]) (.seq (.seq (.reg [Mq 6 3,Bq 7 .lss 6 (Kq 0),Mq 8 7,Hq 9 8 false 3,Gq 10 8 false (.bin .gtr 9 (Kq 1)),Rq 11 (.pick 8 (.const (.bool true)) 10)]) (.cond 11 (.reg [Rq 12 (.build [] []),Rq 13 (.mki 61 12),⟨none,none,.die 13⟩]) (.skip))) (.seq (.reg [Mq 14 3,Bq 15 .eql 14 (Kq 1),Mq 2 15]) (.ret))))
theorem Gp:Ao Tryz.prog 64 1=some (Mm,[2]):=by kernel_rfl
def Ir:Ag:=
 .seq (.reg [Rq 6 (.mv (.const (.slice none 0 0)))]) (.seq (.reg [Mq 9 0,Cq 10 67 ([9]),Mq 7 10]) (.seq (.seq (.reg [Mq 11 7,Bq 12 .lss 11 (Kq 0),Mq 13 12,Hq 14 13 false 7,Hq 15 13 false 1,Gq 16 13 false (.bin .gtr 14 15),Rq 17 (.pick 13 (.const (.bool true)) 16)]) (.cond 17 (.reg [Rq 18 (.build [] []),Rq 19 (.mki 61 18),⟨none,none,.die 19⟩]) (.skip))) (.seq (.reg [Rq 8 (.mv (.const (.slice none 0 0)))]) (.seq (.seq (.reg [Mq 20 7,Nq 21 0]) (.block 0 (.loop (.seq (.reg [Bq 22 .lss 21 20]) (.seq (.cond 22 (.skip) (.exit 0)) (.seq (.block 1 (.reg [Mq 23 8,Mq 24 2,Rq 25 (.call 24 []),Rq 26 (.mks 47 5 1 Ym [(0,25)]),Rq 27 (.app 47 5 48 (.agg #[(.string ⟨#[]⟩),(.int .i64 0),(.int .i64 0),(.int .i64 0),(.bool false)]) 23 26),Mq 8 27])) (.reg [Bq 28 .add 21 (Kq 1),Mq 21 28]))))))) (.seq (.reg [Mq 29 8,Mq 6 29]) (.ret))))))
theorem Ix:Ao Tryz.prog 65 3=some (Ir,[6]):=by kernel_rfl
def I4:Ag:=
 .seq (.reg [Rq 1 (.zbox 47 Ym)]) (.seq (.dreg [[],[⟨none,none,.mkm⟩,⟨none,none,.mkm⟩],[Lq 2 0,Cq 3 63 ([2]),Lq 4 0,Cq 5 67 ([4]),Lq 6 0,Cq 7 67 ([6]),Lq 8 0,Cq 9 67 ([8]),Lq 10 0],[Cq 11 64 ([10])],[Rq 12 (.build Ym [(0,1,3),(1,1,5),(2,1,7),(3,1,9),(4,1,11)])],[Sq 5 1 12]]) (.ret))
theorem I0:Cr Tryz.prog 66 1=some (I4,[(1,some (true,5))]):=by kernel_rfl
def Hw:Ag:=
 .seq (.reg [Rq 6 (.mv (.const (.slice none 0 0)))]) (.seq (.reg [Mq 9 0,Cq 10 67 ([9]),Mq 7 10]) (.seq (.seq (.reg [Mq 11 7,Bq 12 .lss 11 (Kq 0),Mq 13 12,Hq 14 13 false 7,Hq 15 13 false 1,Gq 16 13 false (.bin .gtr 14 15),Rq 17 (.pick 13 (.const (.bool true)) 16)]) (.cond 17 (.reg [Rq 18 (.build [] []),Rq 19 (.mki 61 18),⟨none,none,.die 19⟩]) (.skip))) (.seq (.reg [Rq 8 (.mv (.const (.slice none 0 0)))]) (.seq (.seq (.reg [Mq 20 7,Nq 21 0]) (.block 0 (.loop (.seq (.reg [Bq 22 .lss 21 20]) (.seq (.cond 22 (.skip) (.exit 0)) (.seq (.block 1 (.reg [Mq 23 8,Mq 24 2,Rq 25 (.call 24 []),Rq 26 (.mks 52 9 1 Aan [(0,25)]),Rq 27 (.app 52 9 104 (.agg #[(.string ⟨#[]⟩),(.string ⟨#[]⟩),(.string ⟨#[]⟩),(.string ⟨#[]⟩),(.int .i64 0),(.int .i64 0),(.bool false),(.int .i64 0),(.bool false)]) 23 26),Mq 8 27])) (.reg [Bq 28 .add 21 (Kq 1),Mq 21 28]))))))) (.seq (.reg [Mq 29 8,Mq 6 29]) (.ret))))))
theorem Ii:Ao Tryz.prog 68 3=some (Hw,[6]):=by kernel_rfl
def I9:Ag:=
 .seq (.reg [Rq 1 (.zbox 52 Aan)]) (.seq (.dreg [[],[⟨none,none,.mkm⟩,⟨none,none,.mkm⟩],[Lq 2 0,Cq 3 63 ([2]),Lq 4 0,Cq 5 63 ([4]),Lq 6 0,Cq 7 63 ([6]),Lq 8 0,Cq 9 63 ([8]),Lq 10 0,Cq 11 67 ([10]),Lq 12 0,Cq 13 67 ([12]),Lq 14 0,Cq 15 64 ([14]),Lq 16 0,Cq 17 67 ([16]),Lq 18 0],[Cq 19 64 ([18])],[Rq 20 (.build Aan [(0,1,3),(1,1,5),(2,1,7),(3,1,9),(4,1,11),(5,1,13),(6,1,15),(7,1,17),(8,1,19)])],[Sq 9 1 20]]) (.ret))
theorem Je:Cr Tryz.prog 69 1=some (I9,[(1,some (true,9))]):=by kernel_rfl
def Ia:Ag:=
 .seq (.reg [Rq 6 (.mv (.const (.slice none 0 0)))]) (.seq (.reg [Mq 9 0,Cq 10 67 ([9]),Mq 7 10]) (.seq (.seq (.reg [Mq 11 7,Bq 12 .lss 11 (Kq 0),Mq 13 12,Hq 14 13 false 7,Hq 15 13 false 1,Gq 16 13 false (.bin .gtr 14 15),Rq 17 (.pick 13 (.const (.bool true)) 16)]) (.cond 17 (.reg [Rq 18 (.build [] []),Rq 19 (.mki 61 18),⟨none,none,.die 19⟩]) (.skip))) (.seq (.reg [Rq 8 (.mv (.const (.slice none 0 0)))]) (.seq (.seq (.reg [Mq 20 7,Nq 21 0]) (.block 0 (.loop (.seq (.reg [Bq 22 .lss 21 20]) (.seq (.cond 22 (.skip) (.exit 0)) (.seq (.block 1 (.reg [Mq 23 8,Mq 24 2,Rq 25 (.call 24 []),Rq 26 (.mks 54 3 1 [(.string ⟨#[]⟩),(.int .i64 0),(.int .i64 0)] [(0,25)]),Rq 27 (.app 54 3 32 (.agg #[(.string ⟨#[]⟩),(.int .i64 0),(.int .i64 0)]) 23 26),Mq 8 27])) (.reg [Bq 28 .add 21 (Kq 1),Mq 21 28]))))))) (.seq (.reg [Mq 29 8,Mq 6 29]) (.ret))))))
theorem H3:Ao Tryz.prog 70 3=some (Ia,[6]):=by kernel_rfl
def It:Ag:=
 .seq (.reg [Rq 1 (.zbox 54 [(.string ⟨#[]⟩),(.int .i64 0),(.int .i64 0)])]) (.seq (.dreg [[],[⟨none,none,.mkm⟩,⟨none,none,.mkm⟩],[Lq 2 0,Cq 3 63 ([2]),Lq 4 0,Cq 5 67 ([4]),Lq 6 0],[Cq 7 67 ([6])],[Rq 8 (.build [(.string ⟨#[]⟩),(.int .i64 0),(.int .i64 0)] [(0,1,3),(1,1,5),(2,1,7)])],[Sq 3 1 8]]) (.ret))
theorem Ip:Cr Tryz.prog 71 1=some (It,[(1,some (true,3))]):=by kernel_rfl
def Jy:Ag:=
 .seq (.reg [Rq 6 (.mv (.const (.slice none 0 0)))]) (.seq (.reg [Mq 9 0,Cq 10 67 ([9]),Mq 7 10]) (.seq (.seq (.reg [Mq 11 7,Bq 12 .lss 11 (Kq 0),Mq 13 12,Hq 14 13 false 7,Hq 15 13 false 1,Gq 16 13 false (.bin .gtr 14 15),Rq 17 (.pick 13 (.const (.bool true)) 16)]) (.cond 17 (.reg [Rq 18 (.build [] []),Rq 19 (.mki 61 18),⟨none,none,.die 19⟩]) (.skip))) (.seq (.reg [Rq 8 (.mv (.const (.slice none 0 0)))]) (.seq (.seq (.reg [Mq 20 7,Nq 21 0]) (.block 0 (.loop (.seq (.reg [Bq 22 .lss 21 20]) (.seq (.cond 22 (.skip) (.exit 0)) (.seq (.block 1 (.reg [Mq 23 8,Mq 24 2,Rq 25 (.call 24 []),Rq 26 (.mks 58 6 1 Zb [(0,25)]),Rq 27 (.app 58 6 56 (.agg #[(.string ⟨#[]⟩),(.int .i64 0),(.int .i64 0),(.int .i64 0),(.int .i64 0),(.int .i64 0)]) 23 26),Mq 8 27])) (.reg [Bq 28 .add 21 (Kq 1),Mq 21 28]))))))) (.seq (.reg [Mq 29 8,Mq 6 29]) (.ret))))))
theorem Kd:Ao Tryz.prog 72 3=some (Jy,[6]):=by kernel_rfl
def Iu:Ag:=
 .seq (.reg [Rq 1 (.zbox 58 Zb)]) (.seq (.dreg [[],[⟨none,none,.mkm⟩,⟨none,none,.mkm⟩],[Lq 2 0,Cq 3 63 ([2]),Lq 4 0,Cq 5 67 ([4]),Lq 6 0,Cq 7 67 ([6]),Lq 8 0,Cq 9 67 ([8]),Lq 10 0,Cq 11 67 ([10]),Lq 12 0],[Cq 13 67 ([12])],[Rq 14 (.build Ak3 [(0,1,5),(1,1,7),(2,1,9),(3,1,11),(4,1,13)])],[Rq 15 (.build Zb [(0,1,3),(1,5,14)])],[Sq 6 1 15]]) (.ret))
theorem Jc:Cr Tryz.prog 73 1=some (Iu,[(1,some (true,6))]):=by kernel_rfl
def Rr:Ag:=
 .seq (.reg [Nq 2 0]) (.seq (.reg [Mq 3 0,Rq 4 (.mks 22 1 1 [(.slice none 0 0)] [(0,3)]),Cq 5 59 ([4]),Mq 2 5]) (.ret))
theorem Rz:Ao Tryz.prog 27 1=some (Rr,[2]):=by kernel_rfl
def Qn:Ag:=
 .seq (.reg [Nq 2 0]) (.seq (.reg [Mq 3 0,Rq 4 (.mks 23 1 1 [(.slice none 0 0)] [(0,3)]),Cq 5 60 ([4]),Mq 2 5]) (.ret))
theorem P8:Ao Tryz.prog 28 1=some (Qn,[2]):=by kernel_rfl
def R8:Ag:=
 .seq (.reg [Nq 2 0]) (.seq (.reg [Mq 3 0,Rq 4 (.mks 24 1 1 [(.slice none 0 0)] [(0,3)]),Cq 5 61 ([4]),Mq 2 5]) (.ret))
theorem Ro:Ao Tryz.prog 29 1=some (R8,[2]):=by kernel_rfl
def Tv:Ag:=
 .seq (.reg [Nq 2 0]) (.seq (.seq (.reg [Mq 6 0,Rq 7 (.len false 6),Nq 8 0]) (.block 0 (.loop (.seq (.reg [Bq 9 .lss 8 7]) (.seq (.cond 9 (.skip) (.exit 0)) (.seq (.block 1 (.seq (.reg [Iq 10 5 6 8,Rq 11 (.load true 5 10),Rq 4 (.zbox 47 [(.string ⟨#[]⟩),(.int .i64 0),(.int .i64 0),(.int .i64 0),(.bool false)]),Sq 5 4 11]) (.seq (.reg [Rq 12 (.load true 5 4),Cq 13 76 ([12]),Mq 5 13]) (.seq (.reg [Mq 14 5,Bq 15 .neq 14 (Kq 0)]) (.cond 15 (.seq (.reg [Mq 16 5,Mq 2 16]) (.ret)) (.skip)))))) (.reg [Bq 17 .add 8 (Kq 1),Mq 8 17]))))))) (.seq (.reg [Nq 2 0]) (.ret)))
theorem Ti:Ao Tryz.prog 58 1=some (Tv,[2]):=by kernel_rfl
def Rm:Ag:=
 .seq (.reg [Nq 2 0]) (.seq (.seq (.reg [Mq 7 0,Rq 8 (.len false 7),Nq 9 0]) (.block 0 (.loop (.seq (.reg [Bq 10 .lss 9 8]) (.seq (.cond 10 (.skip) (.exit 0)) (.seq (.block 1 (.seq (.reg [Iq 11 1 7 9,Lq 12 11,Mq 4 12]) (.seq (.seq (.reg [Mq 13 4,Rq 14 (.len false 13),Bq 15 .gtr 14 (Kq 20)]) (.cond 15 (.seq (.reg [Nq 2 2]) (.ret)) (.skip))) (.seq (.seq (.reg [Mq 16 4,Cq 17 58 ([16]),Mq 5 17]) (.seq (.reg [Mq 18 5,Bq 19 .neq 18 (Kq 0)]) (.cond 19 (.seq (.reg [Mq 20 5,Mq 2 20]) (.ret)) (.skip)))) (.seq (.reg [Nq 6 1]) (.block 2 (.loop (.seq (.seq (.reg [Mq 21 6,Mq 22 4,Rq 23 (.len false 22),Bq 24 .lss 21 23]) (.cond 24 (.skip) (.exit 2))) (.seq (.block 3 (.seq (.dreg [[Mq 27 4,Mq 28 6,Iq 29 5 27 28,Fq 30 0 29,Lq 31 30,Mq 32 4,Mq 33 6,Bq 34 .sub 33 (Kq 1),Iq 35 5 32 34,Fq 36 0 35,Lq 37 36],[Bq 38 .leq 31 37]]) (.cond 38 (.seq (.reg [Nq 2 4]) (.ret)) (.skip)))) (.reg [Mq 25 6,Bq 26 .add 25 (Kq 1),Mq 6 26])))))))))) (.reg [Bq 39 .add 9 (Kq 1),Mq 9 39]))))))) (.seq (.reg [Nq 2 0]) (.ret)))
theorem Rk:Ao Tryz.prog 59 1=some (Rm,[2]):=by kernel_rfl
def Ql:Ag:=
 .seq (.reg [Nq 2 0]) (.seq (.seq (.reg [Mq 9 0,Rq 10 (.len false 9),Nq 11 0]) (.block 0 (.loop (.seq (.reg [Bq 12 .lss 11 10]) (.seq (.cond 12 (.skip) (.exit 0)) (.seq (.block 1 (.seq (.reg [Iq 13 1 9 11,Lq 14 13,Mq 4 14]) (.seq (.seq (.reg [Mq 15 4,Rq 16 (.len false 15),Bq 17 .gtr 16 (Kq 40)]) (.cond 17 (.seq (.reg [Nq 2 2]) (.ret)) (.skip))) (.seq (.seq (.reg [Mq 18 4,Rq 19 (.len false 18),Nq 20 0]) (.block 2 (.loop (.seq (.reg [Bq 21 .lss 20 19]) (.seq (.cond 21 (.skip) (.exit 2)) (.seq (.block 3 (.seq (.reg [Iq 22 9 18 20,Rq 23 (.load true 9 22),Rq 6 (.zbox 52 [(.string ⟨#[]⟩),(.string ⟨#[]⟩),(.string ⟨#[]⟩),(.string ⟨#[]⟩),(.int .i64 0),(.int .i64 0),(.bool false),(.int .i64 0),(.bool false)]),Sq 9 6 23]) (.seq (.reg [Rq 24 (.load true 9 6),Cq 25 77 ([24]),Mq 7 25]) (.seq (.reg [Mq 26 7,Bq 27 .neq 26 (Kq 0)]) (.cond 27 (.seq (.reg [Mq 28 7,Mq 2 28]) (.ret)) (.skip)))))) (.reg [Bq 29 .add 20 (Kq 1),Mq 20 29]))))))) (.seq (.reg [Nq 8 1]) (.block 4 (.loop (.seq (.seq (.reg [Mq 30 8,Mq 31 4,Rq 32 (.len false 31),Bq 33 .lss 30 32]) (.cond 33 (.skip) (.exit 4))) (.seq (.block 5 (.seq (.dreg [[Mq 36 4,Mq 37 8,Bq 38 .sub 37 (Kq 1),Iq 39 9 36 38,Rq 40 (.load true 9 39),Mq 41 4,Mq 42 8,Iq 43 9 41 42,Rq 44 (.load true 9 43)],[Cq 45 78 ([40,44])],[Bq 46 .geq 45 (Kq 0)]]) (.cond 46 (.seq (.reg [Nq 2 4]) (.ret)) (.skip)))) (.reg [Mq 34 8,Bq 35 .add 34 (Kq 1),Mq 8 35])))))))))) (.reg [Bq 47 .add 11 (Kq 1),Mq 11 47]))))))) (.seq (.reg [Nq 2 0]) (.ret)))
theorem Qv:Ao Tryz.prog 60 1=some (Ql,[2]):=by kernel_rfl
def Rl:Ag:=
 .seq (.reg [Nq 2 0]) (.seq (.seq (.reg [Mq 9 0,Rq 10 (.len false 9),Nq 11 0]) (.block 0 (.loop (.seq (.reg [Bq 12 .lss 11 10]) (.seq (.cond 12 (.skip) (.exit 0)) (.seq (.block 1 (.seq (.reg [Iq 13 1 9 11,Lq 14 13,Mq 4 14]) (.seq (.seq (.reg [Mq 15 4,Rq 16 (.len false 15),Bq 17 .gtr 16 (Kq 6)]) (.cond 17 (.seq (.reg [Nq 2 2]) (.ret)) (.skip))) (.seq (.seq (.reg [Mq 18 4,Rq 19 (.len false 18),Nq 20 0]) (.block 2 (.loop (.seq (.reg [Bq 21 .lss 20 19]) (.seq (.cond 21 (.skip) (.exit 2)) (.seq (.block 3 (.seq (.reg [Iq 22 3 18 20,Rq 23 (.load true 3 22),Rq 6 (.zbox 54 [(.string ⟨#[]⟩),(.int .i64 0),(.int .i64 0)]),Sq 3 6 23]) (.seq (.reg [Rq 24 (.load true 3 6),Cq 25 79 ([24]),Mq 7 25]) (.seq (.reg [Mq 26 7,Bq 27 .neq 26 (Kq 0)]) (.cond 27 (.seq (.reg [Mq 28 7,Mq 2 28]) (.ret)) (.skip)))))) (.reg [Bq 29 .add 20 (Kq 1),Mq 20 29]))))))) (.seq (.reg [Nq 8 1]) (.block 4 (.loop (.seq (.seq (.reg [Mq 30 8,Mq 31 4,Rq 32 (.len false 31),Bq 33 .lss 30 32]) (.cond 33 (.skip) (.exit 4))) (.seq (.block 5 (.seq (.dreg [[Mq 36 4,Mq 37 8,Iq 38 3 36 37,Fq 39 0 38,Lq 40 39,Mq 41 4,Mq 42 8,Bq 43 .sub 42 (Kq 1),Iq 44 3 41 43,Fq 45 0 44,Lq 46 45],[Bq 47 .leq 40 46]]) (.cond 47 (.seq (.reg [Nq 2 4]) (.ret)) (.skip)))) (.reg [Mq 34 8,Bq 35 .add 34 (Kq 1),Mq 8 35])))))))))) (.reg [Bq 48 .add 11 (Kq 1),Mq 11 48]))))))) (.seq (.reg [Nq 2 0]) (.ret)))
theorem R4:Ao Tryz.prog 61 1=some (Rl,[2]):=by kernel_rfl
def T3:Ag:=
 .seq (.reg [Rq 1 (.box 56 5 0),Nq 2 0]) (.seq (.reg [Rq 3 (.mv (.func 80))]) (.seq (.seq (.reg [Mq 4 3,Fq 5 0 1,Lq 6 5,Rq 7 (.call 4 [6]),Rq 8 (.not 7),Mq 9 8,Hq 10 9 false 3,Gq 11 9 false (.fldA 1 1),Gq 12 9 false (.load false 1 11),Gq 13 9 false (.call 10 [12]),Gq 14 9 false (.not 13),Rq 15 (.pick 9 (.const (.bool true)) 14),Mq 16 15,Hq 17 16 false 3,Gq 18 16 false (.fldA 2 1),Gq 19 16 false (.load false 1 18),Gq 20 16 false (.call 17 [19]),Gq 21 16 false (.not 20),Rq 22 (.pick 16 (.const (.bool true)) 21),Mq 23 22,Gq 24 23 false (.fldA 3 1),Gq 25 23 false (.load false 1 24),Gq 26 23 false (.call (.func 81) [25,(Kq 0),(Kq 1000000)]),Gq 27 23 false (.not 26),Rq 28 (.pick 23 (.const (.bool true)) 27),Mq 29 28,Gq 30 29 false (.fldA 4 1),Gq 31 29 false (.load false 1 30),Gq 32 29 false (.call (.func 81) [31,(Kq 0),(Kq 1000)]),Gq 33 29 false (.not 32),Rq 34 (.pick 29 (.const (.bool true)) 33)]) (.cond 34 (.seq (.reg [Nq 2 3]) (.ret)) (.skip))) (.seq (.reg [Nq 2 0]) (.ret))))
theorem Ss:Ao Tryz.prog 62 1=some (T3,[2]):=by kernel_rfl
def U3:Ag:=
 .seq (.reg [Rq 1 (.box 47 5 0),Nq 2 0]) (.seq (.block 0 (.seq (.reg [Fq 4 0 1,Lq 5 4,Cq 6 25 ([5]),Rq 7 (.not 6),Mq 3 7]) (.cond 3 (.seq (.reg [Nq 2 1]) (.ret)) (.seq (.reg [Fq 9 1 1,Lq 10 9,Cq 11 86 ([10,(Kq 1),(Kq 4)]),Rq 12 (.not 11),Mq 8 12]) (.cond 8 (.seq (.reg [Nq 2 7]) (.ret)) (.seq (.reg [Fq 14 2 1,Lq 15 14,Cq 16 86 ([15,(Kq 1),(Kq 1000000)]),Rq 17 (.not 16),Mq 18 17,Gq 19 18 false (.fldA 3 1),Gq 20 18 false (.load false 1 19),Gq 21 18 false (.call (.func 86) [20,(Kq 0),(Kq 4294967295)]),Gq 22 18 false (.not 21),Rq 23 (.pick 18 (.const (.bool true)) 22),Mq 13 23]) (.cond 13 (.seq (.reg [Nq 2 3]) (.ret)) (.skip)))))))) (.seq (.reg [Nq 2 0]) (.ret)))
theorem U2:Ao Tryz.prog 76 1=some (U3,[2]):=by kernel_rfl
def S7:Ag:=
 .seq (.reg [Rq 1 (.box 52 9 0),Nq 2 0]) (.seq (.block 0 (.seq (.reg [Fq 4 0 1,Lq 5 4,Cq 6 25 ([5]),Rq 7 (.not 6),Mq 8 7,Gq 9 8 false (.fldA 1 1),Gq 10 8 false (.load false 1 9),Gq 11 8 false (.call (.func 25) [10]),Gq 12 8 false (.not 11),Rq 13 (.pick 8 (.const (.bool true)) 12),Mq 14 13,Gq 15 14 false (.fldA 2 1),Gq 16 14 false (.load false 1 15),Gq 17 14 false (.call (.func 25) [16]),Gq 18 14 false (.not 17),Rq 19 (.pick 14 (.const (.bool true)) 18),Mq 20 19,Gq 21 20 false (.fldA 3 1),Gq 22 20 false (.load false 1 21),Gq 23 20 false (.call (.func 87) [22]),Gq 24 20 false (.not 23),Rq 25 (.pick 20 (.const (.bool true)) 24),Mq 3 25]) (.cond 3 (.seq (.reg [Nq 2 1]) (.ret)) (.seq (.reg [Fq 27 4 1,Lq 28 27,Cq 29 88 ([28,(Kq 0),(Kq 4294967295)]),Rq 30 (.not 29),Mq 31 30,Gq 32 31 false (.fldA 5 1),Gq 33 31 false (.load false 1 32),Gq 34 31 false (.call (.func 88) [33,(Kq 0),(Kq 65535)]),Gq 35 31 false (.not 34),Rq 36 (.pick 31 (.const (.bool true)) 35),Mq 37 36,Gq 38 37 false (.fldA 7 1),Gq 39 37 false (.load false 1 38),Gq 40 37 false (.call (.func 88) [39,(Kq 1),(Kq 1000000)]),Gq 41 37 false (.not 40),Rq 42 (.pick 37 (.const (.bool true)) 41),Mq 26 42]) (.cond 26 (.seq (.reg [Nq 2 3]) (.ret)) (.skip)))))) (.seq (.reg [Nq 2 0]) (.ret)))
theorem Sp:Ao Tryz.prog 77 1=some (S7,[2]):=by kernel_rfl
def Qs:Ag:=
 .seq (.reg [Rq 2 (.box 52 9 0),Rq 3 (.box 52 9 1),Nq 4 0]) (.seq (.dreg [[Fq 5 0 2,Lq 6 5,Fq 7 0 3,Lq 8 7,Cq 9 90 ([6,8]),Fq 10 1 2,Lq 11 10,Fq 12 1 3,Lq 13 12],[Cq 14 90 ([11,13])],[Rq 15 (.mks 3 1 2 [(.int .i64 0)] [(0,9),(1,14)])],[Cq 16 89 ([15])],[Mq 4 16]]) (.ret))
theorem P5:Ao Tryz.prog 78 2=some (Qs,[4]):=by kernel_rfl
def U0:Ag:=
 .seq (.reg [Rq 1 (.box 54 3 0),Nq 2 0]) (.seq (.block 0 (.seq (.reg [Fq 4 0 1,Lq 5 4,Cq 6 25 ([5]),Rq 7 (.not 6),Mq 3 7]) (.cond 3 (.seq (.reg [Nq 2 1]) (.ret)) (.seq (.reg [Fq 9 1 1,Lq 10 9,Cq 11 91 ([10,(Kq 0),(Kq 4294967295)]),Rq 12 (.not 11),Mq 13 12,Gq 14 13 false (.fldA 2 1),Gq 15 13 false (.load false 1 14),Gq 16 13 false (.call (.func 91) [15,(Kq 1),(Kq 1000000)]),Gq 17 13 false (.not 16),Rq 18 (.pick 13 (.const (.bool true)) 17),Mq 8 18]) (.cond 8 (.seq (.reg [Nq 2 3]) (.ret)) (.skip)))))) (.seq (.reg [Nq 2 0]) (.ret)))
theorem U4:Ao Tryz.prog 79 1=some (U0,[2]):=by kernel_rfl
def Qc:Ag:=
 .seq (.reg [Rq 2 (.mv (.const (.bool false)))]) (.seq (.reg [Mq 3 0,Cq 4 81 ([3,(.const (.int .i64 (-10000000))),(Kq 10000000)]),Mq 2 4]) (.ret))
theorem P1:Ao Tryz.prog 80 1=some (Qc,[2]):=by kernel_rfl
def Rp:Ag:=
 .seq (.reg [Rq 6 (.mv (.const (.bool false)))]) (.seq (.reg [Mq 7 0,Mq 8 1,Bq 9 .geq 7 8,Mq 10 9,Hq 11 10 true 0,Hq 12 10 true 2,Gq 13 10 true (.bin .leq 11 12),Rq 14 (.pick 10 13 (.const (.bool false))),Mq 6 14]) (.ret))
theorem Rv:Ao Tryz.prog 81 3=some (Rp,[6]):=by kernel_rfl
def T4:Ag:=
 .seq (.reg [Rq 4 (.mv (.const (.string ⟨#[]⟩))),Rq 5 (.mv (.const (.string ⟨#[]⟩))),Rq 6 (.mv (.const (.bool false)))]) (.seq (.reg [Mq 7 0,Mq 8 1,Cq 9 92 ([7,8]),Eq1 10 9 0,Eq1 11 9 1,Eq1 12 9 2,Mq 4 10,Mq 5 11,Mq 6 12]) (.ret))
theorem Mt:Ao Tryz.prog 82 2=some (T4,[4,5,6]):=by kernel_rfl
def Qf:Ag:=
 .seq (.reg [Rq 6 (.mv (.const (.bool false)))]) (.seq (.reg [Mq 7 0,Mq 8 1,Bq 9 .geq 7 8,Mq 10 9,Hq 11 10 true 0,Hq 12 10 true 2,Gq 13 10 true (.bin .leq 11 12),Rq 14 (.pick 10 13 (.const (.bool false))),Mq 6 14]) (.ret))
theorem Qp:Ao Tryz.prog 86 3=some (Qf,[6]):=by kernel_rfl
def P7:Ag:=
 .seq (.reg [Rq 2 (.mv (.const (.bool false)))]) (.seq (.reg [Mq 3 0,Rq 4 (.bin .eql 3 (.const (.string ⟨#[]⟩))),Mq 5 4,Hq 6 5 false 0,Gq 7 5 false (.call (.func 25) [6]),Rq 8 (.pick 5 (.const (.bool true)) 7),Mq 2 8]) (.ret))
theorem Qk:Ao Tryz.prog 87 1=some (P7,[2]):=by kernel_rfl
def Of:Ag:=
 .seq (.reg [Rq 6 (.mv (.const (.bool false)))]) (.seq (.reg [Mq 7 0,Mq 8 1,Bq 9 .geq 7 8,Mq 10 9,Hq 11 10 true 0,Hq 12 10 true 2,Gq 13 10 true (.bin .leq 11 12),Rq 14 (.pick 10 13 (.const (.bool false))),Mq 6 14]) (.ret))
theorem Oh:Ao Tryz.prog 88 3=some (Of,[6]):=by kernel_rfl
def U6:Ag:=
 .seq (.reg [Nq 2 0]) (.seq (.reg [Nq 3 0]) (.seq (.seq (.reg [Mq 6 0,Rq 7 (.len false 6),Nq 8 0]) (.block 0 (.loop (.seq (.reg [Bq 9 .lss 8 7]) (.seq (.cond 9 (.skip) (.exit 0)) (.seq (.block 1 (.seq (.reg [Iq 10 1 6 8,Lq 11 10,Mq 5 11]) (.seq (.reg [Mq 12 5,Mq 13 3,Bq 14 .neq 12 13]) (.cond 14 (.seq (.reg [Mq 15 5,Mq 2 15]) (.ret)) (.skip))))) (.reg [Bq 16 .add 8 (Kq 1),Mq 8 16]))))))) (.seq (.reg [Mq 17 3,Mq 2 17]) (.ret))))
theorem Uw:Ao Tryz.prog 89 1=some (U6,[2]):=by kernel_rfl
def Qm:Ag:=
 .seq (.reg [Rq 6 (.mv (.const (.bool false)))]) (.seq (.reg [Mq 7 0,Mq 8 1,Bq 9 .geq 7 8,Mq 10 9,Hq 11 10 true 0,Hq 12 10 true 2,Gq 13 10 true (.bin .leq 11 12),Rq 14 (.pick 10 13 (.const (.bool false))),Mq 6 14]) (.ret))
theorem Qa:Ao Tryz.prog 91 3=some (Qm,[6]):=by kernel_rfl

def Afv(T:TypeId)(b:Nat)(v:Value)(bs:List Value)(w:World):Prop:=
 (∃p,(p=.pointer none∨p=.pointer (some ⟨b,0,none⟩))∧w.heap[b]? =some (.cells #[p,v] T (0,0)))∧w.ownsRow 0 5 1 v bs.length bs∧v.ownBlock≠some b
theorem heap_set{b:Nat}{w:World}{cs:Array Value}{T:TypeId}{fr:Nat×Nat}(hb:w.heap[b]? =some (.cells cs T fr))(i:Nat)(x:Value):(w.setCell ⟨b,i,none⟩ x).heap[b]? =some (.cells (cs.setIfInBounds i x) T fr):=by
 have hlt:b<w.heap.size:=(XL.1 hb).1;simp[World.setCell,Array.getElem?_modify,hb]
theorem Ui{b k:Nat}{w:World}(hk:k≠b)(i:Nat)(x:Value):(w.setCell ⟨b,i,none⟩ x).heap[k]? =w.heap[k]? :=by
 have:b≠k:=fun e=>hk e.symm;simp[World.setCell,Array.getElem?_modify,this]
theorem Afg(b i:Nat)(x:Value)(w:World):w.grownBy (w.setCell ⟨b,i,none⟩ x) (some b):=⟨rfl,rfl,rfl,by simp,fun k hk hn=>Ui (fun e=>hn (by rw[e])) i x⟩
theorem Zp{b:Nat}{w:World}{L:Nat→Prop}(hL:L b)(i:Nat)(x:Value):Fr L w (w.setCell ⟨b,i,none⟩ x):=
 ⟨rfl,rfl,rfl,by simp,fun k hk hn=>Ui (fun e=>hn (by rw[e];exact hL)) i x⟩
set_option maxHeartbeats 1000000 in
set_option maxRecDepth 100000 in
theorem U1(T:TypeId)(hT:liesAt Tryz.prog Tryz.prog.depth T (2/Tryz.prog.cellsOf T) 0 81 1=true)(b:Nat)(v:Value)(bs:List Value)(w:World)(h:Afv T b v bs w):
  Calls Tryz.prog 84 #[.pointer (some ⟨b,0,none⟩)] w fun e w'=>e=.returned (.tuple #[])∧w'.heap[b]? =some (.cells #[.pointer (some ⟨b,0,none⟩),v] T (0,0))∧w'.ownsRow 0 5 1 v bs.length bs∧Fr (fun k=>k=b) w w':=by
 obtain⟨⟨p,hp,hbk⟩,hown,hne⟩:=h;obtain⟨j,hj,hjs⟩:=Option.map_eq_some_iff.1 (show(Tryz.prog.info? 81).map (·.size)=some 2 by kernel_rfl);have h0:w.cell? ⟨b,0,none⟩=some p:=by rw[Lib.cell_of_heap hbk];rfl
 have hsh:w.shape? b=some (T,2):=by simp[World.shape?,hbk]
 have hfz:w.frozen? ⟨b,0,none⟩=false:=Lib.frozen_of_heap hbk 0;rcases hp with rfl|rfl
 ·go_enter Tryz.func84,Tryz.ntmps84
  go_wp2
  rw[Lib.run_to_unsafe w ⟨b,0,none⟩ Tryz.underlying78 Tryz.underlying129 hj (by rw[hjs];decide) hsh (Nat.zero_lt_succ 1)];simp only[Result.andThen];rw[Oper.upon_value]
  go_wp2
  rw[run_callFunc_extern Tryz.func95 (by kernel_rfl) (by kernel_rfl) (by kernel_rfl) (e:=Extern.AbiNoEscape.same) (by kernel_rfl)];rw[Lib.run_noEscape];simp only[Result.andThen];rw[Oper.upon_value]
  go_wp2
  rw[Lib.run_from_unsafe w ⟨b,0,none⟩ Tryz.underlying129 Tryz.underlying78 hj hsh hT];simp only[Result.andThen];rw[Oper.upon_value]
  go_wp2
  go_end0
  refine⟨rfl,?_,?_,Zp (L:=fun k=>k=b) rfl _ _⟩
  ·rw[heap_set hbk];rfl
  ·exact hown.kept (Afg _ _ _ _) (.inr hne)
 ·go_enter Tryz.func84,Tryz.ntmps84
  go_wp2
  rw[Lib.run_neq_ptr_same w _ Tryz.underlying78 hj]
  go_wp2
  go_end0
  exact⟨rfl,hbk,hown,Fr.refl _ _⟩
theorem Agd:(Tryz.prog.info? 5).map (fun i=>(i.zero,i.size,i.bytes))=some (some (.int .u8 0),1,1):=by kernel_rfl
theorem C6{L L':Nat→Prop}{w w':World}(h:Fr L w w')(hL:∀k,L k→L' k):Fr L' w w':=
 ⟨h.os,h.tape,h.output,h.size,fun k hk hn=>h.block k hk fun q=>hn (hL k q)⟩
theorem Ag9{L:Nat→Prop}{w w':World}{row:Option Nat}(hg:w.grownBy w' row)(hr:∀k,row=some k→L k):Fr L w w':=
 ⟨hg.os,hg.tape,hg.output,hg.size,fun k hk hn=>hg.block k hk fun e=>hn (hr k e.symm)⟩
def Ab0(T:TypeId)(b:Nat)(v:Value)(bs:List Value)(w w':World):Prop:=
 ∃v',Afv T b v' bs w'∧Fr (fun k=>k=b∨v.ownBlock=some k) w w'∧∀k,v'.ownBlock=some k→v.ownBlock=some k∨w.heap.size≤k
theorem Xv{P:Program}{w:World}{t u ty e:TypeId}{i:TypeInfo}(ht:P.underlying t=some (.slice e))(hu:P.underlying u=some .string)(hi:P.info? e=some i)(hz:i.zero=some (.int .u8 0))(hsize:i.size=1)(hby:i.bytes=1){v:Value}{n:Nat}{xs:List Value}(hown:w.ownsRow 0 e 1 v n xs)(s:ByteArray)(h63:n+s.size≤maxLen)(hbytes:n+s.size≤140737488355328){v':Value}{w':World}(hr:(Builtin.append_ #[t,u] ty #[v,.string s]).run P w=.ok v' w'):(v'.ownBlock=v.ownBlock∨v'.ownBlock=some w.heap.size):=by
 have hsmall:n+s.size≤9223372036854775807:=by simp only[maxLen]at h63;omega
 have hxl:xs.length=n:=by simpa using hown.1
 rcases hown.2 with⟨rfl,rfl⟩|⟨g,cap,cur,rfl,hbg,hg,hnc,hcm,hcs,htake⟩
 ·by_cases hm:s.size=0
  ·have h:(Builtin.append_ #[t,u] ty #[.slice none 0 0,.string s]).run P w=.ok (.slice none 0 0) w:=by
    have hf:=Lib.run_firstCells_string (P:=P) w 1 s;rw[hm]at hf;simp[Builtin.append_,run_underlying ht,run_underlying hu,sizeOf,typeInfo,hi,hsize,Builtin.lenOf,hm,hf]
   rw[h]at hr;injection hr with h1 h2
   subst h1 h2;exact .inl rfl
  ·have h:=run_append_nil_string (P:=P) w t u ty e i (.int .u8 0) ht hu hi hz s (by omega) (by omega) (by rw[hby];omega);rw[h]at hr;injection hr with h1 h2
   subst h1 h2;exact .inr rfl
 ·by_cases hroom:n+s.size≤cap
  ·have hcs':cur.size=cap:=by simpa using hcs
   have h:=Lib.run_append_room_string (P:=P) w t u ty e i ht hu hi hsize g n cap cur hg s hroom (by omega);rw[h]at hr;injection hr with h1 h2
   subst h1 h2;exact .inl rfl
  ·have holds:∀j u,xs[j]? =some u→w.cell? ((⟨g,0,none⟩:Addr).add j)=some u:=hown.cells (g:=g) rfl;have h:=Lib.run_append_grow_string (P:=P) w t u ty e i (.int .u8 0) ht hu hi hz ⟨g,0,none⟩ n cap xs (by rw[hsize];simpa using hxl) holds s (by omega) (by omega) (by rw[hby];exact growslice_fits (by omega) (by omega));rw[h]at hr;injection hr with h1 h2
   subst h1 h2;exact .inr rfl
theorem Tk{P:Program}{w:World}{ops:Array Oper}{rest:List Oper}{o:Oper}{a:Act}{Q:Exit→Act→World→Prop}(hgd:o.guard=none)(sl x:Operand)(t u:TypeId)(ho:o.op=.call {callee:=.builtin .append,args:= #[sl,x],argTypes:= #[t,u]})(e:TypeId)(i:TypeInfo)(ht:P.underlying t=some (.slice e))(hu:P.underlying u=some .string)(hi:P.info? e=some i)(hz:i.zero=some (.int .u8 0))(hsize:i.size=1)(hby:i.bytes=1)(v:Value)(n:Nat)(xs:List Value)(hs:a.eval sl=v)(hown:w.ownsRow 0 e 1 v n xs)(s:ByteArray)(hx:a.eval x=.string s)(h63:n+s.size≤maxLen)(hbytes:n+s.size≤140737488355328)(h:∀v' w',w'.ownsRow 0 e 1 v' (n+s.size) (xs++Lib.strCells s)→w.grownBy w' v.ownBlock→(v'.ownBlock=v.ownBlock∨v'.ownBlock=some w.heap.size)→wpList P ops Q rest (a.put o.dst v') w'):wpList P ops Q (o::rest) a w:=by
 refine wpList_plain hgd fun K hK=>?_;obtain⟨v',w',hr,h2,h3,_⟩:=Lib.run_append_own_string (P:=P) w 0 t u o.type e i ht hu hi hz hsize hby v n xs hown s h63 hbytes (ZU _);have hb:=Xv ht hu hi hz hsize hby hown s h63 hbytes hr;unfold Oper.wp execOp;simp only[ho,resolve,invoke,builtin,Sem.run_bind,Sem.run_pure,Result.andThen_ok,List.map_toArray,List.map_cons,List.map_nil,hs,hx,hr];exact hK _ _ (h v' w' h2 h3 hb)
theorem Ai4{w:World}{e T:TypeId}{v:Value}{n:Nat}{xs:List Value}{b:Nat}{cs:Array Value}{fr:Nat×Nat}(hown:w.ownsRow 0 e 1 v n xs)(hb:w.heap[b]? =some (.cells cs T fr))(hTe:T≠e):v.ownBlock≠some b:=fun q=>by
 rcases hown.2 with⟨rfl,_⟩|⟨g,cap,cur,rfl,_,hg,_⟩
 ·cases q
 ·have:g=b:=by simpa[Value.ownBlock]using q
  subst this;rw[hb]at hg;injection hg with hg
  injection hg with _ hg _;exact hTe hg
theorem Agz{T:TypeId}(hTe:T≠5){b:Nat}{v v':Value}{bs bs':List Value}{w w1 w2:World}(hbk:w1.heap[b]? =some (.cells #[.pointer (some ⟨b,0,none⟩),v] T (0,0)))(hown':w2.ownsRow 0 5 1 v' bs'.length bs')(hb2:w2.heap[b]? =some (.cells #[.pointer (some ⟨b,0,none⟩),v] T (0,0)))(hfr:Fr (fun k=>k=b) w w1)(hfr2:Fr (fun k=>k=b∨v.ownBlock=some k) w1 w2)(hbl:∀k,v'.ownBlock=some k→v.ownBlock=some k∨w.heap.size≤k):
  Ab0 T b v bs' w (w2.setCell ⟨b,1,none⟩ v'):=by
 have hne:=Ai4 hown' hb2 hTe;refine⟨v',⟨⟨_,.inr rfl,by rw[heap_set hb2];rfl⟩,hown'.kept (Afg _ _ _ _) (.inr hne),hne⟩,?_,hbl⟩;exact(C6 hfr fun k q=>.inl q).trans (hfr2.trans (Zp (.inl rfl) _ _))
set_option maxHeartbeats 2000000 in
set_option maxRecDepth 100000 in
theorem Rj(T:TypeId)(hT:liesAt Tryz.prog Tryz.prog.depth T (2/Tryz.prog.cellsOf T) 0 81 1=true)(hTe:T≠5)(b:Nat)(v:Value)(bs:List Value)(s:ByteArray)(w:World)(h:Afv T b v bs w)(hlen:bs.length+s.size≤140737488355328):
  Calls Tryz.prog 74 #[.pointer (some ⟨b,0,none⟩),.string s] w fun e w'=>e=.returned (.tuple #[.int .i64 s.size,.nilIface])∧Ab0 T b v (bs++Lib.strCells s) w w':=by
 obtain⟨i0,hi,hz0,hz1,hz2⟩:=info_parts Agd;have hne:=h.2.2
 go_enter Tryz.func74,Tryz.ntmps74
 go_wp2_with (go_at_call 84;refine(U1 T hT b v bs _ h).mono ?_)
 rintro e w1 ⟨rfl,hbk,hown,hfr⟩
 have c0:w1.cell? ⟨b,0,none⟩=some (.pointer (some ⟨b,0,none⟩)):=by rw[Lib.cell_of_heap hbk];rfl
 have c1:w1.cell? ⟨b,1,none⟩=some v:=by rw[Lib.cell_of_heap hbk];rfl
 go_wp2_with (at_builtin;refine Tk rfl _ _ 79 9 rfl 5 i0 Tryz.underlying79 Tryz.underlying9 hi hz0 hz1 hz2 _ _ _ rfl hown s rfl ?c3 ?c4 ?_)
 case c3=>unfold maxLen;omega
 case c4=>omega
 intro v' w2 hown' hgrow hblk;have hlt:b<w1.heap.size:=(XL.1 hbk).1;have hb2:w2.heap[b]? =some (.cells #[.pointer (some ⟨b,0,none⟩),v] T (0,0)):=by
  rw[hgrow.block b hlt (fun e=>hne e.symm)];exact hbk
 have d0:w2.cell? ⟨b,0,none⟩=some (.pointer (some ⟨b,0,none⟩)):=by rw[Lib.cell_of_heap hb2];rfl
 have d1:w2.cell? ⟨b,1,none⟩=some v:=by rw[Lib.cell_of_heap hb2];rfl
 have f1:w2.frozen? ⟨b,1,none⟩=false:=Lib.frozen_of_heap hb2 1;obtain⟨ao,n',cap,hv'⟩:∃ao n' cap,v'=.slice ao n' cap:=by
  rcases hown'.2 with⟨q,_⟩|⟨g,cap,cur,q,_⟩
  ·exact⟨_,_,_,q⟩
  ·exact⟨_,_,_,q⟩
 have fin:=Agz (bs:=bs) (bs':=bs++Lib.strCells s) hTe hbk (by simpa[Lib.strCells_length]using hown') hb2 hfr (Ag9 hgrow fun k q=>.inr q) (fun k hk=>by
  rcases hblk with q|q
  ·exact .inl (by rw[←q];exact hk)
  ·rw[q]at hk;injection hk with hk;right;have:=hfr.size;omega)
 subst hv'
 go_wp2
 go_ret2
 exact⟨rfl,fin⟩
set_option maxHeartbeats 1000000 in
set_option maxRecDepth 100000 in
theorem Z1(T:TypeId)(b:Nat)(v:Value)(l:List UInt8)(w:World)(h:Afv T b v (Lib.byteCells l) w)(h0:l≠[]):
  Calls Tryz.prog 52 #[.pointer (some ⟨b,0,none⟩)] w fun e w'=>e=.returned (.string ⟨l.toArray⟩)∧Fr (fun k=>k=b∨v.ownBlock=some k) w w':=by
 obtain⟨⟨p,_,hbk⟩,hown,hne⟩:=h;have hl0:l.length≠0:=by simpa using h0
 rw[Lib.byteCells_length]at hown;obtain⟨g,cap,cur,rfl,_,hg,hnc,hcm,hcs,htake⟩:=hown.2.resolve_left (fun q=>hl0 q.2);have c1:w.drew.cell? ⟨b,1,none⟩=some (.slice (some ⟨g,0,none⟩) l.length cap):=by
  have:w.drew.heap[b]? =some (.cells #[p,.slice (some ⟨g,0,none⟩) l.length cap] T (0,0)):=hbk;rw[Lib.cell_of_heap this];rfl
 have hSD:(Builtin.unsafeSliceData_ #[79] 118 #[.slice (some ⟨g,0,none⟩) l.length cap]).run Tryz.prog w.drew=.ok (.pointer (some ⟨g,0,none⟩)) w.drew:=
  Lib.run_unsafeSliceData_row _ _ _ _ _ _ (by omega)
 have hUS:(Builtin.unsafeString_ #[118,3] 9 #[.pointer (some ⟨g,0,none⟩),.int .i64 l.length]).run Tryz.prog w.drew=.ok (.string ⟨l.toArray⟩) (w.drew.freeze ⟨g,0,none⟩ l.length):=by
  refine Lib.run_unsafeString_row w.drew 118 3 9 5 Tryz.underlying118 (by kernel_rfl) g cur.size (by have hg':w.drew.heap[g]? =some (.cells cur 5 (0,0)):=hg;simp[World.shape?,hg']) l h0 (by omega) (by unfold maxLen at hcm;omega) ?_;intro j x hx;exact hown.cells (g:=g) rfl j (.int .u8 x.toNat) (by simp[Lib.byteCells,hx])
 have hfr:Fr (fun k=>k=b∨(Value.slice (some ⟨g,0,none⟩) l.length cap).ownBlock=some k) w (w.drew.freeze ⟨g,0,none⟩ l.length):=by
  unfold World.freeze;rw[if_neg hl0];refine⟨rfl,rfl,rfl,by simp,fun k hk hn=>?_⟩;have:g≠k:=fun e=>hn (.inr (by rw[e];rfl));simp[Array.getElem?_modify,this];rfl
 have mixed:Tryz.prog.follows .mixedOrders=true:=by kernel_rfl
 go_enter Tryz.func52,Tryz.ntmps52
 go_wp2
 go_region_o
 all_goals (go_wp2;go_ret;exact⟨rfl,hfr⟩)
end Go.Proofs.YteflnbjmjcbmmaaGreatDoor
