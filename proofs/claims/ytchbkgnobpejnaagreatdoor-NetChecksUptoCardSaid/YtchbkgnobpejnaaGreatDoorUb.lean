/- Texts of this claim, joined. -/
import Derived.Test.YtchbkgnobpejnaaGreatDoorRows
import Derived.Test.YtchbkgnobpejnaaGreatDoorYAbsQ
import Derived.Shelf.Strings.BuilderK
import Derived.Maps.AppendAt
import Derived.Lib.AppendStr
import Derived.Shelf.LaysC
import Derived.Shelf.LaysM
import Derived.Test.YtchbkgnobpejnaaGreatDoorProg
import Derived.Lib.AppendIntMem
import Derived.Shelf.Strconv.Itoa3
import Derived.Shelf.Strconv.AtoiAll
import Derived.Lib.LaidTab
import Derived.Lib.AtoiAllCases
import Derived.Lib.IndexLaws
import Derived.WalkLawsBesides
import Derived.BigGuardPart
import Derived.Deep.Light
import Derived.Laws.IdiomStrings
import Derived.SizedLaws
import Derived.Deep.Slices
import Derived.Laws.CopyRow
import Derived.Laws.CopyOwn
import Derived.Deep.RegionLaw
import Derived.Lib.AppendZerosOnto
import Derived.Lib.Overlaps
import Derived.Laws.Externs
import Derived.OwnWalk
import Derived.Deep.AppendLies
import Derived.Lib.Walk
import Derived.Lib.SliceRun
import Derived.Lib.JoinLaws
import Derived.Lib.AppendZeros
import Derived.WalkSpells
import Derived.Test.YtchbkgnobpejnaaGreatDoorUa
set_option linter.unusedSimpArgs false
set_option linter.unusedVariables false
namespace Go.Proofs.YtchbkgnobpejnaaGreatDoor
open Go Go.RowKit
def Akw(T:TypeId)(b:Nat)(v:Value)(bs:List Value)(w:World):Prop:=
 (∃p,(p=.pointer none∨p=.pointer (some ⟨b,0,none⟩))∧w.heap[b]? =some (.cells #[p,v] T (0,0)))∧w.ownsRow 0 5 1 v bs.length bs∧v.ownBlock≠some b
theorem heap_set{b:Nat}{w:World}{cs:Array Value}{T:TypeId}{fr:Nat×Nat}(hb:w.heap[b]? =some (.cells cs T fr))(i:Nat)(x:Value):(w.setCell ⟨b,i,none⟩ x).heap[b]? =some (.cells (cs.setIfInBounds i x) T fr):=by
 have hlt:b<w.heap.size:=(XL.1 hb).1;simp[World.setCell,Array.getElem?_modify,hb]
theorem W9{b k:Nat}{w:World}(hk:k≠b)(i:Nat)(x:Value):(w.setCell ⟨b,i,none⟩ x).heap[k]? =w.heap[k]? :=by
 have:b≠k:=fun e=>hk e.symm;simp[World.setCell,Array.getElem?_modify,this]
theorem Akz(b i:Nat)(x:Value)(w:World):w.grownBy (w.setCell ⟨b,i,none⟩ x) (some b):=⟨rfl,rfl,rfl,by simp,fun k hk hn=>W9 (fun e=>hn (by rw[e])) i x⟩
theorem Aen{b:Nat}{w:World}{L:Nat→Prop}(hL:L b)(i:Nat)(x:Value):Fr L w (w.setCell ⟨b,i,none⟩ x):=
 ⟨rfl,rfl,rfl,by simp,fun k hk hn=>W9 (fun e=>hn (by rw[e];exact hL)) i x⟩
set_option maxHeartbeats 1000000 in
set_option maxRecDepth 100000 in
theorem Yw(T:TypeId)(hT:liesAt Tryz.prog Tryz.prog.depth T (2/Tryz.prog.cellsOf T) 0 250 1=true)(b:Nat)(v:Value)(bs:List Value)(w:World)(h:Akw T b v bs w):
  Calls Tryz.prog 273 #[.pointer (some ⟨b,0,none⟩)] w fun e w'=>e=.returned (.tuple #[])∧w'.heap[b]? =some (.cells #[.pointer (some ⟨b,0,none⟩),v] T (0,0))∧w'.ownsRow 0 5 1 v bs.length bs∧Fr (fun k=>k=b) w w':=by
 obtain⟨⟨p,hp,hbk⟩,hown,hne⟩:=h;obtain⟨j,hj,hjs⟩:=Option.map_eq_some_iff.1 (show(Tryz.prog.info? 250).map (·.size)=some 2 by kernel_rfl);have h0:w.cell? ⟨b,0,none⟩=some p:=by rw[Lib.cell_of_heap hbk];rfl
 have hsh:w.shape? b=some (T,2):=by simp[World.shape?,hbk]
 have hfz:w.frozen? ⟨b,0,none⟩=false:=Lib.frozen_of_heap hbk 0;rcases hp with rfl|rfl
 ·go_enter Tryz.func273,Tryz.ntmps273
  go_wp2
  rw[Lib.run_to_unsafe w ⟨b,0,none⟩ Tryz.underlying248 Tryz.underlying306 hj (by rw[hjs];decide) hsh (Nat.zero_lt_succ 1)];simp only[Result.andThen];rw[Oper.upon_value]
  go_wp2
  rw[run_callFunc_extern Tryz.func278 (by kernel_rfl) (by kernel_rfl) (by kernel_rfl) (e:=Extern.AbiNoEscape.same) (by kernel_rfl)];rw[Lib.run_noEscape];simp only[Result.andThen];rw[Oper.upon_value]
  go_wp2
  rw[Lib.run_from_unsafe w ⟨b,0,none⟩ Tryz.underlying306 Tryz.underlying248 hj hsh hT];simp only[Result.andThen];rw[Oper.upon_value]
  go_wp2
  go_end0
  refine⟨rfl,?_,?_,Aen (L:=fun k=>k=b) rfl _ _⟩
  ·rw[heap_set hbk];rfl
  ·exact hown.kept (Akz _ _ _ _) (.inr hne)
 ·go_enter Tryz.func273,Tryz.ntmps273
  go_wp2
  rw[Lib.run_neq_ptr_same w _ Tryz.underlying248 hj]
  go_wp2
  go_end0
  exact⟨rfl,hbk,hown,Fr.refl _ _⟩
theorem Anf:(Tryz.prog.info? 5).map (fun i=>(i.zero,i.size,i.bytes))=some (some (.int .u8 0),1,1):=by kernel_rfl
theorem Dk{L L':Nat→Prop}{w w':World}(h:Fr L w w')(hL:∀k,L k→L' k):Fr L' w w':=
 ⟨h.os,h.tape,h.output,h.size,fun k hk hn=>h.block k hk fun q=>hn (hL k q)⟩
theorem Amp{L:Nat→Prop}{w w':World}{row:Option Nat}(hg:w.grownBy w' row)(hr:∀k,row=some k→L k):Fr L w w':=
 ⟨hg.os,hg.tape,hg.output,hg.size,fun k hk hn=>hg.block k hk fun e=>hn (hr k e.symm)⟩
def Aha(T:TypeId)(b:Nat)(v:Value)(bs:List Value)(w w':World):Prop:=
 ∃v',Akw T b v' bs w'∧Fr (fun k=>k=b∨v.ownBlock=some k) w w'∧∀k,v'.ownBlock=some k→v.ownBlock=some k∨w.heap.size≤k
theorem Ac9{P:Program}{w:World}{t u ty e:TypeId}{i:TypeInfo}(ht:P.underlying t=some (.slice e))(hu:P.underlying u=some .string)(hi:P.info? e=some i)(hz:i.zero=some (.int .u8 0))(hsize:i.size=1)(hby:i.bytes=1){v:Value}{n:Nat}{xs:List Value}(hown:w.ownsRow 0 e 1 v n xs)(s:ByteArray)(h63:n+s.size≤maxLen)(hbytes:n+s.size≤140737488355328){v':Value}{w':World}(hr:(Builtin.append_ #[t,u] ty #[v,.string s]).run P w=.ok v' w'):(v'.ownBlock=v.ownBlock∨v'.ownBlock=some w.heap.size):=by
 have hsmall:n+s.size≤9223372036854775807:=by simp only[maxLen]at h63;omega
 have hxl:xs.length=n:=by simpa using hown.1
 rcases hown.2 with⟨rfl,rfl⟩|⟨g,cap,cur,rfl,hbg,hg,hnc,hcm,hcs,htake⟩
 ·by_cases hm:s.size=0
  ·have h:(Builtin.append_ #[t,u] ty #[.slice none 0 0,.string s]).run P w=.ok (.slice none 0 0) w:=by
    have hf:=Lib.run_firstCells_string (P:=P) w 1 s;rw[hm]at hf;simp[Builtin.append_,run_underlying ht,run_underlying hu,sizeOf,typeInfo,hi,hsize,Builtin.lenOf,hm,hf]
   rw[h]at hr;injection hr with h1 h2
   subst h1 h2;exact .inl rfl
  ·have h:=run_append_nil_string (P:=P) w t u ty e i (.int .u8 0) ht hu hi hz s (by omega) (by omega) (by rw[hby];omega);rw[h]at hr;injection hr with h1 h2
   subst h1 h2;exact .inr rfl
 ·by_cases hroom:n+s.size≤cap
  ·have hcs':cur.size=cap:=by simpa using hcs
   have h:=Lib.run_append_room_string (P:=P) w t u ty e i ht hu hi hsize g n cap cur hg s hroom (by omega);rw[h]at hr;injection hr with h1 h2
   subst h1 h2;exact .inl rfl
  ·have holds:∀j u,xs[j]? =some u→w.cell? ((⟨g,0,none⟩:Addr).add j)=some u:=hown.cells (g:=g) rfl;have h:=Lib.run_append_grow_string (P:=P) w t u ty e i (.int .u8 0) ht hu hi hz ⟨g,0,none⟩ n cap xs (by rw[hsize];simpa using hxl) holds s (by omega) (by omega) (by rw[hby];exact growslice_fits (by omega) (by omega));rw[h]at hr;injection hr with h1 h2
   subst h1 h2;exact .inr rfl
theorem Yc{P:Program}{w:World}{ops:Array Oper}{rest:List Oper}{o:Oper}{a:Act}{Q:Exit→Act→World→Prop}(hgd:o.guard=none)(sl x:Operand)(t u:TypeId)(ho:o.op=.call {callee:=.builtin .append,args:= #[sl,x],argTypes:= #[t,u]})(e:TypeId)(i:TypeInfo)(ht:P.underlying t=some (.slice e))(hu:P.underlying u=some .string)(hi:P.info? e=some i)(hz:i.zero=some (.int .u8 0))(hsize:i.size=1)(hby:i.bytes=1)(v:Value)(n:Nat)(xs:List Value)(hs:a.eval sl=v)(hown:w.ownsRow 0 e 1 v n xs)(s:ByteArray)(hx:a.eval x=.string s)(h63:n+s.size≤maxLen)(hbytes:n+s.size≤140737488355328)(h:∀v' w',w'.ownsRow 0 e 1 v' (n+s.size) (xs++Lib.strCells s)→w.grownBy w' v.ownBlock→(v'.ownBlock=v.ownBlock∨v'.ownBlock=some w.heap.size)→wpList P ops Q rest (a.put o.dst v') w'):wpList P ops Q (o::rest) a w:=by
 refine wpList_plain hgd fun K hK=>?_;obtain⟨v',w',hr,h2,h3,_⟩:=Lib.run_append_own_string (P:=P) w 0 t u o.type e i ht hu hi hz hsize hby v n xs hown s h63 hbytes (ZU _);have hb:=Ac9 ht hu hi hz hsize hby hown s h63 hbytes hr;unfold Oper.wp execOp;simp only[ho,resolve,invoke,builtin,Sem.run_bind,Sem.run_pure,Result.andThen_ok,List.map_toArray,List.map_cons,List.map_nil,hs,hx,hr];exact hK _ _ (h v' w' h2 h3 hb)
theorem Aqw{w:World}{e T:TypeId}{v:Value}{n:Nat}{xs:List Value}{b:Nat}{cs:Array Value}{fr:Nat×Nat}(hown:w.ownsRow 0 e 1 v n xs)(hb:w.heap[b]? =some (.cells cs T fr))(hTe:T≠e):v.ownBlock≠some b:=fun q=>by
 rcases hown.2 with⟨rfl,_⟩|⟨g,cap,cur,rfl,_,hg,_⟩
 ·cases q
 ·have:g=b:=by simpa[Value.ownBlock]using q
  subst this;rw[hb]at hg;injection hg with hg
  injection hg with _ hg _;exact hTe hg
theorem Ao9{T:TypeId}(hTe:T≠5){b:Nat}{v v':Value}{bs bs':List Value}{w w1 w2:World}(hbk:w1.heap[b]? =some (.cells #[.pointer (some ⟨b,0,none⟩),v] T (0,0)))(hown':w2.ownsRow 0 5 1 v' bs'.length bs')(hb2:w2.heap[b]? =some (.cells #[.pointer (some ⟨b,0,none⟩),v] T (0,0)))(hfr:Fr (fun k=>k=b) w w1)(hfr2:Fr (fun k=>k=b∨v.ownBlock=some k) w1 w2)(hbl:∀k,v'.ownBlock=some k→v.ownBlock=some k∨w.heap.size≤k):
  Aha T b v bs' w (w2.setCell ⟨b,1,none⟩ v'):=by
 have hne:=Aqw hown' hb2 hTe;refine⟨v',⟨⟨_,.inr rfl,by rw[heap_set hb2];rfl⟩,hown'.kept (Akz _ _ _ _) (.inr hne),hne⟩,?_,hbl⟩;exact(Dk hfr fun k q=>.inl q).trans (hfr2.trans (Aen (.inl rfl) _ _))
set_option maxHeartbeats 2000000 in
set_option maxRecDepth 100000 in
theorem U7(T:TypeId)(hT:liesAt Tryz.prog Tryz.prog.depth T (2/Tryz.prog.cellsOf T) 0 250 1=true)(hTe:T≠5)(b:Nat)(v:Value)(bs:List Value)(s:ByteArray)(w:World)(h:Akw T b v bs w)(hlen:bs.length+s.size≤140737488355328):
  Calls Tryz.prog 259 #[.pointer (some ⟨b,0,none⟩),.string s] w fun e w'=>e=.returned (.tuple #[.int .i64 s.size,.nilIface])∧Aha T b v (bs++Lib.strCells s) w w':=by
 obtain⟨i0,hi,hz0,hz1,hz2⟩:=info_parts Anf;have hne:=h.2.2
 go_enter Tryz.func259,Tryz.ntmps259
 go_wp2_with (go_at_call 273;refine(Yw T hT b v bs _ h).mono ?_)
 rintro e w1 ⟨rfl,hbk,hown,hfr⟩
 have c0:w1.cell? ⟨b,0,none⟩=some (.pointer (some ⟨b,0,none⟩)):=by rw[Lib.cell_of_heap hbk];rfl
 have c1:w1.cell? ⟨b,1,none⟩=some v:=by rw[Lib.cell_of_heap hbk];rfl
 go_wp2_with (at_builtin;refine Yc rfl _ _ 122 9 rfl 5 i0 Tryz.underlying122 Tryz.underlying9 hi hz0 hz1 hz2 _ _ _ rfl hown s rfl ?c3 ?c4 ?_)
 case c3=>unfold maxLen;omega
 case c4=>omega
 intro v' w2 hown' hgrow hblk;have hlt:b<w1.heap.size:=(XL.1 hbk).1;have hb2:w2.heap[b]? =some (.cells #[.pointer (some ⟨b,0,none⟩),v] T (0,0)):=by
  rw[hgrow.block b hlt (fun e=>hne e.symm)];exact hbk
 have d0:w2.cell? ⟨b,0,none⟩=some (.pointer (some ⟨b,0,none⟩)):=by rw[Lib.cell_of_heap hb2];rfl
 have d1:w2.cell? ⟨b,1,none⟩=some v:=by rw[Lib.cell_of_heap hb2];rfl
 have f1:w2.frozen? ⟨b,1,none⟩=false:=Lib.frozen_of_heap hb2 1;obtain⟨ao,n',cap,hv'⟩:∃ao n' cap,v'=.slice ao n' cap:=by
  rcases hown'.2 with⟨q,_⟩|⟨g,cap,cur,q,_⟩
  ·exact⟨_,_,_,q⟩
  ·exact⟨_,_,_,q⟩
 have fin:=Ao9 (bs:=bs) (bs':=bs++Lib.strCells s) hTe hbk (by simpa[Lib.strCells_length]using hown') hb2 hfr (Amp hgrow fun k q=>.inr q) (fun k hk=>by
  rcases hblk with q|q
  ·exact .inl (by rw[←q];exact hk)
  ·rw[q]at hk;injection hk with hk;right;have:=hfr.size;omega)
 subst hv'
 go_wp2
 go_ret2
 exact⟨rfl,fin⟩
set_option maxHeartbeats 1000000 in
set_option maxRecDepth 100000 in
theorem Af5(T:TypeId)(b:Nat)(v:Value)(l:List UInt8)(w:World)(h:Akw T b v (Lib.byteCells l) w)(h0:l≠[]):
  Calls Tryz.prog 229 #[.pointer (some ⟨b,0,none⟩)] w fun e w'=>e=.returned (.string ⟨l.toArray⟩)∧Fr (fun k=>k=b∨v.ownBlock=some k) w w':=by
 obtain⟨⟨p,_,hbk⟩,hown,hne⟩:=h;have hl0:l.length≠0:=by simpa using h0
 rw[Lib.byteCells_length]at hown;obtain⟨g,cap,cur,rfl,_,hg,hnc,hcm,hcs,htake⟩:=hown.2.resolve_left (fun q=>hl0 q.2);have c1:w.drew.cell? ⟨b,1,none⟩=some (.slice (some ⟨g,0,none⟩) l.length cap):=by
  have:w.drew.heap[b]? =some (.cells #[p,.slice (some ⟨g,0,none⟩) l.length cap] T (0,0)):=hbk;rw[Lib.cell_of_heap this];rfl
 have hSD:(Builtin.unsafeSliceData_ #[122] 290 #[.slice (some ⟨g,0,none⟩) l.length cap]).run Tryz.prog w.drew=.ok (.pointer (some ⟨g,0,none⟩)) w.drew:=
  Lib.run_unsafeSliceData_row _ _ _ _ _ _ (by omega)
 have hUS:(Builtin.unsafeString_ #[290,3] 9 #[.pointer (some ⟨g,0,none⟩),.int .i64 l.length]).run Tryz.prog w.drew=.ok (.string ⟨l.toArray⟩) (w.drew.freeze ⟨g,0,none⟩ l.length):=by
  refine Lib.run_unsafeString_row w.drew 290 3 9 5 Tryz.underlying290 (by kernel_rfl) g cur.size (by have hg':w.drew.heap[g]? =some (.cells cur 5 (0,0)):=hg;simp[World.shape?,hg']) l h0 (by omega) (by unfold maxLen at hcm;omega) ?_;intro j x hx;exact hown.cells (g:=g) rfl j (.int .u8 x.toNat) (by simp[Lib.byteCells,hx])
 have hfr:Fr (fun k=>k=b∨(Value.slice (some ⟨g,0,none⟩) l.length cap).ownBlock=some k) w (w.drew.freeze ⟨g,0,none⟩ l.length):=by
  unfold World.freeze;rw[if_neg hl0];refine⟨rfl,rfl,rfl,by simp,fun k hk hn=>?_⟩;have:g≠k:=fun e=>hn (.inr (by rw[e];rfl));simp[Array.getElem?_modify,this];rfl
 have mixed:Tryz.prog.follows .mixedOrders=true:=by kernel_rfl
 go_enter Tryz.func229,Tryz.ntmps229
 go_wp2
 go_region_o
 all_goals (go_wp2;go_ret;exact⟨rfl,hfr⟩)
def D2(T:TypeId)(l:List UInt8):Opq where
 inv:=fun w R x F=>∃b v,x=.pointer (some ⟨b,0,none⟩)∧Akw T b v (Lib.byteCells l) w∧∀k,F k↔(k=b∨v.ownBlock=some k)
 mono:=fun {w w' R R' x F} h hR hF=>by
  obtain⟨b,v,h1,⟨⟨p,hp,hb⟩,h3,h4⟩,h5⟩:=h
  refine⟨b,v,h1,⟨⟨p,hp,(hF b ((h5 b).2 (.inl rfl))).trans hb⟩,?_,h4⟩,h5⟩
  refine⟨h3.1,?_⟩
  rcases h3.2 with q|⟨g,cap,cur,q,q2,q3,q4⟩
  ·exact .inl q
  ·exact .inr ⟨g,cap,cur,q,q2,(hF g ((h5 g).2 (.inr (by rw[q];rfl)))).trans q3,q4⟩
 lt:=fun {w R x F b} h hb=>by
  obtain⟨b',v,h1,⟨⟨p,hp,hbk⟩,h3,h4⟩,h5⟩:=h
  rcases(h5 b).1 hb with rfl|q
  ·exact(XL.1 hbk).1
  ·exact(h3.lt b q).2
def Ath:Opq where
 inv:=fun w R x F=>∀k,F k→k<w.heap.size
 mono:=fun {w w' R R' x F} h hR hF k hk=>by
  have h1:=h k hk
  have h2:=hF k hk
  rw[Array.getElem?_eq_getElem h1]at h2
  exact(XL.1 h2).1
 lt:=fun {w R x F b} h hb=>h b hb
section
variable {P:Program} {w w':World} {R:Nat→Prop}
theorem Rk:∀{vs:List Value} {ys:List Value} {F:Nat→Prop},Cm w R (vs.map fun z=>.p (.c (.v z))) ys F→ys=vs∧∀b,¬F b
 |[],[],F,h=>⟨rfl,h⟩
 |[],_::_,F,h=>h.elim
 |v::vs,[],F,h=>h.elim
 |v::vs,y::ys,F,h=>by
  obtain⟨F1,F2,⟨h1,h1'⟩,h2,h3,h4⟩:=h;obtain⟨rfl,k2⟩:=Rk h2;have e:y=v:=Cd h1;subst e;refine⟨rfl,fun b hb=>?_⟩;rcases(h4 b).1 hb with q|q
  ·exact Fi (fun p hp=>by simp at hp;exact⟨_,hp⟩) ((h1' b).1 q)
  ·exact k2 b q
theorem Abv{I':Opq}{x:Value}{F':Nat→Prop}(hx:Wv w R I' x F')(hd:∀b,F' b→¬R b):∀(zs:List Value),Cm w R ((zs.map fun z=>.p (.c (.v z)))++[.po I']) (zs++[x]) F'
 |[]=>⟨F',fun _=>False,hx,fun b h=>h,fun b hb=>⟨fun q=>q,hd b hb⟩,fun b=>by simp⟩
 |z::zs=>by
  refine⟨fun _=>False,F',⟨.v z,fun b=>⟨fun q=>q.elim,fun q=>Fi (fun p hp=>by simp at hp;exact⟨_,hp⟩) q⟩⟩,Abv hx hd zs,fun b hb=>hb.elim,fun b=>by simp⟩
theorem Ajw(zs:List Value):B4 (zs.map fun z=>.p (.c (.v z)))=[]:=by
 induction zs with
 |nil=>rfl
 |cons z zs ih=>exact ih
theorem Zy:∀(zs xs:List Value),Du (zs.map fun z=>.p (.c (.v z))) xs=[]
 |[],[]=>rfl
 |[],_::_=>rfl
 |z::zs,[]=>rfl
 |z::zs,x::xs=>Zy zs xs
theorem Agu[Glob]{f:FuncId}{I I':Opq}{vs zs:List Value}(hc:Ds P f)(h:∀(w:World) (R:Nat→Prop) (x:Value) (F:Nat→Prop),Wv w R I x F→Calls P f (x::vs).toArray w fun e w'=>e=.returned (Dl zs)∧∃F',Fr F w w'∧Wv w' R I' x F'∧∀b,F' b→F b∨w.heap.size≤b):
  Gl P f (.mo I I'::vs.map fun z=>.p (.c (.v z))) (zs.map fun z=>.p (.c (.v z))):=by
 refine⟨hc,fun w R xs F hlt hp _=>?_⟩
 match xs,hp with
 |x::ys,hp=>
  obtain⟨F1,F2,h1,h2,h3,h4⟩:=hp;obtain⟨rfl,h5⟩:=Rk h2;have hF:∀b,F b↔F1 b:=fun b=>by rw[h4 b];exact⟨fun q=>q.resolve_right (h5 b),.inl⟩
  refine(h w R x F1 h1).mono ?_
  rintro e w' ⟨rfl,F',q1,q2,q3⟩
  refine⟨zs,R,F',rfl,by simp,Dk q1 fun k hk=>(hF k).2 hk,fun b hb=>hb,fun b hb=>.inl hb,?_,fun b hb=>(q3 b hb).imp (hF b).2 id⟩;have hd:∀b,F' b→¬R b:=fun b hb hr=>by
   rcases q3 b hb with q|q
   ·exact(h3 b q).2 hr
   ·have:=hlt b hr;omega
  have:=Abv q2 hd zs;show Cm w' R ((zs.map fun z=>.p (.c (.v z)))++B4 (.mo I I'::ys.map fun z=>.p (.c (.v z)))) (zs++Du (.mo I I'::ys.map fun z=>.p (.c (.v z))) (x::ys)) F';simp only[B4,Du,Ajw,Zy];exact this
end
theorem Ai0(s:ByteArray):Lib.strCells s=Lib.byteCells s.data.toList:=by simp[Lib.strCells,Lib.byteCells]
theorem Ahs(a b:List UInt8):Lib.byteCells (a++b)=Lib.byteCells a++Lib.byteCells b:=by simp[Lib.byteCells]
theorem Et{I:Opq}{T:TypeId}{l:List UInt8}{u:V}:∀p∈([]:List Bf)++B4 [.mo I (D2 T l),.p (.c u)],Zj p:=by
 intro p hp;simp only[B4,List.nil_append,XC,XD,or_false]at hp;subst hp;exact fun _ _ _ _ _ h=>h
structure Atc(T:TypeId):Prop where
 lies:liesAt Tryz.prog Tryz.prog.depth T (2/Tryz.prog.cellsOf T) 0 250 1=true
 ne:T≠5
theorem Abw[Glob]{T:TypeId}(hT:Atc T)(l:List UInt8)(s:ByteArray)(hl:l.length+s.size≤140737488355328):Gl Tryz.prog 259 [.mo (D2 T l) (D2 T (l++s.data.toList)),.p (.c (.v (.string s)))] [.p (.c (.v (.int .i64 s.size))),.p (.c (.v .nilIface))]:=by
 refine Agu (vs:=[.string s]) (zs:=[.int .i64 s.size,.nilIface]) (Df Tryz.func259 (by kernel_rfl) (by kernel_rfl)) ?_
 rintro w R x F ⟨hx,b,v,rfl,hB,hF⟩
 refine(U7 T hT.lies hT.ne b v _ s w hB (by rw[Lib.byteCells_length];omega)).mono ?_
 rintro e w' ⟨rfl,v',q1,q2,q3⟩
 rw[Ai0,←Ahs]at q1;refine⟨rfl,fun k=>k=b∨v'.ownBlock=some k,Dk q2 fun k hk=>(hF k).2 hk,⟨⟨b,rfl⟩,b,v',rfl,q1,fun k=>Iff.rfl⟩,fun k hk=>?_⟩;rcases hk with rfl|hk
 ·exact .inl ((hF _).2 (.inl rfl))
 ·exact(q3 k hk).imp (fun q=>(hF k).2 (.inr q)) id
theorem Acu[Glob]{T:TypeId}(l:List UInt8)(h0:l≠[]):Gl Tryz.prog 229 [.mo (D2 T l) Ath] [.p (.c (.v (.string ⟨l.toArray⟩)))]:=by
 refine Agu (vs:=[]) (zs:=[.string ⟨l.toArray⟩]) (Df Tryz.func229 (by kernel_rfl) (by kernel_rfl)) ?_
 rintro w R x F ⟨hx,b,v,rfl,hB,hF⟩
 have hlt:∀k,F k→k<w.heap.size:=fun k hk=>(D2 T l).lt (R:=R) ⟨b,v,rfl,hB,hF⟩ hk;refine(Af5 T b v l w hB h0).mono ?_
 rintro e w' ⟨rfl,q⟩
 exact⟨rfl,F,Dk q fun k hk=>(hF k).2 hk,⟨hx,fun k hk=>XH (hlt k hk) q.size⟩,fun k hk=>.inl hk⟩
section
open Go.Shelf
def Tryz.laysM171_ren:Go.Shelf.Ren:=⟨fun|171=>141|243=>170|246=>200|283=>238|284=>239|285=>240|286=>241|129=>217|317=>264|318=>265|319=>266|320=>267|337=>274|338=>275|n=>n,fun|3=>3|9=>9|2=>2|4=>4|171=>272|0=>0|53=>246|37=>122|5=>5|173=>274|212=>297|51=>244|20=>20|213=>298|46=>173|232=>308|233=>309|n=>n,fun|17=>3|18=>4|19=>5|n=>n⟩
theorem Tryz.laysM171:Go.Proofs.LaysM.n171 Tryz.prog Tryz.laysM171_ren:={
 mixed:=by kernel_rfl
 f129:=Tryz.func217.trans (congrArg some (by kernel_rfl))
 f171:=Tryz.func141.trans (congrArg some (by kernel_rfl))
 f243:=Tryz.func170.trans (congrArg some (by kernel_rfl))
 f246:=Tryz.func200.trans (congrArg some (by kernel_rfl))
 f283:=Tryz.func238.trans (congrArg some (by kernel_rfl))
 f284:=Tryz.func239.trans (congrArg some (by kernel_rfl))
 f285:=Tryz.func240.trans (congrArg some (by kernel_rfl))
 f286:=Tryz.func241.trans (congrArg some (by kernel_rfl))
 f317:=Tryz.func264.trans (congrArg some (by kernel_rfl))
 f318:=Tryz.func265.trans (congrArg some (by kernel_rfl))
 f319:=Tryz.func266.trans (congrArg some (by kernel_rfl))
 f320:=Tryz.func267.trans (congrArg some (by kernel_rfl))
 f337:=Tryz.func274.trans (congrArg some (by kernel_rfl))
 f338:=Tryz.func275.trans (congrArg some (by kernel_rfl))
 t0:=Tryz.underlying0
 a0:=Tryz.isAgg0
 z0:=Tryz.sizeOf0
 v0:=Tryz.zeroValue0
 t2:=Tryz.underlying2
 a2:=Tryz.isAgg2
 z2:=Tryz.sizeOf2
 v2:=Tryz.zeroValue2
 t3:=Tryz.underlying3
 a3:=Tryz.isAgg3
 z3:=Tryz.sizeOf3
 v3:=Tryz.zeroValue3
 t4:=Tryz.underlying4
 a4:=Tryz.isAgg4
 z4:=Tryz.sizeOf4
 v4:=Tryz.zeroValue4
 t5:=Tryz.underlying5
 a5:=Tryz.isAgg5
 z5:=Tryz.sizeOf5
 v5:=Tryz.zeroValue5
 t9:=Tryz.underlying9
 a9:=Tryz.isAgg9
 z9:=Tryz.sizeOf9
 v9:=Tryz.zeroValue9
 t20:=Tryz.underlying20
 a20:=Tryz.isAgg20
 z20:=Tryz.sizeOf20
 v20:=Tryz.zeroValue20
 t37:=Tryz.underlying122
 a37:=Tryz.isAgg122
 z37:=Tryz.sizeOf122
 v37:=Tryz.zeroValue122
 t46:=Tryz.underlying173
 a46:=Tryz.isAgg173
 z46:=Tryz.sizeOf173
 v46:=Tryz.zeroValue173
 t51:=Tryz.underlying244
 a51:=Tryz.isAgg244
 z51:=Tryz.sizeOf244
 v51:=Tryz.zeroValue244
 t53:=Tryz.underlying246
 a53:=Tryz.isAgg246
 z53:=Tryz.sizeOf246
 v53:=Tryz.zeroValue246
 t171:=Tryz.underlying272
 a171:=Tryz.isAgg272
 z171:=Tryz.sizeOf272
 v171:=Tryz.zeroValue272
 t173:=Tryz.underlying274
 a173:=Tryz.isAgg274
 z173:=Tryz.sizeOf274
 v173:=Tryz.zeroValue274
 t212:=Tryz.underlying297
 a212:=Tryz.isAgg297
 z212:=Tryz.sizeOf297
 v212:=Tryz.zeroValue297
 t213:=Tryz.underlying298
 a213:=Tryz.isAgg298
 z213:=Tryz.sizeOf298
 t232:=Tryz.underlying308
 a232:=Tryz.isAgg308
 z232:=Tryz.sizeOf308
 v232:=Tryz.zeroValue308
 t233:=Tryz.underlying309
 a233:=Tryz.isAgg309
 z233:=Tryz.sizeOf309
 v233:=Tryz.zeroValue309
 g17:=by kernel_rfl
 g18:=by kernel_rfl
 g19:=by kernel_rfl
 i0:=by kernel_rfl
 i2:=by kernel_rfl
 i3:=by kernel_rfl
 i4:=by kernel_rfl
 i5:=by kernel_rfl
 i9:=by kernel_rfl
 i20:=by kernel_rfl
 i37:=by kernel_rfl
 i46:=by kernel_rfl
 i51:=by kernel_rfl
 i53:=by kernel_rfl
 i171:=by kernel_rfl
 i173:=by kernel_rfl
 i212:=by kernel_rfl
 i232:=by kernel_rfl
 i233:=by kernel_rfl
 m17:=by kernel_rfl
 m18:=by kernel_rfl
 m19:=by kernel_rfl}
def Tryz.laysC172_ren:Go.Shelf.Ren:=⟨fun|172=>140|244=>168|245=>169|247=>195|279=>196|280=>197|281=>198|282=>199|287=>235|316=>236|171=>141|205=>237|321=>262|322=>263|243=>170|246=>200|283=>238|284=>239|285=>240|286=>241|129=>217|317=>264|318=>265|319=>266|320=>267|337=>274|338=>275|n=>n,fun|9=>9|3=>3|75=>180|76=>181|4=>4|5=>5|167=>225|37=>122|0=>0|85=>226|2=>2|168=>228|53=>246|175=>266|46=>173|210=>270|127=>290|145=>296|143=>294|21=>21|171=>272|173=>274|212=>297|51=>244|20=>20|213=>298|232=>308|233=>309|80=>84|n=>n,fun|15=>1|16=>2|17=>3|18=>4|19=>5|n=>n⟩
theorem Tryz.laysC172:Go.Proofs.LaysC.n172 Tryz.prog Tryz.laysC172_ren:={
 mixed:=by kernel_rfl
 f129:=Tryz.func217.trans (congrArg some (by kernel_rfl))
 f171:=Tryz.func141.trans (congrArg some (by kernel_rfl))
 f172:=Tryz.func140.trans (congrArg some (by kernel_rfl))
 f205:=Tryz.func237.trans (congrArg some (by kernel_rfl))
 f243:=Tryz.func170.trans (congrArg some (by kernel_rfl))
 f244:=Tryz.func168.trans (congrArg some (by kernel_rfl))
 f245:=Tryz.func169.trans (congrArg some (by kernel_rfl))
 f246:=Tryz.func200.trans (congrArg some (by kernel_rfl))
 f247:=Tryz.func195.trans (congrArg some (by kernel_rfl))
 f279:=Tryz.func196.trans (congrArg some (by kernel_rfl))
 f280:=Tryz.func197.trans (congrArg some (by kernel_rfl))
 f281:=Tryz.func198.trans (congrArg some (by kernel_rfl))
 f282:=Tryz.func199.trans (congrArg some (by kernel_rfl))
 f283:=Tryz.func238.trans (congrArg some (by kernel_rfl))
 f284:=Tryz.func239.trans (congrArg some (by kernel_rfl))
 f285:=Tryz.func240.trans (congrArg some (by kernel_rfl))
 f286:=Tryz.func241.trans (congrArg some (by kernel_rfl))
 f287:=Tryz.func235.trans (congrArg some (by kernel_rfl))
 f316:=Tryz.func236.trans (congrArg some (by kernel_rfl))
 f317:=Tryz.func264.trans (congrArg some (by kernel_rfl))
 f318:=Tryz.func265.trans (congrArg some (by kernel_rfl))
 f319:=Tryz.func266.trans (congrArg some (by kernel_rfl))
 f320:=Tryz.func267.trans (congrArg some (by kernel_rfl))
 f321:=Tryz.func262.trans (congrArg some (by kernel_rfl))
 f322:=Tryz.func263.trans (congrArg some (by kernel_rfl))
 f337:=Tryz.func274.trans (congrArg some (by kernel_rfl))
 f338:=Tryz.func275.trans (congrArg some (by kernel_rfl))
 t0:=Tryz.underlying0
 a0:=Tryz.isAgg0
 z0:=Tryz.sizeOf0
 v0:=Tryz.zeroValue0
 t2:=Tryz.underlying2
 a2:=Tryz.isAgg2
 z2:=Tryz.sizeOf2
 v2:=Tryz.zeroValue2
 t3:=Tryz.underlying3
 a3:=Tryz.isAgg3
 z3:=Tryz.sizeOf3
 v3:=Tryz.zeroValue3
 t4:=Tryz.underlying4
 a4:=Tryz.isAgg4
 z4:=Tryz.sizeOf4
 v4:=Tryz.zeroValue4
 t5:=Tryz.underlying5
 a5:=Tryz.isAgg5
 z5:=Tryz.sizeOf5
 v5:=Tryz.zeroValue5
 t9:=Tryz.underlying9
 a9:=Tryz.isAgg9
 z9:=Tryz.sizeOf9
 v9:=Tryz.zeroValue9
 t20:=Tryz.underlying20
 a20:=Tryz.isAgg20
 z20:=Tryz.sizeOf20
 v20:=Tryz.zeroValue20
 t21:=Tryz.underlying21
 a21:=Tryz.isAgg21
 z21:=Tryz.sizeOf21
 v21:=Tryz.zeroValue21
 t37:=Tryz.underlying122
 a37:=Tryz.isAgg122
 z37:=Tryz.sizeOf122
 v37:=Tryz.zeroValue122
 t46:=Tryz.underlying173
 a46:=Tryz.isAgg173
 z46:=Tryz.sizeOf173
 v46:=Tryz.zeroValue173
 t51:=Tryz.underlying244
 a51:=Tryz.isAgg244
 z51:=Tryz.sizeOf244
 v51:=Tryz.zeroValue244
 t53:=Tryz.underlying246
 a53:=Tryz.isAgg246
 z53:=Tryz.sizeOf246
 v53:=Tryz.zeroValue246
 t75:=Tryz.underlying180
 a75:=Tryz.isAgg180
 z75:=Tryz.sizeOf180
 v75:=Tryz.zeroValue180
 t76:=Tryz.underlying181
 a76:=Tryz.isAgg181
 z76:=Tryz.sizeOf181
 v76:=Tryz.zeroValue181
 t85:=Tryz.underlying226
 a85:=Tryz.isAgg226
 z85:=Tryz.sizeOf226
 v85:=Tryz.zeroValue226
 t127:=Tryz.underlying290
 a127:=Tryz.isAgg290
 z127:=Tryz.sizeOf290
 v127:=Tryz.zeroValue290
 t143:=Tryz.underlying294
 a143:=Tryz.isAgg294
 z143:=Tryz.sizeOf294
 v143:=Tryz.zeroValue294
 t145:=Tryz.underlying296
 a145:=Tryz.isAgg296
 z145:=Tryz.sizeOf296
 v145:=Tryz.zeroValue296
 t167:=Tryz.underlying225
 a167:=Tryz.isAgg225
 z167:=Tryz.sizeOf225
 v167:=Tryz.zeroValue225
 t168:=Tryz.underlying228
 a168:=Tryz.isAgg228
 z168:=Tryz.sizeOf228
 v168:=Tryz.zeroValue228
 t171:=Tryz.underlying272
 a171:=Tryz.isAgg272
 z171:=Tryz.sizeOf272
 v171:=Tryz.zeroValue272
 t173:=Tryz.underlying274
 a173:=Tryz.isAgg274
 z173:=Tryz.sizeOf274
 v173:=Tryz.zeroValue274
 t175:=Tryz.underlying266
 a175:=Tryz.isAgg266
 z175:=Tryz.sizeOf266
 v175:=Tryz.zeroValue266
 t210:=Tryz.underlying270
 a210:=Tryz.isAgg270
 z210:=Tryz.sizeOf270
 v210:=Tryz.zeroValue270
 t212:=Tryz.underlying297
 a212:=Tryz.isAgg297
 z212:=Tryz.sizeOf297
 v212:=Tryz.zeroValue297
 t213:=Tryz.underlying298
 a213:=Tryz.isAgg298
 z213:=Tryz.sizeOf298
 t232:=Tryz.underlying308
 a232:=Tryz.isAgg308
 z232:=Tryz.sizeOf308
 v232:=Tryz.zeroValue308
 t233:=Tryz.underlying309
 a233:=Tryz.isAgg309
 z233:=Tryz.sizeOf309
 v233:=Tryz.zeroValue309
 g15:=by kernel_rfl
 g16:=by kernel_rfl
 g17:=by kernel_rfl
 g18:=by kernel_rfl
 g19:=by kernel_rfl
 t80:=Tryz.underlying84
 a80:=Tryz.isAgg84
 z80:=Tryz.sizeOf84
 v80:=Tryz.zeroValue84
 i0:=by kernel_rfl
 i2:=by kernel_rfl
 i3:=by kernel_rfl
 i4:=by kernel_rfl
 i5:=by kernel_rfl
 i9:=by kernel_rfl
 i20:=by kernel_rfl
 i21:=by kernel_rfl
 i37:=by kernel_rfl
 i46:=by kernel_rfl
 i51:=by kernel_rfl
 i53:=by kernel_rfl
 i75:=by kernel_rfl
 i76:=by kernel_rfl
 i80:=by kernel_rfl
 i85:=by kernel_rfl
 i127:=by kernel_rfl
 i143:=by kernel_rfl
 i145:=by kernel_rfl
 i167:=by kernel_rfl
 i168:=by kernel_rfl
 i171:=by kernel_rfl
 i173:=by kernel_rfl
 i175:=by kernel_rfl
 i210:=by kernel_rfl
 i212:=by kernel_rfl
 i232:=by kernel_rfl
 i233:=by kernel_rfl
 m15:=by kernel_rfl
 m16:=by kernel_rfl
 m17:=by kernel_rfl
 m18:=by kernel_rfl
 m19:=by kernel_rfl
 c0:=by kernel_rfl
 c2:=by kernel_rfl
 c3:=by kernel_rfl
 c4:=by kernel_rfl
 c5:=by kernel_rfl
 c9:=by kernel_rfl
 c20:=by kernel_rfl
 c21:=by kernel_rfl
 c37:=by kernel_rfl
 c46:=by kernel_rfl
 c51:=by kernel_rfl
 c53:=by kernel_rfl
 c75:=by kernel_rfl
 c76:=by kernel_rfl
 c80:=by kernel_rfl
 c85:=by kernel_rfl
 c127:=by kernel_rfl
 c143:=by kernel_rfl
 c145:=by kernel_rfl
 c167:=by kernel_rfl
 c168:=by kernel_rfl
 c171:=by kernel_rfl
 c173:=by kernel_rfl
 c175:=by kernel_rfl
 c210:=by kernel_rfl
 c212:=by kernel_rfl
 c213:=by kernel_rfl
 c232:=by kernel_rfl
 c233:=by kernel_rfl}
end
open Pl
class Tabs [Glob]:Prop where
 pow : ∀ (w : World) (L : Nat → Prop), Cc w L → Lib.TabIs Tryz.prog w "internal/strconv.uint64pow10" .u64 Lib.pow10Tab
 syn:∀(w:World) (L:Nat→Prop),Cc w L→∃ev,w.cell? ⟨Tryz.laysC172_ren.g 15,0,none⟩=some ev∧(ev=.nilIface∨∃te pe,ev=.iface te pe)
 ran:∀(w:World) (L:Nat→Prop),Cc w L→∃ev,w.cell? ⟨Tryz.laysC172_ren.g 16,0,none⟩=some ev∧(ev=.nilIface∨∃te pe,ev=.iface te pe)
theorem Ix[Glob]{P:Program}{f:FuncId}{xs ys:List Value}(hF:Fun P f (xs.map fun x=>.c (.v x)) (ys.map fun x=>.c (.v x)))(w:World){L:Nat→Prop}(hg:Cc w L):Calls P f xs.toArray w fun e w'=>e=.returned (Dl ys)∧Fr (fun _=>False) w w':=by
 have hn:∀b,¬A4 (xs.map fun x=>.c (.v x)) xs b:=fun b=>Fi (fun p hp=>by simp at hp;obtain⟨x,_,rfl⟩:=hp;exact⟨_,rfl⟩);refine(hF.2 w (fun _=>False) xs (fun _ h=>h.elim) ⟨by simp,fun i p x h1 h2=>?_,fun i j T sz rows T' sz' rows' x y b _ h1=>?_,fun b hb=>absurd hb (hn b)⟩ (fun b o q=>⟨(hg b o q).1,hn b⟩)).mono ?_
 ·rw[XJ,h2]at h1;cases h1;exact .v _
 ·rw[XJ]at h1;cases h:xs[i]? <;>rw[h]at h1<;>cases h1
 ·rintro e w' ⟨zs,R',rfl,hf,_,_,hp,_⟩
  obtain rfl:=Alf hp;exact⟨rfl,Dk hf fun k hk=>hn k hk⟩
theorem Wq[Glob][Tabs](n:Int)(h0: -9223372036854775808≤n)(h1:n≤9223372036854775807):Fun Tryz.prog 141 [.c (.v (.int .i64 n))] [.c (.v (.string ⟨(Lib.itoa n).toArray⟩))]:=
 Ze (xs:=[.int .i64 n]) (Df Tryz.func141 (by kernel_rfl) (by kernel_rfl)) fun w L hg=>by
  exact(Any.strconv_Itoa Tryz.laysM171 n h0 h1 w (Tabs.pow w L hg)).mono fun e w' ⟨h,k,os,hw⟩=>⟨h,hw▸Lib.below_grow _ _ (ZT _) k os⟩
namespace Pl
def Oa(s:ByteArray)(c:UInt8):Option (ByteArray×ByteArray):=if ixb s c<0 then none else some (s.extract 0 (ixb s c).toNat,s.extract ((ixb s c).toNat+1) s.size)
def Ag0(s:ByteArray):Option Int:=match Lib.atoiAll s.data.toList with
 |.ok n=>if Lib.itoa n=s.data.toList then some n else none
 |_=>none
def Cr(s:ByteArray):Option (Int×ByteArray):=(Oa s 59).bind fun p=>(Ag0 p.1).map fun n=>(n,p.2)
end Pl
section
open Go.Lib
namespace Pl
def isD(c:UInt8):Prop:=48≤c.toNat∧c.toNat≤57
theorem Vo{k:Nat}(h:k<10):(UInt8.ofNat (48+k)).toNat=48+k:=by rw[UInt8.toNat_ofNat'];omega
theorem Mw(u:Nat):∀c∈decDigits u,isD c:=by
 induction u using Nat.strongRecOn with
 |_ u ih=>
  intro c hc;rw[decDigits]at hc;split at hc
  ·simp only[XN]at hc;subst hc;have:=Vo (k:=u) (by omega);unfold isD;omega
  ·rcases XM.1 hc with h|h
   ·exact ih _ (by omega) c h
   ·simp only[XN]at h;subst h;have:=Vo (k:=u%10) (by omega);unfold isD;omega
theorem Ael(u:Nat):decDigits u≠[]:=fun h=>by
 have h1:=decDigits_length u;have h2:=nDigits_pos u;rw[h]at h1;simp at h1;omega
def T4(acc:Nat)(l:List UInt8):Nat:=l.foldl (fun a c=>a*10+(c.toNat-48)) acc
theorem Amd(acc:Nat)(l r:List UInt8):T4 acc (l++r)=T4 (T4 acc l) r:=by simp[T4]
theorem Mt(u:Nat):T4 0 (decDigits u)=u:=by
 induction u using Nat.strongRecOn with
 |_ u ih=>
  rw[decDigits];split
  ·have:=Vo (k:=u) (by omega);show 0*10+((UInt8.ofNat (48+u)).toNat-48)=u;omega
  ·rw[Amd,ih _ (by omega)];have:=Vo (k:=u%10) (by omega);show u/10*10+((UInt8.ofNat (48+u%10)).toNat-48)=u;omega
theorem Aa7:∀(l:List UInt8) (acc:Nat),acc≤T4 acc l
 |[],acc=>ZT _
 |c::l,acc=>by
  have:=Aa7 l (acc*10+(c.toNat-48));show acc≤T4 (acc*10+(c.toNat-48)) l;omega
theorem Zp:∀(l:List UInt8) (acc:Nat),(∀c∈l,isD c)→T4 acc l<18446744073709551616→parseUint10 acc l=.ok (T4 acc l)
 |[],acc,_,_=>rfl
 |c::l,acc,h,hv=>by
  have h1:48≤c.toNat∧c.toNat≤57:=h c (XB ..);have hv':T4 (acc*10+(c.toNat-48)) l<18446744073709551616:=hv;have h2:=Aa7 l (acc*10+(c.toNat-48));rw[parseUint10,if_pos h1,if_neg (by omega),if_neg (by omega)];exact Zp l _ (fun x hx=>h x (ZL _ hx)) hv'
theorem Agc{u:Nat}(h:u<18446744073709551616):parseMag (decDigits u)=.ok u:=by
 unfold parseMag;rw[if_neg (Ael u),Zp _ _ (Mw u) (by rw[Mt];exact h),Mt]
theorem Ahu{n:Int}(h0: -9223372036854775808≤n)(h1:n≤9223372036854775807):atoiAll (itoa n)=.ok n:=by
 unfold itoa;split
 ·rw[atoiAll_minus,Agc (by omega)];show(if 9223372036854775808<n.natAbs then NumEnd.range else NumEnd.ok (-(n.natAbs:Int)))=_;rw[if_neg (by omega)];congr 1;omega
 ·cases hd:decDigits n.toNat with
  |nil=>exact absurd hd (Ael _)
  |cons c r=>
   have hc:48≤c.toNat∧c.toNat≤57:=Mw n.toNat c (by rw[hd];exact XB ..);rw[atoiAll_plain c r (by omega) (by omega),←hd,Agc (by omega)];show(if 9223372036854775808≤n.toNat then NumEnd.range else NumEnd.ok (n.toNat:Int))=_;rw[if_neg (by omega)];congr 1;omega
theorem Anu(n:Int):∀c∈itoa n,c≠59:=fun c hc e=>by
 subst e;unfold itoa at hc;split at hc
 ·rcases XC.1 hc with h|h
  ·cases h
  ·have:=Mw _ _ h;unfold isD at this;revert this;decide
 ·have:=Mw _ _ hc;unfold isD at this;revert this;decide
theorem Aml{l r:List UInt8}(h:∀c∈l,c≠59):indexByte (l++59::r) 59=l.length:=by
 induction l with
 |nil=>simp[indexByte]
 |cons a l ih=>
  have h1:=ih fun c hc=>h c (ZL _ hc);have h2:=h a (XB ..);show(if a==59 then(0:Int)else if indexByte (l++59::r) 59== -1 then -1 else indexByte (l++59::r) 59+1)=_;rw[if_neg (by simpa using h2),h1,if_neg (by simp)];simp
def bA(l:List UInt8):ByteArray:=⟨l.toArray⟩
theorem Ky(l:List UInt8):(bA l).data.toList=l:=by simp[bA]
theorem C4(l:List UInt8):(bA l).size=l.length:=by simp[bA,ByteArray.size]
theorem Aoy{s:ByteArray}{l:List UInt8}(h:s.data.toList=l):s=bA l:=by subst h;simp[bA]
theorem Xj(s:ByteArray):bA s.data.toList=s:=(Aoy rfl).symm
theorem Arh{l r:List UInt8}(h:bA l=bA r):l=r:=by rw[←Ky l,h,Ky]
theorem F5(l:List UInt8)(a b:Nat):(bA l).extract a b=bA ((l.take b).drop a):=by
 apply Aoy;rw[ByteArray.data_extract,Array.toList_extract];simp only[bA];rw[List.extract_eq_take_drop,List.drop_take]
def Bz(n:Int):List UInt8:=itoa n++[59]
def isI(n:Int):Prop:= -9223372036854775808≤n∧n≤9223372036854775807
theorem I3{n:Int}(h:isI n)(r:List UInt8):Cr (bA (Bz n++r))=some (n,bA r):=by
 have e:Bz n++r=itoa n++59::r:=by simp[Bz]
 have hi:ixb (bA (itoa n++59::r)) 59=(itoa n).length:=by unfold ixb;rw[Ky];exact Aml (Anu n)
 unfold Cr Oa;rw[e,hi,if_neg (by omega),Int.toNat_natCast,F5,F5,C4];have e1:((itoa n++59::r).take (itoa n).length).drop 0=itoa n:=by simp
 have e2:((itoa n++59::r).take (itoa n++59::r).length).drop ((itoa n).length+1)=r:=by rw[XF];simp
 rw[e1,e2];simp only[ZA,Ag0,Ky,Ahu h.1 h.2,if_true,Option.map_some]
theorem Hn{s:ByteArray}{p:Int×ByteArray}(h:Cr s=some p):isI p.1∧s.data.toList=Bz p.1++p.2.data.toList:=by
 unfold Cr at h;cases hc:Oa s 59 with
 |none=>rw[hc]at h;cases h
 |some q=>
  rw[hc]at h;simp only[ZA]at h;cases hv:Ag0 q.1 with
  |none=>rw[hv]at h;cases h
  |some n=>
   rw[hv]at h;simp only[Option.map_some,ZD]at h;subst h;unfold Ag0 at hv;split at hv
   ·rename_i m hm;split at hv
    ·rename_i he;injection hv with hv
     subst hv;obtain⟨b0,b1⟩:=atoiAll_bounds hm;refine⟨⟨b0,b1⟩,?_⟩;unfold Oa at hc;split at hc
     ·cases hc
     ·rename_i hn;injection hc with hc
      obtain⟨k,hk⟩:=Int.eq_ofNat_of_zero_le (show 0≤ixb s 59 by omega);have hk1:=indexByte_some (show indexByte s.data.toList 59=(k:Int)from hk);have hs:s=bA s.data.toList:=(Xj s).symm;rw[hk,Int.toNat_natCast]at hc;generalize s.data.toList=l at *;subst hs;rw[F5,F5,C4]at hc;subst hc;simp only[Ky]at he ⊢;unfold Bz;rw[he];obtain⟨hlt,hat⟩:=ZB.1 hk1.1;rw[XF,List.drop_zero]
      conv=>lhs;rw[←List.take_append_drop k l,List.drop_eq_getElem_cons hlt,hat]
      simp
    ·cases hv
   ·cases hv
end Pl
end
namespace Pl
section
variable {α:Type} {lt:α→α→Bool} {cf:α→Int} {l:List α}
theorem U2(htr:∀x y z,lt x y=true→lt y z=true→lt x z=true)(hs:Co lt l=true):∀j i,(hj:j<l.length)→(hij:i<j)→lt (l[i]'(by omega)) l[j]=true:=by
 intro j
 induction j with
 |zero=>intro i _ h;omega
 |succ j ih=>
  intro i hj hij;have h1:=Wj hs j hj;rcases(by omega:i<j∨i=j)with g|rfl
  ·exact htr _ _ _ (ih i (by omega) g) h1
  ·exact h1
def Wr(cf:α→Int)(l:List α):Prop:=∀i j,(hj:j<l.length)→(hij:i<j)→cf l[j]≤0→cf (l[i]'(by omega))<0
theorem Abz(htr:∀x y z,lt x y=true→lt y z=true→lt x z=true)(hcf:∀x y,lt x y=true→cf y≤0→cf x<0)(hs:Co lt l=true):Wr cf l:=
 fun i j hj hij h=>hcf _ _ (U2 htr hs j i hj hij) h
theorem Wr.mono(h:Wr cf l):Aqq cf l:=fun i j hi hj hij hc=>by
 rcases(by omega:i<j∨i=j)with g|rfl
 ·exact h i j hj g (by omega)
 ·exact hc
theorem M9(h:hit cf l=true):low cf l<l.length:=by
 rcases Nat.lt_or_ge (low cf l) l.length with g|g
 ·exact g
 ·rw[Ahd (by omega)]at h;cases h
theorem Adk(h:hit cf l=true):cf (l[low cf l]'(M9 h))=0:=by
 have:=Afl (M9 h);rw[this]at h;simpa using h
theorem Aiu{x:α}(hx:x∈l.take (low cf l)):cf x<0:=by
 obtain⟨i,hi,rfl⟩:=List.getElem_of_mem hx;rw[ZM]at hi;rw[List.getElem_take];exact Yf (by omega) (by omega)
theorem V4(hm:Wr cf l)(h:hit cf l=false){x:α}(hx:x∈l.drop (low cf l)):0<cf x:=by
 obtain⟨i,hi,rfl⟩:=List.getElem_of_mem hx;rw[List.length_drop]at hi;rw[List.getElem_drop];have hlo:low cf l<l.length:=by omega
 have h0:=Afy hlo;have h1:cf l[low cf l]≠0:=by
  rw[Afl hlo]at h;simpa using h
 rcases Nat.eq_zero_or_pos i with rfl|hp
 ·simp only[Nat.add_zero];omega
 ·have:=hm (low cf l) (low cf l+i) (by omega) (by omega);omega
theorem Al1{k:Nat}(hk:k<l.length):l=l.take k++l[k]::l.drop (k+1):=by
 rw[←List.drop_eq_getElem_cons hk,List.take_append_drop]
theorem Ahr(hm:Wr cf l):at_ (fun x=>decide (cf x=0)) l=if hit cf l=true then(low cf l:Int)else -1:=by
 split
 ·rename_i h;refine Abj (M9 h) (fun i hi hlt=>?_) (by simpa using Adk h);have:=Yf (cf:=cf) hi hlt;simp;omega
 ·rename_i h;refine Agg fun i hi=>?_;have hf:hit cf l=false:=by simpa using h
  rcases Nat.lt_or_ge i (low cf l)with g|g
  ·have:=Yf (cf:=cf) hi g;simp;omega
  ·have hx:l[i]∈l.drop (low cf l):=by
    rw[List.mem_iff_getElem];exact⟨i-low cf l,by rw[List.length_drop];omega,by rw[List.getElem_drop];congr 1;omega⟩
   have:=V4 hm hf hx;simp;omega
def Acd(cf:α→Int)(g:α)(l:List α):List α:=if hit cf l=true then l.set (low cf l) g else l.take (low cf l)++[g]++l.drop (low cf l)
end
end Pl
namespace Pl
structure Ord{α:Type}(lt:α→α→Bool)(cf:α→α→Int):Prop where
 neg:∀g x,cf g x<0↔lt x g=true
 pos:∀g x,0<cf g x↔lt g x=true
 trans:∀x y z,lt x y=true→lt y z=true→lt x z=true
 left:∀g x y,cf g x=0→lt x y=lt g y
 right:∀g x y,cf g x=0→lt y x=lt y g
section
variable {α:Type} {lt:α→α→Bool} {cf:α→α→Int} {l:List α}
theorem Ord.smono(o:Ord lt cf)(hs:Co lt l=true)(g:α):Wr (cf g) l:=
 Abz o.trans (fun x y h hy=>by
  rw[o.neg];rcases(by omega:cf g y<0∨cf g y=0)with q|q
  ·exact o.trans _ _ _ h ((o.neg g y).1 q)
  ·rw[←o.right g y x q];exact h) hs
theorem X6(h:∀j i,(hj:j<l.length)→(hij:i<j)→lt (l[i]'(by omega)) l[j]=true):Co lt l=true:=
 Ef fun i hi=>h (i+1) i hi (by omega)
theorem Af9(ht:∀x y z,lt x y=true→lt y z=true→lt x z=true):Co lt l=true↔l.Pairwise (fun x y=>lt x y=true):=by
 constructor
 ·intro h;rw[List.pairwise_iff_getElem];intro i j hi hj hij;exact U2 ht h j i hj hij
 ·intro h;rw[List.pairwise_iff_getElem]at h;exact X6 fun j i hj hij=>h i j (by omega) hj hij
theorem Ord.put(o:Ord lt cf)(hs:Co lt l=true)(g:α):Co lt (Acd (cf g) g l)=true:=by
 have hm:=o.smono hs g;rw[Af9 o.trans]at hs ⊢;unfold Acd;split
 ·rename_i h;have hl:=M9 h;have h0:=Adk h;rw[List.set_eq_take_append_cons_drop,if_pos hl];have e:=Al1 hl;rw[e]at hs;rw[List.pairwise_append,List.pairwise_cons]at hs ⊢;refine⟨hs.1,⟨fun y hy=>?_,hs.2.1.2⟩,fun x hx y hy=>?_⟩
  ·rw[←o.left g _ y h0];exact hs.2.1.1 y hy
  ·rcases XC.1 hy with rfl|hy
   ·rw[←o.right _ _ x h0];exact hs.2.2 x hx _ (XB ..)
   ·exact hs.2.2 x hx y (ZL _ hy)
 ·rename_i h;have hf:hit (cf g) l=false:=by simpa using h
  have e:l=l.take (low (cf g) l)++l.drop (low (cf g) l):=(List.take_append_drop _ _).symm;rw[e,List.pairwise_append]at hs;rw[ZS,List.pairwise_append,List.singleton_append,List.pairwise_cons];refine⟨hs.1,⟨fun y hy=>(o.pos g y).1 (V4 hm hf hy),hs.2.1⟩,fun x hx y hy=>?_⟩;rcases XC.1 hy with rfl|hy
  ·exact(o.neg _ x).1 (Aiu hx)
  ·exact hs.2.2 x hx y hy
def upd(cf:α→α→Int)(nw:α→α→Bool)(l:List α)(g:α):List α:=
 match l[low (cf g) l]? with
 |some x=>if hit (cf g) l=true∧nw g x=false then l else Acd (cf g) g l
 |none=>Acd (cf g) g l
theorem Ai4(nw:α→α→Bool)(g:α):upd cf nw l g=l∨upd cf nw l g=Acd (cf g) g l:=by
 unfold upd;split
 ·split
  ·exact .inl rfl
  ·exact .inr rfl
 ·exact .inr rfl
theorem Ord.upd(o:Ord lt cf)(nw:α→α→Bool)(hs:Co lt l=true)(g:α):Co lt (upd cf nw l g)=true:=by
 rcases Ai4 (cf:=cf) (l:=l) nw g with h|h
 ·rw[h];exact hs
 ·rw[h];exact o.put hs g
end
end Pl
namespace Pl
section
variable {α:Type} {cf:α→α→Int} {nw:α→α→Bool} {l:List α} {g:α}
end
end Pl
namespace Pl
def Da{α:Type}(e:α→α→Bool)(a b:List α):Bool:=decide (a.length=b.length)&&(List.zip a b).all fun x=>e x.1 x.2
theorem Mk{α:Type}{e:α→α→Bool}{a b:List α}(h:a.length≠b.length):Da e a b=false:=by simp[Da,h]
theorem Me{α:Type}{e:α→α→Bool}{a b:List α}{k:Nat}(h1:k<a.length)(h2:k<b.length)(h:e a[k] b[k]=false):Da e a b=false:=by
 unfold Da;rw[Bool.and_eq_false_iff];right;rw[List.all_eq_false];have hz:k<(List.zip a b).length:=by simp;omega
 exact⟨(List.zip a b)[k],ZK hz,by simp[h]⟩
theorem Hm{α:Type}{e:α→α→Bool}{a b:List α}(hl:a.length=b.length)(h:∀k,(h1:k<a.length)→(h2:k<b.length)→e a[k] b[k]=true):Da e a b=true:=by
 unfold Da;rw[Bool.and_eq_true_iff];refine⟨by simpa using hl,List.all_eq_true.2 fun x hx=>?_⟩;obtain⟨k,hk,rfl⟩:=List.getElem_of_mem hx;simp at hk ⊢;exact h k (by omega) (by omega)
theorem M5{α:Type}{e:α→α→Bool}(he:∀x,e x x=true)(a:List α):Da e a a=true:=Hm rfl fun k _ _=>he _
theorem Zx{α:Type}{e:α→α→Bool}(he:∀x y,e x y=true↔x=y){a b:List α}:Da e a b=true↔a=b:=by
 constructor
 ·intro h;unfold Da at h;rw[Bool.and_eq_true_iff]at h;have hl:a.length=b.length:=by simpa using h.1
  apply List.ext_getElem hl;intro i h1 h2;have hz:i<(List.zip a b).length:=by simp;omega
  have:=List.all_eq_true.1 h.2 _ (ZK hz);simp at this;exact(he _ _).1 this
 ·rintro rfl
  exact M5 (fun x=>(he x x).2 rfl) a
end Pl
namespace Pl
def okB(n:Int):Bool:=decide ((97≤n∧n≤122)∨(48≤n∧n≤57)∨n=45∨n=95)
def lab(s:List UInt8):Bool:=s.all (fun c=>okB c.toNat)&&decide (1≤s.length∧s.length≤30)
theorem Agj{s:List UInt8}(h:∀i,(hi:i<s.length)→okB (s[i]).toNat=true)(h1:1≤s.length)(h2:s.length≤30):lab s=true:=by
 unfold lab;rw[Bool.and_eq_true_iff];refine⟨List.all_eq_true.2 fun c hc=>?_,by simp;omega⟩;obtain⟨i,hi,rfl⟩:=List.getElem_of_mem hc;exact h i hi
theorem Ao1{s:List UInt8}{i:Nat}(hi:i<s.length)(h:okB (s[i]).toNat=false):lab s=false:=by
 unfold lab;rw[Bool.and_eq_false_iff];left;rw[List.all_eq_false];exact⟨s[i],ZK hi,by simp[h]⟩
theorem Ac6{s:List UInt8}(h:¬(1≤s.length∧s.length≤30)):lab s=false:=by
 unfold lab;simp only[h,decide_false,Bool.and_false]
theorem Amj{n:Int}(h:¬((97≤n∧n≤122)∨(48≤n∧n≤57)∨n=45∨n=95)):okB n=false:=by
 unfold okB;simpa using h
theorem Agl{n:Int}(h:(97≤n∧n≤122)∨(48≤n∧n≤57)∨n=45∨n=95):okB n=true:=by
 unfold okB;simpa using h
end Pl
theorem Q5(a:ByteArray)(w:World):Calls Tryz.prog 135 #[.string a] w fun e w'=>e=.returned (.bool false)∧w=w':=by
 have h:(a.toList==a.toList)=true:=by simp
 go_enter Tryz.func135,Tryz.ntmps135
 go_wp2
 go_ret
 exact⟨Jv (by simp),rfl⟩
theorem Alb(a b:ByteArray)(w:World):Calls Tryz.prog 93 #[.string a,.string b] w fun e w'=>e=.returned (.int .i64 (Fk a b))∧w=w':=by
 rcases Bool.eq_false_or_eq_true (slt a b)with h|h
 ·have HE:=hid (Amz h);unfold slt at h
  go_enter Tryz.func93,Tryz.ntmps93
  go_wp2_with (go_at_call 135;refine(Q5 _ _).mono ?_;rintro e w' ⟨rfl,rfl⟩)
  go_ret
  exact⟨Pr HE.out.symm,rfl⟩
 ·rcases Bool.eq_false_or_eq_true (slt b a)with g|g
  ·have HE:=hid (Aob g);have h2:(a.toList==b.toList)=false:=Aay (fun e=>by subst e;rw[Fx]at g;cases g);unfold slt at h;clear g
   go_enter Tryz.func93,Tryz.ntmps93
   go_wp2_with (go_at_call 135;refine(Q5 _ _).mono ?_;rintro e w' ⟨rfl,rfl⟩)
   go_ret
   exact⟨Pr HE.out.symm,rfl⟩
  ·obtain rfl:=Ab4 h g;have HE:=hid (Vn a);have h2:(a.toList==a.toList)=true:=by simp
   unfold slt at h;clear g
   go_enter Tryz.func93,Tryz.ntmps93
   go_wp2_with (go_at_call 135;refine(Q5 _ _).mono ?_;rintro e w' ⟨rfl,rfl⟩)
   go_ret
   exact⟨Pr HE.out.symm,rfl⟩
def Ew(a b:Int):Int:=if a<b then -1 else if b<a then 1 else 0
theorem Qr(a:Int)(w:World):Calls Tryz.prog 166 #[.int .i64 a] w fun e w'=>e=.returned (.bool false)∧w=w':=by
 have h:(a==a)=true:=by simp
 go_enter Tryz.func166,Tryz.ntmps166
 go_wp2
 go_ret
 exact⟨Jv (by simp),rfl⟩
theorem Ajq(a b:Int)(w:World):Calls Tryz.prog 137 #[.int .i64 a,.int .i64 b] w fun e w'=>e=.returned (.int .i64 (Ew a b))∧w=w':=by
 by_cases h:a<b
 ·have HE:Hid (Ew a b= -1):=hid (by simp[Ew,h])
  go_enter Tryz.func137,Tryz.ntmps137
  go_wp2_with (go_at_call 166;refine(Qr _ _).mono ?_;rintro e w' ⟨rfl,rfl⟩)
  go_ret
  exact⟨Pr HE.out.symm,rfl⟩
 ·by_cases g:b<a
  ·have HE:Hid (Ew a b=1):=hid (by simp[Ew,h,g])
   go_enter Tryz.func137,Tryz.ntmps137
   go_wp2_with (go_at_call 166;refine(Qr _ _).mono ?_;rintro e w' ⟨rfl,rfl⟩)
   go_ret
   exact⟨Pr HE.out.symm,rfl⟩
  ·have HE:Hid (Ew a b=0):=hid (by simp[Ew,h,g])
   go_enter Tryz.func137,Tryz.ntmps137
   go_wp2_with (go_at_call 166;refine(Qr _ _).mono ?_;rintro e w' ⟨rfl,rfl⟩)
   go_ret
   exact⟨Pr HE.out.symm,rfl⟩
def Ct:List Int→Int
 |[]=>0
 |x::r=>if x=0 then Ct r else x
theorem Wt:∀{l:List Int} {k:Nat} (hk:k<l.length),(∀i,(h:i<l.length)→i<k→l[i]=0)→l[k]≠0→Ct l=l[k]
 |x::r,0,_,_,hne=>by
  simp only[List.getElem_cons_zero]at hne ⊢;simp[Ct,hne]
 |x::r,k+1,hk,h,hne=>by
  have h0:x=0:=h 0 (by simp) (by omega);subst h0;simp only[Ct,if_true,List.getElem_cons_succ]at hne ⊢;exact Wt (by simpa using hk) (fun i hi hik=>h (i+1) (by simpa using hi) (by omega)) hne
theorem Rc:∀{l:List Int},(∀i,(h:i<l.length)→l[i]=0)→Ct l=0
 |[],_=>rfl
 |x::r,h=>by
  have h0:x=0:=h 0 (by simp);subst h0;simp only[Ct,if_true];exact Rc fun i hi=>h (i+1) (by simpa using hi)
theorem Adp{s:ByteArray}{k:Nat}(h:∀j,(hj:j<s.data.toList.length)→j<k→okB (s.data.toList[j]).toNat=true)(hlt:k<s.size)(hk:okB (s[k]).toNat=true):
  ∀j,(hj:j<s.data.toList.length)→j<k+1→okB (s.data.toList[j]).toNat=true:=by
 intro j hj hjk;rcases(by omega:j<k∨j=k)with g|rfl
 ·exact h j hj g
 ·exact hk
theorem Q8(s:ByteArray):s.toList.isEmpty=decide (s.size=0):=by
 rw[ByteArray.toList_eq,Bool.eq_iff_iff,List.isEmpty_iff_length_eq_zero,decide_eq_true_eq,Array.length_toList];rfl
theorem Alw{s:ByteArray}(h1:1≤s.size∧s.size≤30→lab s.data.toList=true)(h2:¬(1≤s.size∧s.size≤30)→lab s.data.toList=false)(e:s.toList.isEmpty=false):decide ((s.size:Int)≤30)=lab s.data.toList:=by
 have e0:s.size≠0:=by simpa[Q8]using e
 by_cases g:s.size≤30
 ·rw[h1 ⟨by omega,g⟩];simp;omega
 ·rw[h2 (by omega)];simp;omega
theorem Akh{s:ByteArray}(h2:¬(1≤s.size∧s.size≤30)→lab s.data.toList=false)(e:s.toList.isEmpty=true):false=lab s.data.toList:=by
 have e0:s.size=0:=by simpa[Q8]using e
 rw[h2 (by omega)]
theorem Amg(w:World)(C:Array Value)(t:TypeId)(fr:Nat×Nat)(k:Nat):(w.alloc (.cells C t fr)).drew.cell? ⟨w.heap.size,k,none⟩=C[k]? :=by
 have h:(w.alloc (.cells C t fr)).drew.heap[w.heap.size]? =some (.cells C t fr):=heap_alloc_new w _;unfold World.cell?;rw[h];rfl
theorem Ah3{s:ByteArray}{k:Nat}(hlt:k<s.size)(hk:okB (s[k]).toNat=false):false=lab s.data.toList:=
 (Ao1 (i:=k) (s:=s.data.toList) (by simpa using hlt) hk).symm
theorem Xd (s : ByteArray) (w : World) (hs : s.size ≤ 9223372036854775807) :
    Calls Tryz.prog 27 #[.string s] w fun e w' => e = .returned (.bool (lab s.data.toList)) ∧ w = w' := by
  go_enter Tryz.func27, Tryz.ntmps27
  go_wp2
  go_loop [3] (fun i => ∃ k : Nat, k ≤ s.size ∧ i = .int .i64 k ∧ ∀ j, (hj : j < s.data.toList.length) → j < k → okB (s.data.toList[j]).toNat = true) (fun i => s.size - (intOf i).toNat)
  case atStart => exact ⟨0, ZU _, rfl, fun j _ h => absurd h (by omega)⟩
  case round =>
    obtain ⟨k, hk, rfl, hall⟩ := hrel
    have HA := hid hall
    clear hall
    by_cases hlt : k < s.size
    · go_wp2
      all_goals first
        | (go_round
           case rel => exact ⟨k + 1, by omega, by go_num, Adp HA.out hlt (Agl (by go_light; clear HA; first | omega | (simp_all; done) | (simp_all; omega)))⟩
           case measure => simp [intOf]; omega)
        | (go_ret
           exact ⟨Jv (Ah3 hlt (Amj (by go_light; clear HA; first | omega | (simp_all; done) | (simp_all; omega)))), rfl⟩)
    · have HL := fun (g : 1 ≤ s.size ∧ s.size ≤ 30) => Agj (s := s.data.toList) (fun i hi => HA.out i hi (by simp at hi; omega)) (by simpa using g.1) (by simpa using g.2)
      have HN := fun (g : ¬ (1 ≤ s.size ∧ s.size ≤ 30)) => Ac6 (s := s.data.toList) (by simpa using g)
      have HL := hid HL
      have HN := hid HN
      clear HA
      go_wp2
      all_goals go_ret
      all_goals exact ⟨Jv (by
        go_light
        by_cases g : 1 ≤ s.size ∧ s.size ≤ 30
        · rw [HL.out g] <;> first | rfl | (simp <;> omega)
        · rw [HN.out g] <;> first | rfl | (simp <;> omega)), rfl⟩
theorem Aj0(s:ByteArray)(w:World):∃(cap:Nat) (C:Array Value) (fr:Nat×Nat),
  (convert 9 122 (.string s)).run Tryz.prog w=.ok (.slice (some ⟨w.heap.size,0,none⟩) s.size cap) (w.drew.alloc (.cells C 5 fr))∧
  ∀j,(h:j<s.size)→C[j]? =some (.int .u8 ((s[j]).toNat:Int)):=by
 refine⟨_,_,_,run_bytes_of_string w 9 122 5 s Tryz.underlying9 Tryz.underlying122 Tryz.underlying5,?_⟩;intro j h;exact bytesRow_at s _ j h
set_option maxRecDepth 100000 in
theorem Acp (s : ByteArray) (w : World) (hs : s.size ≤ 9223372036854775807) :
    Calls Tryz.prog 44 #[.string s] w fun e w' => e = .returned (.bool (lab s.data.toList)) ∧ Below w.heap.size w w' ∧ w.drawn ≤ w'.drawn := by
  obtain ⟨cap, C, fr, hrun, hC⟩ := Aj0 s w
  have HC := hid hC
  clear hC
  have hB : Below w.heap.size w (w.alloc (.cells C 5 fr)).drew ∧ w.drawn ≤ (w.alloc (.cells C 5 fr)).drew.drawn := ⟨(by repeat (first | exact Below.refl _ _ | assumption | refine Below.drew ?_ | refine below_drewN ?_ _ | refine Below.alloc ?_ (by simp; try omega) _ | refine Below.setCell ?_ (by simp; try omega) _)), Nat.le_succ _⟩
  have HB := hid hB
  clear hB
  go_enter Tryz.func44, Tryz.ntmps44
  go_wp2
  go_loop [8] (fun i => ∃ k : Nat, k ≤ s.size ∧ i = .int .i64 k ∧ ∀ j, (hj : j < s.data.toList.length) → j < k → okB (s.data.toList[j]).toNat = true) (fun i => s.size - (intOf i).toNat)
  case atStart => exact ⟨0, ZU _, rfl, fun j _ h => absurd h (by omega)⟩
  case round =>
    obtain ⟨k, hk, rfl, hall⟩ := hrel
    have HA := hid hall
    clear hall
    by_cases hlt : k < s.size
    · have hcell : (w.alloc (.cells C 5 fr)).drew.cell? ⟨w.heap.size, k, none⟩ = some (.int .u8 ((s[k]).toNat : Int)) := (Amg w C 5 fr k).trans (HC.out k hlt)
      have hby : ((s[k]).toNat : Int) ≤ 255 := by have := (s[k]).toNat_lt; omega
      clear hrun
      go_wp2
      all_goals first
        | (go_round
           case rel => exact ⟨k + 1, by omega, by go_num, Adp HA.out hlt (Agl (by go_light; clear HA; first | omega | (simp_all; done) | (simp_all; omega)))⟩
           case measure => simp [intOf]; omega)
        | (go_ret
           exact ⟨Jv (Ah3 hlt (Amj (by go_light; clear HA; first | omega | (simp_all; done) | (simp_all; omega)))), HB.out⟩)
    · have HL := fun (g : 1 ≤ s.size ∧ s.size ≤ 30) => Agj (s := s.data.toList) (fun i hi => HA.out i hi (by simp at hi; omega)) (by simpa using g.1) (by simpa using g.2)
      have HN := fun (g : ¬ (1 ≤ s.size ∧ s.size ≤ 30)) => Ac6 (s := s.data.toList) (by simpa using g)
      have HL := hid HL
      have HN := hid HN
      clear HA
      go_wp2
      all_goals go_ret
      all_goals first
        | exact ⟨Jv (Alw HL.out HN.out ‹s.toList.isEmpty = false›), HB.out⟩
        | exact ⟨Jv (Akh HN.out ‹s.toList.isEmpty = true›), HB.out⟩
theorem Dd[Glob](s:ByteArray)(hs:s.size≤9223372036854775807):Fun Tryz.prog 44 [.c (.v (.string s))] [.c (.v (.bool (lab s.data.toList)))]:=
 Pi (xs:=[.string s]) (Df Tryz.func44 (by kernel_rfl) (by kernel_rfl)) fun w=>(Acp s w hs).mono fun e w' h=>⟨h.1,h.2.1⟩
theorem Dw[Glob](s:ByteArray)(hs:s.size≤9223372036854775807):Fun Tryz.prog 27 [.c (.v (.string s))] [.c (.v (.bool (lab s.data.toList)))]:=
 Pi (xs:=[.string s]) (Df Tryz.func27 (by kernel_rfl) (by kernel_rfl)) fun w=>(Xd s w hs).mono fun e w' ⟨h1,h2⟩=>⟨h1,h2▸Below.refl _ _⟩
theorem Xq[Glob](a b:ByteArray):Fun Tryz.prog 93 [.c (.v (.string a)),.c (.v (.string b))] [.c (.v (.int .i64 (Fk a b)))]:=
 Pi (xs:=[.string a,.string b]) (Df Tryz.func93 (by kernel_rfl) (by kernel_rfl)) fun w=>(Alb a b w).mono fun e w' ⟨h1,h2⟩=>⟨h1,h2▸Below.refl _ _⟩
theorem Sb[Glob](a b:Int):Fun Tryz.prog 137 [.c (.v (.int .i64 a)),.c (.v (.int .i64 b))] [.c (.v (.int .i64 (Ew a b)))]:=
 Pi (xs:=[.int .i64 a,.int .i64 b]) (Df Tryz.func137 (by kernel_rfl) (by kernel_rfl)) fun w=>(Ajq a b w).mono fun e w' ⟨h1,h2⟩=>⟨h1,h2▸Below.refl _ _⟩
theorem Bv[Glob](n a b:Int):Fun Tryz.prog 16 [.c (.v (.int .i64 n)),.c (.v (.int .i64 a)),.c (.v (.int .i64 b))] [.c (.v (.bool (wi n a b)))]:=by
 refine A9 N0 rfl ?_;(refine goI ?_;repeat (intro gg;refine goI ?_));(refine Ab (fun h=>?_) (fun h=>?_)<;>rw[h])
 ·(refine goI ?_;repeat (intro gg;refine goI ?_));rw[Am0 h];(exact⟨[],aI⟩)
 ·(refine goI ?_;repeat (intro gg;refine goI ?_));rw[Alc h];(exact⟨[],aI⟩)
theorem K8[Glob](n:Int):Fun Tryz.prog 63 [.c (.v (.int .i64 n))] [.c (.v (.bool (wi n 0 4294967295)))]:=by
 refine A9 Ml rfl ?_;(refine goI ?_;repeat (intro gg;refine goI ?_));refine .inl (cX (Bv _ _ _) ?_);(refine goI ?_;repeat (intro gg;refine goI ?_));(exact⟨[],aI⟩)
theorem Mz{α:Type}(e:α→Int)(a:α):Ad e [a]=e a:=by
 by_cases h:e a=0<;>simp[Ad,h]
theorem Di{α:Type}{mx:Nat}{e:α→Int}{lt:α→α→Bool}{l:List α}(h1:¬mx<l.length)(h2:Ad e l≠0):ckL mx e lt l=Ad e l:=by simp[ckL,h1,h2]
theorem Oi{α:Type}{mx:Nat}{e:α→Int}{lt:α→α→Bool}{l:List α}(h1:¬mx<l.length)(h2:Ad e l=0)(h3:Co lt l=false):ckL mx e lt l=4:=by simp[ckL,h1,h2,h3]
theorem K0{α:Type}{mx:Nat}{e:α→Int}{lt:α→α→Bool}{l:List α}(h1:¬mx<l.length)(h2:Ad e l=0)(h3:Co lt l=true):ckL mx e lt l=0:=by simp[ckL,h1,h2,h3]
theorem Aoj(a:Int):Ew a a=0:=by simp[Ew]
theorem Anb{a b:Int}(h:a≠b):Ew a b≠0:=by
 unfold Ew;split
 ·decide
 ·split
  ·decide
  ·omega
theorem Al4{a b:Int}:0<Ew a b↔b<a:=by
 unfold Ew;split
 ·constructor<;>intro h<;>omega
 ·split<;>(constructor<;>intro h<;>omega)
theorem Amh{a b:Int}{r:List Int}(h:(a !=b)=true):decide (0<Ct (Ew a b::r))=decide (b<a):=by
 have h:a≠b:=by simpa using h
 simp[Ct,Anb h,Al4]
theorem Aky{a b:Int}{r:List Int}(h:(a !=b)=false):Ct (Ew a b::r)=Ct r:=by
 have h:a=b:=by simpa using h
 subst h;simp[Ct,Aoj]
def b2i(b:Bool):Int:=if b then 1 else 0
theorem Ali{p q:Bool}:decide (0<Ct [Ew (b2i p) (b2i q)])=(p&& !q):=by cases p<;>cases q<;>decide
def Alz(n:Int):List V:=[.v (.int .i64 n)]
instance:FlatRow Alz:=⟨fun x u hu=>by simp[Alz]at hu;exact⟨_,hu⟩⟩
theorem Ajn[Glob](c:Bool)(l:List Int)(hl:l.length≤9223372036854775807):Fun Tryz.prog 136 [.c (.sl c (l.map Alz))] [.c (.v (.int .i64 (Ct l)))]:=by
 refine A9 Yn rfl ?_;(refine goI ?_;repeat (intro gg;refine goI ?_));(refine⟨[],none,{k:Nat//k≤l.length∧∀j,(h:j<l.length)→j<k→l[j]=0},[3,6,7],fun⟨k,hk,h0⟩=>[(8,.v (.int .i64 k))],[],fun⟨k,hk,h0⟩=>[],fun⟨k,hk,h0⟩=>l.length-k,trivial,fun _=>⟨trivial,fun _=>⟨⟨0,by omega,fun j _ h=>by omega⟩,tI,Ah _ _,tI,Ag _ _⟩⟩,fun⟨k,hk,h0⟩=>?_⟩);(refine goI ?_;repeat (intro gg;refine goI ?_));rw[ZE];(refine Ab (fun h=>?_) (fun h=>?_)<;>rw[h])
 ·have hlt:k<l.length:=by simpa using h
  (refine goI ?_;repeat (intro gg;refine goI ?_));refine⟨k,_,rfl,Am hlt,?_⟩;(refine goI ?_;repeat (intro gg;refine goI ?_));(refine Ab (fun h=>?_) (fun h=>?_)<;>rw[h])
  ·(refine goI ?_;repeat (intro gg;refine goI ?_));rw[Wt hlt h0 (by simpa using h)];(exact⟨[],aI⟩)
  ·(refine goI ?_;repeat (intro gg;refine goI ?_));(exact⟨none,trivial,fun _=>⟨⟨k+1,by omega,up1 (p:=fun j h=>l[j]=0) h0 (fun _=>by simpa using h)⟩,by show l.length-(k+1)<l.length-k;omega,tI,tI,tI,tI⟩⟩)
 ·have hge:¬k<l.length:=by simpa using h
  (refine goI ?_;repeat (intro gg;refine goI ?_));rw[Rc (l:=l) (fun i hi=>h0 i hi (by omega))];(exact⟨[],aI⟩)
namespace Pl
structure Mb where
 n:ByteArray
 st:Int
 lf:Int
 ad:Int
 sv:Bool
def Mb.enc(m:Mb):List Value:=[.string m.n,.int .i64 m.st,.int .i64 m.lf,.int .i64 m.ad,.bool m.sv]
def Mb.row(m:Mb):List V:=[.v (.string m.n),.v (.int .i64 m.st),.v (.int .i64 m.lf),.v (.int .i64 m.ad),.v (.bool m.sv)]
theorem Mb.enc_len(m:Mb):m.enc.length=5:=rfl
theorem Mb.enc_one(m:Mb):∀u∈m.enc,u.oneCell'=true:=by
 intro u hu;simp[Mb.enc]at hu;rcases hu with rfl|rfl|rfl|rfl|rfl<;>rfl
instance:FlatRow Mb.row:=⟨fun x u hu=>by simp[Mb.row]at hu;rcases hu with rfl|rfl|rfl|rfl|rfl<;>exact⟨_,rfl⟩⟩
def Mb.ok(m:Mb):Prop:=m.n.size≤9223372036854775807
def Mb.err(m:Mb):Int:=if lab m.n.data.toList then(if wi m.st 1 4 then(if wi m.lf 1 1000000&&wi m.ad 0 4294967295 then 0 else 3)else 7)else 1
def Mb.lt(g h:Mb):Bool:=slt g.n h.n
def Gj(l:List Mb):Int:=ckL 20 Mb.err Mb.lt l
def Mb.cf(name:ByteArray)(g:Mb):Int:=Fk g.n name
def Mb.kf(g x:Mb):Int:=Mb.cf g.n x
def Mb.cmp(g x:Mb):Int:=Ct [Ew g.lf x.lf,Ew g.st x.st,Ew g.ad x.ad,Ew (b2i g.sv) (b2i x.sv)]
def Mb.nw(g x:Mb):Bool:=decide (0<Mb.cmp g x)
def Mb.is(name:ByteArray)(m:Mb):Bool:=m.n.toList==name.toList
def Mb.same(g h:Mb):Bool:=(g.n.toList==h.n.toList)&&((g.st==h.st)&&((g.lf==h.lf)&&((g.ad==h.ad)&&((g.sv==h.sv)&&true))))
theorem Mb.same_iff{g h:Mb}:Mb.same g h=true↔g=h:=by
 obtain⟨a,b,c,d,e⟩:=g;obtain⟨a',b',c',d',e'⟩:=h;have tl:∀a b:ByteArray,a.toList=b.toList↔a=b:=fun a b=>⟨toList_inj,fun h=>by rw[h]⟩;simp only[Mb.same,Bool.and_true,ZO,ZR,tl,Mb.mk.injEq]
theorem Mb.err_cases(m:Mb):m.err=0∨m.err=1∨m.err=3∨m.err=7:=by
 unfold Mb.err;split
 ·split
  ·split<;>simp
  ·simp
 ·simp
theorem Mb.lt_trans(x y z:Mb)(h1:Mb.lt x y=true)(h2:Mb.lt y z=true):Mb.lt x z=true:=Ta h1 h2
theorem Mb.lt_cf(name:ByteArray)(x y:Mb)(h:Mb.lt x y=true)(hy:Mb.cf name y≤0):Mb.cf name x<0:=by
 unfold Mb.cf at *;rw[Q7];rcases Bool.eq_false_or_eq_true (slt y.n name)with g|g
 ·exact Ta h g
 ·have h0:Fk y.n name=0:=by
   rcases(by omega:Fk y.n name<0∨Fk y.n name=0)with q|q
   ·rw[Q7]at q;rw[q]at g;cases g
   ·exact q
  rw[I5]at h0;rw[←h0];exact h
theorem Re{l:List Mb}(h:Gj l=0):l.length≤20∧(∀i,(hi:i<l.length)→(l[i]).err=0)∧Co Mb.lt l=true:=Abd Mb.err_cases h
theorem Mb.smono{l:List Mb}(h:Co Mb.lt l=true)(name:ByteArray):Wr (Mb.cf name) l:=Abz Mb.lt_trans (Mb.lt_cf name) h
def Mb.ne(m x:Mb):Bool:= !(x.n.toList==m.n.toList)
theorem Mb.is_eq(name:ByteArray):Mb.is name=fun x=>decide (Mb.cf name x=0):=by
 funext x;unfold Mb.is Mb.cf;by_cases h:x.n=name
 ·rw[h,Vn];simp
 ·have h2:Fk x.n name≠0:=fun e=>h (I5.1 e);rw[Aay h];simp[h2]
theorem Mb.ne_eq(m:Mb):Mb.ne m=fun x=>decide (Mb.kf m x≠0):=by
 funext x;have:=congrFun (Mb.is_eq m.n) x;unfold Mb.is at this;unfold Mb.ne Mb.kf;rw[this];simp
theorem Mb.at_eq{l:List Mb}(hs:Co Mb.lt l=true)(name:ByteArray):at_ (Mb.is name) l=if hit (Mb.cf name) l=true then(low (Mb.cf name) l:Int)else -1:=by
 rw[Mb.is_eq];exact Ahr (Mb.smono hs name)
theorem Mb.err_inv{m:Mb}(h:m.err=0):lab m.n.data.toList=true∧(1≤m.st∧m.st≤4)∧(1≤m.lf∧m.lf≤1000000)∧(0≤m.ad∧m.ad≤4294967295):=by
 unfold Mb.err at h;split at h
 ·rename_i h1;split at h
  ·rename_i h2;split at h
   ·rename_i h3;rw[ZO,Fv,Fv]at h3;exact⟨h1,Fv.1 h2,h3⟩
   ·omega
  ·omega
 ·omega
theorem Aqy(row:List V)(h:Ov [.s,.i,.i,.i,.b] row):∃m:Mb,row=m.row∧m.ok:=by
 obtain⟨u0,_,rfl,f0,h⟩:=Au h;obtain⟨u1,_,rfl,f1,h⟩:=Au h;obtain⟨u2,_,rfl,f2,h⟩:=Au h;obtain⟨u3,_,rfl,f3,h⟩:=Au h;obtain⟨u4,_,rfl,f4,h⟩:=Au h;obtain rfl:=Ig h;obtain⟨n,rfl,hn⟩:=Ou f0;obtain⟨a,rfl,_⟩:=Ey f1;obtain⟨b,rfl,_⟩:=Ey f2;obtain⟨c,rfl,_⟩:=Ey f3;obtain⟨d,rfl⟩:=Ag5 f4;exact⟨⟨n,a,b,c,d⟩,rfl,hn⟩
end Pl
namespace Pl
structure Ru where
 m:Mb
 t:Int
def Ru.row(r:Ru):List V:=[.v (.string r.m.n),.v (.int .i64 r.m.st),.v (.int .i64 r.m.lf),.v (.int .i64 r.m.ad),.v (.bool r.m.sv),.v (.int .i64 r.t)]
instance:FlatRow Ru.row:=⟨fun x u hu=>by simp[Ru.row]at hu;rcases hu with rfl|rfl|rfl|rfl|rfl|rfl<;>exact⟨_,rfl⟩⟩
instance:OneRow Ru.row 6:=⟨fun _=>rfl,fun x u hu=>by simp[Ru.row]at hu;rcases hu with rfl|rfl|rfl|rfl|rfl|rfl<;>exact⟨_,rfl,rfl⟩⟩
instance:OneRow Mb.row 5:=⟨fun _=>rfl,fun x u hu=>by simp[Mb.row]at hu;rcases hu with rfl|rfl|rfl|rfl|rfl<;>exact⟨_,rfl,rfl⟩⟩
def Ru.ok(r:Ru):Prop:=r.m.ok
theorem Arg(row:List V)(h:Ov [.s,.i,.i,.i,.b,.i] row):∃m:Ru,row=m.row∧m.ok:=by
 obtain⟨u0,_,rfl,f0,h⟩:=Au h;obtain⟨u1,_,rfl,f1,h⟩:=Au h;obtain⟨u2,_,rfl,f2,h⟩:=Au h;obtain⟨u3,_,rfl,f3,h⟩:=Au h;obtain⟨u4,_,rfl,f4,h⟩:=Au h;obtain⟨u5,_,rfl,f5,h⟩:=Au h;obtain rfl:=Ig h;obtain⟨n,rfl,hn⟩:=Ou f0;obtain⟨a,rfl,_⟩:=Ey f1;obtain⟨b,rfl,_⟩:=Ey f2;obtain⟨c,rfl,_⟩:=Ey f3;obtain⟨d,rfl⟩:=Ag5 f4;obtain⟨e,rfl,_⟩:=Ey f5;exact⟨⟨⟨n,a,b,c,d⟩,e⟩,rfl,hn⟩
end Pl
namespace Pl
def An(l:List (ByteArray×V)):List (Value×V):=l.map fun p=>(.string p.1,p.2)
def Rr(k:ByteArray):List (ByteArray×V)→Nat→Option (Nat×V)
 |[],_=>none
 |(a,v)::es,i=>if k=a then some (i,v)else Rr k es (i+1)
theorem Pq(k:ByteArray):∀(l:List (ByteArray×V)) (i:Nat),Gk .string (.string k) (An l) i=some (Rr k l i)
 |[],i=>rfl
 |(a,v)::es,i=>by
  have ih:=Pq k es (i+1);unfold An at ih;by_cases h:k=a
  ·subst h;have hb:(k==k)=true:=(Go.MapKept.bytes_beq k k).2 rfl;simp[An,Gk,Rr,Instr.sameNow,hb]
  ·have hb:(k==a)=false:=by
    cases q:(k==a)with
    |true=>exact absurd ((Go.MapKept.bytes_beq k a).1 q) h
    |false=>rfl
   simp only[An,List.map_cons,Gk,Rr,Instr.sameNow,hb,if_neg h];exact ih
def put(l:List (ByteArray×V))(k:ByteArray)(v:V):List (ByteArray×V):=match Rr k l 0 with
 |some (i,_)=>l.set i (k,v)
 |none=>l++[(k,v)]
theorem Xy(l:List (ByteArray×V))(k:ByteArray)(v:V):Q3 (An l) (.string k) v (Rr k l 0)=An (put l k v):=by
 unfold put Q3;cases h:Rr k l 0 with
 |none=>simp[An]
 |some p=>obtain⟨i,u⟩:=p;simp[An,List.map_set]
theorem Wg(l:List (ByteArray×V)):(An l).length=l.length:=by simp[An]
theorem Y9{k:ByteArray}:∀{l:List (ByteArray×V)} {i j:Nat} {v:V},Rr k l i=some (j,v)→i≤j∧l[j-i]? =some (k,v)
 |[],i,j,v,h=>by simp[Rr]at h
 |(a,u)::es,i,j,v,h=>by
  unfold Rr at h;split at h
  ·rename_i e;simp only[ZD,Prod.mk.injEq]at h;obtain⟨rfl,rfl⟩:=h;subst e;exact⟨ZT _,by simp⟩
  ·obtain⟨h1,h2⟩:=Y9 h;exact⟨by omega,by rw[show j-i=(j-(i+1))+1 by omega];simpa using h2⟩
theorem Tw{k:ByteArray}:∀{l:List (ByteArray×V)} {i:Nat},Rr k l i=none↔k∉l.map (·.1)
 |[],i=>by simp[Rr]
 |(a,u)::es,i=>by
  unfold Rr;split
  ·rename_i e;subst e;simp
  ·rename_i e;rw[Tw (l:=es) (i:=i+1)];simp[e]
open Classical in
theorem Ak9{l:List (ByteArray×V)}{k:ByteArray}{v:V}:(put l k v).map (·.1)=if k∈l.map (·.1)then l.map (·.1)else l.map (·.1)++[k]:=by
 unfold put;cases h:Rr k l 0 with
 |none=>rw[if_neg (Tw.1 h)];simp
 |some p=>
  obtain⟨i,u⟩:=p;have hk:k∈l.map (·.1):=Classical.byContradiction fun q=>by rw[Tw.2 q]at h;cases h
  rw[if_pos hk];obtain⟨_,h2⟩:=Y9 h;simp only[Nat.sub_zero]at h2;show(l.set i (k,v)).map (·.1)=l.map (·.1);rw[List.map_set];apply List.ext_getElem?;intro j;rw[List.getElem?_set];split
  ·rename_i e;subst e;split
   ·simp[h2]
   ·rename_i q;simp at q;simp[q]
  ·rfl
structure H3(l:List (ByteArray×V))(ns:List ByteArray):Prop where
 mem:∀n,n∈l.map (·.1)↔n∈ns
 le:l.length≤ns.length
 all:l.length=ns.length↔ns.Nodup
 cl:∀p∈l,Cl p.2
theorem H3.nil:H3 [] []:=⟨by simp,by simp,by simp,by simp⟩
theorem H3.put{l:List (ByteArray×V)}{ns:List ByteArray}(h:H3 l ns)(k:ByteArray)(v:V)(hv:Cl v):H3 (put l k v) (ns++[k]):=by
 have hk:=Ak9 (l:=l) (k:=k) (v:=v);have hlen:(Pl.put l k v).length=((Pl.put l k v).map (·.1)).length:=by simp
 have hm:=h.mem k;refine⟨fun n=>?_,?_,?_,fun p hp=>?_⟩
 ·rw[hk];split
  ·rename_i q;rw[h.mem n];simp;intro e;subst e;exact hm.1 q
  ·simp only[XM,h.mem n]
 ·rw[hlen,hk];have:=h.le;split<;>simp<;>omega
 ·rw[hlen,hk];split
  ·rename_i q;have:=h.le;constructor
   ·intro e;simp at e;omega
   ·intro e;have:=(List.nodup_append.1 e).2.2 k (hm.1 q) k (by simp);exact absurd rfl this
  ·rename_i q;have hq:k∉ns:=fun e=>q (hm.2 e);simp only[ZF,ZE,ZJ,ZN];rw[List.nodup_append];constructor
   ·intro e;refine⟨h.all.1 (by omega),by simp,?_⟩;intro a ha b hb e';simp at hb;subst hb;subst e';exact hq ha
   ·intro e;have:=h.all.2 e.1;omega
 ·unfold Pl.put at hp;split at hp
  ·rcases List.mem_or_eq_of_mem_set hp with q|rfl
   ·exact h.cl p q
   ·exact hv
  ·rcases XM.1 hp with q|q
   ·exact h.cl p q
   ·simp at q;subst q;exact hv
end Pl
namespace Pl
theorem Arl{α:Type}(p:α→Bool)(l:List α):decide (0≤at_ p l)=l.any p:=by
 rcases Aph (p:=p) (l:=l)with⟨h1,h2⟩|⟨k,hk,h1,h2,_⟩
 ·rw[h1];cases hq:l.any p with
  |false=>rfl
  |true=>
   obtain⟨x,hx,hp⟩:=List.any_eq_true.1 hq;obtain⟨i,hi,rfl⟩:=List.getElem_of_mem hx;rw[h2 i hi]at hp;cases hp
 ·rw[h1];have:l.any p=true:=List.any_eq_true.2 ⟨_,ZK hk,h2⟩;rw[this];simp
def Kt{α:Type}(p:α→Bool)(l:List α):List α:=l.filter fun x=> !p x
structure Auz{α:Type}(p:α→Bool)(l l':List α)(i j:Nat):Prop where
 ij:i<j
 jl:j≤l.length
 len:l'.length=l.length
 ahead:l'.take i=Kt p (l.take j)
 behind:∀k,(h:k<l.length)→j≤k→l'[k]'(by rw[len];exact h)=l[k]
theorem Aiq{α:Type}(l:List α)(i:Nat):l.eraseIdx i=l.take i++l.drop (i+1):=List.eraseIdx_eq_take_drop_succ l i
theorem Afc{α β:Type}{f:α→β}{l:List α}{i:Nat}(hi:i<l.length){z:β}{t:List β}{k:Nat}:
  (l.eraseIdx i).map f=(((((l.map f).take i++((l.map f).drop (i+1)).take ((l.map f).length-(i+1))++(l.map f).drop (i+((l.map f).length-(i+1)))).take (0+(i+((l.map f).length-(i+1)))))++List.replicate k z++t)).take (i+((l.map f).length-(i+1))):=by
 have h1:((l.map f).drop (i+1)).take ((l.map f).length-(i+1))=(l.map f).drop (i+1):=List.take_of_length_le (by simp);have h2:((l.map f).take i++(l.map f).drop (i+1)).length=i+((l.map f).length-(i+1)):=by simp;omega
 rw[h1,Nat.zero_add,←h2,List.take_left,ZS,List.take_left,Aiq,ZI,List.map_take,List.map_drop]
end Pl
namespace Pl
def Ru.err(r:Ru):Int:=r.m.err
def Ru.bad(r:Ru):Bool:= !(wi r.t 0 100)
def Ru.nm(r:Ru):ByteArray:=r.m.n
def Ru.is(n:ByteArray)(r:Ru):Bool:=r.m.n.toList==n.toList
open Classical in
noncomputable def Jl(l:List Ru):Int:=if 20<l.length then 2 else if Ad Ru.err l≠0 then Ad Ru.err l else if l.any Ru.bad=true then 3 else if(l.map Ru.nm).Nodup then 0 else 6
theorem Zu{l:List Ru}(h:20<l.length):Jl l=2:=by simp[Jl,h]
theorem Y8{l:List Ru}(h:¬20<l.length)(h2:Ad Ru.err l≠0):Jl l=Ad Ru.err l:=by simp[Jl,h,h2]
theorem Acw{l:List Ru}(h:¬20<l.length)(h2:Ad Ru.err l=0)(h3:l.any Ru.bad=true):Jl l=3:=by simp only[Jl,h,h2,h3,if_false,if_true,ne_eq,not_true]
theorem Ado{l:List Ru}(h:¬20<l.length)(h2:Ad Ru.err l=0)(h3:l.any Ru.bad=false)(h4:¬(l.map Ru.nm).Nodup):Jl l=6:=by simp only[Jl,h,h2,h3,h4,if_false,ne_eq,not_true,Bool.false_eq_true]
theorem Agn{l:List Ru}(h:¬20<l.length)(h2:Ad Ru.err l=0)(h3:l.any Ru.bad=false)(h4:(l.map Ru.nm).Nodup):Jl l=0:=by simp only[Jl,h,h2,h3,h4,if_false,if_true,ne_eq,not_true,Bool.false_eq_true]
structure Aue(l:List Ru):Prop where
 len:l.length≤20
 each:Ad Ru.err l=0
 rng:∀i,(h:i<l.length)→0≤l[i].t∧l[i].t≤100
 nd:(l.map Ru.nm).Nodup
theorem Ru.bad_iff(r:Ru):r.bad=false↔0≤r.t∧r.t≤100:=by simp[Ru.bad,wi]
theorem Am5{l:List Ru}(h:Jl l=0):Aue l:=by
 unfold Jl at h;split at h
 ·omega
 ·split at h
  ·rename_i h2;exact absurd h h2
  ·split at h
   ·omega
   ·split at h
    ·rename_i h1 h2 h3 h4;refine⟨by omega,Classical.byContradiction h2,fun i hi=>?_,h4⟩;rw[←Ru.bad_iff];cases q:l[i].bad with
     |false=>rfl
     |true=>exact absurd (List.any_eq_true.2 ⟨_,ZK hi,q⟩) h3
    ·omega
theorem Ru.is_iff{n:ByteArray}{r:Ru}:Ru.is n r=true↔r.nm=n:=by
 unfold Ru.is Ru.nm;constructor
 ·intro h;exact toList_inj (by simpa using h)
 ·intro h;rw[h];simp
theorem Aqe{α:Type}{l:List α}(h:l.Nodup){i j:Nat}(hi:i<l.length)(hj:j<l.length)(e:l[i]=l[j]):i=j:=by
 have:=List.pairwise_iff_getElem.1 h;rcases(by omega:i<j∨i=j∨j<i)with q|q|q
 ·exact absurd e (this i j hi hj q)
 ·exact q
 ·exact absurd e.symm (this j i hj hi q)
theorem Apd{l:List Ru}(h:(l.map Ru.nm).Nodup){i j:Nat}(hi:i<l.length)(hj:j<l.length)(e:l[i].nm=l[j].nm):i=j:=
 Aqe h (by simpa using hi) (by simpa using hj) (by simpa using e)
def tt(l:List Ru)(i:Nat):Int:=(l[i]?.map Ru.t).getD 0
def Auy(l:List Ru)(i k:Nat):Bool:=decide (tt l i<tt l k)||(tt l i==tt l k&&decide (k<i))
structure Av0(l:List Ru)(o:List Nat):Prop where
 len:o.length=l.length
 nd:o.Nodup
 mem:∀i,i∈o↔i<l.length
 pw:∀(i j:Nat) (hi:i<o.length) (hj:j<o.length),i<j→Auy l o[i] o[j]=true
end Pl
namespace Pl
structure Good{α:Type}(c:α→α→Int):Prop where
 anti:∀a b,c b a= - c a b
 pp:∀a b d,0<c a b→0<c b d→0<c a d
 zp:∀a b d,c a b=0→0<c b d→0<c a d
 pz:∀a b d,0<c a b→c b d=0→0<c a d
 zz:∀a b d,c a b=0→c b d=0→c a d=0
structure Auj{α:Type}(cf:α→α→Int)(nw:α→α→Bool):Prop where
 irr:∀x,nw x x=false
 trans:∀x y z,nw x y=true→nw y z=true→nw x z=true
 tot:∀x y,cf x y=0→nw x y=false→nw y x=false→x=y
section
variable {α:Type} {lt:α→α→Bool} {cf:α→α→Int} {nw:α→α→Bool}
end
end Pl
namespace Pl
structure Gw where
 c:ByteArray
 a:Int
 v:Int
def Gw.enc(g:Gw):List Value:=[.string g.c,.int .i64 g.a,.int .i64 g.v]
def Gw.row(g:Gw):List V:=[.v (.string g.c),.v (.int .i64 g.a),.v (.int .i64 g.v)]
theorem Gw.enc_len(g:Gw):g.enc.length=3:=rfl
theorem Gw.enc_one(g:Gw):∀u∈g.enc,u.oneCell'=true:=by
 intro u hu;simp[Gw.enc]at hu;rcases hu with rfl|rfl|rfl<;>rfl
instance:FlatRow Gw.row:=⟨fun x u hu=>by simp[Gw.row]at hu;rcases hu with rfl|rfl|rfl<;>exact⟨_,rfl⟩⟩
def Gw.ok(g:Gw):Prop:=g.c.size≤9223372036854775807
def Gw.err(g:Gw):Int:=if lab g.c.data.toList then(if wi g.a 0 4294967295&&wi g.v 1 1000000 then 0 else 3)else 1
def Gw.lt(g h:Gw):Bool:=slt g.c h.c
def Gz(l:List Gw):Int:=ckL 6 Gw.err Gw.lt l
def Gw.cf(name:ByteArray)(g:Gw):Int:=Fk g.c name
def Gw.kf(g x:Gw):Int:=Gw.cf g.c x
def Gw.cmp(g x:Gw):Int:=Ct [Ew g.v x.v,Ew g.a x.a]
def Gw.nw(g x:Gw):Bool:=decide (0<Gw.cmp g x)
def Gw.is(name:ByteArray)(m:Gw):Bool:=m.c.toList==name.toList
def Gw.same(g h:Gw):Bool:=(g.c.toList==h.c.toList)&&((g.a==h.a)&&((g.v==h.v)&&true))
theorem Gw.same_iff{g h:Gw}:Gw.same g h=true↔g=h:=by
 obtain⟨a,b,c⟩:=g;obtain⟨a',b',c'⟩:=h;have tl:∀a b:ByteArray,a.toList=b.toList↔a=b:=fun a b=>⟨toList_inj,fun h=>by rw[h]⟩;simp only[Gw.same,Bool.and_true,ZO,ZR,tl,Gw.mk.injEq]
theorem Gw.err_cases(m:Gw):m.err=0∨m.err=1∨m.err=3∨m.err=7:=by
 unfold Gw.err;split
 ·split<;>simp
 ·simp
theorem Amm{l:List Gw}(h:Gz l=0):l.length≤6∧(∀i,(hi:i<l.length)→(l[i]).err=0)∧Co Gw.lt l=true:=Abd Gw.err_cases h
def Gw.ne(m x:Gw):Bool:= !(x.c.toList==m.c.toList)
theorem Gw.is_eq(name:ByteArray):Gw.is name=fun x=>decide (Gw.cf name x=0):=by
 funext x;unfold Gw.is Gw.cf;by_cases h:x.c=name
 ·rw[h,Vn];simp
 ·have h2:Fk x.c name≠0:=fun e=>h (I5.1 e);rw[Aay h];simp[h2]
theorem Gw.ne_eq(m:Gw):Gw.ne m=fun x=>decide (Gw.kf m x≠0):=by
 funext x;have:=congrFun (Gw.is_eq m.c) x;unfold Gw.is at this;unfold Gw.ne Gw.kf;rw[this];simp
structure Rt where
 c:ByteArray
 a:Int
def Rt.row(r:Rt):List V:=[.v (.string r.c),.v (.int .i64 r.a)]
instance:FlatRow Rt.row:=⟨fun x u hu=>by simp[Rt.row]at hu;rcases hu with rfl|rfl<;>exact⟨_,rfl⟩⟩
def Rt.same(g h:Rt):Bool:=(g.c.toList==h.c.toList)&&((g.a==h.a)&&true)
theorem Rt.same_iff{g h:Rt}:Rt.same g h=true↔g=h:=by
 obtain⟨a,b⟩:=g;obtain⟨a',b'⟩:=h;have tl:∀a b:ByteArray,a.toList=b.toList↔a=b:=fun a b=>⟨toList_inj,fun h=>by rw[h]⟩;simp only[Rt.same,Bool.and_true,ZO,ZR,tl,Rt.mk.injEq]
theorem Gw.err_inv{m:Gw}(h:m.err=0):lab m.c.data.toList=true∧(0≤m.a∧m.a≤4294967295)∧(1≤m.v∧m.v≤1000000):=by
 unfold Gw.err at h;split at h
 ·rename_i h1;split at h
  ·rename_i h2;rw[ZO,Fv,Fv]at h2;exact⟨h1,h2⟩
  ·omega
 ·omega
theorem Aqo(row:List V)(h:Ov [.s,.i,.i] row):∃m:Gw,row=m.row∧m.ok:=by
 obtain⟨u0,_,rfl,f0,h⟩:=Au h;obtain⟨u1,_,rfl,f1,h⟩:=Au h;obtain⟨u2,_,rfl,f2,h⟩:=Au h;obtain rfl:=Ig h;obtain⟨n,rfl,hn⟩:=Ou f0;obtain⟨a,rfl,_⟩:=Ey f1;obtain⟨b,rfl,_⟩:=Ey f2;exact⟨⟨n,a,b⟩,rfl,hn⟩
end Pl
namespace Pl
structure Sv where
 nd:ByteArray
 id:ByteArray
 nm:ByteArray
 tg:ByteArray
 ad:Int
 pt:Int
 ps:Bool
 vs:Int
 gn:Bool
def Sv.enc(m:Sv):List Value:=[.string m.nd,.string m.id,.string m.nm,.string m.tg,.int .i64 m.ad,.int .i64 m.pt,.bool m.ps,.int .i64 m.vs,.bool m.gn]
def Sv.row(m:Sv):List V:=[.v (.string m.nd),.v (.string m.id),.v (.string m.nm),.v (.string m.tg),.v (.int .i64 m.ad),.v (.int .i64 m.pt),.v (.bool m.ps),.v (.int .i64 m.vs),.v (.bool m.gn)]
theorem Sv.enc_len(m:Sv):m.enc.length=9:=rfl
theorem Sv.enc_one(m:Sv):∀u∈m.enc,u.oneCell'=true:=by
 intro u hu;simp[Sv.enc]at hu;rcases hu with rfl|rfl|rfl|rfl|rfl|rfl|rfl|rfl|rfl<;>rfl
instance:FlatRow Sv.row:=⟨fun x u hu=>by simp[Sv.row]at hu;rcases hu with rfl|rfl|rfl|rfl|rfl|rfl|rfl|rfl|rfl<;>exact⟨_,rfl⟩⟩
def Sv.ok(m:Sv):Prop:=m.nd.size≤9223372036854775807∧m.id.size≤9223372036854775807∧m.nm.size≤9223372036854775807∧m.tg.size≤9223372036854775807
def emp(s:ByteArray):Bool:=s.toList==(ByteArray.mk #[]).toList
def Vb(s:ByteArray):Bool:=emp s||lab s.data.toList
def Sv.err(m:Sv):Int:=if lab m.nd.data.toList then(if lab m.id.data.toList then(if lab m.nm.data.toList then(if Vb m.tg then(if wi m.ad 0 4294967295 then(if wi m.pt 0 65535 then(if wi m.vs 1 1000000 then 0 else 3)else 3)else 3)else 1)else 1)else 1)else 1
def Sv.cf(nd id:ByteArray)(x:Sv):Int:=Ct [Fk x.nd nd,Fk x.id id]
def Sv.kf(g x:Sv):Int:=Sv.cf g.nd g.id x
def Sv.lt(g h:Sv):Bool:=decide (Sv.cf h.nd h.id g<0)
def Gv(l:List Sv):Int:=ckL 40 Sv.err Sv.lt l
def Sv.cmp(g x:Sv):Int:=Ct [Ew g.vs x.vs,Ew (b2i g.gn) (b2i x.gn),Fk g.nm x.nm,Fk g.tg x.tg,Ew g.ad x.ad,Ew g.pt x.pt,Ew (b2i g.ps) (b2i x.ps)]
def Sv.nw(g x:Sv):Bool:=decide (0<Sv.cmp g x)
def Sv.is(nd id:ByteArray)(m:Sv):Bool:=(m.nd.toList==nd.toList)&&(m.id.toList==id.toList)
def Sv.same(g h:Sv):Bool:=(g.nd.toList==h.nd.toList)&&((g.id.toList==h.id.toList)&&((g.nm.toList==h.nm.toList)&&((g.tg.toList==h.tg.toList)&&((g.ad==h.ad)&&((g.pt==h.pt)&&((g.ps==h.ps)&&((g.vs==h.vs)&&((g.gn==h.gn)&&true))))))))
theorem Sv.same_iff{g h:Sv}:Sv.same g h=true↔g=h:=by
 obtain⟨a,b,c,d,e,f,i,j,k⟩:=g;obtain⟨a',b',c',d',e',f',i',j',k'⟩:=h;have tl:∀a b:ByteArray,a.toList=b.toList↔a=b:=fun a b=>⟨toList_inj,fun h=>by rw[h]⟩;simp only[Sv.same,Bool.and_true,ZO,ZR,tl,Sv.mk.injEq]
theorem Sv.err_cases(m:Sv):m.err=0∨m.err=1∨m.err=3∨m.err=7:=by
 unfold Sv.err
 repeat' split
 all_goals simp
theorem Am1{a b c d:ByteArray}(h:a=b):Ct [Fk a b,Fk c d]=Fk c d:=by
 subst h;by_cases h:Fk c d=0<;>simp[Ct,Vn,h]
theorem Ajy{a b c d:ByteArray}(h:a≠b):Ct [Fk a b,Fk c d]=Fk a b:=by
 have:Fk a b≠0:=fun e=>h (I5.1 e);simp[Ct,this]
theorem Sv.cf_neg{nd id:ByteArray}{x:Sv}:Sv.cf nd id x<0↔slt x.nd nd=true∨(x.nd=nd∧slt x.id id=true):=by
 unfold Sv.cf;by_cases h:x.nd=nd
 ·rw[Am1 h,Q7,h];simp[Fx]
 ·rw[Ajy h,Q7];simp[h]
theorem Sv.cf_zero{nd id:ByteArray}{x:Sv}:Sv.cf nd id x=0↔x.nd=nd∧x.id=id:=by
 unfold Sv.cf;by_cases h:x.nd=nd
 ·rw[Am1 h,I5];simp[h]
 ·rw[Ajy h,I5];simp[h]
theorem Sv.lt_iff{x y:Sv}:Sv.lt x y=true↔slt x.nd y.nd=true∨(x.nd=y.nd∧slt x.id y.id=true):=by
 unfold Sv.lt;rw[decide_eq_true_iff,Sv.cf_neg]
theorem Al0{l:List Sv}(h:Gv l=0):l.length≤40∧(∀i,(hi:i<l.length)→(l[i]).err=0)∧Co Sv.lt l=true:=Abd Sv.err_cases h
theorem Sv.ahead1{x y:Sv}(h:Op.bytesLess x.nd.toList y.nd.toList=true):Sv.lt x y=true:=Sv.lt_iff.2 (.inl h)
theorem Sv.ahead2{x y:Sv}(h:Op.bytesLess x.nd.toList y.nd.toList=false)(h2:(x.nd.toList==y.nd.toList)=true):Sv.lt x y=Op.bytesLess x.id.toList y.id.toList:=by
 have e:=Vj.1 h2;have h':slt x.nd y.nd=false:=h;have:=Sv.lt_iff (x:=x) (y:=y);show Sv.lt x y=slt x.id y.id;cases hb:slt x.id y.id with
 |true=>exact this.2 (.inr ⟨e,hb⟩)
 |false=>
  cases hl:Sv.lt x y with
  |false=>rfl
  |true=>rcases this.1 hl with q|⟨_,q⟩<;>simp_all
theorem Sv.ahead3{x y:Sv}(h:Op.bytesLess x.nd.toList y.nd.toList=false)(h2:(x.nd.toList==y.nd.toList)=false):Sv.lt x y=false:=by
 have e:x.nd≠y.nd:=fun e=>by rw[e]at h2;simp at h2
 have h':slt x.nd y.nd=false:=h;cases hl:Sv.lt x y with
 |false=>rfl
 |true=>rcases Sv.lt_iff.1 hl with q|⟨q,_⟩<;>simp_all
def Sv.ne(m x:Sv):Bool:= !(Sv.is m.nd m.id x)
theorem Sv.is_eq(nd id:ByteArray):Sv.is nd id=fun x=>decide (Sv.cf nd id x=0):=by
 funext x;unfold Sv.is;by_cases h:x.nd=nd∧x.id=id
 ·rw[h.1,h.2];have:Sv.cf nd id x=0:=Sv.cf_zero.2 h;simp[this]
 ·have h2:¬Sv.cf nd id x=0:=fun e=>h (Sv.cf_zero.1 e);have h3:(x.nd.toList==nd.toList&&x.id.toList==id.toList)=false:=by
   cases hb:(x.nd.toList==nd.toList&&x.id.toList==id.toList)with
   |false=>rfl
   |true=>rw[ZO,Vj,Vj]at hb;exact absurd hb h
  rw[h3];simp[h2]
theorem Sv.ne_eq(m:Sv):Sv.ne m=fun x=>decide (Sv.kf m x≠0):=by
 funext x;have:=congrFun (Sv.is_eq m.nd m.id) x;unfold Sv.ne Sv.kf;rw[this];simp
theorem Ar4(row:List V)(h:Ov [.s,.s,.s,.s,.i,.i,.b,.i,.b] row):∃m:Sv,row=m.row∧m.ok:=by
 obtain⟨u0,_,rfl,f0,h⟩:=Au h;obtain⟨u1,_,rfl,f1,h⟩:=Au h;obtain⟨u2,_,rfl,f2,h⟩:=Au h;obtain⟨u3,_,rfl,f3,h⟩:=Au h;obtain⟨u4,_,rfl,f4,h⟩:=Au h;obtain⟨u5,_,rfl,f5,h⟩:=Au h;obtain⟨u6,_,rfl,f6,h⟩:=Au h;obtain⟨u7,_,rfl,f7,h⟩:=Au h;obtain⟨u8,_,rfl,f8,h⟩:=Au h;obtain rfl:=Ig h;obtain⟨a,rfl,ha⟩:=Ou f0;obtain⟨b,rfl,hb⟩:=Ou f1;obtain⟨c,rfl,hc⟩:=Ou f2;obtain⟨d,rfl,hd⟩:=Ou f3;obtain⟨e,rfl,_⟩:=Ey f4;obtain⟨f,rfl,_⟩:=Ey f5;obtain⟨g,rfl⟩:=Ag5 f6;obtain⟨i,rfl,_⟩:=Ey f7;obtain⟨j,rfl⟩:=Ag5 f8;exact⟨⟨a,b,c,d,e,f,g,i,j⟩,rfl,ha,hb,hc,hd⟩
end Pl
namespace Pl

end Pl
namespace Pl

end Pl
namespace Pl
structure Pc where
 x:Int
 y:Int
 z:Int
 h:Int
 s:Int
def Pc.row(p:Pc):List V:=[.v (.int .i64 p.x),.v (.int .i64 p.y),.v (.int .i64 p.z),.v (.int .i64 p.h),.v (.int .i64 p.s)]
instance:FlatRow Pc.row:=⟨fun x u hu=>by simp[Pc.row]at hu;rcases hu with rfl|rfl|rfl|rfl|rfl<;>exact⟨_,rfl⟩⟩
def Pc.ok(p:Pc):Prop:=True
def Pc.okb(p:Pc):Bool:=Ajz p.x p.y p.z p.h p.s
def Pc.err(p:Pc):Int:=Afu p.x p.y p.z p.h p.s
theorem Pc.err_ok{p:Pc}(h:p.okb=true):p.err=0:=by unfold Pc.err Afu;unfold Pc.okb at h;rw[if_pos h]
theorem Pc.err_bad{p:Pc}(h:p.okb=false):p.err=3:=by unfold Pc.err Afu;unfold Pc.okb at h;rw[if_neg (by rw[h];decide)]
theorem Pc.err_iff{p:Pc}:p.err=0↔p.okb=true:=by
 cases h:p.okb with
 |true=>simp[Pc.err_ok h]
 |false=>simp[Pc.err_bad h]
end Pl
section
open Go.ChangeShapes Go.WideShapes Go.ChangeAt

end
namespace Pl
structure Wh where
 nd:ByteArray
 pl:Pc
def Wh.enc(x:Wh):List Value:=[.string x.nd,.int .i64 x.pl.x,.int .i64 x.pl.y,.int .i64 x.pl.z,.int .i64 x.pl.h,.int .i64 x.pl.s]
def Wh.row(x:Wh):List V:=[.v (.string x.nd),.v (.int .i64 x.pl.x),.v (.int .i64 x.pl.y),.v (.int .i64 x.pl.z),.v (.int .i64 x.pl.h),.v (.int .i64 x.pl.s)]
theorem Wh.enc_len(x:Wh):x.enc.length=6:=rfl
theorem Wh.enc_one(x:Wh):∀u∈x.enc,u.oneCell'=true:=by
 intro u hu;simp[Wh.enc]at hu;rcases hu with rfl|rfl|rfl|rfl|rfl|rfl<;>rfl
instance:FlatRow Wh.row:=⟨fun x u hu=>by simp[Wh.row]at hu;rcases hu with rfl|rfl|rfl|rfl|rfl|rfl<;>exact⟨_,rfl⟩⟩
instance:OneRow Wh.row 6:=⟨fun _=>rfl,fun x u hu=>by simp[Wh.row]at hu;rcases hu with rfl|rfl|rfl|rfl|rfl|rfl<;>exact⟨_,rfl,rfl⟩⟩
def Wh.ok(x:Wh):Prop:=x.nd.size≤9223372036854775807
theorem Apq(row:List V)(h:Ov [.s,.i,.i,.i,.i,.i] row):∃m:Wh,row=m.row∧m.ok:=by
 obtain⟨u0,_,rfl,f0,h⟩:=Au h;obtain⟨u1,_,rfl,f1,h⟩:=Au h;obtain⟨u2,_,rfl,f2,h⟩:=Au h;obtain⟨u3,_,rfl,f3,h⟩:=Au h;obtain⟨u4,_,rfl,f4,h⟩:=Au h;obtain⟨u5,_,rfl,f5,h⟩:=Au h;obtain rfl:=Ig h;obtain⟨n,rfl,hn⟩:=Ou f0;obtain⟨a,rfl,_⟩:=Ey f1;obtain⟨b,rfl,_⟩:=Ey f2;obtain⟨c,rfl,_⟩:=Ey f3;obtain⟨d,rfl,_⟩:=Ey f4;obtain⟨e,rfl,_⟩:=Ey f5;exact⟨⟨n,a,b,c,d,e⟩,rfl,hn⟩
end Pl
namespace Pl
def Wh.err(x:Wh):Int:=if lab x.nd.data.toList then x.pl.err else 1
def Wh.lt(g h:Wh):Bool:=slt g.nd h.nd
def G4(l:List Wh):Int:=ckL 20 Wh.err Wh.lt l
structure Nd where
 nm:ByteArray
 ce:ByteArray
 ms:List Mb
 rs:List Ru
 sv:List Sv
 gs:List Gw
 pl:Pc
 wh:List Wh
def Nd.row(n:Nd):List V:=[.v (.string n.nm),.v (.string n.ce),.sl false (n.ms.map Mb.row),.sl false (n.rs.map Ru.row),.sl false (n.sv.map Sv.row),.sl false (n.gs.map Gw.row),
 .v (.int .i64 n.pl.x),.v (.int .i64 n.pl.y),.v (.int .i64 n.pl.z),.v (.int .i64 n.pl.h),.v (.int .i64 n.pl.s),.sl false (n.wh.map Wh.row)]
structure Nd.ok(n:Nd):Prop where
 nm:n.nm.size≤9223372036854775807
 ce:n.ce.size≤9223372036854775807
 msl:n.ms.length≤9223372036854775807
 ms:∀x∈n.ms,x.ok
 rsl:n.rs.length≤9223372036854775807
 rs:∀x∈n.rs,x.ok
 svl:n.sv.length≤9223372036854775807
 sv:∀x∈n.sv,x.ok
 gsl:n.gs.length≤9223372036854775807
 gs:∀x∈n.gs,x.ok
 whl:n.wh.length≤9223372036854775807
 wh:∀x∈n.wh,x.ok
def Te(ms:List Mb)(r:Ru):Bool:=match ms[low (Mb.cf r.m.n) ms]? with
 |some m=>hit (Mb.cf r.m.n) ms&&decide (Mb.cmp r.m m≤0)
 |none=>false
noncomputable def Nd.cks(n:Nd):List Int:=[Gj n.ms,Jl n.rs,Gv n.sv,Gz n.gs,n.pl.err,G4 n.wh]
def Nd.mine(n:Nd):Int:=match n.ms[low (Mb.cf n.nm) n.ms]? with
 |some m=>if m.st=2∨m.st=3 then 4 else if n.rs.all (Te n.ms)then 0 else 4
 |none=>4
noncomputable def Nd.err(n:Nd):Int:=
 if lab n.nm.data.toList=false∨lab n.ce.data.toList=false then 1
 else if Ad (fun e=>e) n.cks≠0 then Ad (fun e=>e) n.cks
 else if hit (Mb.cf n.nm) n.ms=false then 5 else n.mine
theorem Nd.err_form{n:Nd}(h:lab n.nm.data.toList=false∨lab n.ce.data.toList=false):n.err=1:=if_pos h
theorem Nd.err_ck{n:Nd}(h1:lab n.nm.data.toList=true)(h2:lab n.ce.data.toList=true)(h:Ad (fun e=>e) n.cks≠0):n.err=Ad (fun e=>e) n.cks:=by
 unfold Nd.err;rw[if_neg (by rw[h1,h2];simp),if_pos h]
theorem Nd.err_none{n:Nd}(h1:lab n.nm.data.toList=true)(h2:lab n.ce.data.toList=true)(h:Ad (fun e=>e) n.cks=0)(h3:hit (Mb.cf n.nm) n.ms=false):n.err=5:=by
 unfold Nd.err;rw[if_neg (by rw[h1,h2];simp),if_neg (by rw[h];simp),if_pos h3]
theorem Nd.err_mine{n:Nd}(h1:lab n.nm.data.toList=true)(h2:lab n.ce.data.toList=true)(h:Ad (fun e=>e) n.cks=0)(h3:hit (Mb.cf n.nm) n.ms=true):n.err=n.mine:=by
 unfold Nd.err;rw[if_neg (by rw[h1,h2];simp),if_neg (by rw[h];simp),if_neg (by rw[h3];simp)]
theorem Nd.mine_at{n:Nd}{m:Mb}(h:n.ms[low (Mb.cf n.nm) n.ms]? =some m):n.mine=if m.st=2∨m.st=3 then 4 else if n.rs.all (Te n.ms)then 0 else 4:=by
 unfold Nd.mine;rw[h]
theorem Agm{ms:List Mb}{r:Ru}(h:hit (Mb.cf r.m.n) ms=false):Te ms r=false:=by
 unfold Te;split
 ·rw[h];rfl
 ·rfl
theorem Age{ms:List Mb}{r:Ru}{m:Mb}(h:hit (Mb.cf r.m.n) ms=true)(hm:ms[low (Mb.cf r.m.n) ms]? =some m):Te ms r=decide (Mb.cmp r.m m≤0):=by
 unfold Te;rw[hm];simp[h]
structure Nd.Good(n:Nd):Prop where
 nm:lab n.nm.data.toList=true
 ce:lab n.ce.data.toList=true
 ms:Gj n.ms=0
 rs:Jl n.rs=0
 sv:Gv n.sv=0
 gs:Gz n.gs=0
 pl:n.pl.okb=true
 wh:G4 n.wh=0
 hit:hit (Mb.cf n.nm) n.ms=true
 st:∀m,n.ms[low (Mb.cf n.nm) n.ms]? =some m→m.st≠2∧m.st≠3
 ru:∀r∈n.rs,Te n.ms r=true
theorem Acm{n:Nd}(h:Ad (fun e=>e) n.cks=0):Gj n.ms=0∧Jl n.rs=0∧Gv n.sv=0∧Gz n.gs=0∧n.pl.err=0∧G4 n.wh=0:=by
 have g:=Gx h;exact⟨g 0 (by show 0<6;omega),g 1 (by show 1<6;omega),g 2 (by show 2<6;omega),g 3 (by show 3<6;omega),g 4 (by show 4<6;omega),g 5 (by show 5<6;omega)⟩
theorem Nd.good{n:Nd}(h:n.err=0):n.Good:=by
 by_cases h1:lab n.nm.data.toList=false∨lab n.ce.data.toList=false
 ·rw[Nd.err_form h1]at h;cases h
 ·have h2:lab n.nm.data.toList=true:=by cases q:lab n.nm.data.toList<;>simp[q]at h1 ⊢
  have h3:lab n.ce.data.toList=true:=by cases q:lab n.ce.data.toList<;>simp[q]at h1 ⊢
  by_cases h4:Ad (fun e=>e) n.cks=0
  ·cases h5:Pl.hit (Mb.cf n.nm) n.ms with
   |false=>rw[Nd.err_none h2 h3 h4 h5]at h;cases h
   |true=>
    rw[Nd.err_mine h2 h3 h4 h5]at h;have hm:n.ms[low (Mb.cf n.nm) n.ms]? =some (n.ms[low (Mb.cf n.nm) n.ms]'(M9 h5)):=ZC _;rw[Nd.mine_at hm]at h;obtain⟨c1,c2,c3,c4,c5,c6⟩:=Acm h4;split at h
    ·cases h
    ·rename_i h6;split at h
     ·rename_i h7;refine⟨h2,h3,c1,c2,c3,c4,Pc.err_iff.1 c5,c6,h5,fun m hm'=>?_,fun r hr=>List.all_eq_true.1 h7 r hr⟩;rw[hm]at hm';injection hm' with hm';subst hm'
      exact⟨fun q=>h6 (.inl q),fun q=>h6 (.inr q)⟩
     ·cases h
  ·rw[Nd.err_ck h2 h3 h4]at h;exact absurd h h4
end Pl
theorem Ow[Glob](n a b:Int):Fun Tryz.prog 162 [.c (.v (.int .i64 n)),.c (.v (.int .i64 a)),.c (.v (.int .i64 b))] [.c (.v (.bool (wi n a b)))]:=by
 refine A9 Cx rfl ?_;(refine goI ?_;repeat (intro gg;refine goI ?_));(refine Ab (fun h=>?_) (fun h=>?_)<;>rw[h])
 ·(refine goI ?_;repeat (intro gg;refine goI ?_));rw[Am0 h];(exact⟨[],aI⟩)
 ·(refine goI ?_;repeat (intro gg;refine goI ?_));rw[Alc h];(exact⟨[],aI⟩)
theorem Ach[Glob](m:Mb)(hm:m.ok):Fun Tryz.prog 130 [.c (.agg m.row)] [.c (.v (.int .i64 m.err))]:=by
 refine A9 Lp rfl ?_;(refine goI ?_;repeat (intro gg;refine goI ?_));refine .inl (cX (Dd _ hm) ?_);(refine goI ?_;repeat (intro gg;refine goI ?_));(refine Ab (fun h1=>?_) (fun h1=>?_)<;>rw[h1])
 ·(refine goI ?_;repeat (intro gg;refine goI ?_))
  (rw[show m.err=1 from by(first|(simp_all;done)|(unfold Mb.err;simp_all))];(exact⟨[],aI⟩))
 ·(refine goI ?_;repeat (intro gg;refine goI ?_));refine .inl (cX (Ow _ _ _) ?_);(refine goI ?_;repeat (intro gg;refine goI ?_));(refine Ab (fun h2=>?_) (fun h2=>?_)<;>rw[h2])
  ·(refine goI ?_;repeat (intro gg;refine goI ?_))
   (rw[show m.err=7 from by(first|(simp_all;done)|(unfold Mb.err;simp_all))];(exact⟨[],aI⟩))
  ·(refine goI ?_;repeat (intro gg;refine goI ?_));refine .inl (cX (Ow _ _ _) ?_);(refine goI ?_;repeat (intro gg;refine goI ?_));(refine Ab (fun h3=>?_) (fun h3=>?_)<;>rw[h3])
   ·(refine goI ?_;repeat (intro gg;refine goI ?_))
    (rw[show m.err=3 from by(first|(simp_all;done)|(unfold Mb.err;simp_all))];(exact⟨[],aI⟩))
   ·(refine goI ?_;repeat (intro gg;refine goI ?_));refine .inl (cX (Ow _ _ _) ?_);(refine goI ?_;repeat (intro gg;refine goI ?_));(refine Ab (fun h4=>?_) (fun h4=>?_)<;>rw[h4])
    ·(refine goI ?_;repeat (intro gg;refine goI ?_))
     (rw[show m.err=3 from by(first|(simp_all;done)|(unfold Mb.err;simp_all))];(exact⟨[],aI⟩))
    ·(refine goI ?_;repeat (intro gg;refine goI ?_))
     (rw[show m.err=0 from by(first|(simp_all;done)|(unfold Mb.err;simp_all))];(exact⟨[],aI⟩))
theorem Xl[Glob](m:Mb)(hm:m.ok):Fun Tryz.prog 60 [.c (.agg m.row)] [.c (.v (.int .i64 m.err))]:=by
 refine A9 L6 rfl ?_;(refine goI ?_;repeat (intro gg;refine goI ?_));refine .inl (cX (Dw _ hm) ?_);(refine goI ?_;repeat (intro gg;refine goI ?_));(refine Ab (fun h1=>?_) (fun h1=>?_)<;>rw[h1])
 ·(refine goI ?_;repeat (intro gg;refine goI ?_))
  (rw[show m.err=1 from by(first|(simp_all;done)|(unfold Mb.err;simp_all))];(exact⟨[],aI⟩))
 ·(refine goI ?_;repeat (intro gg;refine goI ?_));refine .inl (cX (Bv _ _ _) ?_);(refine goI ?_;repeat (intro gg;refine goI ?_));(refine Ab (fun h2=>?_) (fun h2=>?_)<;>rw[h2])
  ·(refine goI ?_;repeat (intro gg;refine goI ?_))
   (rw[show m.err=7 from by(first|(simp_all;done)|(unfold Mb.err;simp_all))];(exact⟨[],aI⟩))
  ·(refine goI ?_;repeat (intro gg;refine goI ?_));refine .inl (cX (Bv _ _ _) ?_);(refine goI ?_;repeat (intro gg;refine goI ?_));(refine Ab (fun h3=>?_) (fun h3=>?_)<;>rw[h3])
   ·(refine goI ?_;repeat (intro gg;refine goI ?_))
    (rw[show m.err=3 from by(first|(simp_all;done)|(unfold Mb.err;simp_all))];(exact⟨[],aI⟩))
   ·(refine goI ?_;repeat (intro gg;refine goI ?_));refine .inl (cX (K8 _) ?_);(refine goI ?_;repeat (intro gg;refine goI ?_));(refine Ab (fun h4=>?_) (fun h4=>?_)<;>rw[h4])
    ·(refine goI ?_;repeat (intro gg;refine goI ?_))
     (rw[show m.err=3 from by(first|(simp_all;done)|(unfold Mb.err;simp_all))];(exact⟨[],aI⟩))
    ·(refine goI ?_;repeat (intro gg;refine goI ?_))
     (rw[show m.err=0 from by(first|(simp_all;done)|(unfold Mb.err;simp_all))];(exact⟨[],aI⟩))
theorem Ul[Glob](b:Bool):Fun Tryz.prog 138 [.c (.v (.bool b))] [.c (.v (.int .i64 (b2i b)))]:=by
 refine A9 Tr rfl ?_;(refine goI ?_;repeat (intro gg;refine goI ?_));(refine Ab (fun h=>?_) (fun h=>?_)<;>rw[h])
 ·(refine goI ?_;repeat (intro gg;refine goI ?_));(exact⟨[],aI⟩)
 ·(refine goI ?_;repeat (intro gg;refine goI ?_));(exact⟨[],aI⟩)
theorem Al8[Glob](g x:Mb):Fun Tryz.prog 94 [.c (.agg g.row),.c (.agg x.row)] [.c (.v (.int .i64 (Mb.cmp g x)))]:=by
 refine A9 Sg rfl ?_;(refine goI ?_;repeat (intro gg;refine goI ?_));(refine⟨_,_,false,aI,Sb _ _,Af,nI,?_⟩);(refine goI ?_;repeat (intro gg;refine goI ?_));(refine⟨_,_,false,aI,Sb _ _,Af,nI,?_⟩);(refine goI ?_;repeat (intro gg;refine goI ?_));(refine⟨_,_,false,aI,Sb _ _,Af,nI,?_⟩);(refine goI ?_;repeat (intro gg;refine goI ?_));(refine⟨_,_,false,aI,Ul _,Af,nI,?_⟩);(refine goI ?_;repeat (intro gg;refine goI ?_));refine .inl (cX (Ul _) ?_);(refine goI ?_;repeat (intro gg;refine goI ?_));refine .inl (cX (Sb _ _) ?_);(refine goI ?_;repeat (intro gg;refine goI ?_));(refine .inl ⟨_,_,true,[],aI,Ajn false [Ew g.lf x.lf,Ew g.st x.st,Ew g.ad x.ad,Ew (b2i g.sv) (b2i x.sv)] (by simp),(fun _=>fI),nI,?_⟩);(refine goI ?_;repeat (intro gg;refine goI ?_));(exact⟨[],aI⟩)
theorem Aet[Glob](g x:Mb):Fun Tryz.prog 35 [.c (.agg g.row),.c (.agg x.row)] [.c (.v (.bool (Mb.nw g x)))]:=by
 refine A9 Km rfl ?_;(refine goI ?_;repeat (intro gg;refine goI ?_));(refine Ab (fun h1=>?_) (fun h1=>?_)<;>rw[h1])
 ·(refine goI ?_;repeat (intro gg;refine goI ?_));rw[show Mb.nw g x=decide (x.lf<g.lf)from Amh h1];(exact⟨[],aI⟩)
 ·have e1:Mb.nw g x=decide (0<Ct [Ew g.st x.st,Ew g.ad x.ad,Ew (b2i g.sv) (b2i x.sv)]):=by unfold Mb.nw Mb.cmp;rw[Aky h1]
  (refine goI ?_;repeat (intro gg;refine goI ?_));(refine Ab (fun h2=>?_) (fun h2=>?_)<;>rw[h2])
  ·(refine goI ?_;repeat (intro gg;refine goI ?_));rw[e1,Amh h2];(exact⟨[],aI⟩)
  ·rw[Aky h2]at e1;(refine goI ?_;repeat (intro gg;refine goI ?_));(refine Ab (fun h3=>?_) (fun h3=>?_)<;>rw[h3])
   ·(refine goI ?_;repeat (intro gg;refine goI ?_));rw[e1,Amh h3];(exact⟨[],aI⟩)
   ·rw[Aky h3,Ali]at e1;(refine goI ?_;repeat (intro gg;refine goI ?_));(refine Ab (fun h4=>?_) (fun h4=>?_)<;>rw[h4])
    ·(refine goI ?_;repeat (intro gg;refine goI ?_));rw[e1,h4,Bool.true_and];(exact⟨[],aI⟩)
    ·(refine goI ?_;repeat (intro gg;refine goI ?_));rw[e1,h4,Bool.false_and];(exact⟨[],aI⟩)
section
variable {α:Type} {enc:α→List Value} {sz:Nat} {w w':World} {A:Option Addr} {l:List α}
def RL(enc:α→List Value)(sz:Nat)(w:World)(A:Option Addr)(l:List α):Prop:=
 0<l.length→∃b off,A=some ⟨b,off,none⟩∧b<w.heap.size∧∀i,(h:i<l.length)→∀j u,(enc l[i])[j]? =some u→w.cell? ⟨b,off+i*sz+j,none⟩=some u
theorem RL.nil:RL enc sz w A []:=fun h=>absurd h (by simp)
theorem RL.at_(h:RL enc sz w A l){k:Nat}(hk:k<l.length):∃b off,A=some ⟨b,off,none⟩∧b<w.heap.size∧∀j u,(enc l[k])[j]? =some u→w.cell? ⟨b,off+k*sz+j,none⟩=some u:=by
 obtain⟨b,off,hA,hb,hc⟩:=h (by omega);exact⟨b,off,hA,hb,hc k hk⟩
theorem Al9{w:World}{base base':Nat}{e:TypeId}{v:Value}{n:Nat}{xs:List Value}(h:w.ownsRow base e sz v n xs)(hb:base'≤base):w.ownsRow base' e sz v n xs:=by
 obtain⟨h1,h2⟩:=h;refine⟨h1,?_⟩;rcases h2 with h2|⟨g,cap,cur,hv,hg,r⟩
 ·exact .inl h2
 ·exact .inr ⟨g,cap,cur,hv,by omega,r⟩
end
section
variable {P:Program}
theorem Aj4(w:World)(dT sT ty elem:TypeId)(sz:Nat)(g o dLen dCap:Nat)(a:Addr)(sLen sCap:Nat)(cur:Array Value)(t:TypeId)(cs:List Value)(hu:P.underlying dT=some (.slice elem))(hs:(P.info? elem).map (·.size)=some sz)(hg:w.heap[g]? =some (.cells cur t (0,0)))(hn:cs.length=Nat.min sLen dLen*sz)(hsrc:∀j v,cs[j]? =some v→w.cell? (a.add j)=some v)(hfit:o+cs.length≤cur.size)(h1:∀v∈cs,v.oneCell'=true):
  (Builtin.copy_ #[dT,sT] ty #[.slice (some ⟨g,o,none⟩) dLen dCap,.slice (some a) sLen sCap]).run P w=
   .ok (goInt (Nat.min sLen dLen)) (w.setRow g (splice cur.toList o cs).toArray):=by
 have hl:=run_loadCells_list (P:=P) w a cs hsrc;have hst:=run_storeCells_at P g o t cs 0 cur w hg (by simpa using hfit) h1;rw[hn]at hl;cases hq:P.info? elem with
 |none=>simp[hq]at hs
 |some i=>
  have hi:i.size=sz:=by simpa[hq]using hs
  simp only[Builtin.copy_,Builtin.lenOf,Builtin.firstCells,sizeOf,typeInfo];simp[run_underlying hu,hq,hi,hl,hst,splice]
theorem Acg{w:World}{o:Oper}{a:Act}{K:Act→World→Prop}{Q:Exit→Act→World→Prop}(d s:Operand)(dT sT:TypeId)(ho:o.op=.call {callee:=.builtin .copy,args:= #[d,s],argTypes:= #[dT,sT]})(elem:TypeId)(sz:Nat)(hu:P.underlying dT=some (.slice elem))(hsz:(P.info? elem).map (·.size)=some sz)(g off dLen dCap:Nat)(ad:Addr)(sLen sCap:Nat)(hd:a.eval d=.slice (some ⟨g,off,none⟩) dLen dCap)(hs:a.eval s=.slice (some ad) sLen sCap)(cur:Array Value)(t:TypeId)(hg:Blk w g t cur)(cs:List Value)(hn:cs.length=Nat.min sLen dLen*sz)(hsrc:∀j v,cs[j]? =some v→w.cell? (ad.add j)=some v)(hfit:off+cs.length≤cur.size)(h1:∀v∈cs,v.oneCell'=true)(h:∀w',Blk w' g t (splice cur.toList off cs).toArray→w.grownBy w' (some g)→w.drawn≤w'.drawn→K (a.put o.dst (goInt (Nat.min sLen dLen))) w'):o.wp P a w K Q:=by
 have hrun:=Aj4 (P:=P) w dT sT o.type elem sz g off dLen dCap ad sLen sCap cur t cs hu hsz hg hn hsrc hfit h1;unfold Oper.wp;simp[execOp,ho,resolve,invoke,builtin,hd,hs,hrun,Result.andThen];refine h _ ?_ ⟨rfl,rfl,rfl,by simp[World.setRow],fun k hk hne=>setRow_other w g k _ (fun e=>hne (by rw[e]))⟩ (ZT _);exact setRow_heap w g _ _ t _ hg
theorem Sc{w:World}{ops:Array Oper}{rest:List Oper}{o:Oper}{a:Act}{Q:Exit→Act→World→Prop}(hgd:o.guard=none)(d s:Operand)(dT sT:TypeId)(ho:o.op=.call {callee:=.builtin .copy,args:= #[d,s],argTypes:= #[dT,sT]})(elem:TypeId)(sz:Nat)(hu:P.underlying dT=some (.slice elem))(hsz:(P.info? elem).map (·.size)=some sz)(g off dLen dCap:Nat)(ad:Addr)(sLen sCap:Nat)(hd:a.eval d=.slice (some ⟨g,off,none⟩) dLen dCap)(hs:a.eval s=.slice (some ad) sLen sCap)(cur:Array Value)(t:TypeId)(hg:Blk w g t cur)(cs:List Value)(hn:cs.length=Nat.min sLen dLen*sz)(hsrc:∀j v,cs[j]? =some v→w.cell? (ad.add j)=some v)(hfit:off+cs.length≤cur.size)(h1:∀v∈cs,v.oneCell'=true)(h:∀w',Blk w' g t (splice cur.toList off cs).toArray→w.grownBy w' (some g)→w.drawn≤w'.drawn→wpList P ops Q rest (a.put o.dst (goInt (Nat.min sLen dLen))) w'):wpList P ops Q (o::rest) a w:=
 wpList_plain hgd fun _ hK=>Acg d s dT sT ho elem sz hu hsz g off dLen dCap ad sLen sCap hd hs cur t hg cs hn hsrc hfit h1 fun w' hb hw hd=>hK _ _ (h w' hb hw hd)
theorem Ab3{w:World}{base:Nat}{e:TypeId}{size:Nat}{v:Value}{n:Nat}{xs:List Value}(h:w.ownsRow base e size v n xs):w.ownsRow 0 e size v n xs:=by
 refine⟨h.1,?_⟩;rcases h.2 with q|⟨g,cap,cur,hv,hg,r⟩
 ·exact .inl q
 ·exact .inr ⟨g,cap,cur,hv,ZU _,r⟩
theorem H4(w:World){ops:Array Oper}{rest:List Oper}{o:Oper}{a:Act}{Q:Exit→Act→World→Prop}(hgd:o.guard=none)(s x:Operand)(t:TypeId)(ho:o.op=.call {callee:=.builtin .append,args:= #[s,x],argTypes:= #[t,t]})(base:Nat)(e:TypeId)(i:TypeInfo)(z:Value)(size bytes:Nat)(ht:P.underlying t=some (.slice e))(hi:P.info? e=some i)(hz:i.zero=some z)(hsize:i.size=size)(hby:i.bytes=bytes)(hzs:z.cells.size=size)(hsz:0<size)(v:Value)(n:Nat)(xs:List Value)(hs:a.eval s=v)(hown:w.ownsRow base e size v n xs)(ad:Addr)(m c:Nat)(news:List Value)(hx:a.eval x=.slice (some ad) m c)(hl:news.length=m*size)(hnews:∀j u,news[j]? =some u→w.cell? (ad.add j)=some u)(h1:∀u∈news,u.oneCell'=true)(h63:n+m≤maxLen)(hbytes:(n+m)*bytes≤140737488355328)(hbase:base≤w.heap.size)(h:∀v' w',w'.ownsRow base e size v' (n+m) (xs++news)→w.grownBy w' v.ownBlock→w.drawn≤w'.drawn→(v'.ownBlock=v.ownBlock∨v'.ownBlock=some w.heap.size)→wpList P ops Q rest (a.put o.dst v') w'):
  wpList P ops Q (o::rest) a w:=by
 refine wpList_plain hgd fun K hK=>?_;obtain⟨v',w',hr,h2,h3,h4,h5⟩:=run_append_own_at (P:=P) w base t o.type e i z size bytes ht hi hz hsize hby hzs hsz v n xs hown ad m c news hl hnews h1 h63 hbytes hbase;subst hsize hby;have hd:=Qb w t o.type e i z ht hi hz hsz (Ab3 hown) ad m c news hl hnews h1 h63 hbytes hr;rw[←hs,←hx]at hr;exact De (Nr ho rfl rfl rfl hr) (hK _ _ (h v' w' h2 h3 hd h5))
theorem Xo{w:World}{ops:Array Oper}{o:Oper}{a:Act}{K:Act→World→Prop}{Q:Exit→Act→World→Prop}{E:Prop}(hgd:o.guard=none)(d s:Operand)(dT sT:TypeId)(ho:o.op=.call {callee:=.builtin .copy,args:= #[d,s],argTypes:= #[dT,sT]})(elem:TypeId)(sz:Nat)(hu:P.underlying dT=some (.slice elem))(hsz:(P.info? elem).map (·.size)=some sz)(g off dLen dCap:Nat)(ad:Addr)(sLen sCap:Nat)(hd:a.eval d=.slice (some ⟨g,off,none⟩) dLen dCap)(hs:a.eval s=.slice (some ad) sLen sCap)(cur:Array Value)(t:TypeId)(hg:Blk w g t cur)(cs:List Value)(hn:cs.length=Nat.min sLen dLen*sz)(hsrc:∀j v,cs[j]? =some v→w.cell? (ad.add j)=some v)(hfit:off+cs.length≤cur.size)(h1:∀v∈cs,v.oneCell'=true)(h:∀w',Blk w' g t (splice cur.toList off cs).toArray→w.grownBy w' (some g)→w.drawn≤w'.drawn→K (a.put o.dst (goInt (Nat.min sLen dLen))) w'):
  if Region.wanted o (yielded ops a.tmps)=true then Oper.wp P o a w K Q else E:=by
 have hw:Region.wanted o (yielded ops a.tmps)=true:=by simp[Region.wanted,hgd]
 rw[if_pos hw];exact Acg d s dT sT ho elem sz hu hsz g off dLen dCap ad sLen sCap hd hs cur t hg cs hn hsrc hfit h1 h
end
theorem Vq{w:World}{a:Addr}{v:Value}(h:w.cell? a=some v):a.block<w.heap.size:=World.block_lt_of_cell? w _ h
theorem L3{w:World}{base:Nat}{e:TypeId}{size:Nat}{v:Value}{n:Nat}{xs:List Value}(h:w.ownsRow base e size v n xs):∃A c,v=.slice A n c:=by
 rcases h.2 with⟨rfl,rfl⟩|⟨g,cap,cur,rfl,_⟩
 ·exact⟨_,_,rfl⟩
 ·exact⟨_,_,rfl⟩
theorem Ed{w:World}{base:Nat}{e:TypeId}{size:Nat}{v:Value}{n:Nat}{xs:List Value}(h:w.ownsRow base e size v n xs):∀k,v.ownBlock=some k→base≤k:=fun k hk=>(h.lt k hk).1
theorem R4{w:World}{g:Nat}{t:TypeId}{cur:Array Value}{n:Nat}{xs:List Value}(h:Blk w g t cur)(hx:cur.toList.take n=xs)(p:Nat):
  ∀j v,(xs.drop p)[j]? =some v→w.cell? ((⟨g,p,none⟩:Addr).add j)=some v:=fun j v hj=>by
 have e:(⟨g,p,none⟩:Addr).add j=⟨g,p+j,none⟩:=by unfold Addr.add;split<;>simp_all
 rw[e,h.cell];rw[List.getElem?_drop,←hx]at hj;have hlt:p+j<n:=by
  have:=(ZB.1 hj).1;rw[ZM]at this;omega
 rw[XA hlt]at hj;simpa using hj
def LB(A:Option Addr)(b:Nat):Prop:=∃a,A=some a∧a.block=b
theorem Ap0{A:Option Addr}{n c k:Nat}(h:(Value.slice A n c).ownBlock=some k):LB A k:=by
 cases A with
 |none=>cases h
 |some a=>exact⟨a,rfl,by simpa[Value.ownBlock]using h⟩
theorem Ao3{w a:World}{base:Nat}{e:TypeId}{size:Nat}{v:Value}{n:Nat}{xs:List Value}{L:Nat→Prop}(h:w.ownsRow base e size v n xs)(hL:∀k,v.ownBlock=some k→L k):∀k,v.ownBlock=some k→L k∨a.heap.size≤k:=fun k hk=>.inl (hL k hk)
theorem Fr.drew{L:Nat→Prop}{a w:World}(h:Fr L a w):Fr L a w.drew:=⟨h.os,h.tape,h.output,h.size,h.block⟩
theorem Fr.alloc{L:Nat→Prop}{a w:World}(h:Fr L a w)(o:Obj):Fr L a (w.alloc o):=h.grown (World.grownBy_alloc w o none) (by simp) (ZT _)
theorem Afo{w:World}{g:Nat}{t:TypeId}{cur:Array Value}{n:Nat}{xs:List Value}(h:Blk w g t cur)(hx:cur.toList.take n=xs):∀j v,xs[j]? =some v→w.cell? ((⟨g,0,none⟩:Addr).add j)=some v:=fun j v hj=>R4 h hx 0 j v (by rwa[List.drop_zero])
theorem Adh{α:Type}(cur xs vs:List α)(p n:Nat)(hx:cur.take n=xs)(hn:n≤cur.length)(hp:p≤n)(hr:n+vs.length≤cur.length):
  (splice (splice cur (p+vs.length) (xs.drop p)) p vs).take (n+vs.length)=xs.take p++vs++xs.drop p:=by
 have hxl:xs.length=n:=by rw[←hx,ZM];omega
 have e0:cur.take p=xs.take p:=by rw[←hx,List.take_take,Nat.min_eq_left hp]
 unfold splice;have hA:((cur.take (p+vs.length)++(xs.drop p++cur.drop (p+vs.length+(xs.drop p).length))).take p)=xs.take p:=by
  rw[List.take_append_of_le_length (by rw[ZM];omega),List.take_take,Nat.min_eq_left (by omega),e0]
 have hB:((cur.take (p+vs.length)++(xs.drop p++cur.drop (p+vs.length+(xs.drop p).length))).drop (p+vs.length))=xs.drop p++cur.drop (p+vs.length+(xs.drop p).length):=by
  have hlen:(cur.take (p+vs.length)).length=p+vs.length:=by rw[ZM];omega
  conv=>lhs;arg 1;rw[←hlen]
  rw[List.drop_left]
 rw[hA,hB,←ZS,←ZS];rw[List.take_append_of_le_length (by simp;omega)];exact List.take_of_length_le (by simp;omega)
theorem Aeg{α:Type}(Z xs vs:List α)(p n:Nat)(hz:Z.take p=xs.take p)(hxl:xs.length=n)(hp:p≤n)(hr:n+vs.length≤Z.length):
  (splice (splice Z p vs) (p+vs.length) (xs.drop p)).take (n+vs.length)=xs.take p++vs++xs.drop p:=by
 unfold splice;have hpl:p≤Z.length:=by omega
 have hA:((Z.take p++(vs++Z.drop (p+vs.length))).take (p+vs.length))=xs.take p++vs:=by
  rw[←ZS,List.take_append_of_le_length (by simp;omega),hz];exact List.take_of_length_le (by simp;omega)
 rw[hA,←ZS,List.take_append_of_le_length (by simp;omega)];exact List.take_of_length_le (by simp;omega)
theorem Aa8:(Tryz.prog.info? 47).map (fun i=>(i.zero,i.size,i.bytes))=some (some (.agg #[.string ⟨#[]⟩,.int .i64 0,.int .i64 0,.int .i64 0,.bool false]),5,48):=by kernel_rfl
theorem Vp:(Tryz.prog.info? 47).map (·.size)=some 5:=by kernel_rfl
theorem Aqk:∀w,(Go.sizeOf 47).run Tryz.prog w=.ok 5 w:=by
 intro w;obtain⟨i0,hi0,hz0,hzs,hzb⟩:=info_parts Aa8;simp[sizeOf,typeInfo,hi0,hzs]
theorem Aek(vb g:Nat)(vc lb cb off:Nat)(vs cur:Array Value)(w:World)(hv:Blk w vb 47 vs)(hg:Blk w g 47 cur)(hne:vb≠g)(hcur:cur.size≠0):
  (callFunc 242 #[.slice (some ⟨vb,0,none⟩) 1 vc,.slice (some ⟨g,off,none⟩) lb cb]).run Tryz.prog w=.ok (.value (.bool false)) w:=by
 rw[run_callFunc_extern Tryz.func242 (by kernel_rfl) (by kernel_rfl) (by kernel_rfl) (e:=Extern.SlicesOverlaps.overlaps #[36,36] #[4]) (by kernel_rfl),
  Lib.run_overlaps_apart w 36 4 47 Tryz.underlying36 5 Aqk ⟨vb,0,none⟩ ⟨g,off,none⟩ 1 vc lb cb hne 47 47 vs.size cur.size
   (by unfold Blk at hv;simp[World.shape?,hv]) (by unfold Blk at hg;simp[World.shape?,hg]) hcur (hv.frozen _) (hv.frozen _)]
 rfl
def Aga(L:Nat→Prop)(base n i:Nat)(xs vs:List Value)(w:World)(e:Ending)(w':World):Prop:=
 ∃A' c',e=.returned (.slice A' (n+1) c')∧w'.ownsRow base 47 5 (.slice A' (n+1) c') (n+1) (xs.take (i*5)++vs++xs.drop (i*5))∧Fr L w w'∧∀k,(Value.slice A' (n+1) c').ownBlock=some k→L k∨w.heap.size≤k
set_option maxHeartbeats 1000000 in
set_option maxRecDepth 100000 in
theorem Ajc(base:Nat)(A:Option Addr)(n c:Nat)(xs:List Value)(vb vc:Nat)(vcur:Array Value)(vs:List Value)(w:World)(hown:w.ownsRow base 47 5 (.slice A n c) n xs)(hbase:base≤w.heap.size)(hn:n≤1000)(hv:Blk w vb 47 vcur)(hvc:vcur.toList.take 5=vs)(hvl:vs.length=5)(h1:∀v∈vs,v.oneCell'=true):
  Calls Tryz.prog 201 #[.slice A n c,.int .i64 n,.slice (some ⟨vb,0,none⟩) 1 vc] w (Aga (LB A) base n n xs vs w):=by
 obtain⟨i0,hi0,hz0,hzs,hzb⟩:=info_parts Aa8;have hnc:n≤c∧c≤9223372036854775807:=by
  rcases hown.2 with⟨hv,hz⟩|⟨g,cap,cur,hv,_,_,h,h',_⟩
  ·injection hv;omega
  ·injection hv with _ _ e;subst e;exact⟨h,h'⟩
 obtain⟨hnc,hc63⟩:=hnc;have hxs:xs.length=n*5:=hown.1;have HXS:=hid hxs;have HVL:=hid hvl;have HV:=hid hv;have HO:=hid hown;have HZ0:=hid hz0;have HZS:=hid hzs;have HZB:=hid hzb;have HI0:=hid hi0;clear hxs hvl hv hown hz0 hzs hzb hi0;have hnn:((n:Int)==(n:Int))=true:=by simp
 go_enter Tryz.func201,Tryz.ntmps201
 go_wp2_with (at_builtin;refine H4 _ rfl _ _ 36 rfl base 47 i0 _ 5 48 Tryz.underlying36 HI0.out HZ0.out HZS.out HZB.out rfl (by decide) _ _ _ rfl HO.out ⟨vb,0,none⟩ 1 vc vs rfl (by simpa using HVL.out) (Afo HV.out hvc) h1 (by simp only[maxLen];omega) (by omega) hbase ?_;intro v1 w1 hown1 hg1 hd1 hat1)
 all_goals go_ret
 all_goals
  obtain⟨A',c',rfl⟩:=L3 hown1;refine⟨A',c',rfl,?_,(Fr.refl _ _).grown hg1 (Ao3 HO.out (fun k hk=>Ap0 (n:=n) (c:=c) hk)) hd1,fun k hk=>?_⟩;rotate_left
  ·rcases hat1 with h|h
   ·exact .inl (Ap0 (n:=n) (c:=c) (h.symm.trans hk))
   ·have:=h.symm.trans hk;injection this with this
    exact .inr (by omega)
  rw[List.take_of_length_le (by have:=HXS.out;omega),List.drop_of_length_le (by have:=HXS.out;omega),List.append_nil];exact hown1
set_option maxHeartbeats 2000000 in
set_option maxRecDepth 100000 in
theorem Af0(base g:Nat)(n c i:Nat)(cur:Array Value)(xs:List Value)(vb vc:Nat)(vcur:Array Value)(vs:List Value)(w:World)(hg:Blk w g 47 cur)(hbg:base≤g)(hcs:cur.size=c*5)(hcx:cur.toList.take (n*5)=xs)(hi:i<n)(hr:n+1≤c)(hc63:c≤9223372036854775807)(hn:n≤1000)(hv:Blk w vb 47 vcur)(hvc:vcur.toList.take 5=vs)(hne:vb≠g)(hvl:vs.length=5)(h1:∀v∈vs,v.oneCell'=true)(h1x:∀v∈xs,v.oneCell'=true):
  Calls Tryz.prog 201 #[.slice (some ⟨g,0,none⟩) n c,.int .i64 i,.slice (some ⟨vb,0,none⟩) 1 vc] w (Aga (LB (some ⟨g,0,none⟩)) base n i xs vs w):=by
 have hcl:cur.toList.length=c*5:=by rw[Array.length_toList];exact hcs
 have hxl:xs.length=n*5:=by rw[←hcx,ZM,hcl];omega
 have hov:∀lb cb,(callFunc 242 #[.slice (some ⟨vb,0,none⟩) 1 vc,.slice (some ⟨g,(i+1)*5,none⟩) lb cb]).run Tryz.prog w=.ok (.value (.bool false)) w:=fun lb cb=>Aek vb g vc lb cb ((i+1)*5) vcur cur w hv hg hne (by omega);have HB2:Hid ((splice (splice cur.toList ((i+1)*5) (xs.drop (i*5))) (i*5) vs).take ((n+1)*5)=xs.take (i*5)++vs++xs.drop (i*5)):=by
  refine hid ?_;have h:=Adh cur.toList xs vs (i*5) (n*5) hcx (by rw[hcl];omega) (by omega) (by rw[hcl,hvl];omega);rw[hvl]at h;rw[Nat.add_mul,Nat.add_mul,Nat.one_mul];exact h
 have HC1:Hid ((xs.drop (i*5)).length=Nat.min (n+1-i) (n-i)*5):=by
  refine hid ?_;rw[List.length_drop,hxl,show Nat.min (n+1-i) (n-i)=n-i from Nat.min_eq_right (by omega),Nat.sub_mul]
 have HC2:=hid (fun j v (hj:(xs.drop (i*5))[j]? =some v)=>R4 hg.drew hcx (i*5) j v hj);have HC3:Hid ((i+1)*5+(xs.drop (i*5)).length≤cur.size):=hid (by rw[List.length_drop];omega);have HC3':Hid ((i+1)*5+(xs.drop (i*5)).length≤cur.toList.length):=hid (by rw[List.length_drop,hcl];omega);have HC4:=hid (fun v (hv:v∈xs.drop (i*5))=>h1x v (List.mem_of_mem_drop hv));have HC5:Hid (vs.length=Nat.min 1 (n+1-i)*5):=by
  refine hid ?_;rw[hvl,show Nat.min 1 (n+1-i)=1 from Nat.min_eq_left (by omega)]
 have HC6:Hid (i*5+vs.length≤(splice cur.toList ((i+1)*5) (xs.drop (i*5))).toArray.size):=by
  refine hid ?_;rw[List.size_toArray,length_splice _ _ _ (by rw[hcl,←hcs];exact HC3.out),hcl,hvl];omega
 have HXL:=hid hxl;have HVL:=hid hvl;have HG:=hid hg;have HV:=hid hv;have HCS:=hid hcs;have HNE:=hid hne;have HCX:=hid hcx;clear hxl hvl hg hv hcs hne hcx;have hw1:IntKind.i64.wrap ((i:Int)+1)=(i:Int)+1:=by rw[IntWalk.i64_in _ (by omega)]
 have hb1:(0:Int)≤(i:Int)+1:=by omega
 have htn:((i:Int)+1).toNat=i+1:=by omega
 have hb3:(i:Int)≤(n:Int)+1:=by omega
 have hb4:(i:Int)+1≤(n:Int)+1:=by omega
 have hb5:(i:Int)≤(n:Int):=by omega
 have hb6:¬c=i:=by omega
 have hb7:¬c=i+1:=by omega
 have hb8:((i:Int)==(n:Int))=false:=by simp;omega
 go_enter Tryz.func201,Tryz.ntmps201
 go_wp2_with (simp only[hov])
 go_region_law (refine Xo rfl (.tmp 73) (.tmp 76) 36 36 rfl 47 5 Tryz.underlying36 Vp g ((i+1)*5) (n-i) (c-(i+1)) ⟨g,i*5,none⟩ (n+1-i) (c-i) (by simp[Act.eval,Act.put]) (by simp[Act.eval,Act.put]) cur 47 HG.out.drew (xs.drop (i*5)) HC1.out HC2.out HC3.out HC4.out ?_;intro w1 hk1 hg1 hd1)
 have HK1:=hid hk1;have HG1:=hid hg1;have HV1:=hid (HV.out.drew.grown hg1 (fun e=>HNE.out (by injection e)));clear hk1 hg1
 go_wp2_with (refine Sc rfl (.tmp 80) (.tmp 81) 36 36 rfl 47 5 Tryz.underlying36 Vp g (i*5) (n+1-i) (c-i) ⟨vb,0,none⟩ 1 vc (by simp[Act.eval]) (by simp[Act.eval]) _ 47 HK1.out vs HC5.out (Afo HV1.out hvc) HC6.out h1 ?_;intro w2 hk2 hg2 hd2)
 go_ret
 refine⟨_,_,rfl,⟨?_,.inr ⟨g,c,_,rfl,hbg,hk2,by omega,by simpa[maxLen]using hc63,?_,?_⟩⟩,?_,fun k hk=>.inl ⟨_,rfl,by injection hk with hk⟩⟩
 ·simp only[ZF,ZM,List.length_drop];have:=HXL.out;have:=HVL.out;omega
 ·have h1:=length_splice cur.toList ((i+1)*5) (xs.drop (i*5)) HC3'.out;have h2:=length_splice (splice cur.toList ((i+1)*5) (xs.drop (i*5))) (i*5) vs (by simpa using HC6.out);rw[List.size_toArray,List.toList_toArray,h2,h1];simpa using HCS.out
 ·rw[List.toList_toArray,List.toList_toArray];exact HB2.out
 ·have hlt:=HG.out.lt;exact((Fr.refl _ w).drew.grown HG1.out (fun k hk=>.inl (⟨_,rfl,by injection hk with hk⟩)) hd1).grown hg2 (fun k hk=>.inl (⟨_,rfl,by injection hk with hk⟩)) hd2
set_option maxHeartbeats 2000000 in
set_option maxRecDepth 100000 in
theorem Aeq(base g:Nat)(n c i:Nat)(cur:Array Value)(xs:List Value)(vb vc:Nat)(vcur:Array Value)(vs:List Value)(w:World)(hg:Blk w g 47 cur)(hbase:base≤w.heap.size)(hcs:cur.size=c*5)(hcx:cur.toList.take (n*5)=xs)(hi:i<n)(hnc:n≤c)(hr:c<n+1)(hn:n≤1000)(hv:Blk w vb 47 vcur)(hvc:vcur.toList.take 5=vs)(hvl:vs.length=5)(h1:∀v∈vs,v.oneCell'=true)(h1x:∀v∈xs,v.oneCell'=true):
  Calls Tryz.prog 201 #[.slice (some ⟨g,0,none⟩) n c,.int .i64 i,.slice (some ⟨vb,0,none⟩) 1 vc] w (Aga (LB (some ⟨g,0,none⟩)) base n i xs vs w):=by
 obtain⟨i0,hi0,hz0,hzs,hzb⟩:=info_parts Aa8;have hcl:cur.toList.length=c*5:=by rw[Array.length_toList];exact hcs
 have hxl:xs.length=n*5:=by rw[←hcx,ZM,hcl];omega
 have hold:(Builtin.firstCells i0.size i (.slice (some ⟨g,0,none⟩) i c)).run Tryz.prog w.drew=.ok (xs.take (i*5)).toArray w.drew:=by
  rw[hzs];exact run_firstCells_some w.drew 5 i ⟨g,0,none⟩ i c (xs.take (i*5)) (by rw[ZM];omega) (fun j v hj=>by
   have hj':(xs.drop 0)[j]? =some v:=by
    rw[List.drop_zero];rw[List.getElem?_take]at hj;split at hj
    ·exact hj
    ·cases hj
   exact R4 hg.drew hcx 0 j v hj')
 have hkk:(n:Int)+1-(i:Int)=((n+1-i:Nat):Int):=by omega
 have hik:i+(n+1-i)=n+1:=by omega
 obtain⟨G,hG⟩:∃G,G=grownCap w (n+1) c 47:=⟨_,rfl⟩;have hGn:n+1≤G:=by rw[hG];exact grownCap_ge w _ _ _
 have hG63:G≤9223372036854775807:=by
  have:=grownCap_le_maxLen w (n+1) c 47 (by unfold maxLen;omega);rw[←hG]at this;unfold maxLen at this;omega
 obtain⟨ROW,hROW⟩:∃ROW:Array Value,ROW=(xs.take (i*5)).toArray++Builtin.zeroCells (Value.agg #[.string ⟨#[]⟩,.int .i64 0,.int .i64 0,.int .i64 0,.bool false]).cells (n+1-i)++Builtin.zeroCells (Value.agg #[.string ⟨#[]⟩,.int .i64 0,.int .i64 0,.int .i64 0,.bool false]).cells (G-(n+1)):=⟨_,rfl⟩;have hrz:∀ty,(Builtin.append_ #[36,3] ty #[.slice (some ⟨g,0,none⟩) i c,.int .i64 ((n:Int)+1-(i:Int))]).run Tryz.prog w=
   .ok (.slice (some ⟨w.heap.size,0,none⟩) (n+1) G) (w.drew.alloc (.cells ROW 47)):=fun ty=>by
  have h:=Lib.run_append_grow_zeros w 36 3 ty 47 i0 _ .i64 .i64 Tryz.underlying36 Tryz.underlying3 hi0 hz0 (some ⟨g,0,none⟩) i c (xs.take (i*5)) hold (n+1-i) (by omega) (by omega) (by omega) (by omega) (by rw[hzb];omega) (by rw[hzb,hik];exact growslice_fits hr (by omega));rw[hik]at h;rw[hkk,hROW,hG];exact h
 have hRs:ROW.size=G*5:=by
  rw[hROW];simp[Builtin.zeroCells,Value.cells];omega
 have hRl:ROW.toList.length=G*5:=by rw[Array.length_toList];exact hRs
 have hRt:ROW.toList.take (i*5)=xs.take (i*5):=by
  rw[hROW,Array.toList_append,Array.toList_append,ZS,List.take_append_of_le_length (by simp;omega),List.toList_toArray,List.take_take,Nat.min_self]
 have HB2:Hid ((splice (splice ROW.toList (i*5) vs) ((i+1)*5) (xs.drop (i*5))).take ((n+1)*5)=xs.take (i*5)++vs++xs.drop (i*5)):=by
  refine hid ?_;have h:=Aeg ROW.toList xs vs (i*5) (n*5) hRt hxl (by omega) (by rw[hRl,hvl];omega);rw[hvl]at h;rw[Nat.add_mul,Nat.add_mul,Nat.one_mul];exact h
 have hgl:=hg.lt;have hvlt:=hv.lt;have HN:=hid (Blk.new_ w.drew 47 ROW (g:=w.heap.size) rfl);have HV:=hid ((hv.drew).alloc (.cells ROW 47));have HG0:=hid ((hg.drew).alloc (.cells ROW 47));have HC1:Hid (vs.length=Nat.min 1 (n+1-i)*5):=by
  refine hid ?_;rw[hvl,show Nat.min 1 (n+1-i)=1 from Nat.min_eq_left (by omega)]
 have HC2:Hid (i*5+vs.length≤ROW.size):=hid (by rw[hRs,hvl];omega);have HC2':Hid (i*5+vs.length≤ROW.toList.length):=hid (by rw[hRl,hvl];omega);have HC3:Hid ((xs.drop (i*5)).length=Nat.min (n-i) (n-i)*5):=by
  refine hid ?_;rw[List.length_drop,hxl,show Nat.min (n-i) (n-i)=n-i from Nat.min_self _,Nat.sub_mul]
 have HC4:Hid ((i+1)*5+(xs.drop (i*5)).length≤(splice ROW.toList (i*5) vs).toArray.size):=by
  refine hid ?_;rw[List.size_toArray,length_splice _ _ _ HC2'.out,hRl,List.length_drop];omega
 have HC5:=hid (fun v (hv:v∈xs.drop (i*5))=>h1x v (List.mem_of_mem_drop hv));have HRL:=hid hRl;have HXL:=hid hxl;have HVL:=hid hvl;have HCX:=hid hcx;have HRS:=hid hRs;have HNE:Hid (w.heap.size≠g):=hid (by omega);have HNV:Hid (w.heap.size≠vb):=hid (by omega);clear hRl hxl hvl hcx hRs hold hi0 hz0 hzs hzb hkk hik hROW hG hg hv hcs hcl hRt;have hw1:IntKind.i64.wrap ((i:Int)+1)=(i:Int)+1:=by rw[IntWalk.i64_in _ (by omega)]
 have hb1:(0:Int)≤(i:Int)+1:=by omega
 have htn:((i:Int)+1).toNat=i+1:=by omega
 have hb3:(i:Int)≤(n:Int)+1:=by omega
 have hb4:(i:Int)+1≤(n:Int)+1:=by omega
 have hb5:(i:Int)≤(n:Int):=by omega
 have hb6:¬c=i:=by omega
 have hb7:¬G=i+1:=by omega
 have hb9:¬G=i:=by omega
 have hb8:((i:Int)==(n:Int))=false:=by simp;omega
 go_enter Tryz.func201,Tryz.ntmps201
 go_wp2_with (first
  |(at_builtin;refine Lib.wpList_append_run _ rfl _ _ _ _ rfl _ _ rfl rfl _ _ (hrz _) ?_;clear hrz)
  |(refine Sc rfl (.tmp 43) (.tmp 44) 36 36 rfl 47 5 Tryz.underlying36 Vp w.heap.size (i*5) (n+1-i) (G-i) ⟨vb,0,none⟩ 1 vc (by simp[Act.eval]) (by simp[Act.eval]) ROW 47 HN.out.drew vs HC1.out (Afo HV.out.drew hvc) HC2.out h1 ?_;intro w1 hk1 hg1 hd1))
 have HK1:=hid hk1;have HG1:=hid hg1;have HG0':=hid ((show Blk (w.alloc (.cells ROW 47)).drew g 47 cur from HG0.out).grown hg1 (fun e=>HNE.out (by injection e with e;exact e.symm)));have HC2a:=hid (fun j v (hj:(xs.drop (i*5))[j]? =some v)=>R4 HG0'.out.drew HCX.out (i*5) j v hj);clear hk1 hg1
 go_region_law (refine Xo rfl (.tmp 50) (.tmp 53) 36 36 rfl 47 5 Tryz.underlying36 Vp w.heap.size ((i+1)*5) (n-i) (G-(i+1)) ⟨g,i*5,none⟩ (n-i) (c-i) (by simp[Act.eval,Act.put]) (by simp[Act.eval,Act.put]) _ 47 HK1.out.drew (xs.drop (i*5)) HC3.out HC2a.out HC4.out HC5.out ?_;intro w2 hk2 hg2 hd2)
 have HK2:=hid hk2;have HG2:=hid hg2;clear hk2 hg2
 go_wp2
 go_ret
 refine⟨_,_,rfl,⟨?_,.inr ⟨w.heap.size,G,_,rfl,hbase,HK2.out,hGn,by simpa[maxLen]using hG63,?_,?_⟩⟩,?_,fun k hk=>.inr (Nat.le_of_eq (show w.heap.size=k by injection hk))⟩
 ·simp only[ZF,ZM,List.length_drop];have:=HXL.out;have:=HVL.out;omega
 ·have h1:=length_splice ROW.toList (i*5) vs HC2'.out;have h2:=length_splice (splice ROW.toList (i*5) vs) ((i+1)*5) (xs.drop (i*5)) (by simpa using HC4.out);rw[List.size_toArray,List.toList_toArray,h2,h1];simpa using HRS.out
 ·rw[List.toList_toArray,List.toList_toArray];exact HB2.out
 ·exact((((Fr.refl _ w).alloc _).drew.grown HG1.out (fun k hk=>.inr (by injection hk with hk;omega)) hd1).drew).grown HG2.out (fun k hk=>.inr (by injection hk with hk;omega)) hd2
theorem Aic(base:Nat)(A:Option Addr)(n c i:Nat)(xs:List Value)(vb vc:Nat)(vcur:Array Value)(vs:List Value)(w:World)(hown:w.ownsRow base 47 5 (.slice A n c) n xs)(hbase:base≤w.heap.size)(hi:i≤n)(hn:n≤1000)(hv:Blk w vb 47 vcur)(hvc:vcur.toList.take 5=vs)(hne:(Value.slice A n c).ownBlock≠some vb)(hvl:vs.length=5)(h1:∀v∈vs,v.oneCell'=true)(h1x:∀v∈xs,v.oneCell'=true):
  Calls Tryz.prog 201 #[.slice A n c,.int .i64 i,.slice (some ⟨vb,0,none⟩) 1 vc] w (Aga (LB A) base n i xs vs w):=by
 by_cases hin:i=n
 ·subst hin;exact Ajc base A i c xs vb vc vcur vs w hown hbase hn hv hvc hvl h1
 ·obtain⟨hl,h2⟩:=hown;rcases h2 with⟨_,h0⟩|⟨g,cap,cur,hA,hbg,hh,hnc,hm,hsz,htk⟩
  ·omega
  ·injection hA with hA _ hcap;subst hA;subst hcap;have hne':vb≠g:=fun e=>hne (by subst e;rfl);by_cases hr:n+1≤c
   ·exact Af0 base g n c i cur xs vb vc vcur vs w hh hbg hsz htk (by omega) hr (by simpa[maxLen]using hm) hn hv hvc hne' hvl h1 h1x
   ·exact Aeq base g n c i cur xs vb vc vcur vs w hh hbase hsz htk (by omega) hnc (by omega) hn hv hvc hvl h1 h1x
def Asw(base n:Nat)(xs:List Value)(w:World)(e:Ending)(w':World):Prop:=
 ∃A' c',e=.returned (.slice A' n c')∧w'.ownsRow base 47 5 (.slice A' n c') n xs∧Below base w w'∧w.drawn≤w'.drawn
set_option maxRecDepth 100000 in
theorem Ahy(A:Option Addr)(n c:Nat)(xs:List Value)(w:World)(hA:A=none→n=0)(hn:n≤1000)(hxl:xs.length=n*5)(hx:∀ad,A=some ad→∀j u,xs[j]? =some u→w.cell? (ad.add j)=some u)(h1:∀v∈xs,v.oneCell'=true):
  Calls Tryz.prog 107 #[.slice A n c] w (Asw w.heap.size n xs w):=by
 obtain⟨i0,hi0,hz0,hzs,hzb⟩:=info_parts Aa8;cases A with
 |none=>
  obtain rfl:=hA rfl;obtain rfl:xs=[]:=XR (by simpa using hxl);clear hx hxl hi0 hz0 hzs hzb h1;have hnl:=fun(w:World)=>Lib.run_eql_slice_nil (P:=Tryz.prog) w 36 47 none 0 c 0 0 Tryz.underlying36
  go_enter Tryz.func107,Tryz.ntmps107
  go_wp2
  go_ret
  exact⟨none,0,rfl,World.ownsRow_nil _ _ _ _,Below.refl _ _,ZT _⟩
 |some ad=>
  have HX:=hid (hx ad rfl);have HXL:=hid hxl;have HZ0:=hid hz0;have HZS:=hid hzs;have HZB:=hid hzb;have HI0:=hid hi0;clear hx hxl hA hi0 hz0 hzs hzb;have hnl:=fun(w:World)=>Lib.run_eql_slice_nil (P:=Tryz.prog) w 36 47 (some ad) n c 0 0 Tryz.underlying36
  go_enter Tryz.func107,Tryz.ntmps107
  have hown0:(w.alloc (.cells #[] 47)).ownsRow w.heap.size 47 5 (.slice (some ⟨w.heap.size,0,none⟩) 0 0) 0 []:=
   ⟨by simp,.inr ⟨w.heap.size,0, #[],rfl,ZT _,heap_alloc_new w _,by omega,by simp[maxLen],by simp,by simp⟩⟩
  have HO:=hid hown0;have HX1:=hid (fun j u (hj:xs[j]? =some u)=>(World.cell?_alloc_lt w (.cells #[] 47) (ad.add j) (Vq (HX.out j u hj))).trans (HX.out j u hj));clear hown0
  go_wp2_with (at_builtin;refine H4 _ rfl _ _ 36 rfl w.heap.size 47 i0 _ 5 48 Tryz.underlying36 HI0.out HZ0.out HZS.out HZB.out rfl (by decide) _ _ _ rfl HO.out ad n c xs rfl HXL.out HX1.out h1 (by simp only[maxLen];omega) (by omega) (by simp) ?_;intro v1 w1 hown1 hg1 hd1 hat1)
  go_ret
  rw[Nat.zero_add,List.nil_append]at hown1;obtain⟨A',c',rfl⟩:=L3 hown1;exact⟨A',c',rfl,hown1,((Below.refl _ _).alloc (ZT _) _).grown hg1 (by simp) (Ed HO.out),hd1⟩
section
variable {α:Type} {enc:α→List Value} {sz:Nat} {w w':World} {R:Nat→Prop}
theorem Fr.imp{L L':Nat→Prop}(h:Fr L w w')(hl:∀k,L k→L' k):Fr L' w w':=⟨h.os,h.tape,h.output,h.size,fun k hk hn=>h.block k hk fun hl'=>hn (hl k hl')⟩
theorem R6{u:V}{xs:List Value}(hp:M3 w R [.c u] xs):∃v,xs=[v]∧RV w R noG u v:=by
 have hl:=hp.len
 match xs,hl with
 |[v],_=>exact⟨v,rfl,hp.ok 0 _ _ rfl rfl⟩
theorem Q9(he:∀x,(enc x).length=sz){cl:Bool}{l:List α}{v:Value}(h:RV w R noG (.sl cl (l.map fun x=>(enc x).map .v)) v):
  ∃A c,v=.slice A l.length c∧(A=none→l.length=0)∧∀ad,A=some ad→∀j u,(l.flatMap enc)[j]? =some u→w.cell? (ad.add j)=some u:=by
 generalize hrows:(l.map fun x=>(enc x).map V.v)=rows at h;cases h with
 |nil _ a cap hc=>
  obtain rfl:l=[]:=by simpa using hrows
  exact⟨a,cap,rfl,fun _=>rfl,fun ad _ j u hu=>by simp at hu⟩
 |sl _ _ b off cap sz' f hR hcap hclip hs hcell hh=>
  have hlen:rows.length=l.length:=by rw[←hrows];simp
  rw[hlen];refine⟨some ⟨b,off,none⟩,cap,rfl,(by intro h;cases h),fun ad had j u hu=>?_⟩;injection had with had;subst had
  rw[Acv _ _ rfl];have hj:j<l.length*sz:=by
   have:=(ZB.1 hu).1
   rwa[Jf he]at this
  have hsz:0<sz:=by rcases Nat.eq_zero_or_pos sz with h|h;(subst h;omega);exact h
  have hd:j/sz<l.length:=Nat.div_lt_of_lt_mul (by rw[Nat.mul_comm];exact hj);have hm:j%sz<sz:=Nat.mod_lt _ hsz;have e2:j=j/sz*sz+j%sz:=by rw[Nat.mul_comm];exact(Nat.div_add_mod j sz).symm
  have hrow:rows[j/sz]? =some ((enc l[j/sz]).map V.v):=by rw[←hrows];simp[hd]
  have hsz':sz'=sz:=by rw[←hs _ (ZH hrow)];simp[he]
  subst hsz';rw[e2,R7 he (j/sz') (j%sz') hd hm]at hu;have hu':((enc l[j/sz']).map V.v)[j%sz']? =some (.v u):=by rw[XJ,hu];rfl
  have h1:=hcell _ _ _ _ hrow hu';have h2:=Cd (hh _ _ _ _ hrow hu');rw[h2]at h1;show w.cell? ⟨b,off+j,none⟩=some u;rw[e2,←Nat.add_assoc];exact h1
theorem Afa(he:∀x,(enc x).length=sz)(h1:∀x,∀v∈enc x,v.oneCell'=true)(l:List α):Ch w R noG (l.flatMap enc) sz (l.map fun x=>(enc x).map V.v):=by
 refine⟨fun row hr=>?_,fun i j row u g1 g2=>?_⟩
 ·obtain⟨x,_,rfl⟩:=XO.1 hr;simp[he]
 ·have hi:i<l.length:=by have:=(ZB.1 g1).1;simpa using this
  have e:row=(enc l[i]).map V.v:=by simp[hi]at g1;exact g1.symm
  subst e;rw[XJ]at g2;cases hq:(enc l[i])[j]? with
  |none=>rw[hq]at g2;cases g2
  |some y=>
   rw[hq]at g2;simp at g2;subst g2;have hj:j<sz:=by rw[←he l[i]];exact(ZB.1 hq).1
   exact⟨y,by rw[R7 he i j hi hj];exact hq,h1 _ y (ZH hq),.v y⟩
theorem Y4(he:∀x,(enc x).length=sz){l:List α}{xs:List Value}(hl:xs.length=l.length*sz)(h:Ch w R noG xs sz (l.map fun x=>(enc x).map V.v)):xs=l.flatMap enc:=by
 apply List.ext_getElem?;intro j;by_cases hj:j<l.length*sz
 ·have hsz:0<sz:=by rcases Nat.eq_zero_or_pos sz with h|h;(subst h;omega);exact h
  have hd:j/sz<l.length:=Nat.div_lt_of_lt_mul (by rw[Nat.mul_comm];exact hj);have hm:j%sz<sz:=Nat.mod_lt _ hsz;have e2:j=j/sz*sz+j%sz:=by rw[Nat.mul_comm];exact(Nat.div_add_mod j sz).symm
  have hrow:(l.map fun x=>(enc x).map V.v)[j/sz]? =some ((enc l[j/sz]).map V.v):=by simp[hd]
  have hy:(enc l[j/sz])[j%sz]? =some ((enc l[j/sz])[j%sz]'(by rw[he];exact hm)):=ZC (by rw[he];exact hm);obtain⟨x,h1,_,h2⟩:=h.2 (j/sz) (j%sz) _ _ hrow (by rw[XJ,hy];rfl);rw[Cd h2]at h1;rw[e2,h1,R7 he _ _ hd hm,hy]
 ·rw[XK (by omega),XK (by rw[Jf he];omega)]
theorem Ala(he:∀x,(enc x).length=sz)(l:List α)(x:α)(i:Nat):(l.flatMap enc).take (i*sz)++enc x++(l.flatMap enc).drop (i*sz)=(l.take i++[x]++l.drop i).flatMap enc:=by
 have h:∀(i:Nat) (l:List α),(l.flatMap enc).take (i*sz)=(l.take i).flatMap enc∧(l.flatMap enc).drop (i*sz)=(l.drop i).flatMap enc:=by
  intro i
  induction i with
  |zero=>intro l;simp
  |succ i ih=>
   intro l;cases l with
   |nil=>simp
   |cons y l=>
    have hy:=he y;have:=ih l;rw[List.flatMap_cons,Nat.add_mul,Nat.one_mul];constructor
    ·rw[List.take_append,hy,List.take_of_length_le (by rw[hy];omega),show i*sz+sz-sz=i*sz by omega,this.1,List.take_succ_cons,List.flatMap_cons]
    ·rw[List.drop_append,hy,List.drop_of_length_le (by rw[hy];omega),show i*sz+sz-sz=i*sz by omega,this.2,List.drop_succ_cons,List.nil_append]
 rw[(h i l).1,(h i l).2];simp
theorem Jy{T:TypeId}{base:Nat}(he:∀x,(enc x).length=sz)(h1:∀x,∀v∈enc x,v.oneCell'=true)(hsz:0<sz){l:List α}{A:Option Addr}{c:Nat}{L:Nat→Prop}(hlt:∀b,R b→b<w.heap.size)(hown:w'.ownsRow base T sz (.slice A l.length c) l.length (l.flatMap enc))(hfr:Fr L w w')(hk:∀k,(Value.slice A l.length c).ownBlock=some k→L k∨w.heap.size≤k)(hn:∀k,(Value.slice A l.length c).ownBlock=some k→¬R k):
  ∃(ys:List Value) (R':Nat→Prop),Ending.returned (.slice A l.length c)=.returned (Dl ys)∧Fr L w w'∧(∀b,R b→R' b)∧
   (∀b,R' b→R b∨(b<w'.heap.size∧(L b∨w.heap.size≤b)))∧M3 w' R' [.o T sz (l.map fun x=>(enc x).map V.v)] ys∧(∀b,A4 [.o T sz (l.map fun x=>(enc x).map V.v)] ys b→L b∨w.heap.size≤b):=by
 have hpb:∀b,A4 [.o T sz (l.map fun x=>(enc x).map V.v)] [.slice A l.length c] b→(Value.slice A l.length c).ownBlock=some b:=by
  rintro b ⟨i,T',sz',rows',x,g1,g2,g3⟩
  cases i with
  |zero=>simp at g2;subst g2;exact g3
  |succ i=>simp at g1
 refine⟨[.slice A l.length c],R,rfl,hfr,fun _ h=>h,fun b h=>.inl h,⟨rfl,?_,?_,?_⟩,fun b hb=>hk b (hpb b hb)⟩
 ·intro i p x g1 g2;cases i with
  |zero=>
   simp at g1 g2;subst g1 g2;exact⟨hsz,_,by rw[ZE];exact Al9 hown (ZU _),Afa he h1 l⟩
  |succ i=>simp at g1
 ·intro i j T1 sz1 rows1 T2 sz2 rows2 x y b hij g1 g2;cases i with
  |zero=>cases j with
   |zero=>exact absurd rfl hij
   |succ j=>simp at g2
  |succ i=>simp at g1
 ·intro b hb;exact hn b (hpb b hb)
theorem Am2{T:TypeId}(he:∀x,(enc x).length=sz){l:List α}{x:α}{z:Value}{xs:List Value}(hp:M3 w R [.o T sz (l.map fun x=>(enc x).map V.v),.c (.v z),.o T sz [(enc x).map V.v]] xs):
  ∃v0 v2,xs=[v0,z,v2]∧w.ownsRow 0 T sz v0 l.length (l.flatMap enc)∧w.ownsRow 0 T sz v2 1 (enc x)∧(∀b,v0.ownBlock=some b→v2.ownBlock≠some b)∧∀b,A4 [.o T sz (l.map fun x=>(enc x).map V.v),.c (.v z),.o T sz [(enc x).map V.v]] xs b→¬R b:=by
 have hl:=hp.len
 match xs,hl with
 |[v0,v1,v2],_=>
  obtain⟨_,x0,h0,h0'⟩:=hp.ok 0 _ _ rfl rfl;have h1:RV w R noG (.v z) v1:=hp.ok 1 _ _ rfl rfl;obtain⟨_,x2,h2,h2'⟩:=hp.ok 2 _ _ rfl rfl;obtain rfl:=Cd h1;rw[ZE]at h0;obtain rfl:=Y4 he h0.1 h0';have h2'':Ch w R noG x2 sz ([x].map fun x=>(enc x).map V.v):=h2';have e2:=Y4 he (l:=[x]) h2.1 h2'';simp only[List.flatMap_cons,List.flatMap_nil,List.append_nil]at e2;rw[e2]at h2;exact⟨v0,v2,rfl,h0,h2,fun b g1 g2=>hp.apart 0 2 _ _ _ _ _ _ _ _ b (by omega) rfl rfl rfl rfl g1 g2,hp.free⟩
end
theorem Ae3[Glob]{α:Type}(enc:α→List Value)(he:∀x,(enc x).length=5)(h1:∀x,∀v∈enc x,v.oneCell'=true)(cl:Bool)(l:List α)(hl:l.length≤1000):
  Fun Tryz.prog 107 [.c (.sl cl (l.map fun x=>(enc x).map .v))] [.o 47 5 (l.map fun x=>(enc x).map .v)]:=by
 refine⟨Df Tryz.func107 (by kernel_rfl) (by kernel_rfl),fun w R xs hlt hp _=>?_⟩;obtain⟨v,rfl,hv⟩:=R6 hp;obtain⟨A,c,rfl,hA,hx⟩:=Q9 he hv;have hone:∀v∈l.flatMap enc,v.oneCell'=true:=fun v hv=>by
  obtain⟨g,_,hg⟩:=List.mem_flatMap.1 hv;exact h1 g v hg
 refine(Ahy A l.length c (l.flatMap enc) w hA hl (Jf he l) hx hone).mono ?_
 rintro e w' ⟨A',c',rfl,hown,hb,hd⟩
 exact Jy he h1 (by decide) hlt hown (Cn hb) (fun k hk=>.inr (Ed hown k hk)) (fun k hk=>by have:=Ed hown k hk;intro h;have:=hlt k h;omega)
set_option maxHeartbeats 1000000 in
theorem Aa4[Glob]{α:Type}(enc:α→List Value)(he:∀x,(enc x).length=5)(h1:∀x,∀v∈enc x,v.oneCell'=true)(l:List α)(x:α)(i:Nat)(hi:i≤l.length)(hl:l.length≤1000):
  Fun Tryz.prog 201 [.o 47 5 (l.map fun x=>(enc x).map .v),.c (.v (.int .i64 i)),.o 47 5 [(enc x).map .v]] [.o 47 5 ((l.take i++[x]++l.drop i).map fun x=>(enc x).map .v)]:=by
 refine⟨Df Tryz.func201 (by kernel_rfl) (by kernel_rfl),fun w R xs hlt hp _=>?_⟩;obtain⟨v0,v2,rfl,o0,o2,hap,hf0⟩:=Am2 (enc:=enc) he hp;obtain⟨A,c,rfl⟩:=L3 o0;rcases o2.2 with⟨_,h0⟩|⟨g,cap,cur,rfl,_,hh,hcap,_,hsz,htk⟩
 ·omega
 have hone:∀v∈l.flatMap enc,v.oneCell'=true:=fun v hv=>by
  obtain⟨g,_,hg⟩:=List.mem_flatMap.1 hv;exact h1 g v hg
 refine(Aic 0 A l.length c i (l.flatMap enc) g cap cur (enc x) w o0 (ZU _) hi hl hh (by rw[Nat.one_mul]at htk;exact htk) (fun e=>hap g e rfl) (he x) (h1 x) hone).mono ?_
 rintro e w' ⟨A',c',rfl,hown,hb,hk⟩
 rw[Ala he l x i,show l.length+1=(l.take i++[x]++l.drop i).length by simp;omega]at hown;rw[show l.length+1=(l.take i++[x]++l.drop i).length by simp;omega]at hk ⊢;have hL:∀k,LB A k→A4 [.o 47 5 (l.map fun x=>(enc x).map .v),.c (.v (.int .i64 i)),.o 47 5 [(enc x).map .v]] [.slice A l.length c,.int .i64 i,.slice (some ⟨g,0,none⟩) 1 cap] k:=fun k ⟨a,ha,hq⟩=>⟨0,_,_,_,_,rfl,rfl,by subst ha;simp only[Value.ownBlock];rw[hq]⟩;exact Jy he h1 (by decide) hlt hown (hb.imp hL) (fun k hk'=>(hk k hk').imp (hL k) (fun h=>h)) (fun k hk'=>by
  rcases hk k hk' with h|h
  ·exact hf0 k (hL k h)
  ·intro h';have:=hlt k h';omega)
theorem Y7[Glob](c:Bool)(l:List Mb)(hl:l.length≤9223372036854775807)(hw:∀m∈l,m.ok):Fun Tryz.prog 129 [.c (.sl c (l.map Mb.row))] [.c (.v (.int .i64 (Ad Mb.err l)))]:=by
 refine A9 Gs rfl ?_;(refine goI ?_;repeat (intro gg;refine goI ?_));rw[ZE];(refine⟨[],none,{k:Nat//k≤l.length∧∀j,(h:j<l.length)→j<k→(l[j]).err=0},[6,7],fun⟨k,hk,h0⟩=>[(8,.v (.int .i64 k))],[],fun⟨k,hk,h0⟩=>[],fun⟨k,hk,h0⟩=>l.length-k,trivial,fun _=>⟨trivial,fun _=>⟨⟨0,by omega,fun j _ h=>by omega⟩,tI,Ah _ _,tI,Ag _ _⟩⟩,fun⟨k,hk,h0⟩=>?_⟩);(refine goI ?_;repeat (intro gg;refine goI ?_));(refine Ab (fun h=>?_) (fun h=>?_)<;>rw[h])
 ·have hlt:k<l.length:=by simpa using h
  (refine goI ?_;repeat (intro gg;refine goI ?_));refine⟨k,_,rfl,Am hlt,?_⟩;(refine goI ?_;repeat (intro gg;refine goI ?_));refine .inl (cX (Ach _ (hw _ (ZK hlt))) ?_);(refine goI ?_;repeat (intro gg;refine goI ?_));(refine Ab (fun h=>?_) (fun h=>?_)<;>rw[h])
  ·(refine goI ?_;repeat (intro gg;refine goI ?_));rw[Bb hlt h0 (by simpa using h)];(exact⟨[],aI⟩)
  ·(refine goI ?_;repeat (intro gg;refine goI ?_));(exact⟨none,trivial,fun _=>⟨⟨k+1,by omega,up1 (p:=fun j h=>(l[j]).err=0) h0 (fun _=>by simpa using h)⟩,by show l.length-(k+1)<l.length-k;omega,tI,tI,tI,tI⟩⟩)
 ·have hge:¬k<l.length:=by simpa using h
  (refine goI ?_;repeat (intro gg;refine goI ?_));rw[A8 (l:=l) (fun i hi=>h0 i hi (by omega))];(exact⟨[],aI⟩)
def Asz(l:List Mb):List V:=[.sl false (l.map Mb.row)]
theorem Af4[Glob](c:Bool)(ls:List (List Mb))(hls:ls.length≤9223372036854775807)(hl:∀l∈ls,l.length≤9223372036854775807)(hw:∀l∈ls,∀m∈l,m.ok):Fun Tryz.prog 83 [.c (.sl c (ls.map Asz))] [.c (.v (.int .i64 (Ad Gj ls)))]:=by
 refine A9 Fu rfl ?_;(refine goI ?_;repeat (intro gg;refine goI ?_));rw[ZE];(refine⟨[],none,{k:Nat//k≤ls.length∧∀j,(h:j<ls.length)→j<k→Gj (ls[j])=0},[7,8],fun⟨k,hk,h0⟩=>[(9,.v (.int .i64 k))],[],fun⟨k,hk,h0⟩=>[],fun⟨k,hk,h0⟩=>ls.length-k,trivial,fun _=>⟨trivial,fun _=>⟨⟨0,by omega,fun j _ h=>by omega⟩,tI,Ah _ _,tI,Ag _ _⟩⟩,fun⟨k,hk,h0⟩=>?_⟩);(refine goI ?_;repeat (intro gg;refine goI ?_));(refine Ab (fun h=>?_) (fun h=>?_)<;>rw[h])
 ·have hlt:k<ls.length:=by simpa using h
  (refine goI ?_;repeat (intro gg;refine goI ?_));refine⟨k,_,rfl,Am hlt,?_⟩;(refine goI ?_;repeat (intro gg;refine goI ?_));have HL:=hl _ (ZK hlt);have HW:=hw _ (ZK hlt);have HE:=Bb (e:=Gj) hlt h0;have HN:Gj ls[k]=0→∀j,(h:j<ls.length)→j<k+1→Gj (ls[j])=0:=fun e=>up1 (p:=fun j h=>Gj (ls[j])=0) h0 (fun _=>e);generalize ls[k]=l at *;rw[ZE];(refine Ab (fun h1=>?_) (fun h1=>?_)<;>rw[h1])
  ·(refine goI ?_;repeat (intro gg;refine goI ?_));have e:Gj l=2:=Ie (by have:=ZV h1;omega);rw[HE (by rw[e];decide),e];(exact⟨[],aI⟩)
  ·have h1':¬20<l.length:=(by have:=ZW h1;omega);(refine goI ?_;repeat (intro gg;refine goI ?_));refine .inl (cX (Y7 false l HL HW) ?_);(refine goI ?_;repeat (intro gg;refine goI ?_));(refine Ab (fun h2=>?_) (fun h2=>?_)<;>rw[h2])
   ·have h2':Ad Mb.err l≠0:=by simpa using h2
    (refine goI ?_;repeat (intro gg;refine goI ?_));have e:Gj l=Ad Mb.err l:=Di h1' h2';rw[HE (by rw[e];exact h2'),e];(exact⟨[],aI⟩)
   ·have h2':Ad Mb.err l=0:=by simpa using h2
    (refine goI ?_;repeat (intro gg;refine goI ?_));(refine⟨[],none,{k:Nat//(k<l.length∨k=0)∧∀i,(h:i+1<l.length)→i<k→Mb.lt l[i] l[i+1]=true},[4,7,8,9],fun⟨q,hq,g0⟩=>[(6,.v (.int .i64 ((q:Int)+1)))],[],fun⟨q,hq,g0⟩=>[],fun⟨q,hq,g0⟩=>l.length-q,trivial,fun _=>⟨trivial,fun _=>⟨⟨0,by omega,fun j _ h=>by omega⟩,tI,Ah _ _,tI,Ag _ _⟩⟩,fun⟨q,hq,g0⟩=>?_⟩);(refine goI ?_;repeat (intro gg;refine goI ?_));rw[ZE];(refine Ab (fun h3=>?_) (fun h3=>?_)<;>rw[h3])
    ·have hlt3:q+1<l.length:=(by have:=ZV h3;omega);(refine goI ?_;repeat (intro gg;refine goI ?_));refine⟨q+1,_,by omega,Am hlt3,?_⟩;(refine goI ?_;repeat (intro gg;refine goI ?_));refine⟨q,_,by omega,Am (by omega),?_⟩;(refine goI ?_;repeat (intro gg;refine goI ?_));rw[Tm];(refine Ab (fun h4=>?_) (fun h4=>?_)<;>rw[h4])
     ·(refine goI ?_;repeat (intro gg;refine goI ?_));have e:Gj l=4:=Oi h1' h2' (D8 hlt3 (by simpa[Mb.lt]using h4));rw[HE (by rw[e];decide),e];(exact⟨[],aI⟩)
     ·(refine goI ?_;repeat (intro gg;refine goI ?_));(exact⟨none,trivial,fun _=>⟨⟨q+1,by omega,up2 (p:=fun i h=>Mb.lt l[i] l[i+1]=true) g0 (fun _=>by simpa[Mb.lt]using h4)⟩,by show l.length-(q+1)<l.length-q;omega,tI,tI,tI,tI⟩⟩)
    ·have hge3:¬q+1<l.length:=(by have:=ZW h3;omega);(refine goI ?_;repeat (intro gg;refine goI ?_));have e:Gj l=0:=K0 h1' h2' (Ef fun i hi=>g0 i hi (by omega));(exact⟨none,trivial,fun _=>⟨⟨k+1,by omega,HN e⟩,by show ls.length-(k+1)<ls.length-k;omega,tI,tI,tI,tI⟩⟩)
 ·have hge:¬k<ls.length:=by simpa using h
  (refine goI ?_;repeat (intro gg;refine goI ?_));rw[A8 (l:=ls) (fun i hi=>h0 i hi (by omega))];(exact⟨[],aI⟩)
theorem Wf[Glob](l:List Mb)(hl:l.length≤9223372036854775807)(hw:∀m∈l,m.ok):Fun Tryz.prog 45 [.c (.sl false (l.map Mb.row))] [.c (.v (.int .i64 (Gj l)))]:=by
 refine A9 Ii rfl ?_;(refine goI ?_;repeat (intro gg;refine goI ?_));(refine .inl ⟨_,_,true,[],aI,Af4 false [l] (by simp) (by simpa using hl) (by simpa using hw),(fun _=>fI),nI,?_⟩);rw[Mz];(refine goI ?_;repeat (intro gg;refine goI ?_));(exact⟨[],aI⟩)
theorem X5[Glob](c:Bool)(l:List Mb)(hl:l.length≤9223372036854775807)(hw:∀m∈l,m.ok):Fun Tryz.prog 28 [.c (.sl c (l.map Mb.row))] [.c (.v (.int .i64 (Gj l)))]:=by
 refine A9 J6 rfl ?_;(refine goI ?_;repeat (intro gg;refine goI ?_));rw[ZE];(refine Ab (fun h1=>?_) (fun h1=>?_)<;>rw[h1])
 ·(refine goI ?_;repeat (intro gg;refine goI ?_));have e:Gj l=2:=Ie (by have:=ZV h1;omega);rw[e];(exact⟨[],aI⟩)
 ·have h1':¬20<l.length:=(by have:=ZW h1;omega);(refine goI ?_;repeat (intro gg;refine goI ?_));(refine⟨[],none,{k:Nat//k≤l.length∧∀j,(h:j<l.length)→j<k→(l[j]).err=0},[0],fun⟨k,hk,h0⟩=>[(3,.v (.int .i64 k))],[],fun⟨k,hk,h0⟩=>[],fun⟨k,hk,h0⟩=>l.length-k,trivial,fun _=>⟨trivial,fun _=>⟨⟨0,by omega,fun j _ h=>by omega⟩,tI,Ah _ _,tI,Ag _ _⟩⟩,fun⟨k,hk,h0⟩=>?_⟩);(refine goI ?_;repeat (intro gg;refine goI ?_));rw[ZE];(refine Ab (fun h=>?_) (fun h=>?_)<;>rw[h])
  ·have hlt:k<l.length:=(by have:=ZV h;omega);(refine goI ?_;repeat (intro gg;refine goI ?_));refine⟨k,_,rfl,Am hlt,?_⟩;(refine goI ?_;repeat (intro gg;refine goI ?_));refine .inl (cX (Xl _ (hw _ (ZK hlt))) ?_);(refine goI ?_;repeat (intro gg;refine goI ?_));(refine Ab (fun h2=>?_) (fun h2=>?_)<;>rw[h2])
   ·(refine goI ?_;repeat (intro gg;refine goI ?_));have h2':(l[k]).err≠0:=by simpa using h2
    have e0:=Bb hlt h0 h2';have e:Gj l=(l[k]).err:=(Di h1' (by rw[e0];exact h2')).trans e0;rw[e];(exact⟨[],aI⟩)
   ·(refine goI ?_;repeat (intro gg;refine goI ?_));(exact⟨none,trivial,fun _=>⟨⟨k+1,by omega,up1 (p:=fun j h=>(l[j]).err=0) h0 (fun _=>by simpa using h2)⟩,by show l.length-(k+1)<l.length-k;omega,tI,tI,tI,tI⟩⟩)
  ·have hge:¬k<l.length:=(by have:=ZW h;omega);have h2':Ad Mb.err l=0:=A8 fun i hi=>h0 i hi (by omega);(refine goI ?_;repeat (intro gg;refine goI ?_));(refine⟨[],none,{k:Nat//(k<l.length∨k=0)∧∀i,(h:i+1<l.length)→i<k→Mb.lt l[i] l[i+1]=true},[0],fun⟨q,hq,g0⟩=>[(5,.v (.int .i64 ((q:Int)+1)))],[],fun⟨q,hq,g0⟩=>[],fun⟨q,hq,g0⟩=>l.length-q,trivial,fun _=>⟨trivial,fun _=>⟨⟨0,by omega,fun j _ h=>by omega⟩,tI,Ah _ _,tI,Ag _ _⟩⟩,fun⟨q,hq,g0⟩=>?_⟩);(refine goI ?_;repeat (intro gg;refine goI ?_));rw[ZE];(refine Ab (fun h3=>?_) (fun h3=>?_)<;>rw[h3])
   ·have hlt3:q+1<l.length:=(by have:=ZV h3;omega);(refine goI ?_;repeat (intro gg;refine goI ?_));refine⟨q+1,_,by omega,Am hlt3,?_⟩;(refine goI ?_;repeat (intro gg;refine goI ?_));refine⟨q,_,by omega,Am (by omega),?_⟩;(refine goI ?_;repeat (intro gg;refine goI ?_));rw[Tm];(refine Ab (fun h4=>?_) (fun h4=>?_)<;>rw[h4])
    ·(refine goI ?_;repeat (intro gg;refine goI ?_));have e:Gj l=4:=Oi h1' h2' (D8 hlt3 (by simpa[Mb.lt]using h4));rw[e];(exact⟨[],aI⟩)
    ·(refine goI ?_;repeat (intro gg;refine goI ?_));(exact⟨none,trivial,fun _=>⟨⟨q+1,by omega,up2 (p:=fun i h=>Mb.lt l[i] l[i+1]=true) g0 (fun _=>by simpa[Mb.lt]using h4)⟩,by show l.length-(q+1)<l.length-q;omega,tI,tI,tI,tI⟩⟩)
   ·have hge3:¬q+1<l.length:=(by have:=ZW h3;omega);(refine goI ?_;repeat (intro gg;refine goI ?_));have e:Gj l=0:=K0 h1' h2' (Ef fun i hi=>g0 i hi (by omega));rw[e];(exact⟨[],aI⟩)
theorem Agz[Glob](g:Mb)(name:ByteArray):Fun Tryz.prog 92 [.c (.agg g.row),.c (.v (.string name))] [.c (.v (.int .i64 (Mb.cf name g)))]:=by
 refine A9 Bo rfl ?_;(refine goI ?_;repeat (intro gg;refine goI ?_));refine .inl (cX (Xq _ _) ?_);(refine goI ?_;repeat (intro gg;refine goI ?_));(exact⟨[],aI⟩)
theorem Ams[Glob](c:Bool)(l:List Mb)(name:ByteArray)(hl:l.length≤1000)(hm:Aqq (Mb.cf name) l):Fun Tryz.prog 91 [.c (.sl c (l.map Mb.row)),.c (.v (.string name)),.c (.v (.func (.func 92) #[] #[]))] [.c (.v (.int .i64 (low (Mb.cf name) l))),.c (.v (.bool (hit (Mb.cf name) l)))]:=by
 refine A9 Av rfl ?_;(refine goI ?_;repeat (intro gg;refine goI ?_));rw[ZE];(refine⟨[],none,{p:Nat×Nat//p.1≤p.2∧p.2≤l.length∧(∀k,(h:k<l.length)→k<p.1→Mb.cf name l[k]<0)∧(∀k,(h:k<l.length)→p.2≤k→0≤Mb.cf name l[k])},[0,1,2,8],fun⟨⟨i,j⟩,h1,h2,h3,h4⟩=>[(9,.v (.int .i64 i)),(10,.v (.int .i64 j))],[],fun⟨⟨i,j⟩,h1,h2,h3,h4⟩=>[],fun⟨⟨i,j⟩,h1,h2,h3,h4⟩=>j-i,trivial,fun _=>⟨trivial,fun _=>⟨⟨(0,l.length),by omega,by omega,fun k _ h=>absurd h (by omega),fun k h h'=>absurd h (by omega)⟩,tI,Ah _ _,tI,Ag _ _⟩⟩,fun⟨⟨i,j⟩,h1,h2,h3,h4⟩=>?_⟩);dsimp only at h1 h2 h3 h4;(refine goI ?_;repeat (intro gg;refine goI ?_));(refine Ab (fun h=>?_) (fun h=>?_)<;>rw[h])
 ·have hlt:i<j:=(by have:=ZV h;omega);have hk:(i+j)/2<l.length:=by omega
  (refine goI ?_;repeat (intro gg;refine goI ?_));refine⟨(i+j)/2,_,by omega,Am hk,?_⟩;(refine goI ?_;repeat (intro gg;refine goI ?_));refine .inl (cX (Agz _ _) ?_);(refine goI ?_;repeat (intro gg;refine goI ?_));(refine Ab (fun h5=>?_) (fun h5=>?_)<;>rw[h5])
  ·have h5':Mb.cf name l[(i+j)/2]<0:=by simpa using h5
   (refine goI ?_;repeat (intro gg;refine goI ?_));(exact⟨none,trivial,fun _=>⟨⟨((i+j)/2+1,j),by dsimp only;omega,h2,fun k hk' hka=>hm k ((i+j)/2) hk' hk (by dsimp only at hka;omega) h5',h4⟩,by show j-((i+j)/2+1)<j-i;omega,tI,tI,tI,tI⟩⟩)
  ·have h5':¬Mb.cf name l[(i+j)/2]<0:=by simpa using h5
   (refine goI ?_;repeat (intro gg;refine goI ?_));(exact⟨none,trivial,fun _=>⟨⟨(i,(i+j)/2),by dsimp only;omega,by dsimp only;omega,h3,fun k hk' hka=>Int.not_lt.1 (fun h'=>h5' (hm ((i+j)/2) k hk hk' hka h'))⟩,by show(i+j)/2-i<j-i;omega,tI,tI,tI,tI⟩⟩)
 ·have hij:i=j:=(by have:=ZW h;omega);subst hij;have HE:=Aki (cf:=Mb.cf name) h2 h3 h4;(refine goI ?_;repeat (intro gg;refine goI ?_));(refine Ab (fun h5=>?_) (fun h5=>?_)<;>rw[h5])
  ·have hin:i<l.length:=(by have:=ZV h5;omega);have HH:hit (Mb.cf name) l=decide (Mb.cf name l[i]=0):=by
    have hin':low (Mb.cf name) l<l.length:=by rw[←HE];exact hin
    rw[Afl hin'];simp only[←HE]
   (refine goI ?_;repeat (intro gg;refine goI ?_));refine⟨i,_,rfl,Am hin,?_⟩;(refine goI ?_;repeat (intro gg;refine goI ?_));refine .inl (cX (Agz _ _) ?_);(refine goI ?_;repeat (intro gg;refine goI ?_));rw[←HE,HH];(exact⟨[],aI⟩)
  ·have HH:hit (Mb.cf name) l=false:=Ahd (by rw[←HE];exact(by have:=ZW h5;omega));(refine goI ?_;repeat (intro gg;refine goI ?_));rw[←HE,HH];(exact⟨[],aI⟩)
theorem Zw[Glob](c:Bool)(l:List Mb)(name:ByteArray)(hl:l.length≤1000)(hm:Aqq (Mb.cf name) l):Fun Tryz.prog 51 [.c (.sl c (l.map Mb.row)),.c (.v (.string name))] [.c (.v (.int .i64 (low (Mb.cf name) l))),.c (.v (.bool (hit (Mb.cf name) l)))]:=by
 refine A9 Ev rfl ?_;(refine goI ?_;repeat (intro gg;refine goI ?_));refine .inl (cX (Ams c l name hl hm) ?_);(refine goI ?_;repeat (intro gg;refine goI ?_));(exact⟨[],aI⟩)
theorem Alm[Glob](c:Bool)(l:List Mb)(name:ByteArray)(hl:l.length≤9223372036854775807):Fun Tryz.prog 34 [.c (.sl c (l.map Mb.row)),.c (.v (.string name))] [.c (.v (.int .i64 (at_ (Mb.is name) l)))]:=by
 refine A9 M2 rfl ?_;(refine goI ?_;repeat (intro gg;refine goI ?_));(refine⟨[],none,{k:Nat//k≤l.length∧∀j,(h:j<l.length)→j<k→Mb.is name l[j]=false},[0,1],fun⟨k,hk,h0⟩=>[(5,.v (.int .i64 k))],[],fun⟨k,hk,h0⟩=>[],fun⟨k,hk,h0⟩=>l.length-k,trivial,fun _=>⟨trivial,fun _=>⟨⟨0,by omega,fun j _ h=>by omega⟩,tI,Ah _ _,tI,Ag _ _⟩⟩,fun⟨k,hk,h0⟩=>?_⟩);(refine goI ?_;repeat (intro gg;refine goI ?_));rw[ZE];(refine Ab (fun h=>?_) (fun h=>?_)<;>rw[h])
 ·have hlt:k<l.length:=(by have:=ZV h;omega);(refine goI ?_;repeat (intro gg;refine goI ?_));refine⟨k,_,rfl,Am hlt,?_⟩;(refine goI ?_;repeat (intro gg;refine goI ?_));(refine Ab (fun h2=>?_) (fun h2=>?_)<;>rw[h2])
  ·(refine goI ?_;repeat (intro gg;refine goI ?_));rw[Abj hlt h0 h2];(exact⟨[],aI⟩)
  ·(refine goI ?_;repeat (intro gg;refine goI ?_));(exact⟨none,trivial,fun _=>⟨⟨k+1,by omega,up1 (p:=fun j h=>Mb.is name l[j]=false) h0 (fun _=>h2)⟩,by show l.length-(k+1)<l.length-k;omega,tI,tI,tI,tI⟩⟩)
 ·have hge:¬k<l.length:=(by have:=ZW h;omega);(refine goI ?_;repeat (intro gg;refine goI ?_));rw[Agg (p:=Mb.is name) (l:=l) (fun i hi=>h0 i hi (by omega))];(exact⟨[],aI⟩)
theorem Ut[Glob](cl:Bool)(l:List Ru)(hl:l.length≤1000):Fun Tryz.prog 108 [.c (.sl cl (l.map Ru.row))] [.o 79 6 (l.map Ru.row)]:=by
 refine A9 Fp rfl ?_;(refine goI ?_;repeat (intro gg;refine goI ?_));rename_i b;have hb:=gg;cases b with
 |true=>
  have e:l.map Ru.row=[]:=hb rfl;(refine goI ?_;repeat (intro gg;refine goI ?_));rw[e];(exact⟨[],aI⟩)
 |false=>
  (refine goI ?_;repeat (intro gg;refine goI ?_));refine⟨Zv,?_⟩;(refine goI ?_;repeat (intro gg;refine goI ?_));refine⟨lI,lI,?_⟩;(refine goI ?_;repeat (intro gg;refine goI ?_));(exact⟨[80],aI⟩)
theorem Aot[Glob](cl:Bool)(l:List Ru)(f:FuncId)(caps:List V)(hcaps:∀u∈caps,Cl u)(p:Ru→Bool)(hl:l.length≤1000)(hf:∀x∈l,Fun Tryz.prog f (.c (.agg (Ru.row x))::caps.map .c) [.c (.v (.bool (p x)))]):
  Fun Tryz.prog 131 [.c (.sl cl (l.map Ru.row)),.c (.clo f caps)] [.c (.v (.int .i64 (at_ p l)))]:=by
 refine A9 Be rfl ?_;(refine goI ?_;repeat (intro gg;refine goI ?_));rw[ZE];(refine⟨[],none,{k:Nat//k≤l.length∧∀j,(h:j<l.length)→j<k→p l[j]=false},[0,1,7],fun⟨k,hk,h0⟩=>[(8,.v (.int .i64 k))],[],fun⟨k,hk,h0⟩=>[],fun⟨k,hk,h0⟩=>l.length-k,trivial,fun _=>⟨trivial,fun _=>⟨⟨0,by omega,fun j _ h=>by omega⟩,tI,Ah _ _,tI,Ag _ _⟩⟩,fun⟨k,hk,h0⟩=>?_⟩);(refine goI ?_;repeat (intro gg;refine goI ?_));(refine Ab (fun h=>?_) (fun h=>?_)<;>rw[h])
 ·have hlt:k<l.length:=(by have:=ZV h;omega);(refine goI ?_;repeat (intro gg;refine goI ?_));refine⟨k,_,rfl,Am hlt,?_⟩;(refine goI ?_;repeat (intro gg;refine goI ?_));refine .inl (cX (hf _ (ZK hlt)) ?_);(refine goI ?_;repeat (intro gg;refine goI ?_));(refine Ab (fun h2=>?_) (fun h2=>?_)<;>rw[h2])
  ·(refine goI ?_;repeat (intro gg;refine goI ?_));rw[Abj hlt h0 h2];(exact⟨[],aI⟩)
  ·(refine goI ?_;repeat (intro gg;refine goI ?_));(exact⟨none,trivial,fun _=>⟨⟨k+1,by omega,up1 (p:=fun j h=>p l[j]=false) h0 (fun _=>h2)⟩,by show l.length-(k+1)<l.length-k;omega,tI,tI,tI,tI⟩⟩)
 ·have hge:¬k<l.length:=(by have:=ZW h;omega);(refine goI ?_;repeat (intro gg;refine goI ?_));rw[Agg (p:=p) (l:=l) (fun i hi=>h0 i hi (by omega))];(exact⟨[],aI⟩)
theorem Abh[Glob](cl:Bool)(l:List Ru)(f:FuncId)(p:Ru→Bool)(hl:l.length≤1000)(hf:∀x∈l,Fun Tryz.prog f [.c (.agg (Ru.row x))] [.c (.v (.bool (p x)))]):
  Fun Tryz.prog 131 [.c (.sl cl (l.map Ru.row)),.c (.v (.func (.func f) #[] #[]))] [.c (.v (.int .i64 (at_ p l)))]:=by
 refine A9 Be rfl ?_;(refine goI ?_;repeat (intro gg;refine goI ?_));rw[ZE];(refine⟨[],none,{k:Nat//k≤l.length∧∀j,(h:j<l.length)→j<k→p l[j]=false},[0,1,7],fun⟨k,hk,h0⟩=>[(8,.v (.int .i64 k))],[],fun⟨k,hk,h0⟩=>[],fun⟨k,hk,h0⟩=>l.length-k,trivial,fun _=>⟨trivial,fun _=>⟨⟨0,by omega,fun j _ h=>by omega⟩,tI,Ah _ _,tI,Ag _ _⟩⟩,fun⟨k,hk,h0⟩=>?_⟩);(refine goI ?_;repeat (intro gg;refine goI ?_));(refine Ab (fun h=>?_) (fun h=>?_)<;>rw[h])
 ·have hlt:k<l.length:=(by have:=ZV h;omega);(refine goI ?_;repeat (intro gg;refine goI ?_));refine⟨k,_,rfl,Am hlt,?_⟩;(refine goI ?_;repeat (intro gg;refine goI ?_));refine .inl (cX (hf _ (ZK hlt)) ?_);(refine goI ?_;repeat (intro gg;refine goI ?_));(refine Ab (fun h2=>?_) (fun h2=>?_)<;>rw[h2])
  ·(refine goI ?_;repeat (intro gg;refine goI ?_));rw[Abj hlt h0 h2];(exact⟨[],aI⟩)
  ·(refine goI ?_;repeat (intro gg;refine goI ?_));(exact⟨none,trivial,fun _=>⟨⟨k+1,by omega,up1 (p:=fun j h=>p l[j]=false) h0 (fun _=>h2)⟩,by show l.length-(k+1)<l.length-k;omega,tI,tI,tI,tI⟩⟩)
 ·have hge:¬k<l.length:=(by have:=ZW h;omega);(refine goI ?_;repeat (intro gg;refine goI ?_));rw[Agg (p:=p) (l:=l) (fun i hi=>h0 i hi (by omega))];(exact⟨[],aI⟩)
theorem Ve[Glob](cl:Bool)(l:List Ru)(f:FuncId)(p:Ru→Bool)(hl:l.length≤1000)(hf:∀x∈l,Fun Tryz.prog f [.c (.agg (Ru.row x))] [.c (.v (.bool (p x)))]):
  Fun Tryz.prog 85 [.c (.sl cl (l.map Ru.row)),.c (.v (.func (.func f) #[] #[]))] [.c (.v (.bool (l.any p)))]:=by
 have hI:=Abh cl l f p hl hf;refine A9 Cj rfl ?_;(refine goI ?_;repeat (intro gg;refine goI ?_));refine .inl (cX hI ?_);(refine goI ?_;repeat (intro gg;refine goI ?_));rw[Arl];(exact⟨[],aI⟩)
end Go.Proofs.YtchbkgnobpejnaaGreatDoor
