/- The framework: part of this claim. -/
import Derived.Test.YtchbkgnobpejnaaGreatDoorYAbsMap
import Derived.Lib.SliceRun
import Derived.Maps.AppendAt
import Derived.ArgAppend
import Derived.Deep.Upon
set_option linter.unusedSimpArgs false
set_option linter.unusedVariables false
namespace Go.Proofs.YtchbkgnobpejnaaGreatDoor
open Go.RowKit
section
variable {P:Program} {st:St} {a:Act} {w w':World} {R:Nat→Prop} {G:Nat→Option Loc} {o:Oper} {r:ROp} {Q:Exit→Act→World→Prop} {d:Nat} {u:V} {dH:List (Nat×Option Ent)}
theorem Za{xs:List Value}{sz n:Nat}{rows:List (List V)}(h:Ch w R G xs sz rows):Ch w R G (xs.take (n*sz)) sz (rows.take n):=by
 refine⟨fun row hr=>h.1 row (List.mem_of_mem_take hr),fun i j row u h3 h4=>?_⟩;have hi:i<n:=by have:=(ZB.1 h3).1;rw[ZM]at this;omega
 rw[XA hi]at h3;obtain⟨y,q1,q2,q3⟩:=h.2 i j row u h3 h4;have hj:j<sz:=by have:=(ZB.1 h4).1;rw[h.1 row (ZH h3)]at this;exact this
 have hlt:i*sz+j<n*sz:=by
  have:(i+1)*sz≤n*sz:=XG _ hi;rw[Nat.add_mul]at this;omega
 exact⟨y,by rw[XA hlt];exact q1,q2,q3⟩
theorem Zi{xs:List Value}{sz n:Nat}{rows:List (List V)}(h:Ch w R G xs sz rows):Ch w R G (xs.drop (n*sz)) sz (rows.drop n):=by
 refine⟨fun row hr=>h.1 row (List.mem_of_mem_drop hr),fun i j row u h3 h4=>?_⟩;rw[List.getElem?_drop]at h3;obtain⟨y,q1,q2,q3⟩:=h.2 (n+i) j row u h3 h4;exact⟨y,by rw[List.getElem?_drop,←Nat.add_assoc,←Nat.add_mul];exact q1,q2,q3⟩
theorem Nr{cl:Call}{x y:Operand}{t:TypeId}{v:Value}(ho:o.op=.call cl)(hc:cl.callee=.builtin .append)(hax:cl.args.toList=[x,y])(hat:cl.argTypes.toList=[t,t])(hr:(Builtin.append_ #[t,t] o.type #[a.eval x,a.eval y]).run P w=.ok v w'):
  (execOp a.eval o).run P w=.ok (.value v) w':=by
 have ha':cl.args= #[x,y]:=by apply Array.ext';simpa using hax
 have hat':cl.argTypes= #[t,t]:=by apply Array.ext';simpa using hat
 unfold execOp;rw[ho];simp[resolve,hc,ha',hat',invoke,builtin,hr]
theorem Ib{xs ys:List Value}{sz:Nat}{rows rows':List (List V)}(hl:xs.length=rows.length*sz)(h1:Ch w R G xs sz rows)(h2:Ch w R G ys sz rows'):Ch w R G (xs++ys) sz (rows++rows'):=by
 refine⟨fun row hr=>?_,fun i j row u hi hj=>?_⟩
 ·rcases XM.1 hr with q|q
  ·exact h1.1 row q
  ·exact h2.1 row q
 ·have hjs:j<sz:=by
   have:=(ZB.1 hj).1;rcases XM.1 (ZH hi)with q|q
   ·rw[h1.1 row q]at this;exact this
   ·rw[h2.1 row q]at this;exact this
  by_cases hlt:i<rows.length
  ·rw[ZQ hlt]at hi;have:(i+1)*sz≤rows.length*sz:=XG _ hlt;rw[Nat.add_mul]at this;rw[ZQ (by omega)];exact h1.2 i j row u hi hj
  ·rw[ZP (by omega)]at hi;have:rows.length*sz≤i*sz:=XG _ (by omega);rw[ZP (by omega),hl,show i*sz+j-rows.length*sz=(i-rows.length)*sz+j by rw[Nat.sub_mul];omega];exact h2.2 _ j row u hi hj
theorem Ac1[Glob]{c:Ctx}(h:Ac c st a w R G){id gen:Nat}{e:Ent}(he:st.H id=some e)(hg:e.gen=gen){l:Loc}{xs:List Value}{b:Nat}{T0:TypeId}(g1:G id=some l)(g2:l.gen=gen)(g3:l.sz=e.sz)(g4:0<e.sz)(g5:w.ownsRow 0 T0 e.sz l.val e.rows.length xs)(g6:Ch w R G xs e.sz e.rows)(hbk:l.val.ownBlock=some b)(hT0:X3 e.T T0 l.val l.box)(hop0:l.op=none){vs:List Value}{lo m:Nat}{news:List (List V)}(hvl:vs.length=m*e.sz)(hnl:news.length=m)(hk:lo+m≤e.rows.length)(hone:∀v∈vs,v.oneCell'=true)(hR:Ch w R G vs e.sz news):
  ∃w',(storeCells ⟨b,lo*e.sz,none⟩ vs).run P w=.ok () w'∧Ac c {st with H:=upd st.H id (some {e with rows:=e.rows.take lo++news++e.rows.drop (lo+m)})} a w' R (upd G id (some l))∧Gle G (upd G id (some l)):=by
 have g2':l.gen=e.gen:=g2.trans hg.symm;have hkk:lo*e.sz+m*e.sz≤e.rows.length*e.sz:=by
  have:(lo+m)*e.sz≤e.rows.length*e.sz:=XG _ hk;rw[Nat.add_mul]at this;exact this
 obtain⟨hxl,hx2⟩:=g5;rcases hx2 with⟨q,_⟩|⟨g,cap,cur,q,q0,hh,hnc,hcm,hcs,htk⟩
 ·rw[q]at hbk;cases hbk
 ·have hgb:g=b:=by rw[q]at hbk;simpa[Value.ownBlock]using hbk
  subst hgb;have hcap:e.rows.length*e.sz≤cur.size:=by rw[hcs];exact XG _ hnc
  have hrun:=run_storeCells_at P g (lo*e.sz) T0 vs 0 cur w hh (by omega) hone;simp only[Nat.add_zero]at hrun;have hgb:w.grownBy (w.setRow g (cur.toList.take (lo*e.sz)++vs++cur.toList.drop (lo*e.sz+vs.length)).toArray) (some g):=
   ⟨rfl,rfl,rfl,by simp,fun k' _ hk'=>setRow_other w g k' _ (fun e=>hk' (by rw[e]))⟩
  have hGle:Gle G (upd G id (some l)):=fun id' m hm=>by
   by_cases hk:id'=id
   ·subst hk;rw[g1]at hm;injection hm with hm;subst hm;exact⟨l,Aj _ _ _,.inl (Db.refl _)⟩
   ·exact⟨m,by rw[Ap _ _ hk];exact hm,.inl (Db.refl _)⟩
  have hst2:∀b,R b→R b∧(w.setRow g (cur.toList.take (lo*e.sz)++vs++cur.toList.drop (lo*e.sz+vs.length)).toArray).heap[b]? =w.heap[b]? :=fun b hb=>
   ⟨hb,hgb.block b (h.lt b hb) (fun e'=>by
    injection e' with e';subst e';exact(h.hr.mine id e l b he g1 g2' ((Loc.ft_of hop0).2 hbk)).1 hb)⟩
  have hlen:(e.rows.take lo++news++e.rows.drop (lo+m)).length=e.rows.length:=by simp;omega
  have hall:Ch w R G (xs.take (lo*e.sz)++vs++xs.drop (lo*e.sz+vs.length)) e.sz (e.rows.take lo++news++e.rows.drop (lo+m)):=by
   have hl1:(xs.take (lo*e.sz)).length=(e.rows.take lo).length*e.sz:=by
    have:lo*e.sz≤e.rows.length*e.sz:=XG _ (by omega);rw[ZM,ZM,hxl,Nat.min_eq_left this,Nat.min_eq_left (by omega)]
   have e1:lo*e.sz+vs.length=(lo+m)*e.sz:=by rw[hvl,Nat.add_mul]
   rw[e1];exact Ib (by rw[ZF,ZF,Nat.add_mul,hl1,hvl,hnl]) (Ib hl1 (Za g6) hR) (Zi g6)
  refine⟨_,hrun,?_,hGle⟩;refine h.setG (e:={e with rows:=e.rows.take lo++news++e.rows.drop (lo+m)}) hgb (fun b' hb'=>?_) (fun l0 hl0=>.inl ?_) g2' (Wz (T:=T0) (xs:=xs.take (lo*e.sz)++vs++xs.drop (lo*e.sz+vs.length)) hT0 hop0 g3 g4 ?_ (hall.mono hst2 hGle)) ?_
  ·injection hb' with hb';subst hb';exact⟨l,e,he,g1,g2',(Loc.ft_of hop0).2 hbk⟩
  ·rw[g1]at hl0;injection hl0 with hl0;rw[hl0];exact Db.refl _
  ·refine⟨by rw[Dg _ _ _ (by rw[hvl,hxl];omega),hxl,hlen],.inr ⟨g,cap,_,by rw[q,hlen],q0,setRow_heap w g cur _ T0 _ hh,by rw[hlen];exact hnc,hcm,?_,?_⟩⟩
   ·rw[List.size_toArray,Dg _ _ _ (by rw[hvl];simp;omega)];simpa using hcs
   ·rw[hlen,←htk];apply List.ext_getElem?;intro j;by_cases hj:j<e.rows.length*e.sz
    ·rw[XA hj,D6 _ _ _ _ (by rw[hvl];simp;omega),D6 _ _ _ _ (by rw[hvl];simp;omega),XA hj]
    ·rw[XK (by simp;omega),XK];rw[Dg _ _ _ (by rw[hvl];simp;omega)];simp;omega
  ·intro b' hb';have hb':=(Loc.ft_of hop0).1 hb';exact .inl (by rw[hbk]at hb';injection hb' with hb';rw[hb'])
theorem Als[Glob]{c:Ctx}{t T:TypeId}{x:Operand}{lo hi:Option Operand}{j:TypeInfo}{id gen lo0 hi0 l k:Nat}{e:Ent}(ho:o.op=.slice t x lo hi none)(ht:P.underlying t=some (.slice T))(hj:P.info? T=some j)(h:Ac c st a w R G)(hv:RV w R G (.osub id gen lo0 hi0) (a.eval x))(he:st.H id=some e)(hg:e.gen=gen)(hsz:e.sz=j.size)(hl:loV st.env lo l)(hhi:hiV st.env (hi0-lo0) hi k)(h1:l≤k)(h2:lo0+k≤e.rows.length)(h0:lo0≤hi0):
  C2 P c st a w G o Q d (.osub id gen (lo0+l) (lo0+k)) []:=by
 obtain⟨lc,xs,T0,g1,g2,g3,g4,g5,g6,hsb,hT0,hop0,hbx0⟩:=h.objS hv he hg;generalize hax:a.eval x=ax at hsb;rcases hsb with⟨q1,rfl,rfl,rfl⟩|⟨b,n,cap,off,q1,q2,q3,q4,rfl⟩
 ·have hr0:e.rows=[]:=by
   rcases Fs g5 with⟨_,q⟩|⟨b,cap,q,_⟩
   ·exact q
   ·rw[q1]at q;cases q
  have hk0:k=0:=by rw[hr0]at h2;simpa using h2
  subst hk0;have hl0:l=0:=by omega
  subst hl0;refine Ay h (x:=.slice none 0 0) ?_ (.osub _ _ _ _ lc g1 (by omega) _ fun _=>⟨hbx0,.inl ⟨q1,rfl,rfl,rfl⟩⟩);unfold execOp;rw[ho];refine Dh _ ?_;have hb:=Ca (P:=P) (isS:=true) (cap:=0) h hl hhi (.inl ⟨rfl,rfl⟩) (ZT _) (ZT _) (ZT _);rw[hax];simp only[Option.map_none,Nat.sub_self]at hb;simp[Instr.sliceAt,run_underlying ht,Instr.slice,hb,sizeOf,typeInfo,hj]
 ·have hcap:e.rows.length≤cap:=by
   rw[q1]at g5;rcases g5.2 with⟨q,_⟩|⟨g',cap',cur,q,_,_,hnc,_⟩
   ·cases q
   ·injection q with _ _ q;omega
  refine Ay h (x:=.slice (some ⟨b,if cap-lo0=l then off else off+l*j.size,none⟩) (k-l) (cap-lo0-l)) ?_ ?_
  ·unfold execOp;rw[ho];refine Dh _ ?_;have hbd:=Ca (P:=P) (isS:=true) (cap:=cap-lo0) (len:=hi0-lo0) h hl hhi (.inl ⟨rfl,rfl⟩) h1 (by omega) (ZT _);rw[hax];simp only[Option.map_none]at hbd;simp[Instr.sliceAt,run_underlying ht,Instr.slice,hbd,sizeOf,typeInfo,hj,Cs];split<;>rfl
  ·refine .osub _ _ _ _ lc g1 (by omega) _ fun _=>⟨hbx0,.inr ⟨b,n,cap,_,q1,by omega,by omega,fun hc=>?_,by rw[show lo0+k-(lo0+l)=k-l by omega,Nat.sub_sub]⟩⟩;rcases hc with hc|hc
   ·have e1:lo0=0:=by omega
    have e2:l=0:=by omega
    subst e1 e2;have:=q4 (.inl rfl);split<;>simp[this]
   ·rw[if_neg (by omega),q4 (.inr (by omega)),←hsz,←g3,Nat.add_mul]
theorem Alr[Glob]{c:Ctx}{t T:TypeId}{x:Operand}{lo hi:Option Operand}{j:TypeInfo}{id gen l k:Nat}{e:Ent}(ho:o.op=.slice t x lo hi none)(ht:P.underlying t=some (.slice T))(hj:P.info? T=some j)(h:Ac c st a w R G)(hv:val st.env x=.own id gen)(he:st.H id=some e)(hg:e.gen=gen)(hsz:e.sz=j.size)(hl:loV st.env lo l)(hhi:hiV st.env e.rows.length hi k)(h1:l≤k)(h2:k≤e.rows.length):
  C2 P c st a w G o Q d (.osub id gen l k) []:=by
 obtain⟨lc,xs,T0,g1,g2,g3,g4,g5,g6,hax,hT0,hop0,hbx0⟩:=h.objO (hv▸h.val x) he hg;have hrv:RV w R G (.osub id gen 0 e.rows.length) (a.eval x):=by
  refine .osub _ _ _ _ lc g1 (by omega) _ fun _=>⟨hbx0,?_⟩;rw[hax];rcases Fs g5 with⟨q1,q2⟩|⟨b,cap,q1,_⟩
  ·rw[q1,q2];exact .inl ⟨rfl,rfl,rfl,rfl⟩
  ·have hcap:e.rows.length≤cap:=by
    rw[q1]at g5;rcases g5.2 with⟨q,_⟩|⟨g',cap',cur,q,_,_,hnc,_⟩
    ·cases q
    ·injection q with _ _ q;omega
   exact .inr ⟨b,_,cap,0,q1,ZU _,hcap,fun _=>by simp,by rw[q1];simp⟩
 have:=Als (Q:=Q) (d:=d) ho ht hj h hrv he hg hsz hl (by rw[Nat.sub_zero];exact hhi) h1 (by omega) (ZU _);simpa using this
theorem Apx[Glob]{c:Ctx}{t T:TypeId}{x y:Operand}{lo hi:Option Operand}{j:TypeInfo}{id gen l k m:Nat}{kd:IntKind}{e:Ent}(ho:o.op=.slice t x lo hi (some y))(ht:P.underlying t=some (.slice T))(hj:P.info? T=some j)(h:Ac c st a w R G)(hv:val st.env x=.own id gen)(he:st.H id=some e)(hg:e.gen=gen)(hl:loV st.env lo l)(hhi:hiV st.env e.rows.length hi k)(hs:hi.isSome=true)(hy:val st.env y=.v (.int kd (m:Int)))(h1:l≤k)(h2:k≤m)(h3:m≤e.rows.length):
  C2 P c st a w G o Q d .any []:=by
 obtain⟨lc,xs,T0,g1,g2,g3,g4,g5,g6,hax,hT0,hop0,hbx0⟩:=h.objO (hv▸h.val x) he hg;have hform:∃ad cap,lc.val=.slice ad e.rows.length cap∧e.rows.length≤cap:=by
  rcases g5.2 with⟨q,q2⟩|⟨g',cap',cur,q,_,_,hnc,_⟩
  ·exact⟨none,0,by rw[q,q2],by omega⟩
  ·exact⟨_,cap',q,hnc⟩
 obtain⟨ad,cap,q1,q2⟩:=hform;refine Ay h (x:=.slice (if m=l then ad else ad.map (·.add (l*j.size))) (k-l) (m-l)) ?_ (.any _);unfold execOp;rw[ho];refine Dh _ ?_;have hb:=Ca (P:=P) (isS:=true) (cap:=cap) h hl hhi (.inr ⟨y,kd,rfl,hs,hy⟩) h1 h2 (by omega);simp only[Option.map_some]at hb;rw[hax,q1];simp[Instr.sliceAt,run_underlying ht,Instr.slice,hb,sizeOf,typeInfo,hj]
theorem Alu[Glob]{c:Ctx}{t T:TypeId}{x y:Operand}{lo hi:Option Operand}{j:TypeInfo}{id gen n:Nat}{kd:IntKind}{e:Ent}(ho:o.op=.slice t x lo hi (some y))(ht:P.underlying t=some (.slice T))(hj:P.info? T=some j)(h:Ac c st a w R G)(hv:val st.env x=.own id gen)(he:st.H id=some e)(hg:e.gen=gen)(hl:loV st.env lo 0)(hhi:hiV st.env e.rows.length hi n)(hs:hi.isSome=true)(hy:val st.env y=.v (.int kd (n:Int)))(h3:n≤e.rows.length):
  C2 P c st a w G o Q d (.oclip id gen n) []:=by
 obtain⟨lc,xs,T0,g1,g2,g3,g4,g5,g6,hax,hT0,hop0,hbx0⟩:=h.objO (hv▸h.val x) he hg;rcases Fs g5 with⟨q1,q2⟩|⟨b,cap,q1,hb⟩
 ·have hn0:n=0:=by rw[q2]at h3;simpa using h3
  subst hn0;refine Ay h (x:=.slice none 0 0) ?_ (.oclip _ _ _ lc g1 (by omega) _ fun _=>⟨hbx0,.inl ⟨q1,rfl,rfl⟩⟩);unfold execOp;rw[ho];refine Dh _ ?_;have hb:=Ca (P:=P) (isS:=true) (cap:=0) h hl hhi (.inr ⟨y,kd,rfl,hs,hy⟩) (ZT _) (ZT _) (ZT _);rw[hax,q1];rw[q2]at hb;simp only[Option.map_some,ZN]at hb;simp[Instr.sliceAt,run_underlying ht,Instr.slice,hb,sizeOf,typeInfo,hj]
 ·have hcap:e.rows.length≤cap:=by
   rw[q1]at g5;rcases g5.2 with⟨q,_⟩|⟨g',cap',cur,q,_,_,hnc,_⟩
   ·cases q
   ·injection q with _ _ q;omega
  refine Ay h (x:=.slice (some ⟨b,0,none⟩) n n) ?_ (.oclip _ _ _ lc g1 (by omega) _ fun _=>⟨hbx0,.inr ⟨b,_,cap,q1,by omega,rfl⟩⟩);unfold execOp;rw[ho];refine Dh _ ?_;have hb:=Ca (P:=P) (isS:=true) (cap:=cap) h hl hhi (.inr ⟨y,kd,rfl,hs,hy⟩) (ZU _) (ZT _) (by omega);simp only[Option.map_some]at hb;rw[hax,q1];simp[Instr.sliceAt,run_underlying ht,Instr.slice,hb,sizeOf,typeInfo,hj,Cs]
theorem Ahz[Glob]{c:Ctx}{arg:Operand}{t e0:TypeId}{cl:Call}{id gen lo hi:Nat}{e:Ent}(ho:o.op=.call cl)(hc:cl.callee=.builtin .len)(ha:cl.args.toList=[arg])(hat:cl.argTypes.toList=[t])(ht:P.underlying t=some (.slice e0))(h:Ac c st a w R G)(hx:val st.env arg=.osub id gen lo hi)(he:st.H id=some e)(hg:e.gen=gen):C2 P c st a w G o Q d (.v (.int .i64 ((hi-lo:Nat):Int))) []:=by
 obtain⟨lc,xs,T0,g1,g2,g3,g4,g5,g6,hsb,hT0,hop0,hbx0⟩:=h.objS (hx▸h.val arg) he hg;generalize hax:a.eval arg=ax at hsb;rcases hsb with⟨q1,rfl,rfl,rfl⟩|⟨b,n,cap,off,q1,q2,q3,q4,rfl⟩
 ·exact K2 ho hc ha hat ht h hax
 ·exact K2 ho hc ha hat ht h hax
theorem Arr[Glob]{c:Ctx}{cl:Call}{x:Operand}{t T:TypeId}{i:TypeInfo}{z:Value}{id gen lo hi:Nat}{e:Ent}{next:Act→World→Prop}(ho:o.op=.call cl)(hc:cl.callee=.builtin .clear)(hax:cl.args.toList=[x])(hat:cl.argTypes.toList=[t])(ht:P.underlying t=some (.slice T))(hti:P.info? T=some i)(hz:i.zero=some z)(h0:0<i.size)(hzs:z.cells.size=i.size)(hzc:Gp z=true)(h:Ac c st a w R G)(hv:val st.env x=.osub id gen lo hi)(he:st.H id=some e)(hg:e.gen=gen)(hsz:e.sz=i.size)(hlo:lo≤hi)(hhi:hi≤e.rows.length)(hn:∀x w' R' G',Ac c {st with H:=upd st.H id (some {e with rows:=e.rows.take lo++List.replicate (hi-lo) (z.cells.toList.map .v)++e.rows.drop hi})} a w' R' G'→RV w' R' G' .any x→next (a.put o.dst x) w'):o.wp P a w next Q:=by
 obtain⟨lc,xs,T0,g1,g2,g3,g4,g5,g6,hsb,hT0,hop0,hbx0⟩:=h.objS (hv▸h.val x) he hg;have ha':cl.args= #[x]:=by apply Array.ext';simpa using hax
 have hat':cl.argTypes= #[t]:=by apply Array.ext';simpa using hat
 generalize hae:a.eval x=ax at hsb;have hex:∀w',(Builtin.clear_ #[t] o.type #[ax]).run P w=.ok (.tuple #[]) w'→(execOp a.eval o).run P w=.ok (.value (.tuple #[])) w':=fun w' hr=>by
  unfold execOp;rw[ho];simp[resolve,hc,ha',hat',invoke,builtin,hae,hr]
 have same:lo=hi→e.rows.take lo++List.replicate (hi-lo) (z.cells.toList.map V.v)++e.rows.drop hi=e.rows:=fun hq=>by subst hq;simp
 have hH:∀e',e'=e→st.H id=some e':=fun e' hq=>by rw[hq];exact he
 have updself:upd st.H id (some e)=st.H:=by
  funext k;by_cases hk:k=id
  ·rw[hk,Aj,he]
  ·rw[Ap _ _ hk]
 by_cases hlh:lo=hi
 ·have hr0:(Builtin.clear_ #[t] o.type #[ax]).run P w=.ok (.tuple #[]) w:=by
   rcases hsb with⟨q1,rfl,rfl,rfl⟩|⟨b,n,cap,off,q1,q2,q3,q4,rfl⟩
   ·simp[Builtin.clear_,run_underlying ht]
   ·rw[show hi-lo=0 by omega];simp[Builtin.clear_,run_underlying ht]
  refine De (hex w hr0) (hn _ w R G ?_ (.any _));rw[same hlh];have e1:({e with rows:=e.rows} :Ent)=e:=rfl;rw[e1,updself];exact h
 ·rcases hsb with⟨q1,rfl,rfl,rfl⟩|⟨b,n,cap,off,q1,q2,q3,q4,rfl⟩
  ·omega
  ·have hoff:off=lo*e.sz:=by rw[q4 (.inr (by omega)),g3]
   subst hoff;have hbk:lc.val.ownBlock=some b:=by rw[q1];rfl
   have hcells:(Builtin.zeroCells z.cells (hi-lo)).toList.length=(hi-lo)*e.sz:=by simp[Builtin.zeroCells,hzs,hsz]
   have hone:∀v∈(Builtin.zeroCells z.cells (hi-lo)).toList,v.oneCell'=true:=fun v hv=>by
    simp only[Builtin.zeroCells,Array.toList_map,XO]at hv;obtain⟨j,hj,rfl⟩:=hv;have hlt:j%z.cells.size<z.cells.size:=Nat.mod_lt _ (by omega);have:z.cells[j%z.cells.size]! =z.cells[j%z.cells.size]:=by simp[getElem!_def,hlt]
    rw[this];exact List.all_eq_true.1 hzc _ (by simp)
   have hR:Ch w R G (Builtin.zeroCells z.cells (hi-lo)).toList e.sz (List.replicate (hi-lo) (z.cells.toList.map V.v)):=by
    rw[hsz];refine⟨fun row hrow=>by rw[List.mem_replicate]at hrow;rw[hrow.2];simpa using hzs,fun n j row u hk hj=>?_⟩;have hkn:n<hi-lo:=by have:=(ZB.1 hk).1;simpa using this
    rw[List.getElem?_replicate_of_lt hkn]at hk;injection hk with hk;subst hk
    rw[XJ]at hj;cases hq:z.cells.toList[j]? with
    |none=>rw[hq]at hj;cases hj
    |some y=>
     rw[hq]at hj;simp at hj;subst hj;have hjz:j<z.cells.size:=by have:=(ZB.1 hq).1;simpa using this
     have hbd:n*i.size+j<(hi-lo)*i.size:=by
      have:(n+1)*i.size≤(hi-lo)*i.size:=XG _ hkn;rw[Nat.add_mul]at this;omega
     refine⟨y,?_,List.all_eq_true.1 hzc y (ZH hq),.v y⟩;have e1:(n*i.size+j)%z.cells.size=j:=by rw[hzs,Nat.mul_comm,Nat.mul_add_mod];exact Nat.mod_eq_of_lt (by omega)
     have e2:z.cells[j]! =y:=by
      have:z.cells[j]? =some y:=by simpa using hq
      rw[getElem!_def,this]
     simp[Builtin.zeroCells,hzs,hbd,e1]
     first|(rw[←hzs,e1,e2];done)|(rw[Nat.mod_eq_of_lt (by omega),e2];done)
   obtain⟨w',r1,r2,r3⟩:=Ac1 (P:=P) (lo:=lo) (m:=hi-lo) h he hg g1 g2 g3 g4 g5 g6 hbk (.inl hT0) hop0 hcells (by simp) (by omega) hone hR;refine De (hex w' ?_) (hn _ w' R (upd G id (some lc)) ?_ (.any _))
   ·cases hn0:hi-lo with
    |zero=>omega
    |succ m0=>
     rw[hn0]at r1;simp[Builtin.clear_,run_underlying ht,zeroValue,typeInfo,hti,hz,r1]
   ·rw[show lo+(hi-lo)=hi by omega]at r2;exact r2
theorem Aim[Glob]{c:Ctx}{cl:Call}{x y:Operand}{t T:TypeId}{i:TypeInfo}{id gen k lo hi:Nat}{e:Ent}{next:Act→World→Prop}(ho:o.op=.call cl)(hc:cl.callee=.builtin .append)(hax:cl.args.toList=[x,y])(hat:cl.argTypes.toList=[t,t])(ht:P.underlying t=some (.slice T))(hti:P.info? T=some i)(h:Ac c st a w R G)(hv:val st.env x=.osub id gen 0 k)(hv2:val st.env y=.osub id gen lo hi)(he:st.H id=some e)(hg:e.gen=gen)(hsz:e.sz=i.size)(hlo:k≤lo)(hlh:lo≤hi)(hhi:hi≤e.rows.length)(hn:∀x w' R' G',Ac c {st with H:=upd st.H id (some {e with rows:=e.rows.take k++(e.rows.drop lo).take (hi-lo)++e.rows.drop (k+(hi-lo))})} a w' R' G'→RV w' R' G' (.osub id gen 0 (k+(hi-lo))) x→next (a.put o.dst x) w'):o.wp P a w next Q:=by
 obtain⟨lc,xs,T0,g1,g2,g3,g4,g5,g6,hsb,hT0,hop0,hbx0⟩:=h.objS (hv▸h.val x) he hg;obtain⟨lc',xs',T0',g1',g2',g3',g4',g5',g6',hsb',hT0',hop0',hbx0'⟩:=h.objS (hv2▸h.val y) he hg;rw[g1]at g1';injection g1' with g1';subst g1'
 clear g2' g3' g4' g5' g6' hT0' hop0' hbx0';generalize hae:a.eval x=ax at hsb;generalize hay:a.eval y=ay at hsb';have hul:∀w,(Go.sizeOf T).run P w=.ok i.size w:=fun w=>by simp[sizeOf,typeInfo,hti]
 rcases hsb with⟨q1,_,rfl,rfl⟩|⟨b,n,cap,off,q1,q2,q3,q4,rfl⟩
 ·
  have hr0:e.rows=[]:=by
   rcases Fs g5 with⟨_,q⟩|⟨b,cap,q,_⟩
   ·exact q
   ·rw[q1]at q;cases q
  have hhi0:hi=0:=by rw[hr0]at hhi;simpa using hhi
  subst hhi0;have hlo0:lo=0:=by omega
  subst hlo0;rcases hsb' with⟨p1,_,_,rfl⟩|⟨b,n,cap,off,p1,p2,p3,p4,rfl⟩
  ·have hsrc:Src P i.size t (.slice none 0 0) 0 [] w:=Src.ofNil w ht 0;have hrun:=run_append_nothing (P:=P) w t t o.type T i ht hti none 0 0 (ZT _) (.slice none 0 0) hsrc;refine De (Nr ho hc hax hat (by rw[hae,hay];exact hrun)) (hn _ w R G ?_ (.osub _ _ _ _ lc g1 (by omega) _ fun _=>⟨hbx0,.inl ⟨q1,rfl,rfl,rfl⟩⟩));have updself:upd st.H id (some e)=st.H:=by
    funext k;by_cases hk:k=id
    ·rw[hk,Aj,he]
    ·rw[Ap _ _ hk]
   have e1:({e with rows:=e.rows.take 0++(e.rows.drop 0).take (0-0)++e.rows.drop (0+(0-0))} :Ent)=e:=by simp
   rw[e1,updself];exact h
  ·rw[q1]at p1;cases p1
 ·rcases hsb' with⟨p1,_,_,_⟩|⟨b',n',cap',off',p1,p2,p3,p4,rfl⟩
  ·rw[q1]at p1;cases p1
  ·rw[q1]at p1;injection p1 with p1 p1' p1''
   injection p1 with p1;injection p1 with p1
   subst p1 p1' p1'';have hoff:off=0:=by rw[q4 (.inl rfl)];simp
   subst hoff;have hbk:lc.val.ownBlock=some b:=by rw[q1];rfl
   have hcap:e.rows.length≤cap:=by
    rw[q1]at g5;rcases g5.2 with⟨q,_⟩|⟨g',cap',cur,q,_,_,hnc,_⟩
    ·cases q
    ·injection q with _ _ q;omega
   have hxl:xs.length=e.rows.length*e.sz:=g5.1;have hvl:((xs.drop (lo*e.sz)).take ((hi-lo)*e.sz)).length=(hi-lo)*e.sz:=by
    have h1:lo*e.sz+(hi-lo)*e.sz≤e.rows.length*e.sz:=by rw[←Nat.add_mul];exact XG _ (by omega)
    rw[ZM,List.length_drop,hxl];omega
   have hR:Ch w R G ((xs.drop (lo*e.sz)).take ((hi-lo)*e.sz)) e.sz ((e.rows.drop lo).take (hi-lo)):=Za (Zi g6);have hone:∀v∈(xs.drop (lo*e.sz)).take ((hi-lo)*e.sz),v.oneCell'=true:=fun v hv=>by
    obtain⟨j,hj,rfl⟩:=List.mem_iff_getElem.1 hv;have hjl:j<(hi-lo)*e.sz:=by rw[←hvl];exact hj
    have hq:j/e.sz<hi-lo:=Nat.div_lt_of_lt_mul (by rw[Nat.mul_comm];exact hjl);have hrow:((e.rows.drop lo).take (hi-lo))[j/e.sz]? =some (((e.rows.drop lo).take (hi-lo))[j/e.sz]'(by rw[ZM,List.length_drop];omega)):=ZC _;have hrl:=hR.1 _ (ZH hrow);obtain⟨y,y1,y2,_⟩:=hR.2 (j/e.sz) (j%e.sz) _ _ hrow (ZC (by rw[hrl];exact Nat.mod_lt _ g4));rw[Nat.div_add_mod',ZC hj]at y1;injection y1 with y1;rw[y1];exact y2
   obtain⟨w',r1,r2,r3⟩:=Ac1 (P:=P) (lo:=k) (m:=hi-lo) h he hg g1 g2 g3 g4 g5 g6 hbk (.inl hT0) hop0 hvl (by rw[ZM,List.length_drop];omega) (by omega) hone hR;have hload:(Builtin.firstCells i.size (hi-lo) (.slice (some ⟨b,off',none⟩) (hi-lo) (cap-lo))).run P w=.ok ((xs.drop (lo*e.sz)).take ((hi-lo)*e.sz)).toArray w:=by
    simp only[Builtin.firstCells];have:=run_loadCells_list (P:=P) w ⟨b,off',none⟩ ((xs.drop (lo*e.sz)).take ((hi-lo)*e.sz)) (fun j v hj=>by
     have hjl:j<(hi-lo)*e.sz:=by rw[←hvl];exact(ZB.1 hj).1
     have hpos:0<hi-lo:=by
      rcases Nat.eq_zero_or_pos (hi-lo)with q|q
      ·rw[q]at hjl;simp at hjl
      ·exact q
     have ho':off'=lo*e.sz:=by rw[p4 (.inr (by omega)),g3]
     rw[Cs,ho'];rw[XA hjl,List.getElem?_drop]at hj;exact Ee (l:=lc) g5 hbk hj)
    rw[hvl]at this;rw[←hsz];exact this
   refine De (Nr ho hc hax hat (v:=.slice (some ⟨b,0,none⟩) (k-0+(hi-lo)) (cap-0)) (w':=w') ?_) (hn _ w' R _ r2 ?_)
   ·rw[hae,hay];have hfit:k-0+(hi-lo)≤cap-0:=by omega
    simp only[Builtin.append_,Sem.run_bind,run_underlying ht,Result.andThen_ok,hul,Sem.run_pure];simp[run_underlying ht,Builtin.lenOf,hfit,hload,Cs,←hsz];have:k+(hi-lo)≤cap:=by omega
    simp[this];have r1':(storeCells ⟨b,k*e.sz,none⟩ ((xs.drop (lo*e.sz)).take ((hi-lo)*e.sz))).run P w=.ok () w':=r1;have hul2:(Go.sizeOf T).run P w=.ok e.sz w:=by rw[hsz];exact hul w
    rw[←hsz]at hload;rw[hul2];simp only[Result.andThen_ok];rw[hload];simp[r1']
   ·exact .osub _ _ _ _ lc (Aj _ _ _) (by omega) _ fun _=>⟨hbx0,.inr ⟨b,n,cap,0,q1,ZU _,by omega,fun _=>by simp,by simp⟩⟩
theorem Rp[Glob]{c:Ctx}{op:BinOp}{t t' e0:TypeId}{x:Operand}{neg:Bool}{next:Act→World→Prop}(ho:o.op=.binOp op t x (.const (.slice none 0 0)) t')(hop:op=if neg then .neq else .eql)(ht:P.underlying t=some (.slice e0))(h:Ac c st a w R G)(hn:∀b:Bool,(∀ad n cap,a.eval x=.slice ad n cap→b=ad.isNone)→next (a.put o.dst (.bool (if neg then !b else b))) w)(hs:∃ad n cap,a.eval x=.slice ad n cap):o.wp P a w next Q:=by
 obtain⟨ad,n,cap,hx⟩:=hs;have hr:(execOp a.eval o).run P w=.ok (.value (.bool (if neg then !ad.isNone else ad.isNone))) w:=by
  unfold execOp;rw[ho];refine Dh _ ?_;show((do eqGuard op t x (.const (.slice none 0 0)) (a.eval x) (.slice none 0 0);binOp op t (a.eval x) (.slice none 0 0):Sem Value)).run P w=_;rw[hx];subst hop;cases neg
  ·simp[eqGuard,Lib.run_eql_slice_nil w t e0 ad n cap 0 0 ht]
  ·have:=Lib.run_eql_slice_nil (P:=P) w t e0 ad n cap 0 0 ht;simp only[binOp]at this;simp[eqGuard,binOp];rw[show(Op.equal t (.slice ad n cap) (.slice none 0 0)).run P w=.ok ad.isNone w from by simp[Op.equal,Op.maxDepth,Lib.run_equalIn_slice_nil w 9999 t e0 ad n cap 0 0 ht]];cases ad<;>rfl
 exact De hr (hn _ fun ad' n' cap' e=>by rw[hx]at e;injection e with e;rw[e])
end
end Go.Proofs.YtchbkgnobpejnaaGreatDoor
