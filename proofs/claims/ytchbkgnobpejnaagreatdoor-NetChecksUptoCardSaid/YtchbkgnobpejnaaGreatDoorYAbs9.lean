/- The framework: part of this claim. -/
import Derived.Test.YtchbkgnobpejnaaGreatDoorYAbs8
import Derived.Test.YtchbkgnobpejnaaGreatDoorYAbsI
import Derived.Maps.AppendAt
import Derived.ArgAppend
set_option linter.unusedSimpArgs false
set_option linter.unusedVariables false
namespace Go.Proofs.YtchbkgnobpejnaaGreatDoor
open Go.RowKit
def Ahm[Glob](P:Program)(H:Nat→Option Ent)(D:Value→Prop)(b:Nat)(f:FuncId)(us:List V)(K:V→List (Nat×Option Ent)→Prop):Prop:=
 (∃ps rs bor gone,Ar H gone bor gone us ps∧Fun P f ps rs∧(bor=true→Dx rs)∧rs.length≤16∧∀g:Nat→Nat,K (F7 (Ih g b rs)) (gone.map (fun i=>(i,none))++P1 g b rs))∨
 (∃ps rs bor gone,Bm H gone bor gone us ps∧Gl P f ps rs∧(bor=true→∀p∈rs++B4 ps,Zj p)∧(∀p∈rs,Aaz p=true)∧(V5 b rs++J3 us ps).Nodup∧∀g:Nat→Nat,K (F7 (Qh g b rs)) (gone.map (fun i=>(i,none))++(Ns g us ps++Wd g b rs)))∨
 (∃ps bor gone v,Bm H gone bor gone us ps∧Ij P f ps v∧D v)
def Ej[Glob](P:Program)(r:ROp)(env:Nat→V)(H:Nat→Option Ent)(D:Value→Prop)(b:Nat)(K:V→List (Nat×Option Ent)→Prop):Prop:=
 match r with
 |.store sz x y=>match val env x with
  |.ptr id gen i off=>∃e row us,H id=some e∧e.gen=gen∧e.rows[i]? =some row∧Eb (val env y)=some us∧us.length=sz∧off+sz≤row.length∧Hl H us∧
    K (.v undef) [(id,some {e with rows:=e.rows.set i (Lh row off us)})]
  |_=>False
 |.app T sz bytes z x y=>match val env x with
  |.osub id gen lo0 k=>match val env y with
   |.osub id' gen' lo hi=>∃e,H id=some e∧e.gen=gen∧id'=id∧gen'=gen∧lo0=0∧e.sz=sz∧k≤lo∧lo≤hi∧hi≤e.rows.length∧K (.osub id gen 0 (k+(hi-lo))) [(id,some {e with rows:=e.rows.take k++(e.rows.drop lo).take (hi-lo)++e.rows.drop (k+(hi-lo))})]
   |_=>False
  |.own id gen=>∃rows,C8 H sz (val env y) rows∧∃e,H id=some e∧e.gen=gen∧e.T=.t T∧e.sz=sz∧e.rows.length+rows.length≤maxLen∧(e.rows.length+rows.length)*bytes≤140737488355328∧∀g,K (.own id g) [(id,some ⟨g,.t T,sz,e.rows++rows⟩)]
  |.v (.slice none 0 0)=>∃rows,C8 H sz (val env y) rows∧rows.length≤maxLen∧rows.length*bytes≤140737488355328∧∀g,K (.own b g) [(b,some ⟨g,.t T,sz,rows⟩)]
  |.sl true rows0=>∃rows,C8 H sz (val env y) rows∧rows≠[]∧(∀row∈rows0,row.length=sz∧Hl H row)∧rows0.length+rows.length≤maxLen∧(rows0.length+rows.length)*bytes≤140737488355328∧∀g,K (.own b g) [(b,some ⟨g,.t T,sz,rows0++rows⟩)]
  |.inm id gen bb n cap=>match val env y with
   |.own id' gen'=>∃rows,C8 H sz (.own id' gen') rows∧∃e An ss1 s ss2,H id=some e∧e.gen=gen∧e.T=.q (Mo An (ss1++s::ss2))∧s.b=bb∧s.cap=cap∧s.rows.length=n∧s.sz=sz∧s.T=T∧id'≠b∧id≠b∧id'≠id∧n+rows.length≤maxLen∧(n+rows.length)*bytes≤140737488355328∧
     ∀g,K (.own b g) [(id,some ⟨gen,.q (Mo An (ss1++ss2)),0,[]⟩),(b,some ⟨g,.t T,sz,s.rows++rows⟩)]
   |_=>False
  |.oclip id gen n=>∃rows,C8 H sz (val env y) rows∧∃e,H id=some e∧e.gen=gen∧rows≠[]∧e.sz=sz∧n≤e.rows.length∧n+rows.length≤maxLen∧(n+rows.length)*bytes≤140737488355328∧∀g,K (.own b g) [(b,some ⟨g,.t T,sz,e.rows.take n++rows⟩)]
  |_=>False
 |.clr sz z x=>match val env x with
  |.osub id gen lo hi=>∃e,H id=some e∧e.gen=gen∧e.sz=sz∧lo≤hi∧hi≤e.rows.length∧K .any [(id,some {e with rows:=e.rows.take lo++List.replicate (hi-lo) (z.map .v)++e.rows.drop hi})]
  |_=>False
 |.isnil neg x=>match val env x with
  |.v (.slice ad _ _)=>K (.v (.bool (if neg then !ad.isNone else ad.isNone))) []
  |.sl _ rows=>∀b:Bool,(b=true→rows=[])→K (.v (.bool (if neg then !b else b))) []
  |.own id gen=>∃e,H id=some e∧e.gen=gen∧∀b:Bool,(b=true→e.rows=[])→K (.v (.bool (if neg then !b else b))) []
  |_=>False
 |.call x args=>match val env x with
  |.v (.func (.func f) ⟨[]⟩ ⟨[]⟩)=>Ahm P H D b f (args.map (val env)) K
  |.clo f caps=>Ahm P H D b f (args.map (val env)++caps) K
  |_=>False
 |.slcL sz x lo hi mx=>match val env x with
  |.own id gen=>∃(e:Ent) (md l n:Nat),H id=some e∧e.gen=gen∧e.sz=sz∧loV env lo l∧hiV env e.rows.length hi n∧l≤n∧n≤e.rows.length∧match md with
   |0=>l=0∧mx=none∧∀g,K (.own id g) [(id,some ⟨g,e.T,e.sz,e.rows.take n⟩)]
   |1=>mx=none∧K (.osub id gen l n) []
   |3=>l=0∧hi.isSome=true∧∃(y:Operand) (kd:IntKind),mx=some y∧val env y=.v (.int kd (n:Int))∧K (.oclip id gen n) []
   |_=>∃(y:Operand) (m:Nat) (kd:IntKind),mx=some y∧hi.isSome=true∧val env y=.v (.int kd (m:Int))∧n≤m∧m≤e.rows.length∧K .any []
  |.osub id gen lo0 hi0=>∃e:Ent,∃l h:Nat,H id=some e∧e.gen=gen∧e.sz=sz∧loV env lo l∧hiV env (hi0-lo0) hi h∧l≤h∧lo0+h≤e.rows.length∧mx=none∧lo0≤hi0∧K (.osub id gen (lo0+l) (lo0+h)) []
  |.sl clip rows=>∃l h:Nat,loV env lo l∧hiV env rows.length hi h∧l≤h∧h≤rows.length∧(rows=[]∨∃row,rows[0]? =some row∧row.length=sz)∧
    match mx with
    |none=>K (.sl false ((rows.drop l).take (h-l))) []
    |some y=>hi.isSome=true∧(∃k,val env y=.v (.int k (h:Int)))∧K (.sl true ((rows.drop l).take (h-l))) []
  |_=>False
 |.die x=>match val env x with
  |.v (.iface t y)=>D (.iface t y)
  |_=>False
 |.mupd kind x i v=>match val env x with
  |.obj id gen=>match val env v with
   |.own id' gen'=>∃e An ss kv r e' T,H id=some e∧e.gen=gen∧e.T=.q (Mo An ss)∧val env i=.v kv∧Gk kind kv An 0=some r∧H id'=some e'∧e'.gen=gen'∧e'.T=.t T∧e'.rows≠[]∧(∀row∈e'.rows,∀u∈row,Cl u)∧id≠id'∧
     ∀b cap,K (.v undef) [(id',none),(id,some ⟨gen,.q (Mo (Q3 An kv (.v (.slice (some ⟨b,0,none⟩) e'.rows.length cap)) r) (⟨T,e'.sz,b,cap,e'.rows⟩::ss)),0,[]⟩)]
   |_=>∃e An kv r,H id=some e∧e.gen=gen∧e.T=.q (Mj An)∧val env i=.v kv∧Cl (val env v)∧Gk kind kv An 0=some r∧
    K (.v undef) [(id,some ⟨gen,.q (Mj (Q3 An kv (val env v) r)),0,[]⟩)]
  |_=>False
 |_=>False
section
variable {P:Program} {st:St} {a:Act} {w w':World} {R:Nat→Prop} {G:Nat→Option Loc} {o:Oper} {r:ROp} {Q:Exit→Act→World→Prop} {d:Nat} {u:V} {dH:List (Nat×Option Ent)}
theorem Asd{s:Sem Unit}(h:s.run P w=.ok () w'):((do s;pure Next.skip):Sem Next).run P w=.ok .skip w':=by
 simp[h]
theorem Afh{next:Act→World→Prop}(h:(execOp a.eval o).run P w=.ok .skip w')(hn:next (a.put o.dst undef) w'):o.wp P a w next Q:=by
 unfold Oper.wp;rw[h];exact hn
theorem Ah2[Glob]{c:Ctx}{t:TypeId}{x y:Operand}{i:TypeInfo}{id gen k off:Nat}{e:Ent}{row us:List V}{next:Act→World→Prop}(ho:o.op=.store t x y)(hi:P.info? t=some i)(h:Ac c st a w R G)(hv:val st.env x=.ptr id gen k off)(he:st.H id=some e)(hg:e.gen=gen)(hrow:e.rows[k]? =some row)(hc:Eb (val st.env y)=some us)(hl:us.length=i.size)(hb:off+i.size≤row.length)(h1:Hl st.H us)(hn:∀x w' R' G',Ac c {st with H:=upd st.H id (some {e with rows:=e.rows.set k (Lh row off us)})} a w' R' G'→RV w' R' G' (.v undef) x→(∀k,G' k=G k)→next (a.put o.dst x) w'):o.wp P a w next Q:=by
 obtain⟨l,xs,b,T0,g1,g2,g3,g4,g5,g6,hbk,hax,hT0,hop0⟩:=h.objP (hv▸h.val x) he hg hrow;have g2':l.gen=e.gen:=g2.trans hg.symm;have hcv:=Vw h hc (h.val y) h1;have hk:k<e.rows.length:=(ZB.1 hrow).1;have hrl:row.length=e.sz:=g6.1 row (ZH hrow);have hkk:k*e.sz+e.sz≤e.rows.length*e.sz:=by
  have:(k+1)*e.sz≤e.rows.length*e.sz:=XG _ hk;rw[Nat.add_mul]at this;omega
 have hvl:(a.eval y).cells.toList.length=i.size:=by have:=hcv.1;omega
 have hone:∀v∈(a.eval y).cells.toList,v.oneCell'=true:=fun v hv=>by
  obtain⟨j,hj,rfl⟩:=List.mem_iff_getElem.1 hv;have hju:j<us.length:=by rw[hcv.1];exact hj
  obtain⟨z,q1,q2,_⟩:=hcv.2 j us[j] (ZC hju);rw[ZC hj]at q1;injection q1 with q1;rw[q1];exact q2
 obtain⟨hxl,hx2⟩:=g5;rcases hx2 with⟨q,_⟩|⟨g,cap,cur,q,q0,hh,hnc,hcm,hcs,htk⟩
 ·rw[q]at hbk;cases hbk
 ·have hgb:g=b:=by rw[q]at hbk;simpa[Value.ownBlock]using hbk
  subst hgb;have hcap:e.rows.length*e.sz≤cur.size:=by rw[hcs];exact XG _ hnc
  have hrun:=run_storeCells_at P g (k*l.sz+off) T0 (a.eval y).cells.toList 0 cur w hh (by rw[g3,hvl];omega) hone;simp only[Nat.add_zero,g3]at hrun;have hst:(execOp a.eval o).run P w=.ok .skip (w.setRow g (cur.toList.take (k*e.sz+off)++(a.eval y).cells.toList++cur.toList.drop (k*e.sz+off+(a.eval y).cells.toList.length)).toArray):=by
   unfold execOp;rw[ho];refine Asd ?_;rw[hax,g3];have hsz:(a.eval y).cells.size=i.size:=by simpa using hvl
   simp only[Instr.storeAt,Instr.sureAddr,pure_bind,storeVar,sizeOf,typeInfo,Sem.run_bind,run_program,Result.andThen_ok,hi,Sem.run_pure];rw[if_neg (by rw[hsz];simp)];exact hrun
  refine Afh hst (hn undef _ R (upd G id (some l)) ?_ (.v _) fun k=>by
   by_cases hk:k=id
   ·rw[hk,Aj];exact g1.symm
   ·exact Ap _ _ hk)
  have hgb:w.grownBy (w.setRow g (cur.toList.take (k*e.sz+off)++(a.eval y).cells.toList++cur.toList.drop (k*e.sz+off+(a.eval y).cells.toList.length)).toArray) (some g):=
   ⟨rfl,rfl,rfl,by simp,fun k' _ hk'=>setRow_other w g k' _ (fun e=>hk' (by rw[e]))⟩
  have hGle:Gle G (upd G id (some l)):=fun id' m hm=>by
   by_cases hk:id'=id
   ·subst hk;rw[g1]at hm;injection hm with hm;subst hm;exact⟨l,Aj _ _ _,.inl (Db.refl _)⟩
   ·exact⟨m,by rw[Ap _ _ hk];exact hm,.inl (Db.refl _)⟩
  have hst2:∀b,R b→R b∧(w.setRow g (cur.toList.take (k*e.sz+off)++(a.eval y).cells.toList++cur.toList.drop (k*e.sz+off+(a.eval y).cells.toList.length)).toArray).heap[b]? =w.heap[b]? :=fun b hb=>
   ⟨hb,hgb.block b (h.lt b hb) (fun e'=>by
    injection e' with e';subst e';exact(h.hr.mine id e l b he g1 g2' ((Loc.ft_of hop0).2 hbk)).1 hb)⟩
  have hst3:=hst2;rw[hvl]at hst3;refine h.setG (e:={e with rows:=e.rows.set k (Lh row off us)}) hgb (fun b' hb'=>?_) (fun l0 hl0=>.inl ?_) (g2.trans hg.symm) (Wz (T:=T0) (xs:=xs.take (k*e.sz+off)++(a.eval y).cells.toList++xs.drop (k*e.sz+off+(a.eval y).cells.toList.length)) hT0 hop0 g3 g4 ?_ ?_) ?_
  ·injection hb' with hb';subst hb';exact⟨l,e,he,g1,g2',(Loc.ft_of hop0).2 hbk⟩
  ·rw[g1]at hl0;injection hl0 with hl0;rw[hl0];exact Db.refl _
  ·refine⟨by rw[Dg _ _ _ (by rw[hvl,hxl];omega),hxl,List.length_set],.inr ⟨g,cap,_,by rw[q,List.length_set],q0,setRow_heap w g cur _ T0 _ hh,by rw[List.length_set];exact hnc,hcm,?_,?_⟩⟩
   ·rw[List.size_toArray,Dg _ _ _ (by rw[hvl];simp;omega)];simpa using hcs
   ·rw[List.length_set,←htk];apply List.ext_getElem?;intro j;by_cases hj:j<e.rows.length*e.sz
    ·rw[XA hj,D6 _ _ _ _ (by rw[hvl];simp;omega),D6 _ _ _ _ (by rw[hvl];simp;omega),XA hj]
    ·rw[XK (by simp;omega),XK];rw[Dg _ _ _ (by rw[hvl];simp;omega)];simp;omega
  ·refine⟨fun r hr=>?_,fun i' j r v hi' hj=>?_⟩
   ·rcases List.mem_or_eq_of_mem_set hr with q|q
    ·exact g6.1 r q
    ·rw[q];unfold Lh;rw[Dg _ _ _ (by omega)];exact hrl
   ·have hrlen:r.length=e.sz:=by
     rcases List.mem_or_eq_of_mem_set (ZH hi')with q|q
     ·exact g6.1 r q
     ·rw[q];unfold Lh;rw[Dg _ _ _ (by omega)];exact hrl
    have hjs:j<e.sz:=by have:=(ZB.1 hj).1;omega
    show∃x,(xs.take (k*e.sz+off)++(a.eval y).cells.toList++xs.drop (k*e.sz+off+(a.eval y).cells.toList.length))[i'*e.sz+j]? =some x∧x.oneCell'=true∧_;rw[D6 _ _ _ _ (by rw[hvl,hxl];omega),hvl];by_cases hik:i'=k
    ·subst hik;rw[List.getElem?_set_self hk]at hi';injection hi' with hi';subst hi'
     unfold Lh at hj;rw[D6 _ _ _ _ (by omega),hl]at hj;by_cases hin:off≤j∧j<off+i.size
     ·rw[if_pos hin]at hj;rw[if_pos ⟨by omega,by omega⟩,show i'*e.sz+j-(i'*e.sz+off)=j-off by omega];obtain⟨z,p1,p2,p3⟩:=hcv.2 _ v hj;exact⟨z,p1,p2,p3.mono hst3 hGle⟩
     ·rw[if_neg hin]at hj;rw[if_neg (by omega)];obtain⟨z,p1,p2,p3⟩:=g6.2 i' j row v hrow hj;exact⟨z,p1,p2,p3.mono hst3 hGle⟩
    ·rw[List.getElem?_set_ne (fun e=>hik e.symm)]at hi';rw[if_neg ?_]
     ·obtain⟨z,p1,p2,p3⟩:=g6.2 i' j r v hi' hj;exact⟨z,p1,p2,p3.mono hst3 hGle⟩
     ·rintro ⟨m1,m2⟩
      rcases Nat.lt_or_ge i' k with m|m
      ·have:(i'+1)*e.sz≤k*e.sz:=XG _ m;rw[Nat.add_mul]at this;omega
      ·have:(k+1)*e.sz≤i'*e.sz:=XG _ (by omega);rw[Nat.add_mul]at this;omega
  ·intro b' hb';have hb':=(Loc.ft_of hop0).1 hb';exact .inl (by rw[hbk]at hb';injection hb' with hb';rw[hb'])
theorem Ft{P:Program}(w:World)(t ty e:TypeId)(i:TypeInfo)(z:Value)(ht:P.underlying t=some (.slice e))(hi:P.info? e=some i)(hz:i.zero=some z)(b:Addr)(n cap:Nat)(olds:List Value)(hlo:olds.length=n*i.size)(holds:∀j u,olds[j]? =some u→w.cell? (b.add j)=some u)(a:Addr)(m c:Nat)(news:List Value)(hl:news.length=m*i.size)(hnews:∀j u,news[j]? =some u→w.cell? (a.add j)=some u)(hg:cap<n+m)(h63:n+m≤maxLen)(hbytes:(n+m)*i.bytes≤140737488355328){v':Value}{w':World}(hr:(Builtin.append_ #[t,t] ty #[.slice (some b) n cap,.slice (some a) m c]).run P w=.ok v' w'):w.drawn≤w'.drawn:=by
 have h:=run_append_grow (P:=P) w t ty e i z ht hi hz b n cap olds hlo holds a m c news hl hnews hg (by simp only[maxLen]at h63;omega) (growslice_fits hg hbytes);rw[h]at hr;injection hr with _ hr
 subst hr;exact Nat.le_succ _
theorem Qb{P:Program}(w:World)(t ty e:TypeId)(i:TypeInfo)(z:Value)(ht:P.underlying t=some (.slice e))(hi:P.info? e=some i)(hz:i.zero=some z)(h0:0<i.size){v:Value}{n:Nat}{xs:List Value}(hown:w.ownsRow 0 e i.size v n xs)(a:Addr)(m c:Nat)(news:List Value)(hl:news.length=m*i.size)(hnews:∀j u,news[j]? =some u→w.cell? (a.add j)=some u)(h1:∀u∈news,u.oneCell'=true)(h63:n+m≤maxLen)(hbytes:(n+m)*i.bytes≤140737488355328){v':Value}{w':World}(hr:(Builtin.append_ #[t,t] ty #[v,.slice (some a) m c]).run P w=.ok v' w'):w.drawn≤w'.drawn:=by
 have hsmall:n+m≤9223372036854775807:=by simp only[maxLen]at h63;omega
 rcases hown.2 with⟨rfl,rfl⟩|⟨g,cap,cur,rfl,hbg,hg,hnc,hcm,hcs,htake⟩
 ·by_cases hm:m=0
  ·subst hm;have hn:news=[]:=XR (by simpa using hl);subst hn;have h:(Builtin.append_ #[t,t] ty #[.slice none 0 0,.slice (some a) 0 c]).run P w=.ok (.slice none 0 0) w:=by
    simp[Builtin.append_,run_underlying ht,sizeOf,typeInfo,hi,Builtin.lenOf,Builtin.firstCells,loadCells,loadCellsFrom]
   rw[h]at hr;injection hr with _ hr
   subst hr;exact ZT _
  ·have h:=run_append_nil (P:=P) w t ty e i z ht hi hz a m c news hl hnews (by omega) (by omega) (by have hb:=hbytes;simp only[Nat.zero_add]at hb;omega);rw[h]at hr;injection hr with _ hr
   subst hr;exact Nat.le_succ _
 ·by_cases hroom:n+m≤cap
  ·have hfit:n*i.size+news.length≤cur.size:=by rw[hl,hcs,←Nat.add_mul];exact XG _ hroom
   have h:=run_append_room (P:=P) w t ty e i ht hi g n cap cur hg a m c news hl hnews h1 hroom hfit;rw[h]at hr;injection hr with _ hr
   subst hr;exact ZT _
  ·have hk:=hown.cells (g:=g) rfl;exact Ft w t ty e i z ht hi hz ⟨g,0,none⟩ n cap xs hown.1 hk a m c news hl hnews (by omega) h63 hbytes hr
theorem Mg[Glob]{c:Ctx}{cl:Call}{x y:Operand}{t T:TypeId}{i:TypeInfo}{z:Value}{id:Nat}{v:Value}{rows0 rows:List (List V)}{xs:List Value}{next:Act→World→Prop}(ho:o.op=.call cl)(hc:cl.callee=.builtin .append)(hax:cl.args.toList=[x,y])(hat:cl.argTypes.toList=[t,t])(ht:P.underlying t=some (.slice T))(hi:P.info? T=some i)(hz:i.zero=some z)(h0:0<i.size)(hzs:z.cells.size=i.size)(h:Ac c st a w R G)(hv:a.eval x=v)(hown:w.ownsRow 0 T i.size v rows0.length xs)(hrows0:Ch w R G xs i.size rows0)(hs:C8 st.H i.size (val st.env y) rows)(hm:rows0.length+rows.length≤maxLen)(hby:(rows0.length+rows.length)*i.bytes≤140737488355328)(hold:∀b,v.ownBlock=some b→∃l0 e0,st.H id=some e0∧G id=some l0∧l0.gen=e0.gen∧l0.ft b)(hn:∀g x w' R' G',Ac c {st with H:=upd st.H id (some ⟨g,.t T,i.size,rows0++rows⟩)} a w' R' G'→RV w' R' G' (.own id g) x→next (a.put o.dst x) w'):o.wp P a w next Q:=by
 have key:∀v' w',(Builtin.append_ #[t,t] o.type #[a.eval x,a.eval y]).run P w=.ok v' w'→∀ys,w'.ownsRow 0 T i.size v' (rows0.length+rows.length) (xs++ys)→w.grownBy w' v.ownBlock→w.drawn≤w'.drawn→Ch w R G ys i.size rows→(v'.ownBlock=v.ownBlock∨v'.ownBlock=some w.heap.size)→o.wp P a w next Q:=fun v' w' hrun ys hown' hgr hdr hys hblk=>by
  refine De (Nr ho hc hax hat hrun) (hn (Ax G id) v' w' R (upd G id (some ⟨Ax G id,i.size,v',false,none⟩)) ?_ (.own _ _ _ (Aj _ _ _) (ZT _) _ fun _=>⟨rfl,rfl⟩));have hle:Gle G (upd G id (some ⟨Ax G id,i.size,v',false,none⟩)):=fun k m hm=>by
   by_cases hk:k=id
   ·subst hk;exact⟨_,Aj _ _ _,.inr (Az hm)⟩
   ·exact⟨m,by rw[Ap _ _ hk];exact hm,.inl (Db.refl _)⟩
  have hst:∀b,R b→R b∧w'.heap[b]? =w.heap[b]? :=fun b hb=>⟨hb,hgr.block b (h.lt b hb) (fun e=>by
   obtain⟨l0,e0,q1,q2,q25,q3⟩:=hold b e.symm;exact(h.hr.mine id e0 l0 b q1 q2 q25 q3).1 hb)⟩
  refine h.set (hd:=hdr) hgr (.inl rfl) hold (fun l0 hl0=>.inr (Az hl0)) h0 (xs:=xs++ys) ?_ ?_ ?_
  ·rw[ZF];exact hown'
  ·exact Ib hown.1 (hrows0.mono hst hle) (hys.mono hst hle)
  ·intro b hb;rcases hblk with q|q
   ·exact .inl (by rw[←q];exact hb)
   ·have hb2:v'.ownBlock=some b:=hb;rw[q]at hb2;injection hb2 with hb2
    exact .inr (h.newBlk (by omega) id)
 rcases Ma h (h.val y) hs with⟨q1,b,c',q2,_⟩|⟨b,off,c',ys,q1,q2,q3,q4,q5,q6⟩
 ·subst q1;have hsrc:Src P i.size t (a.eval y) 0 [] w:=by
   rw[q2];cases b with
   |none=>exact Src.ofNil w ht c'
   |some ad=>exact Src.ofSlice w ht ad 0 c' [] (by simp) (by simp) (by simp)
  have hform:∃ad n cap,v=.slice ad n cap∧n≤cap:=by
   rcases hown.2 with⟨p,_⟩|⟨g,cap,cur,p,_,_,hnc,_⟩
   ·exact⟨none,0,0,p,ZT _⟩
   ·exact⟨_,_,cap,p,hnc⟩
  obtain⟨ad,n,cap,hvv,hnc⟩:=hform;have hrun:=run_append_nothing (P:=P) w t t o.type T i ht hi ad n cap hnc (a.eval y) hsrc;subst hvv;refine key (.slice ad n cap) w (by rw[hv];exact hrun) [] (by simpa using hown) ⟨rfl,rfl,rfl,ZT _,fun _ _ _=>rfl⟩ (ZT _) ⟨by simp,fun i j row u hi=>by simp at hi⟩ (.inl rfl)
 ·obtain⟨v',w',r1,r2,r3,_,r5⟩:=run_append_own_at (P:=P) w 0 t o.type T i z i.size i.bytes ht hi hz rfl rfl hzs h0 v rows0.length xs hown ⟨b,off,none⟩ rows.length c' ys q3 (fun j u hu=>by rw[Cs];exact q4 j u hu) q5 hm hby (ZU _);refine key v' w' (by rw[hv,q1];exact r1) ys r2 r3 (Qb w t o.type T i z ht hi hz h0 hown ⟨b,off,none⟩ rows.length c' ys q3 (fun j u hu=>by rw[Cs];exact q4 j u hu) q5 hm hby r1) q6 r5
theorem Ah6{α:Type}(f:Nat→α)(k:Nat)(x y:α):upd (upd f k x) k y=upd f k y:=by
 funext i;unfold upd;cases Nat.beq i k<;>rfl
theorem Aj1[Glob]{c:Ctx}{cl:Call}{x y:Operand}{t T:TypeId}{i:TypeInfo}{z:Value}{id nid gen id' gen' b n cap:Nat}{e:Ent}{An:List (Value×V)}{ss1 ss2:List SE}{s:SE}{rows:List (List V)}{next:Act→World→Prop}(ho:o.op=.call cl)(hc:cl.callee=.builtin .append)(hax:cl.args.toList=[x,y])(hat:cl.argTypes.toList=[t,t])(ht:P.underlying t=some (.slice T))(hi:P.info? T=some i)(hz:i.zero=some z)(h0:0<i.size)(hzs:z.cells.size=i.size)(h:Ac c st a w R G)(hv:val st.env x=.inm id gen b n cap)(he:st.H id=some e)(hg:e.gen=gen)(hT:e.T=.q (Mo An (ss1++s::ss2)))(hb:s.b=b)(hcp:s.cap=cap)(hnl:s.rows.length=n)(hsz:s.sz=i.size)(hsT:s.T=T)(hy:val st.env y=.own id' gen')(hne:id'≠nid)(hne2:id≠nid)(hne3:id'≠id)(hs:C8 st.H i.size (.own id' gen') rows)(hm:n+rows.length≤maxLen)(hby:(n+rows.length)*i.bytes≤140737488355328)(hn:∀g x w' R' G',Ac c {st with H:=upd (upd st.H id (some ⟨gen,.q (Mo An (ss1++ss2)),0,[]⟩)) nid (some ⟨g,.t T,i.size,s.rows++rows⟩)} a w' R' G'→RV w' R' G' (.own nid g) x→next (a.put o.dst x) w'):o.wp P a w next Q:=by
 obtain⟨l,F,k1,k2,k3,k4,k5,k6,hx⟩:=h.objM (hv▸h.val x) he hg hT;obtain⟨bm,clock,es,m1,m2,m3,m4,m5,m6⟩:=J8.1 k6;obtain⟨q1,q2,xs,q3,q4⟩:=m6.1 s (by simp);have hft:∀k,(k=bm∨∃s'∈ss1++s::ss2,s'.b=k)→l.ft k:=fun k hk=>by simp only[Loc.ft,k3];exact(m4 k).2 hk
 have hsub:∀s'∈ss1++ss2,s'∈ss1++s::ss2:=fun s' hs'=>by
  rcases XM.1 hs' with q|q
  ·exact XM.2 (.inl q)
  ·exact XM.2 (.inr (ZL _ q))
 have hpw:(ss1++ss2).Pairwise (fun s t=>s.b≠t.b):=m6.2.sublist ((List.Sublist.refl _).append (List.sublist_cons_self _ _));have hsne:∀s'∈ss1++ss2,s'.b≠s.b:=fun s' hs'=>by
  have hp:=List.pairwise_append.1 m6.2;rcases XM.1 hs' with q|q
  ·exact hp.2.2 s' q s (XB ..)
  ·exact fun e=>(List.pairwise_cons.1 hp.2.1).1 s' q e.symm
 have hle2:l.gen=e.gen:=by omega
 have mine:=fun k hk=>h.hr.mine id e l k he k1 hle2 (hft k hk);have apart:=fun k hk k' ek lk (hne:k'≠id) (p1:st.H k'=some ek) (p2:G k'=some lk) (p3:lk.gen=ek.gen) (p4:lk.ft k)=>h.hr.apart k' id ek e lk l k p1 he hne p2 k1 p3 hle2 p4 (hft k hk);have hw:w.grownBy w none:=⟨rfl,rfl,rfl,ZT _,fun _ _ _=>rfl⟩;have hR1:=h.setG (w':=w) (row:=none) (id:=id) (l:=⟨l.gen,l.sz,l.val,l.box,some fun k=>k=bm∨∃s'∈ss1++ss2,s'.b=k⟩) (e:=⟨gen,.q (Mo An (ss1++ss2)),0,[]⟩) hw (by simp)
  (fun l0 h0=>.inl (by rw[k1]at h0;injection h0 with h0;subst h0;exact⟨rfl,rfl,rfl,rfl⟩)) k2
  ⟨_,rfl,k4,rfl,J8.2 ⟨bm,clock,es,m1,m2,m3,fun k=>Iff.rfl,m5,fun s' hs'=>m6.1 s' (hsub s' hs'),hpw⟩⟩
  (fun k hk=>by
   have hk':k=bm∨∃s'∈ss1++s::ss2,s'.b=k:=hk.imp (fun z=>z) fun⟨s',a,b⟩=>⟨s',hsub s' a,b⟩;exact .inr ⟨(mine k hk').1,(mine k hk').2,fun k' ek lk hne p1 p2 p3 p4=>apart k hk' k' ek lk hne p1 p2 p3 p4⟩)
 generalize hG1:upd G id (some ⟨l.gen,l.sz,l.val,l.box,some fun k=>k=bm∨∃s'∈ss1++ss2,s'.b=k⟩)=G1 at hR1;have hsb:s.b=bm∨∃s'∈ss1++s::ss2,s'.b=s.b:=.inr ⟨s,by simp,rfl⟩;have hown:w.ownsRow 0 T i.size s.val s.rows.length xs:=by rw[←hsT,←hsz];exact q3
 have hrr:∀G',Ch w R G' xs i.size s.rows:=fun G'=>by rw[←hsz];exact q4.mono (fun b hb=>⟨hb,rfl⟩) (Xu G')
 have hR2:=hR1.set (w':=w) (row:=none) (id:=nid) (g:=Ax G1 nid) (sz:=i.size) (To:=.t T) (T:=T) (rows:=s.rows) (v:=s.val) (box:=false) hw (.inl rfl) (by simp) (fun l0 h0=>.inr (Az h0)) h0 (xs:=xs) hown (hrr _)
  (fun k hk=>by
   have hk:k=s.b:=by unfold SE.val at hk;simp[Value.ownBlock]at hk;exact hk.symm
   subst hk;refine .inr ⟨(mine _ hsb).1,(mine _ hsb).2,fun k' ek lk hne p1 p2 p3 p4=>?_⟩;by_cases hk:k'=id
   ·subst hk;rw[←hG1,Aj]at p2;injection p2 with p2;subst p2
    rcases(show s.b=bm∨∃s'∈ss1++ss2,s'.b=s.b from p4)with r|⟨s',r1,r2⟩
    ·exact q1 r
    ·exact hsne s' r1 r2
   ·rw[←hG1,Ap _ _ hk]at p2;have p1:st.H k'=some ek:=by rw[←p1];exact(Ap _ _ hk).symm
    exact apart _ hsb k' ek lk hk p1 p2 p3 p4)
 have hxv:a.eval x=s.val:=by rw[hx];unfold SE.val;rw[hb,hcp,hnl]
 refine Mg (id:=nid) (v:=s.val) (rows0:=s.rows) (xs:=xs) ho hc hax hat ht hi hz h0 hzs hR2 hxv hown (hrr _) (rows:=rows) ?_ (by rw[hnl];exact hm) (by rw[hnl];exact hby) (fun b hb=>⟨_,_,Aj _ _ _,Aj _ _ _,rfl,hb⟩) fun g x' w' R' G' hR hV=>hn g x' w' R' G' (by rw[Ah6]at hR;exact hR) hV;show C8 (upd (upd st.H id _) nid _) i.size (val st.env y) rows;rw[hy];obtain⟨e',p1,p2⟩:=hs;exact⟨e',by rw[Ap _ _ hne,Ap _ _ hne3];exact p1,p2⟩
theorem Xv[Glob]{c:Ctx}{t kt et:TypeId}{x y z:Operand}{kind:TypeDesc}{id gen id' gen':Nat}{e e':Ent}{T:TypeId}{An:List (Value×V)}{ss:List SE}{kv:Value}{r:Option (Nat×V)}{next:Act→World→Prop}(ho:o.op=.mapUpdate t x y z∨o.op=.insert t x y z)(ht:P.underlying t=some (.map kt et))(hkt:P.underlying kt=some kind)(hkk:Iu kind=true)(h:Ac c st a w R G)(hx:val st.env x=.obj id gen)(he:st.H id=some e)(hg:e.gen=gen)(hT:e.T=.q (Mo An ss))(hy:val st.env y=.v kv)(hf:Gk kind kv An 0=some r)(hz:val st.env z=.own id' gen')(he':st.H id'=some e')(hg':e'.gen=gen')(hT':e'.T=.t T)(hne:e'.rows≠[])(hcl:∀row∈e'.rows,∀u∈row,Cl u)(hid:id≠id')(hn:∀b cap x w' R' G',Ac c {st with H:=upd (upd st.H id' none) id (some ⟨gen,.q (Mo (Q3 An kv (.v (.slice (some ⟨b,0,none⟩) e'.rows.length cap)) r) (⟨T,e'.sz,b,cap,e'.rows⟩::ss)),0,[]⟩)} a w' R' G'→RV w' R' G' (.v undef) x→next (a.put o.dst x) w'):o.wp P a w next Q:=by
 obtain⟨l,F,k1,k2,k3,k4,k5,k6,k7⟩:=h.objQ (hx▸h.val x) he hg hT;obtain⟨bm,clock,es,m1,m2,m3,m4,m5,m6⟩:=J8.1 k6;obtain⟨l',xs,T0,g1,g2,g3,g4,g5,g6,hax,hT0,hop0,hbx0⟩:=h.objO (hz▸h.val z) he' hg';rw[hT']at hT0;injection hT0 with hT0;subst hT0
 rcases Fs g5 with⟨_,q⟩|⟨b,cap,q1,hb⟩
 ·exact absurd q hne
 have hle2:l.gen=e.gen:=by omega
 have hle2':l'.gen=e'.gen:=by omega
 have hbl:l'.ft b:=(Loc.ft_of hop0).2 hb;have hft:∀k,(k=bm∨∃s'∈ss,s'.b=k)→l.ft k:=fun k hk=>by simp only[Loc.ft,k3];exact(m4 k).2 hk
 have hnb:∀k,(k=bm∨∃s'∈ss,s'.b=k)→k≠b:=fun k hk ek=>h.hr.apart id id' e e' l l' k he he' hid k1 g1 hle2 hle2' (hft k hk) (by rw[ek];exact hbl);have hw:w.grownBy w none:=⟨rfl,rfl,rfl,ZT _,fun _ _ _=>rfl⟩;have hD:=h.drop id';have hR1:=hD.setG (w':=w) (row:=none) (id:=id) (l:=⟨l.gen,l.sz,l.val,l.box,some fun k=>k=bm∨∃s'∈(⟨T,e'.sz,b,cap,e'.rows⟩::ss:List SE),s'.b=k⟩) (e:=⟨gen,.q (Mo An (⟨T,e'.sz,b,cap,e'.rows⟩::ss)),0,[]⟩) hw (by simp)
  (fun l0 h0=>.inl (by rw[k1]at h0;injection h0 with h0;subst h0;exact⟨rfl,rfl,rfl,rfl⟩)) k2
  ⟨_,rfl,k4,rfl,J8.2 ⟨bm,clock,es,by rw[←k7];exact m1,m2,m3,fun k=>Iff.rfl,m5,fun s' hs'=>by
    rcases XC.1 hs' with q|q
    ·subst q;refine⟨fun eb=>hnb bm (.inl rfl) eb.symm,g4,xs,?_,g6.1,fun i j row u p1 p2=>?_⟩
     ·unfold SE.val;rw[←q1];exact g5
     ·obtain⟨v,r1,r2,r3⟩:=g6.2 i j row u p1 p2;exact⟨v,r1,r2,hcl row (ZH p1) u (ZH p2) _ _ _ _ _ r3⟩
    ·exact m6.1 s' q,List.pairwise_cons.2 ⟨fun s' hs' eb=>hnb s'.b (.inr ⟨s',hs',rfl⟩) eb.symm,m6.2⟩⟩⟩
  (fun k hk=>by
   have hc:(k=bm∨∃s'∈ss,s'.b=k)∨k=b:=by
    rcases hk with q|⟨s',p1,p2⟩
    ·exact .inl (.inl q)
    ·rcases XC.1 p1 with q|q
     ·subst q;exact .inr p2.symm
     ·exact .inl (.inr ⟨s',q,p2⟩)
   have hdH:∀k' ek,upd st.H id' none k'=some ek→k'≠id'∧st.H k'=some ek:=fun k' ek p=>by
    by_cases q:k'=id'
    ·subst q;rw[Aj]at p;cases p
    ·rw[Ap _ _ q]at p;exact⟨q,p⟩
   rcases hc with hk'|hk'
   ·exact .inr ⟨(h.hr.mine id e l k he k1 hle2 (hft k hk')).1,(h.hr.mine id e l k he k1 hle2 (hft k hk')).2,fun k' ek lk hne p1 p2 p3 p4=>h.hr.apart k' id ek e lk l k (hdH k' ek p1).2 he hne p2 k1 p3 hle2 p4 (hft k hk')⟩
   ·subst hk';exact .inr ⟨(h.hr.mine id' e' l' k he' g1 hle2' hbl).1,(h.hr.mine id' e' l' k he' g1 hle2' hbl).2,fun k' ek lk hne p1 p2 p3 p4=>h.hr.apart k' id' ek e' lk l' k (hdH k' ek p1).2 he' (hdH k' ek p1).1 p2 g1 p3 hle2' p4 hbl⟩)
 refine Afs (vv:=.v (.slice (some ⟨b,0,none⟩) e'.rows.length cap)) ho ht hkt hkk hR1 hx (Aj _ _ _) rfl rfl hy (by rw[hax,q1];exact .v _) hf fun x' w' R' G' hR hV=>hn b cap x' w' R' G' (by rw[Ah6]at hR;exact hR) hV
theorem Af3{w:World}{T:TypeId}{sz n k:Nat}{b cap:Nat}{xs:List Value}(h:w.ownsRow 0 T sz (.slice (some ⟨b,0,none⟩) n cap) n xs)(hk:k≤n):w.ownsRow 0 T sz (.slice (some ⟨b,0,none⟩) k cap) k (xs.take (k*sz)):=by
 have hks:k*sz≤n*sz:=XG _ hk;obtain⟨h1,h2⟩:=h;refine⟨by rw[ZM,h1];omega,?_⟩;rcases h2 with⟨q,_⟩|⟨g,cap',cur,q,h0,hh,hnc,hcm,hcs,htk⟩
 ·cases q
 ·injection q with q1 q2 q3;injection q1 with q1;injection q1 with q1
  subst q1 q3;refine .inr ⟨b,cap,cur,rfl,h0,hh,by omega,hcm,hcs,?_⟩;rw[←htk,List.take_take,Nat.min_eq_left hks]
theorem At8[Glob]{c:Ctx}{t T:TypeId}{x:Operand}{lo hi:Option Operand}{j:TypeInfo}{id gen n:Nat}{e:Ent}{next:Act→World→Prop}(ho:o.op=.slice t x lo hi none)(ht:P.underlying t=some (.slice T))(hj:P.info? T=some j)(h:Ac c st a w R G)(hv:val st.env x=.own id gen)(he:st.H id=some e)(hg:e.gen=gen)(hsz:e.sz=j.size)(hl:loV st.env lo 0)(hhi:hiV st.env e.rows.length hi n)(hn:n≤e.rows.length)(hk:∀g x w' R' G',Ac c {st with H:=upd st.H id (some ⟨g,e.T,e.sz,e.rows.take n⟩)} a w' R' G'→RV w' R' G' (.own id g) x→next (a.put o.dst x) w'):o.wp P a w next Q:=by
 obtain⟨l,xs,T0,g1,g2,g3,g4,g5,g6,hax,hT0,hop0,hbx0⟩:=h.objO (hv▸h.val x) he hg;have hrl:(e.rows.take n).length=n:=by rw[ZM];omega
 have hnx:n*e.sz≤e.rows.length*e.sz:=XG _ hn;have key:∀v':Value,(execOp a.eval o).run P w=.ok (.value v') w→w.ownsRow 0 T0 e.sz v' n (xs.take (n*e.sz))→(∀b,v'.ownBlock=some b→l.val.ownBlock=some b)→o.wp P a w next Q:=fun v' hrun hown hblk=>by
  refine De hrun (hk (Ax G id) v' w R (upd G id (some ⟨Ax G id,e.sz,v',false,none⟩)) ?_ (.own _ _ _ (Aj _ _ _) (ZT _) _ fun _=>⟨rfl,rfl⟩));have hle:Gle G (upd G id (some ⟨Ax G id,e.sz,v',false,none⟩)):=fun k m hm=>by
   by_cases hk:k=id
   ·subst hk;exact⟨_,Aj _ _ _,.inr (Az hm)⟩
   ·exact⟨m,by rw[Ap _ _ hk];exact hm,.inl (Db.refl _)⟩
  refine h.set (row:=l.val.ownBlock) ⟨rfl,rfl,rfl,ZT _,fun _ _ _=>rfl⟩ (.inl hT0) (fun b hb=>⟨l,e,he,g1,g2.trans hg.symm,(Loc.ft_of hop0).2 hb⟩) (fun l0 hl0=>.inr (Az hl0)) g4 (xs:=xs.take (n*e.sz)) ?_ ?_ ?_
  ·rw[hrl];exact hown
  ·refine⟨fun row hr=>g6.1 row (List.mem_of_mem_take hr),fun i k row u hi hk=>?_⟩;have hi':(e.rows.take n)[i]? =some row:=hi;have hi2:i<n:=by have:=(ZB.1 hi').1;omega
   rw[XA hi2]at hi';have hi:=hi';obtain⟨y,p1,p2,p3⟩:=g6.2 i k row u hi hk;have hks:k<e.sz:=by
    have:=(ZB.1 hk).1;rw[g6.1 row (ZH hi)]at this;exact this
   have hlt:i*e.sz+k<n*e.sz:=by
    have:(i+1)*e.sz≤n*e.sz:=XG _ hi2;rw[Nat.add_mul]at this;omega
   exact⟨y,by rw[XA hlt];exact p1,p2,p3.mono (fun b hb=>⟨hb,rfl⟩) hle⟩
  ·intro b hb;exact .inl (hblk b hb)
 rcases Fs g5 with⟨q1,q2⟩|⟨b,cap,q1,hb⟩
 ·have hn0:n=0:=by rw[q2]at hn;simpa using hn
  subst hn0;refine key (.slice none 0 0) ?_ (by simpa using World.ownsRow_nil w 0 T0 e.sz) (fun b hb=>by cases hb);unfold execOp;rw[ho];refine Dh _ ?_;have hb:=Ca (P:=P) (isS:=true) (cap:=0) h hl hhi (.inl ⟨rfl,rfl⟩) (ZT _) (ZT _) (ZT _);rw[hax,q1];rw[q2]at hb;simp only[Option.map_none,ZN]at hb;simp[Instr.sliceAt,run_underlying ht,Instr.slice,hb,sizeOf,typeInfo,hj]
 ·rw[q1]at g5;have hcap:e.rows.length≤cap:=by
   rcases g5.2 with⟨q,_⟩|⟨g',cap',cur,q,_,_,hnc,_⟩
   ·cases q
   ·injection q with _ _ q;omega
  refine key (.slice (some ⟨b,0,none⟩) n cap) ?_ (Af3 g5 hn) (fun b' hb'=>by rw[hb];exact hb');unfold execOp;rw[ho];refine Dh _ ?_;have hbd:=Ca (P:=P) (isS:=true) (cap:=cap) h hl hhi (.inl ⟨rfl,rfl⟩) (ZU _) (XI hn hcap) (ZT _);rw[hax,q1];simp only[Option.map_none]at hbd;simp[Instr.sliceAt,run_underlying ht,Instr.slice,hbd,sizeOf,typeInfo,hj,Cs]
theorem Aff[Glob]{c:Ctx}{cl:Call}{x y:Operand}{t T:TypeId}{i:TypeInfo}{z:Value}{id:Nat}{rows0 rows:List (List V)}{next:Act→World→Prop}(ho:o.op=.call cl)(hc:cl.callee=.builtin .append)(hax:cl.args.toList=[x,y])(hat:cl.argTypes.toList=[t,t])(ht:P.underlying t=some (.slice T))(hi:P.info? T=some i)(hz:i.zero=some z)(h0:0<i.size)(hzs:z.cells.size=i.size)(h:Ac c st a w R G)(hv:val st.env x=.sl true rows0)(hne:rows≠[])(hr0:∀row∈rows0,row.length=i.size∧Hl st.H row)(hs:C8 st.H i.size (val st.env y) rows)(hm:rows0.length+rows.length≤maxLen)(hby:(rows0.length+rows.length)*i.bytes≤140737488355328)(hn:∀g x w' R' G',Ac c {st with H:=upd st.H id (some ⟨g,.t T,i.size,rows0++rows⟩)} a w' R' G'→RV w' R' G' (.own id g) x→next (a.put o.dst x) w'):o.wp P a w next Q:=by
 rcases Ma h (h.val y) hs with⟨q1,_⟩|⟨b,off,c',ys,q1,q2,q3,q4,q5,q6⟩
 ·exact absurd q1 hne
 ·rcases Ma (rows:=rows0) h (hv▸h.val x) (show C8 st.H i.size (.sl true rows0) rows0 from⟨rfl,hr0⟩)with⟨p1,ad,cap,p2,_⟩|⟨b',off',cap,xs,p1,p2,p3,p4,p5,p6⟩
  ·have hcap:cap=0:=by
    have hh:=h.val x;rw[hv,p2,p1]at hh;cases hh with
    |nil clip a cap hc=>exact hc rfl
    |sl clip rows b off cap sz f hR hcap hclip=>exact hclip rfl
   subst hcap;subst p1;cases ad with
   |none=>
    exact Mg (rows0:=[]) (xs:=[]) ho hc hax hat ht hi hz h0 hzs h p2 (World.ownsRow_nil _ _ _ _) ⟨by simp,fun i j row u hi=>by simp at hi⟩ hs hm hby (fun b hb=>by cases hb) hn
   |some ad=>
    obtain⟨v',w',r1,r2,r3⟩:=run_append_arg_grows (P:=P) w t o.type T i z i.size i.bytes ht hi hz rfl rfl hzs h0 ad 0 0 [] (by simp) (by simp) ⟨b,off,none⟩ rows.length c' ys q3 (fun j u hu=>by rw[Cs];exact q4 j u hu)
     (by have:=List.length_pos_iff.2 hne;omega) (by simpa using hm) (by simpa using hby)
    simp only[Nat.zero_add,List.nil_append]at r2;have hlt:=fun b hb=>(r2.lt b hb).1;refine De (Nr ho hc hax hat (by rw[p2,q1];exact r1)) (hn (Ax G id) v' w' R (upd G id (some ⟨Ax G id,i.size,v',false,none⟩)) ?_ (.own _ _ _ (Aj _ _ _) (ZT _) _ fun _=>⟨rfl,rfl⟩));refine h.set (hd:=Ft w t o.type T i z ht hi hz ad 0 0 [] (by simp) (by simp) ⟨b,off,none⟩ rows.length c' ys q3 (fun j u hu=>by rw[Cs];exact q4 j u hu) (by have:=List.length_pos_iff.2 hne;omega) (by simpa using hm) (by simpa using hby) r1) r3 (.inl rfl) (by simp) (fun l0 hl0=>.inr (Az hl0)) h0 (xs:=ys) ?_ ?_ ?_
    ·obtain⟨e1,e2⟩:=r2;refine⟨by simpa using e1,?_⟩;rcases e2 with e2|⟨g,cap,cur,e2,_,e3⟩
     ·exact .inl (by simpa using e2)
     ·exact .inr ⟨g,cap,cur,by simpa using e2,ZU _,by simpa using e3⟩
    ·rw[List.nil_append];refine q6.mono (fun b hb=>⟨hb,r3.block b (h.lt b hb) (by simp)⟩) (fun k m hm=>?_);by_cases hk:k=id
     ·subst hk;exact⟨_,Aj _ _ _,.inr (Az hm)⟩
     ·exact⟨m,by rw[Ap _ _ hk];exact hm,.inl (Db.refl _)⟩
    ·intro b hb;exact .inr (h.newBlk (hlt b hb) id)
  ·have hcap:cap=rows0.length:=by
    have hh:=h.val x;rw[hv,p1]at hh;generalize hrr:rows0=rr at hh;generalize hcc:cap=cc at hh;generalize hll:rr.length=ll at hh;cases hh with
    |nil clip a cap hc=>exact absurd hrr p2
    |sl clip rows b off cap sz f hR hcap hclip=>simpa using hclip rfl
   subst hcap;obtain⟨v',w',r1,r2,r3⟩:=run_append_arg_grows (P:=P) w t o.type T i z i.size i.bytes ht hi hz rfl rfl hzs h0 ⟨b',off',none⟩ rows0.length rows0.length xs p3 (fun j u hu=>by rw[Cs];exact p4 j u hu) ⟨b,off,none⟩ rows.length c' ys q3 (fun j u hu=>by rw[Cs];exact q4 j u hu)
    (by have:=List.length_pos_iff.2 hne;omega) hm hby
   have hlt:=fun b hb=>(r2.lt b hb).1;have hle:Gle G (upd G id (some ⟨Ax G id,i.size,v',false,none⟩)):=fun k m hm=>by
    by_cases hk:k=id
    ·subst hk;exact⟨_,Aj _ _ _,.inr (Az hm)⟩
    ·exact⟨m,by rw[Ap _ _ hk];exact hm,.inl (Db.refl _)⟩
   have hst:∀b,R b→R b∧w'.heap[b]? =w.heap[b]? :=fun b hb=>⟨hb,r3.block b (h.lt b hb) (by simp)⟩;refine De (Nr ho hc hax hat (by rw[p1,q1];exact r1)) (hn (Ax G id) v' w' R (upd G id (some ⟨Ax G id,i.size,v',false,none⟩)) ?_ (.own _ _ _ (Aj _ _ _) (ZT _) _ fun _=>⟨rfl,rfl⟩));refine h.set (hd:=Ft w t o.type T i z ht hi hz ⟨b',off',none⟩ rows0.length rows0.length xs p3 (fun j u hu=>by rw[Cs];exact p4 j u hu) ⟨b,off,none⟩ rows.length c' ys q3 (fun j u hu=>by rw[Cs];exact q4 j u hu) (by have:=List.length_pos_iff.2 hne;omega) hm hby r1) r3 (.inl rfl) (by simp) (fun l0 hl0=>.inr (Az hl0)) h0 (xs:=xs++ys) ?_ (Ib p3 (p6.mono hst hle) (q6.mono hst hle)) ?_
   ·obtain⟨e1,e2⟩:=r2;refine⟨by simpa using e1,?_⟩;rcases e2 with e2|⟨g,cap,cur,e2,_,e3⟩
    ·exact .inl (by simpa using e2)
    ·exact .inr ⟨g,cap,cur,by simpa using e2,ZU _,by simpa using e3⟩
   ·intro b hb;exact .inr (h.newBlk (hlt b hb) id)
theorem Acq[Glob]{c:Ctx}{cl:Call}{x y:Operand}{t T:TypeId}{i:TypeInfo}{z:Value}{id id0 gen n:Nat}{e:Ent}{rows:List (List V)}{next:Act→World→Prop}(ho:o.op=.call cl)(hc:cl.callee=.builtin .append)(hax:cl.args.toList=[x,y])(hat:cl.argTypes.toList=[t,t])(ht:P.underlying t=some (.slice T))(hi:P.info? T=some i)(hz:i.zero=some z)(h0:0<i.size)(hzs:z.cells.size=i.size)(h:Ac c st a w R G)(hv:val st.env x=.oclip id0 gen n)(he:st.H id0=some e)(hg:e.gen=gen)(hsz:e.sz=i.size)(hnl:n≤e.rows.length)(hne:rows≠[])(hs:C8 st.H i.size (val st.env y) rows)(hm:n+rows.length≤maxLen)(hby:(n+rows.length)*i.bytes≤140737488355328)(hn:∀g x w' R' G',Ac c {st with H:=upd st.H id (some ⟨g,.t T,i.size,e.rows.take n++rows⟩)} a w' R' G'→RV w' R' G' (.own id g) x→next (a.put o.dst x) w'):o.wp P a w next Q:=by
 obtain⟨l,xs0,T0,g1,g2,g3,g4,g5,g6,hcl,hT0,hop0,hbx0⟩:=h.objC (hv▸h.val x) he hg;have hrl:(e.rows.take n).length=n:=by rw[ZM];omega
 rcases hcl with⟨q1,rfl,p2⟩|⟨b',m,cap,q1,p1,p2⟩
 ·exact Mg (rows0:=[]) (xs:=[]) ho hc hax hat ht hi hz h0 hzs h p2 (World.ownsRow_nil _ _ _ _) ⟨by simp,fun i j row u hi=>by simp at hi⟩ hs (by simpa using hm) (by simpa using hby) (fun b hb=>by cases hb) (by simpa using hn)
 ·rcases Ma h (h.val y) hs with⟨q1,_⟩|⟨b,off,c',ys,k1,k2,k3,k4,k5,k6⟩
  ·exact absurd q1 hne
  ·have hb:l.val.ownBlock=some b':=by rw[q1];rfl
   have hnx:n*i.size≤e.rows.length*i.size:=XG _ hnl;have hxl:xs0.length=e.rows.length*i.size:=by rw[←hsz];exact g5.1
   have r0:Ch w R G (xs0.take (n*i.size)) i.size (e.rows.take n):=by
    refine⟨fun row hr=>by rw[←hsz];exact g6.1 row (List.mem_of_mem_take hr),fun j k row u hj hk=>?_⟩;have hj2:j<n:=by have:=(ZB.1 hj).1;omega
    rw[XA hj2]at hj;obtain⟨y,p1,p2,p3⟩:=g6.2 j k row u hj hk;have hks:k<i.size:=by
     have:=(ZB.1 hk).1;rw[g6.1 row (ZH hj),hsz]at this;exact this
    have hlt:j*i.size+k<n*i.size:=by
     have:(j+1)*i.size≤n*i.size:=XG _ hj2;rw[Nat.add_mul]at this;omega
    rw[hsz]at p1;exact⟨y,by rw[XA hlt];exact p1,p2,p3⟩
   have p3':(xs0.take (n*i.size)).length=n*i.size:=by rw[ZM];omega
   have p4:∀j u,(xs0.take (n*i.size))[j]? =some u→w.cell? ((⟨b',0,none⟩:Addr).add j)=some u:=fun j u hu=>by
    have hj:j<n*i.size:=by have:=(ZB.1 hu).1;omega
    rw[XA hj]at hu;rw[Cs,Nat.zero_add];exact Ee g5 hb hu
   obtain⟨v',w',r1,r2,r3⟩:=run_append_arg_grows (P:=P) w t o.type T i z i.size i.bytes ht hi hz rfl rfl hzs h0 ⟨b',0,none⟩ n n (xs0.take (n*i.size)) p3' p4 ⟨b,off,none⟩ rows.length c' ys k3 (fun j u hu=>by rw[Cs];exact k4 j u hu)
    (by have:=List.length_pos_iff.2 hne;omega) hm hby
   have hlt:=fun b hb=>(r2.lt b hb).1;have hle:Gle G (upd G id (some ⟨Ax G id,i.size,v',false,none⟩)):=fun k m hm=>by
    by_cases hk:k=id
    ·subst hk;exact⟨_,Aj _ _ _,.inr (Az hm)⟩
    ·exact⟨m,by rw[Ap _ _ hk];exact hm,.inl (Db.refl _)⟩
   have hst:∀b,R b→R b∧w'.heap[b]? =w.heap[b]? :=fun b hb=>⟨hb,r3.block b (h.lt b hb) (by simp)⟩;refine De (Nr ho hc hax hat (by rw[p2,k1];exact r1)) (hn (Ax G id) v' w' R (upd G id (some ⟨Ax G id,i.size,v',false,none⟩)) ?_ (.own _ _ _ (Aj _ _ _) (ZT _) _ fun _=>⟨rfl,rfl⟩));refine h.set (hd:=Ft w t o.type T i z ht hi hz ⟨b',0,none⟩ n n (xs0.take (n*i.size)) p3' p4 ⟨b,off,none⟩ rows.length c' ys k3 (fun j u hu=>by rw[Cs];exact k4 j u hu) (by have:=List.length_pos_iff.2 hne;omega) hm hby r1) r3 (.inl rfl) (by simp) (fun l0 hl0=>.inr (Az hl0)) h0 (xs:=xs0.take (n*i.size)++ys) ?_ (Ib (by rw[hrl];exact p3') (r0.mono hst hle) (k6.mono hst hle)) ?_
   ·obtain⟨e1,e2⟩:=r2;have hll:(e.rows.take n++rows).length=n+rows.length:=by rw[ZF,hrl]
    refine⟨by rw[hll];exact e1,?_⟩;rcases e2 with e2|⟨g,cap,cur,e2,_,e3⟩
    ·exact .inl (by rw[hll];simpa using e2)
    ·exact .inr ⟨g,cap,cur,by rw[hll];simpa using e2,ZU _,by rw[hll];simpa using e3⟩
   ·intro b hb;exact .inr (h.newBlk (hlt b hb) id)
set_option maxHeartbeats 1000000 in
theorem Ahx[Glob]{c:Ctx}(hres:A6 P o=some r)(h:Ac c st a w R G){K:V→List (Nat×Option Ent)→Prop}(hs:Ej P r st.env st.H st.D (16*d) K){next:Act→World→Prop}(hK:∀u dH,K u dH→∀x w' R' G',Ac c {st with H:=Bx st.H dH} a w' R' G'→RV w' R' G' u x→next (a.put o.dst x) w')(hdie:∀v,st.D v→∀w',Fr c.L c.w0 w'→Q (.panic [{v:=v,recovered:=false}]) a w'):o.wp P a w next Q:=by
 have hids:∀k,k<16→(16*d+k)/16=d:=fun k hk=>by omega
 have hcall:∀{f:FuncId} {xs:List Value} {us:List V},(Ds P f→(execOp a.eval o).run P w=.ok (.enter f xs.toArray) w)→us.length=xs.length→(∀(i:Nat) (u:V) (x:Value),us[i]? =some u→xs[i]? =some x→RV w R G u x)→Ahm P st.H st.D (16*d) f us K→o.wp P a w next Q:=fun hr hl hh hc=>by
  rcases hc with⟨ps,rs,bor,gone,hA,hF,hfl,hrs,hk⟩|⟨ps,rs,bor,gone,hA,hF,hfl,hout,hnd,hk⟩|⟨ps,bor,gone,v,hA,hF,hD⟩
  ·exact Aeu (g:=Ax G) hids (fun id _ l0 hl0=>Az hl0) h (hr hF.1) hl hh hA hF hfl hrs next (fun x w' R' G' h1 h2 _=>hK _ _ (hk _) x w' R' G' h1 h2)
  ·exact Ao5 (g:=Ax G) (fun id l0 hl0=>Az hl0) h (hr hF.1) hl hh hA hF hfl hout hnd (fun x w' R' G' h1 h2=>hK _ _ (hk _) x w' R' G' h1 h2)
  ·exact Arx h (hr hF.1) hl hh hA hF (fun w' hfr=>hdie v hD w' hfr)
 cases hop:o.op with
 |slice t x lo hi mx=>
  have hres0:=hres;simp only[A6,hop]at hres;split at hres
  ·split at hres
   ·simp only[ZD]at hres;subst hres;exact hs.elim
   ·cases hres
  ·rename_i T ht;split at hres
   ·rename_i j hj;split at hres
    ·simp only[ZD]at hres;subst hres;simp only[Ej]at hs;split at hs
     ·rename_i id gen hx;obtain⟨e,md,l,n,h1,h2,h3,h4,h5,h6,h7,h8⟩:=hs;split at h8
      ·obtain⟨rfl,rfl,h8⟩:=h8;exact At8 hop ht hj h hx h1 h2 h3 h4 h5 h7 (fun g x w' R' G' hR hV=>hK _ _ (h8 g) x w' R' G' hR hV)
      ·obtain⟨rfl,h8⟩:=h8;exact Alr (Q:=Q) (d:=d) hop ht hj h hx h1 h2 h3 h4 h5 h6 h7 next (fun x w' R' G' hR hV _=>hK _ _ h8 x w' R' G' hR hV)
      ·obtain⟨rfl,h9,y,kd,rfl,h10,h13⟩:=h8;exact Alu (Q:=Q) (d:=d) hop ht hj h hx h1 h2 h4 h5 h9 h10 h7 next (fun x w' R' G' hR hV _=>hK _ _ h13 x w' R' G' hR hV)
      ·obtain⟨y,m,kd,rfl,h9,h10,h11,h12,h13⟩:=h8;exact Apx (Q:=Q) (d:=d) hop ht hj h hx h1 h2 h4 h5 h9 h10 h6 h11 h12 next (fun x w' R' G' hR hV _=>hK _ _ h13 x w' R' G' hR hV)
     ·rename_i id gen lo0 hi0 hx;obtain⟨e,l,k,h1,h2,h3,h4,h5,h6,h7,rfl,h8,h9⟩:=hs;exact Als (Q:=Q) (d:=d) hop ht hj h (hx▸h.val x) h1 h2 h3 h4 h5 h6 h7 h8 next (fun x w' R' G' hR hV _=>hK _ _ h9 x w' R' G' hR hV)
     ·rename_i clip rows hx;obtain⟨l,k,h1,h2,h3,h4,h5,h6⟩:=hs;cases mx with
      |none=>exact Z8 (Q:=Q) (d:=d) hop ht hj h hx h1 h2 h3 h4 h5 (.inl ⟨rfl,rfl⟩) next (fun x w' R' G' hR hV _=>hK _ _ h6 x w' R' G' hR hV)
      |some y=>
       obtain⟨h7,⟨kd,hk⟩,h8⟩:=h6;exact Z8 (Q:=Q) (d:=d) hop ht hj h hx h1 h2 h3 h4 h5 (.inr ⟨y,kd,rfl,h7,hk⟩) next (fun x w' R' G' hR hV _=>hK _ _ h8 x w' R' G' hR hV)
     ·exact hs.elim
    ·cases hres
   ·cases hres
  ·cases hres
 |store t x y=>
  simp only[A6,hop]at hres;split at hres
  ·rename_i i hi;simp only[ZD]at hres;subst hres;simp only[Ej]at hs;split at hs
   ·rename_i id gen k off hv;obtain⟨e,row,us,h1,h2,h3,h4,h5,h6,h7,h8⟩:=hs;exact Ah2 hop hi h hv h1 h2 h3 h4 h5 h6 h7 (fun x w' R' G' hR hV _=>hK _ _ h8 x w' R' G' hR hV)
   ·exact hs.elim
  ·cases hres
 |call cl=>
  obtain⟨callee,args,argTypes⟩:=cl;cases callee with
  |value f=>
   simp only[A6,hop,ZD]at hres;subst hres;simp only[Ej]at hs;obtain⟨e1,e2⟩:=Xx h args.toList;split at hs
   ·rename_i f' hf;have hx:a.eval f=.func (.func f') #[] ([]:List Value).toArray:=Cd (hf▸h.val f);refine hcall (us:=args.toList.map (val st.env)) (xs:=args.toList.map a.eval) (fun hcb=>?_) e1 e2 hs;have hr:=Mr (P:=P) (w:=w) hop rfl hx hcb;rw[List.append_nil]at hr;exact hr
   ·rename_i f' caps hf;have hv:=h.val f;rw[hf]at hv;generalize hax:a.eval f=ax at hv;cases hv with
    |clo f' caps xs hl hh=>
     refine hcall (us:=args.toList.map (val st.env)++caps) (xs:=args.toList.map a.eval++xs) (fun hcb=>Mr (P:=P) (w:=w) hop rfl hax hcb) (by simp[hl]) ?_ hs;intro i u x g1 g2;by_cases hi:i<(args.toList.map (val st.env)).length
     ·rw[ZQ hi]at g1;rw[ZQ (by simpa using hi)]at g2;exact e2 i u x g1 g2
     ·rw[ZP (by omega)]at g1;rw[ZP (by simpa using hi)]at g2;exact hh _ u x (by simpa using g1) (by simpa using g2)
   ·exact hs.elim
  |invoke f m=>simp[A6,hop]at hres
  |builtin b=>
   cases b with
   |max=>
    simp only[A6,hop]at hres;split at hres
    ·simp only[ZD]at hres;subst hres;exact hs.elim
    ·cases hres
   |min=>
    simp only[A6,hop]at hres;split at hres
    ·simp only[ZD]at hres;subst hres;exact hs.elim
    ·cases hres
   |append=>
    simp only[A6,hop]at hres;split at hres
    ·rename_i x y t t' hax hat;split at hres
     ·rename_i htt;subst htt;split at hres
      ·rename_i e ht;split at hres
       ·rename_i i hi;split at hres
        ·rename_i z hz;split at hres
         ·rename_i h0;simp only[ZO,decide_eq_true_eq,ZR]at h0;simp only[ZD]at hres;subst hres;simp only[Ej]at hs;split at hs
          ·rename_i id gen lo0 k hx;split at hs
           ·rename_i id' gen' lo hi' hy;obtain⟨en,h1,h2,rfl,rfl,rfl,h3,h4,h5,h6,h7⟩:=hs;exact Aim hop rfl hax hat ht hi h hx hy h1 h2 h3 h4 h5 h6 (fun x w' R' G' hR hV=>hK _ _ h7 x w' R' G' hR hV)
           ·exact hs.elim
          ·rename_i id gen hx;obtain⟨rows,hsrc,en,h1,h2,hT,h3,h4,h5,h6⟩:=hs;obtain⟨l,xs,T0,g1,g2,g3,g4,g5,g6,hae,hT0,hop0,hbx0⟩:=h.objO (hx▸h.val x) h1 h2;rw[h3]at g5 g6;rw[hT]at hT0;injection hT0 with hT0;subst hT0
           exact Mg hop rfl hax hat ht hi hz h0.1 h0.2 h hae g5 g6 hsrc h4 h5 (fun b hb=>⟨l,en,h1,g1,g2.trans h2.symm,(Loc.ft_of hop0).2 hb⟩) (fun g x w' R' G' hR hV=>hK _ _ (h6 g) x w' R' G' hR hV)
          ·rename_i hx;obtain⟨rows,hsrc,h1,h2,h3⟩:=hs;exact Mg (rows0:=[]) (xs:=[]) hop rfl hax hat ht hi hz h0.1 h0.2 h (Cd (hx▸h.val x)) (World.ownsRow_nil _ _ _ _) ⟨by simp,fun i j row u hi=>by simp at hi⟩ hsrc (by simpa using h1) (by simpa using h2) (fun b hb=>by cases hb)
            (fun g x w' R' G' hR hV=>hK _ _ (h3 g) x w' R' G' hR hV)
          ·rename_i rows0 hx;obtain⟨rows,hsrc,h1,h2,h3,h4,h5⟩:=hs;exact Aff hop rfl hax hat ht hi hz h0.1 h0.2 h hx h1 h2 hsrc h3 h4 (fun g x w' R' G' hR hV=>hK _ _ (h5 g) x w' R' G' hR hV)
          ·rename_i id gen bb n cap hx;split at hs
           ·rename_i id' gen' hy;obtain⟨rows,hsrc,e,An,ss1,s,ss2,h1,h2,h3,h4,h5,h6,h7,h8,h9,h10,h11,h12,h13,h14⟩:=hs;exact Aj1 hop rfl hax hat ht hi hz h0.1 h0.2 h hx h1 h2 h3 h4 h5 h6 h7 h8 hy h9 h10 h11 hsrc h12 h13 (fun g x w' R' G' hR hV=>hK _ _ (h14 g) x w' R' G' hR hV)
           ·exact hs.elim
          ·rename_i id gen n hx;obtain⟨rows,hsrc,e,h1,h2,h3,h4,h5,h6,h7,h8⟩:=hs;exact Acq hop rfl hax hat ht hi hz h0.1 h0.2 h hx h1 h2 h4 h5 h3 hsrc h6 h7 (fun g x w' R' G' hR hV=>hK _ _ (h8 g) x w' R' G' hR hV)
          ·exact hs.elim
         ·cases hres
        ·cases hres
       ·cases hres
      ·cases hres
     ·cases hres
    ·cases hres
   |clear=>
    simp only[A6,hop]at hres;split at hres
    ·rename_i x t hax hat;split at hres
     ·rename_i e ht;split at hres
      ·rename_i i hi;split at hres
       ·rename_i z hz;split at hres
        ·rename_i h0;simp only[ZO,decide_eq_true_eq,ZR]at h0;simp only[ZD]at hres;subst hres;simp only[Ej]at hs;split at hs
         ·rename_i id gen lo hi' hx;obtain⟨en,h1,h2,h3,h4,h5,h6⟩:=hs;exact Arr hop rfl hax hat ht hi hz h0.1.1 h0.1.2 h0.2 h hx h1 h2 h3 h4 h5 (fun x w' R' G' hR hV=>hK _ _ h6 x w' R' G' hR hV)
         ·exact hs.elim
        ·cases hres
       ·cases hres
      ·cases hres
     ·cases hres
    ·cases hres
   |len=>
    simp only[A6,hop]at hres;split at hres
    ·split at hres
     ·simp only[ZD]at hres;subst hres;exact hs.elim
     ·simp only[ZD]at hres;subst hres;exact hs.elim
     ·simp only[ZD]at hres;subst hres;exact hs.elim
     ·cases hres
    ·cases hres
   |_=>simp[A6,hop]at hres
 |panic x=>
  simp only[A6,hop,ZD]at hres;subst hres;simp only[Ej]at hs;split at hs
  ·rename_i t y hx;have e1:a.eval x=.iface t y:=Cd (hx▸h.val x);have hr:(execOp a.eval o).run P w=.halt (.panic (.iface t y)) w:=by
    unfold execOp;rw[hop];simp[e1,Instr.panic,goPanic]
   unfold Oper.wp;rw[hr];exact hdie _ hs w h.fr
  ·exact hs.elim
 |makeInterface t x=>
  exfalso;simp only[A6,hop]at hres
  repeat' (split at hres)
  all_goals first|(cases hres;done)|(simp only[ZD]at hres;subst hres;exact hs.elim)
 |makeMap t rs=>cases rs<;>simp only[A6,hop,reduceCtorEq,ZD]at hres<;>subst hres<;>exact hs.elim
 |mapUpdate t x y z=>
  simp only[A6,hop]at hres;split at hres
  ·rename_i kt et ht;split at hres
   ·rename_i kd hkt;split at hres
    ·rename_i hkk;simp only[ZD]at hres;subst hres;simp only[Ej]at hs;split at hs
     ·rename_i id gen hx;split at hs
      ·rename_i id' gen' hz;obtain⟨e,An,ss,kv,r,e',T,h1,h2,h3,h4,h5,h6,h7,h8,h9,h10,h11,h12⟩:=hs;exact Xv (.inl hop) ht hkt hkk h hx h1 h2 h3 h4 h5 hz h6 h7 h8 h9 h10 h11 (fun b cap x w' R' G' hR hV=>hK _ _ (h12 b cap) x w' R' G' hR hV)
      ·obtain⟨e,An,kv,r,h1,h2,h3,h4,h5,h6,h7⟩:=hs;exact Afs (ss:=[]) (.inl hop) ht hkt hkk h hx h1 h2 h3 h4 (h5 _ _ _ _ _ (h.val _)) h6 (fun x w' R' G' hR hV=>hK _ _ h7 x w' R' G' hR hV)
     ·exact hs.elim
    ·cases hres
   ·cases hres
  ·cases hres
 |insert t x y z=>
  simp only[A6,hop]at hres;split at hres
  ·rename_i kt et ht;split at hres
   ·rename_i kd hkt;split at hres
    ·rename_i hkk;simp only[ZD]at hres;subst hres;simp only[Ej]at hs;split at hs
     ·rename_i id gen hx;split at hs
      ·rename_i id' gen' hz;obtain⟨e,An,ss,kv,r,e',T,h1,h2,h3,h4,h5,h6,h7,h8,h9,h10,h11,h12⟩:=hs;exact Xv (.inr hop) ht hkt hkk h hx h1 h2 h3 h4 h5 hz h6 h7 h8 h9 h10 h11 (fun b cap x w' R' G' hR hV=>hK _ _ (h12 b cap) x w' R' G' hR hV)
      ·obtain⟨e,An,kv,r,h1,h2,h3,h4,h5,h6,h7⟩:=hs;exact Afs (ss:=[]) (.inr hop) ht hkt hkk h hx h1 h2 h3 h4 (h5 _ _ _ _ _ (h.val _)) h6 (fun x w' R' G' hR hV=>hK _ _ h7 x w' R' G' hR hV)
     ·exact hs.elim
    ·cases hres
   ·cases hres
  ·cases hres
 |move=>simp only[A6,hop,ZD]at hres;subst hres;exact hs.elim
 |assign=>simp only[A6,hop,ZD]at hres;subst hres;exact hs.elim
 |pick=>simp only[A6,hop,ZD]at hres;subst hres;exact hs.elim
 |extract=>simp only[A6,hop,ZD]at hres;subst hres;exact hs.elim
 |unOp op t x=>cases op<;>simp only[A6,hop,ZD,reduceCtorEq]at hres<;>subst hres<;>exact hs.elim
 |binOp op t x y t'=>
  have kn:∀(neg:Bool) (e:TypeId),op=(if neg then .neq else .eql)→P.underlying t=some (.slice e)→y=.const (.slice none 0 0)→r=.isnil neg x→o.wp P a w next Q:=fun neg e hn ht hy hr=>by
   subst hr hy;simp only[Ej]at hs;split at hs
   ·rename_i ad n cap hx;have hax:=Cd (hx▸h.val x);refine Rp hop hn ht h (fun b hb=>?_) ⟨ad,n,cap,hax⟩;rw[hb ad n cap hax];exact hK _ _ hs _ w R G h (.v _)
   ·rename_i cl rows hx;have hv:=h.val x;rw[hx]at hv;generalize hax:a.eval x=ax at hv;cases hv with
    |nil c ad cap hc=>
     refine Rp hop hn ht h (fun b hb=>hK _ _ (hs b (fun _=>rfl)) _ w R G h (.v _)) ⟨ad,0,cap,hax⟩
    |sl c rows b off cap sz f hR hcap hclip hss hcell hh=>
     refine Rp hop hn ht h (fun b' hb=>hK _ _ (hs b' (fun q=>?_)) _ w R G h (.v _)) ⟨_,_,_,hax⟩;rw[hb _ _ _ hax]at q;cases q
   ·rename_i id gen hx;obtain⟨e',h1,h2,h3⟩:=hs;obtain⟨l,xs,T0,g1,g2,g3,g4,g5,g6,hax,hT0,hop0,hbx0⟩:=h.objO (hx▸h.val x) h1 h2;rcases Fs g5 with⟨q1,q2⟩|⟨b,cap,q1,_⟩
    ·refine Rp hop hn ht h (fun b hb=>hK _ _ (h3 b (fun _=>q2)) _ w R G h (.v _)) ⟨_,_,_,hax.trans q1⟩
    ·refine Rp hop hn ht h (fun b' hb=>hK _ _ (h3 b' (fun q=>?_)) _ w R G h (.v _)) ⟨_,_,_,hax.trans q1⟩;rw[hb _ _ _ (hax.trans q1)]at q;cases q
   ·exact hs.elim
  simp only[A6,hop]at hres;split at hres
  ·rename_i e ht;split at hres
   ·simp only[ZD]at hres;exact kn false e rfl ht rfl hres.symm
   ·cases hres
  ·rename_i e ht;split at hres
   ·simp only[ZD]at hres;exact kn true e rfl ht rfl hres.symm
   ·cases hres
  all_goals first
   |(simp only[ZD]at hres;subst hres;exact hs.elim)
   |(simp only[Option.map_eq_some_iff]at hres;obtain⟨_,_,rfl⟩:=hres;exact hs.elim)
   |cases hres
 |makeFunc fn first caps=>cases fn<;>simp only[A6,hop,reduceCtorEq]at hres<;>split at hres<;>first|(simp only[ZD]at hres;subst hres;exact hs.elim)|cases hres
 |_=>
  exfalso;simp only[A6,hop,reduceCtorEq]at hres
  repeat' (split at hres)
  all_goals first
   |(cases hres;done)
   |(simp only[ZD]at hres;subst hres;exact hs.elim)
   |(simp only[Option.map_eq_some_iff]at hres;obtain⟨_,_,rfl⟩:=hres;exact hs.elim)
end
end Go.Proofs.YtchbkgnobpejnaaGreatDoor
