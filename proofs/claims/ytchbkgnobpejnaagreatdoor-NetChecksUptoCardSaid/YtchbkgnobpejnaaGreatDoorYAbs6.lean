/- The framework: part of this claim. -/
import Derived.Test.YtchbkgnobpejnaaGreatDoorYAbs5
set_option linter.unusedSimpArgs false
set_option linter.unusedVariables false
namespace Go.Proofs.YtchbkgnobpejnaaGreatDoor
open Go.RowKit
section
variable {P:Program} {st:St} {a:Act} {w w':World} {R:Nat→Prop} {G:Nat→Option Loc} {o:Oper} {Q:Exit→Act→World→Prop} {d:Nat} {u:V} {dH:List (Nat×Option Ent)}
theorem Xe(off:Nat):∀(vs:List Value) (k:Nat) (cells:Array Value),off+k+vs.length≤cells.size→
  ((vs.zipIdx k).foldl (fun cs (p:Value×Nat)=>cs.setIfInBounds (off+p.2) p.1) cells).toList=cells.toList.take (off+k)++vs++cells.toList.drop (off+k+vs.length)
 |[],k,cells,h=>by simp
 |v::vs,k,cells,h=>by
  simp only[ZJ]at h;rw[List.zipIdx_cons,List.foldl_cons,Xe off vs (k+1) _ (by simp;omega)];simp only[Array.toList_setIfInBounds,ZJ];have h1:(cells.toList.set (off+k) v).take (off+(k+1))=cells.toList.take (off+k)++[v]:=by
   rw[show off+(k+1)=(off+k)+1 by omega,List.take_succ_eq_append_getElem (by simp;omega)];simp[List.take_set_of_le]
  have h2:(cells.toList.set (off+k) v).drop (off+(k+1)+vs.length)=cells.toList.drop (off+k+(vs.length+1)):=by
   rw[List.drop_set_of_lt (by omega)];congr 1;omega
  rw[h1,h2];simp
def Lg(w:World)(R:Nat→Prop)(G:Nat→Option Loc)(us:List V)(xs:List Value):Prop:=us.length=xs.length∧∀(i:Nat) (u:V),us[i]? =some u→∃x,xs[i]? =some x∧x.oneCell'=true∧RV w R G u x
theorem D6{α:Type}(xs vs:List α)(off i:Nat)(h:off+vs.length≤xs.length):(xs.take off++vs++xs.drop (off+vs.length))[i]? =if off≤i∧i<off+vs.length then vs[i-off]? else xs[i]? :=by
 have hlt:(xs.take off).length=off:=by simp;omega
 by_cases h1:i<off
 ·rw[if_neg (by omega),ZS,ZQ (by omega),XA h1]
 ·by_cases h2:i<off+vs.length
  ·rw[if_pos ⟨by omega,h2⟩,ZS,ZP (by omega),hlt,ZQ (by omega)]
  ·rw[if_neg (by omega),ZP (by simp;omega),List.getElem?_drop];congr 1;simp;omega
theorem Dg{α:Type}(xs vs:List α)(off:Nat)(h:off+vs.length≤xs.length):(xs.take off++vs++xs.drop (off+vs.length)).length=xs.length:=by
 simp;omega
theorem Lg.put{us vs:List V}{xs ys:List Value}{off:Nat}(h:Lg w R G us xs)(k:Lg w R G vs ys)(hb:off+vs.length≤us.length):Lg w R G (Lh us off vs) (xs.take off++ys++xs.drop (off+ys.length)):=by
 unfold Lh;have e1:=h.1;have e2:=k.1;refine⟨by rw[Dg _ _ _ hb,Dg _ _ _ (by omega),e1],fun i u hu=>?_⟩;rw[D6 _ _ _ _ hb]at hu;rw[D6 _ _ _ _ (by omega),←e2];split at hu
 ·rename_i hi;rw[if_pos hi];exact k.2 _ u hu
 ·rename_i hi;rw[if_neg hi];exact h.2 _ u hu
theorem Vw[Glob]{c:Ctx}(h:Ac c st a w R G){u:V}{x:Value}{cs:List V}(hc:Eb u=some cs)(hr:RV w R G u x)(h1:Hl st.H cs):Lg w R G cs x.cells.toList:=by
 obtain⟨e1,e2⟩:=Z3 h hc hr h1;exact⟨e1.symm,e2⟩
theorem Nv[Glob]{c:Ctx}(h:Ac c st a w R G){fs:Array Field}{places:Nat→Option (Nat×Nat)}(hpl:∀k f i,fs[k]? =some f→P.info? f.type=some i→places k=some (f.offset,i.size)):
  ∀(ps:List (Nat×Operand)) (rps:List (Nat×Nat×Operand)) (us:List V) (cells:Array Value) {us':List V},Px P fs ps=some rps→Lg w R G us cells.toList→Gb st.env st.H us rps (fun x=>x=us')→
   ∃cells',Instr.fill places cells (ps.map fun(i,x)=>(i,a.eval x))=some cells'∧Lg w R G us' cells'.toList
 |[],rps,us,cells,us',hp,hc,hf=>by
  simp only[Px,ZD]at hp;subst hp;simp only[Gb]at hf;subst hf;exact⟨cells,rfl,hc⟩
 |(k,x)::ps,rps,us,cells,us',hp,hc,hf=>by
  simp only[Px,Option.bind_eq_bind,XS]at hp;obtain⟨f,hfk,i,hi,r,hr,he⟩:=hp;simp only[ZD]at he;subst he;simp only[Gb]at hf;split at hf
  ·rename_i vs hvs;obtain⟨h1,h2,h3,h4⟩:=hf;have hcv:=Vw h hvs (h.val x) h3;have hsz:(a.eval x).cells.size=i.size:=by have:=hcv.1;simp at this;omega
   have hsz2:f.offset+(a.eval x).cells.size≤cells.size:=by have:=hc.1;simp at this;omega
   simp only[List.map_cons,Instr.fill,hpl k f i hfk hi];rw[if_neg (by simp[hsz];omega)];have hfold:=Xe f.offset (a.eval x).cells.toList 0 cells (by simpa using hsz2);have hput:=Lg.put (off:=f.offset) hc hcv (by omega);refine Nv h hpl ps r (Lh us f.offset vs) _ hr ?_ h4;simp only[Nat.add_zero]at hfold;have e:((a.eval x).cells.zipIdx.foldl (fun cs (p:Value×Nat)=>cs.setIfInBounds (f.offset+p.2) p.1) cells).toList=cells.toList.take f.offset++(a.eval x).cells.toList++cells.toList.drop (f.offset+(a.eval x).cells.toList.length):=by
    rw[←hfold,←Array.foldl_toList];simp
   show Lg w R G _ (((a.eval x).cells.zipIdx.foldl (fun cs (p:Value×Nat)=>cs.setIfInBounds (f.offset+p.2) p.1) cells)).toList;rw[e];exact hput
  ·exact hf.elim
theorem Ads{fs:Array Field}(hall:∀f∈fs.toList,(P.info? f.type).isSome=true):∃pl:Array (Nat×Nat),(fs.mapM fun(f:Field)=>(do pure (f.offset,←sizeOf f.type):Sem (Nat×Nat))).run P w=.ok pl w∧∀(k:Nat) (f:Field) (i:TypeInfo),fs[k]? =some f→P.info? f.type=some i→pl[k]? =some (f.offset,i.size):=by
 have key:∀(l:List Field),(∀f∈l,(P.info? f.type).isSome=true)→∃pl:List (Nat×Nat),(l.mapM fun(f:Field)=>(do pure (f.offset,←sizeOf f.type):Sem (Nat×Nat))).run P w=.ok pl w∧∀(k:Nat) (f:Field) i,l[k]? =some f→P.info? f.type=some i→pl[k]? =some (f.offset,i.size):=by
  intro l
  induction l with
  |nil=>intro _;exact⟨[],by simp,fun k f i h=>by simp at h⟩
  |cons f l ih=>
   intro hl;obtain⟨pl,h1,h2⟩:=ih (fun g hg=>hl g (ZL _ hg));obtain⟨i,hi⟩:=Option.isSome_iff_exists.1 (hl f (XB ..));refine⟨(f.offset,i.size)::pl,?_,?_⟩
   ·rw[List.mapM_cons];simp only[Sem.run_bind,sizeOf,typeInfo,run_program,Result.andThen_ok,hi,Sem.run_pure];simp only[sizeOf,typeInfo]at h1;rw[h1];rfl
   ·intro k g j hk hj;cases k with
    |zero=>simp at hk;subst hk;rw[hi]at hj;injection hj with hj;subst hj;rfl
    |succ k=>exact h2 k g j (by simpa using hk) hj
 obtain⟨pl,h1,h2⟩:=key fs.toList hall;refine⟨pl.toArray,?_,fun k f i hk hi=>by simpa using h2 k f i (by simpa using hk) hi⟩;rw[Array.mapM_eq_mapM_toList,Sem.run_map,h1];rfl
theorem Anm[Glob]{c:Ctx}{t:TypeId}{ps:Array (Nat×Operand)}{fs:Array Field}{i:TypeInfo}{z:Value}{rps:List (Nat×Nat×Operand)}{us:List V}(ho:o.op=.build t ps)(hi:P.info? t=some i)(hz:i.zero=some z)(ht:P.underlying t=some (.struct fs))(hall:fs.toList.all (fun f=>(P.info? f.type).isSome)=true)(hp:Px P fs ps.toList=some rps)(hzc:Gp z=true)(h:Ac c st a w R G)(hf:Gb st.env st.H (z.cells.toList.map .v) rps (fun x=>x=us)):
  C2 P c st a w G o Q d (.agg us) []:=by
 obtain⟨pl,hpl,hpl2⟩:=Ads (P:=P) (w:=w) (fun f hf=>List.all_eq_true.1 hall f hf);have h0:Lg w R G (z.cells.toList.map .v) z.cells.toList:=by
  refine⟨by simp,fun k u hu=>?_⟩;rw[XJ]at hu;cases hq:z.cells.toList[k]? with
  |none=>rw[hq]at hu;cases hu
  |some y=>
   rw[hq]at hu;simp at hu;subst hu;exact⟨y,rfl,List.all_eq_true.1 hzc y (ZH hq),.v y⟩
 obtain⟨cells',h1,h2⟩:=Nv h (places:=fun k=>pl[k]?) hpl2 ps.toList rps _ z.cells hp h0 hf;refine Ay h (x:=.agg cells') ?_ ?_
 ·unfold execOp;rw[ho];refine Dh _ ?_;have hmap:(ps.map fun(x:Nat×Operand)=>(x.1,a.eval x.2)).toList=ps.toList.map fun(i,x)=>(i,a.eval x):=by simp
  unfold Instr.build;simp only[zeroValue,typeInfo,Sem.run_bind,run_program,Result.andThen_ok,hi,Sem.run_pure,hz,run_underlying ht,hpl];rw[hmap,h1];rfl
 ·have e:cells'=cells'.toList.toArray:=by simp
  rw[e];exact .agg us cells'.toList h2.1 fun k u x hu hx=>by
   obtain⟨x',g1,_,g2⟩:=h2.2 k u hu;rw[hx]at g1;injection g1 with g1;subst g1;exact g2
theorem Qg[Glob]{c:Ctx}(h:Ac c st a w R G){sz:Nat}(hsz:0<sz):
  ∀(ps:List (Nat×Operand)) (rows:List (List V)) (cells:Array Value) {rows':List (List V)},cells.size=rows.length*sz→Ch w R G cells.toList sz rows→F9 st.env st.H sz rows ps (fun x=>x=rows')→
   ∃cells',Instr.fill (fun i=>some (i*sz,sz)) cells (ps.map fun(i,x)=>(i,a.eval x))=some cells'∧cells'.size=rows'.length*sz∧Ch w R G cells'.toList sz rows'
 |[],rows,cells,rows',hs,hr,hf=>by
  simp only[F9]at hf;subst hf;exact⟨cells,rfl,hs,hr⟩
 |(k,x)::ps,rows,cells,rows',hs,hr,hf=>by
  simp only[F9]at hf;split at hf
  ·rename_i vs hvs;obtain⟨h1,h2,h3,h4⟩:=hf;have hcv:=Vw h hvs (h.val x) h3;have hcs:(a.eval x).cells.size=sz:=by have:=hcv.1;simp at this;omega
   have hkk:k*sz+sz≤rows.length*sz:=by
    have:(k+1)*sz≤rows.length*sz:=XG _ h2;rw[Nat.add_mul]at this;omega
   simp only[List.map_cons,Instr.fill];rw[if_neg (by simp[hcs];omega)];have hfold:=Xe (k*sz) (a.eval x).cells.toList 0 cells (by simp[hcs];omega);simp only[Nat.add_zero]at hfold;have e:((a.eval x).cells.zipIdx.foldl (fun cs (p:Value×Nat)=>cs.setIfInBounds (k*sz+p.2) p.1) cells).toList=cells.toList.take (k*sz)++(a.eval x).cells.toList++cells.toList.drop (k*sz+(a.eval x).cells.toList.length):=by
    rw[←hfold,←Array.foldl_toList];simp
   refine Qg h hsz ps (rows.set k vs) _ ?_ ?_ h4
   ·show(((a.eval x).cells.zipIdx.foldl (fun cs (p:Value×Nat)=>cs.setIfInBounds (k*sz+p.2) p.1) cells)).size=_;rw[←Array.length_toList,e,Dg _ _ _ (by simp[hcs];omega)];simpa using hs
   ·show Ch w R G (((a.eval x).cells.zipIdx.foldl (fun cs (p:Value×Nat)=>cs.setIfInBounds (k*sz+p.2) p.1) cells)).toList sz _;rw[e];refine⟨fun row hrow=>?_,fun i j row u hi hj=>?_⟩
    ·rcases List.mem_or_eq_of_mem_set hrow with q|q
     ·exact hr.1 row q
     ·rw[q];exact h1
    ·have hjs:j<sz:=by
      have:=(ZB.1 hj).1;have hl:row.length=sz:=by
       rcases List.mem_or_eq_of_mem_set (ZH hi)with q|q
       ·exact hr.1 row q
       ·rw[q];exact h1
      omega
     rw[D6 _ _ _ _ (by simp[hcs];omega)];simp only[Array.length_toList,hcs];by_cases hik:i=k
     ·subst hik;rw[if_pos ⟨by omega,by omega⟩];rw[List.getElem?_set_self h2]at hi;injection hi with hi;subst hi
      rw[show i*sz+j-i*sz=j by omega];exact hcv.2 j u hj
     ·rw[List.getElem?_set_ne (fun e=>hik e.symm)]at hi;rw[if_neg ?_]
      ·exact hr.2 i j row u hi hj
      ·rintro ⟨g1,g2⟩
       rcases Nat.lt_or_ge i k with g|g
       ·have:(i+1)*sz≤k*sz:=XG _ g;rw[Nat.add_mul]at this;omega
       ·have:(k+1)*sz≤i*sz:=XG _ (by omega);rw[Nat.add_mul]at this;omega
  ·exact hf.elim
theorem Au5[Glob]{c:Ctx}{g:Nat→Nat}{id:Nat}{t e:TypeId}{n:Nat}{ps:Array (Nat×Operand)}{i:TypeInfo}{z:Value}{rows:List (List V)}(hid:id/16=d)(hgen:∀l0,G id=some l0→l0.gen<g id)(ho:o.op=.buildSlice t n ps)(ht:P.underlying t=some (.slice e))(hi:P.info? e=some i)(hz:i.zero=some z)(h0:0<i.size)(hzs:z.cells.size=i.size)(hmax:n*i.size≤16777216)(hzc:Gp z=true)(h:Ac c st a w R G)(hf:F9 st.env st.H i.size (List.replicate n (z.cells.toList.map .v)) ps.toList (fun x=>x=rows)):
  C2 P c st a w G o Q d (.own id (g id)) [(id,some ⟨g id,.t e,i.size,rows⟩)]:=by
 have hlen:∀(ps:List (Nat×Operand)) (r r':List (List V)),F9 st.env st.H i.size r ps (fun x=>x=r')→r'.length=r.length:=by
  intro ps
  induction ps with
  |nil=>intro r r' hf;simp only[F9]at hf;subst hf;rfl
  |cons p ps ih=>
   intro r r' hf;simp only[F9]at hf;split at hf
   ·rw[ih _ _ hf.2.2.2];simp
   ·exact hf.elim
 have hrl:rows.length=n:=by rw[hlen _ _ _ hf];simp
 have h1:((Array.range (n*i.size)).map (fun k=>z.cells[k%z.cells.size]!)).size=(List.replicate n (z.cells.toList.map V.v)).length*i.size:=by simp
 have h2:Ch w R G ((Array.range (n*i.size)).map (fun k=>z.cells[k%z.cells.size]!)).toList i.size (List.replicate n (z.cells.toList.map V.v)):=by
  refine⟨fun row hrow=>by rw[List.mem_replicate]at hrow;rw[hrow.2];simpa using hzs,fun k j row u hk hj=>?_⟩;have hkn:k<n:=by have:=(ZB.1 hk).1;simpa using this
  rw[List.getElem?_replicate_of_lt hkn]at hk;injection hk with hk;subst hk
  rw[XJ]at hj;cases hq:z.cells.toList[j]? with
  |none=>rw[hq]at hj;cases hj
  |some y=>
   rw[hq]at hj;simp at hj;subst hj;have hjz:j<z.cells.size:=by have:=(ZB.1 hq).1;simpa using this
   have hbd:k*i.size+j<n*i.size:=by
    have:(k+1)*i.size≤n*i.size:=XG _ hkn;rw[Nat.add_mul]at this;omega
   refine⟨y,?_,List.all_eq_true.1 hzc y (ZH hq),.v y⟩;have e1:(k*i.size+j)%z.cells.size=j:=by rw[hzs,Nat.mul_comm,Nat.mul_add_mod];exact Nat.mod_eq_of_lt (by omega)
   have e2:z.cells[j]! =y:=by
    have:z.cells[j]? =some y:=by simpa using hq
    rw[getElem!_def,this]
   simp[hbd,e1,e2]
 obtain⟨cells',g1,g2,g3⟩:=Qg h h0 ps.toList _ _ h1 h2 hf;refine Sf (cur:=cells') (x:=.slice (some ⟨w.heap.size,0,none⟩) n n) (box:=false) (.inl rfl) hid hgen h h0 g2 (by rw[hrl];have:n≤n*i.size:=Nat.le_mul_of_pos_right n h0;simp only[maxLen];omega) g3 ?_ ?_
 ·unfold execOp;rw[ho];refine Dh _ ?_;have hmap:(ps.map fun(x:Nat×Operand)=>(x.1,a.eval x.2)).toList=ps.toList.map fun(i,x)=>(i,a.eval x):=by simp
  unfold Instr.buildSlice;simp only[Sem.run_bind,run_underlying ht,Result.andThen_ok,sizeOf,typeInfo,run_program,hi,Sem.run_pure];rw[if_neg (by simpa using hmax)];rw[hmap];by_cases hn:n*i.size=0
  ·have hn0:n=0:=by
    rcases Nat.mul_eq_zero.1 hn with q|q
    ·exact q
    ·omega
   subst hn0;simp only[Nat.zero_mul,if_true,pure_bind];simp only[Nat.zero_mul]at g1;have e0:((Array.range 0).map fun k=>z.cells[k%z.cells.size]!)=((Array.range 0).map fun k=>(#[]:Array Value)[k%(#[]:Array Value).size]!):=by simp
   rw[e0]at g1;rw[g1];simp[newRow]
  ·rw[if_neg hn];simp only[zeroValue,typeInfo,Sem.run_bind,run_program,Result.andThen_ok,hi,Sem.run_pure,hz];rw[g1];simp[newRow]
 ·intro G' hG';refine .own _ _ _ hG' (ZT _) _ fun _=>⟨?_,rfl⟩;rw[hrl]
theorem Ase[Glob]{c:Ctx}{g:Nat→Nat}{id:Nat}{t e:TypeId}{k:Nat}{kx ky:IntKind}{x y:Operand}{i:TypeInfo}{z:Value}(hid:id/16=d)(hgen:∀l0,G id=some l0→l0.gen<g id)(ho:o.op=.makeSlice t x y)(ht:P.underlying t=some (.slice e))(hi:P.info? e=some i)(hz:i.zero=some z)(h0:0<i.size)(hzs:z.cells.size=i.size)(hzc:Gp z=true)(h:Ac c st a w R G)(hx:val st.env x=.v (.int kx k))(hy:val st.env y=.v (.int ky k))(hk:k≤maxLen)(hb:k*i.bytes≤140737488355328):
  C2 P c st a w G o Q d (.own id (g id)) [(id,some ⟨g id,.t e,i.size,List.replicate k (z.cells.toList.map .v)⟩)]:=by
 have h2:Ch w R G ((Array.range (k*i.size)).map (fun j=>z.cells[j%z.cells.size]!)).toList i.size (List.replicate k (z.cells.toList.map V.v)):=by
  refine⟨fun row hrow=>by rw[List.mem_replicate]at hrow;rw[hrow.2];simpa using hzs,fun n j row u hk hj=>?_⟩;have hkn:n<k:=by have:=(ZB.1 hk).1;simpa using this
  rw[List.getElem?_replicate_of_lt hkn]at hk;injection hk with hk;subst hk
  rw[XJ]at hj;cases hq:z.cells.toList[j]? with
  |none=>rw[hq]at hj;cases hj
  |some y=>
   rw[hq]at hj;simp at hj;subst hj;have hjz:j<z.cells.size:=by have:=(ZB.1 hq).1;simpa using this
   have hbd:n*i.size+j<k*i.size:=by
    have:(n+1)*i.size≤k*i.size:=XG _ hkn;rw[Nat.add_mul]at this;omega
   refine⟨y,?_,List.all_eq_true.1 hzc y (ZH hq),.v y⟩;have e1:(n*i.size+j)%z.cells.size=j:=by rw[hzs,Nat.mul_comm,Nat.mul_add_mod];exact Nat.mod_eq_of_lt (by omega)
   have e2:z.cells[j]! =y:=by
    have:z.cells[j]? =some y:=by simpa using hq
    rw[getElem!_def,this]
   simp[hbd,e1,e2]
 have eax:a.eval x=.int kx k:=Cd (hx▸h.val x);have eay:a.eval y=.int ky k:=Cd (hy▸h.val y);have hw:IntKind.i64.wrap (k:Int)=k:=IntWalk.i64_in k ⟨by omega,by simp only[maxLen]at hk;omega⟩;have hbi:¬((i.bytes:Int)*(k:Int)>2^48):=by
  have:(i.bytes:Int)*(k:Int)=((k*i.bytes:Nat):Int):=by rw[Nat.mul_comm];simp
  rw[this];omega
 refine Sf (cur:=(Array.range (k*i.size)).map (fun j=>z.cells[j%z.cells.size]!)) (x:=.slice (some ⟨w.heap.size,0,none⟩) k k) (box:=false) (.inl rfl) hid hgen h h0 (by simp) (by simpa using hk) h2 ?_ ?_
 ·unfold execOp;rw[ho];refine Dh _ ?_;rw[eax,eay];unfold Instr.makeSlice;have hneg:¬(k:Int)<0:=by omega
  simp only[Sem.run_bind,run_underlying ht,Result.andThen_ok,asInt,asIntOf,sizeOf,typeInfo,run_program,hi,Sem.run_pure,hw];by_cases hn:k*i.size=0
  ·have hn0:k=0:=by
    rcases Nat.mul_eq_zero.1 hn with q|q
    ·exact q
    ·omega
   subst hn0;simp[newRow,typeInfo,hi];have e0:∀f g:Nat→Value,(Array.range 0).map f=(Array.range 0).map g:=fun f g=>by simp
   exact congrArg (fun c=>w.alloc (Obj.cells c e)) (e0 _ _)
  ·simp[hneg,hn,zeroValue,typeInfo,hi,hz,newRow];intro hc;exact absurd hc (by have:=hbi;omega)
 ·intro G' hG';refine .own _ _ _ hG' (ZT _) _ fun _=>⟨?_,rfl⟩;rw[List.length_replicate]
end
end Go.Proofs.YtchbkgnobpejnaaGreatDoor
