/- The framework: part of this claim. -/
import Derived.Test.YtchbkgnobpejnaaGreatDoorYAbs7
import Derived.MapKept
import Derived.Lib.ConvBytes
import Derived.Laws.BytesArg
set_option linter.unusedSimpArgs false
set_option linter.unusedVariables false
namespace Go.Proofs.YtchbkgnobpejnaaGreatDoor
open Go.RowKit
section
variable {P:Program} {st:St} {a:Act} {w w':World} {R:Nat→Prop} {G:Nat→Option Loc} {o:Oper} {Q:Exit→Act→World→Prop} {d:Nat} {u:V} {dH:List (Nat×Option Ent)}
def Ask(w:World)(R:Nat→Prop)(G:Nat→Option Loc)(An:List (Value×V))(x:Value)(es:Array MapEntry):Prop:=
 ((x=.map none∧es= #[])∨∃b clock,x=.map (some b)∧w.heap[b]? =some (.map es clock))∧es.size=An.length∧
  ∀(i:Nat) (e:MapEntry) (p:Value×V),es[i]? =some e→An[i]? =some p→e.key=p.1∧RV w R G p.2 e.val
theorem Ac.objQ[Glob]{c:Ctx}(h:Ac c st a w R G){id gen:Nat}{e:Ent}{x:Value}{I:Opq}(hx:RV w R G (.obj id gen) x)(he:st.H id=some e)(hg:e.gen=gen)(hT:e.T=.q I):
  ∃l F,G id=some l∧l.gen=gen∧l.op=some F∧l.box=true∧e.rows=[]∧I.inv w R x F∧x=pv l.val:=by
 cases hx with
 |obj id gen l hG hg' x hx=>
  have:=h.hr.le id e l he hG;have h2:l.gen=e.gen:=by omega
  have h3:=h.hr.obj id e l he hG h2;have hx1:=hx (by omega);obtain⟨g,T,sz,rows⟩:=e;subst hT;obtain⟨F,k1,k2,k3,k4⟩:=h3;exact⟨l,F,hG,by omega,k1,k2,k3,hx1▸k4,hx1⟩
theorem Ac.objM[Glob]{c:Ctx}(h:Ac c st a w R G){id gen b n cap:Nat}{e:Ent}{x:Value}{I:Opq}(hx:RV w R G (.inm id gen b n cap) x)(he:st.H id=some e)(hg:e.gen=gen)(hT:e.T=.q I):
  ∃l F,G id=some l∧l.gen=gen∧l.op=some F∧l.box=true∧e.rows=[]∧I.inv w R (pv l.val) F∧x=.slice (some ⟨b,0,none⟩) n cap:=by
 cases hx with
 |inm id gen b n cap l hG hg'=>
  obtain⟨l',F,k1,k2,k3,k4,k5,k6,k7⟩:=h.objQ (.obj id gen l hG hg' (pv l.val) fun _=>rfl) he hg hT;have:l'=l:=by rw[hG]at k1;injection k1 with k1;exact k1.symm
  subst this;exact⟨l',F,k1,k2,k3,k4,k5,k6,rfl⟩
theorem Alq[Glob]{c:Ctx}(h:Ac c st a w R G){v:V}{x:Value}{An:List (Value×V)}(hv:RV w R G v x)(he:Ld st.H v An):∃es,Ask w R G An x es:=by
 unfold Ld at he;split at he
 ·obtain⟨e,h1,h2,I,h3,h4⟩:=he;obtain⟨l,F,k1,k2,k3,k4,k5,k6,k7⟩:=h.objQ hv h1 h2 h3;obtain⟨b,clock,es,m1,m2,m3,m5⟩:=I.vok h4 k6;exact⟨es,.inr ⟨b,clock,m1,m2⟩,m3,fun i e p q1 q2=>⟨(m5 i e p q1 q2).1,W5 (m5 i e p q1 q2).2⟩⟩
 ·subst he;cases hv with
  |rmap An b clock es hR hb hl hk hv=>exact⟨es,.inr ⟨b,clock,rfl,hb⟩,hl,fun i e p q1 q2=>⟨hk i e p q1 q2,hv i e p q1 q2⟩⟩
 ·subst he;rw[Cd hv];exact⟨#[],.inl ⟨rfl,rfl⟩,rfl,fun i e p q1=>by simp at q1⟩
 ·exact he.elim
theorem Q2{kind:TypeDesc}{k:Value}:∀(es:List MapEntry) (An:List (Value×V)) (i:Nat),es.length=An.length→(∀(j:Nat) (e:MapEntry) (p:Value×V),es[j]? =some e→An[j]? =some p→e.key=p.1)→∀r,Gk kind k An i=some r→
  ∃s,Instr.findNow kind k es i=some s∧(r=none→s=none)∧∀j u,r=some (j,u)→∃x,s=some (j,x)∧i≤j∧∃e p,es[j-i]? =some e∧An[j-i]? =some p∧x=e.val∧u=p.2
 |[],[],i,_,_,r,h=>by
  simp only[Gk,ZD]at h;subst h;exact⟨none,rfl,fun _=>rfl,fun j u h=>by cases h⟩
 |e::es,(a,v)::An,i,hl,hk,r,h=>by
  have hka:e.key=a:=hk 0 e (a,v) rfl rfl;simp only[Gk]at h;simp only[Instr.findNow,hka];split at h
  ·rename_i hs;simp only[ZD]at h;subst h;rw[hs];exact⟨_,rfl,fun h=>(by cases h),fun j u h=>by
    simp only[ZD,Prod.mk.injEq]at h;obtain⟨rfl,rfl⟩:=h;exact⟨_,rfl,ZT _,e,(a,v),by simp,by simp,rfl,rfl⟩⟩
  ·rename_i hs;rw[hs];obtain⟨s,h1,h2,h3⟩:=Q2 es An (i+1) (by simpa using hl) (fun j e p q1 q2=>hk (j+1) e p (by simpa using q1) (by simpa using q2)) r h;refine⟨s,h1,h2,fun j u hr=>?_⟩;obtain⟨x,k1,k2,e',p',k3,k4,k5,k6⟩:=h3 j u hr;have e1:j-i=(j-(i+1))+1:=by omega
   exact⟨x,k1,by omega,e',p',by rw[e1];simpa using k3,by rw[e1];simpa using k4,k5,k6⟩
  ·cases h
theorem run_findKey{t:TypeId}{kind:TypeDesc}{k:Value}{es:List MapEntry}{s:Option (Nat×Value)}(ht:P.underlying t=some kind)(h:Instr.findNow kind k es 0=some s):(Instr.findKey t k es).run P w=.ok s w:=by
 simp[Instr.findKey,run_underlying ht,h]
theorem run_checkKey{em:Bool}{n:Nat}{t:TypeId}{kind:TypeDesc}{v:Value}(ht:P.underlying t=some kind)(hk:Iu kind=true):(Instr.checkKey em (n+1) t v).run P w=.ok () w:=by
 simp only[Instr.checkKey,Sem.run_bind,run_underlying ht,Result.andThen_ok];unfold Iu at hk;split at hk<;>first|(cases hk;done)|(cases v<;>simp)
theorem Aqx{v u:V}{x y:Value}(hv:RV w R G v x)(hu:RV w R G u y):RV w R G (wit v u) y:=by
 unfold wit;split
 ·rename_i id gen;split
  ·rename_i b n cap;have:=Cd hu;subst this;cases hv with
   |obj id gen l hG hg x hx=>exact .inm id gen b n cap l hG hg
  ·exact hu
 ·exact hu
theorem Ao2[Glob]{c:Ctx}{t kt et:TypeId}{x y:Operand}{ok:Bool}{kind:TypeDesc}{i:TypeInfo}{z:Value}{An:List (Value×V)}{kv:Value}{r:Option (Nat×V)}(ho:o.op=.lookup t x y ok)(ht:P.underlying t=some (.map kt et))(hkt:P.underlying kt=some kind)(hkk:Iu kind=true)(hi:P.info? et=some i)(hz:i.zero=some z)(h:Ac c st a w R G)(he:Ld st.H (val st.env x) An)(hy:val st.env y=.v kv)(hf:Gk kind kv An 0=some r):
  C2 P c st a w G o Q d (Ahe (val st.env x) ok z r) []:=by
 obtain⟨es,h1,h2,h3⟩:=Alq h (h.val x) he;have e2:a.eval y=kv:=Cd (hy▸h.val y);obtain⟨s,g1,g2,g3⟩:=Q2 es.toList An 0 (by simpa using h2) (fun j e p q1 q2=>(h3 j e p (by simpa using q1) q2).1) r hf;have hrun:∀(val:Value) (b:Bool),(s=none→val=z∧b=false)→(∀j x,s=some (j,x)→val=x∧b=true)→(execOp a.eval o).run P w=.ok (.value (if ok then .tuple #[val,.bool b]else val)) w:=fun val b q1 q2=>by
  unfold execOp;rw[ho];refine Dh _ ?_;have hck:=fun em=>run_checkKey (P:=P) (w:=w) (em:=em) (n:=9999) (v:=kv) hkt hkk;have hget:(Instr.lookup t (a.eval x) (a.eval y) ok).run P w=(do
    let (v,b')←match s with
     |some (_,v)=>pure (v,true)
     |none=>pure (←zeroValue et,false)
    pure (if ok then .tuple #[v,.bool b']else v):Sem Value).run P w:=by
   rw[e2];rcases h1 with⟨hx,rfl⟩|⟨b,clock,hx,hb⟩
   ·simp only[Instr.lookup,hx,Sem.run_bind,run_underlying ht,Result.andThen_ok,Sem.run_pure,hck,run_findKey hkt g1];rfl
   ·simp only[Instr.lookup,hx,Sem.run_bind,run_underlying ht,Result.andThen_ok,Sem.run_pure,Go.MapKept.run_getObj_map hb,hck,run_findKey hkt g1];rfl
  rw[hget];cases s with
  |none=>
   obtain⟨rfl,rfl⟩:=q1 rfl;simp[zeroValue,typeInfo,hi,hz]
  |some p=>
   obtain⟨j,x⟩:=p;obtain⟨rfl,rfl⟩:=q2 j x rfl;simp
 cases r with
 |none=>
  have hs:=g2 rfl;have:=hrun z false (fun _=>⟨rfl,rfl⟩) (fun j x e=>by rw[hs]at e;cases e);cases ok with
  |true=>exact Ay h this (.tup _ [z,.bool false] rfl (fun i u x q1 q2=>by
    match i with
    |0=>simp at q1 q2;subst q1 q2;exact .v _
    |1=>simp at q1 q2;subst q1 q2;exact .v _
    |i+2=>simp at q1))
  |false=>exact Ay h this (.v _)
 |some p=>
  obtain⟨j,u⟩:=p;obtain⟨x',hs,_,e,p,k3,k4,rfl,rfl⟩:=g3 j u rfl;have:=hrun e.val true (fun q=>by rw[hs]at q;cases q) (fun j' x e'=>by rw[hs]at e';simp at e';exact⟨e'.2,rfl⟩);have hrv:=(h3 (j-0) e p (by simpa using k3) k4).2;cases ok with
  |true=>exact Ay h this (.tup _ [e.val,.bool true] rfl (fun i u x q1 q2=>by
    match i with
    |0=>simp at q1 q2;subst q1 q2;exact hrv
    |1=>simp at q1 q2;subst q1 q2;exact .v _
    |i+2=>simp at q1))
  |false=>exact Ay h this (Aqx (h.val x) hrv)
theorem Aq4[Glob]{c:Ctx}{arg:Operand}{t k e:TypeId}{cl:Call}{An:List (Value×V)}(ho:o.op=.call cl)(hc:cl.callee=.builtin .len)(ha:cl.args.toList=[arg])(hat:cl.argTypes.toList=[t])(ht:P.underlying t=some (.map k e))(h:Ac c st a w R G)(he:Ld st.H (val st.env arg) An):
  C2 P c st a w G o Q d (.v (.int .i64 An.length)) []:=by
 obtain⟨es,h1,h2,h3⟩:=Alq h (h.val arg) he;have ha':cl.args= #[arg]:=by apply Array.ext';simpa using ha
 have hat':cl.argTypes= #[t]:=by apply Array.ext';simpa using hat
 refine Ay h ?_ (.v _);unfold execOp;rw[ho];rcases h1 with⟨hx,rfl⟩|⟨b,clock,hx,hb⟩
 ·have:An.length=0:=by simpa using h2.symm
  simp[resolve,hc,ha',hat',invoke,builtin,Builtin.len_,run_underlying ht,hx,goInt,this]
 ·simp[resolve,hc,ha',hat',invoke,builtin,Builtin.len_,run_underlying ht,hx,goInt,Go.MapKept.run_getObj_map hb,h2]
theorem Aap{kind:TypeDesc}{a b:Value}(hk:Iu kind=true)(h:Instr.sameNow kind a b=some true):Instr.sameBits 10000 b a=true:=by
 unfold Instr.sameNow at h;split at h
 ·split at h
  ·rename_i hkk;subst hkk;simp only[ZD,ZR]at h;subst h;simp[Instr.sameBits]
  ·cases h
 ·simp only[ZD]at h;have h:=(Go.MapKept.bytes_beq _ _).1 h;subst h;simp[Instr.sameBits,Go.MapKept.bytes_beq]
 ·cases hk
 ·cases h
theorem W0{kind:TypeDesc}{k:Value}:∀(An:List (Value×V)) (i j:Nat) (u:V),Gk kind k An i=some (some (j,u))→i≤j∧∃p,An[j-i]? =some p∧Instr.sameNow kind k p.1=some true
 |[],i,j,u,h=>by simp[Gk]at h
 |(a,v)::An,i,j,u,h=>by
  simp only[Gk]at h;split at h
  ·rename_i hs;simp only[ZD,Prod.mk.injEq]at h;obtain⟨rfl,rfl⟩:=h;exact⟨ZT _,(a,v),by simp,hs⟩
  ·obtain⟨h1,p,h2,h3⟩:=W0 An (i+1) j u h;exact⟨by omega,p,by rw[show j-i=(j-(i+1))+1 by omega];simpa using h2,h3⟩
  ·cases h
theorem Afs[Glob]{c:Ctx}{t kt et:TypeId}{x y z:Operand}{kind:TypeDesc}{id gen:Nat}{e:Ent}{An:List (Value×V)}{ss:List SE}{kv:Value}{vv:V}{r:Option (Nat×V)}{next:Act→World→Prop}(ho:o.op=.mapUpdate t x y z∨o.op=.insert t x y z)(ht:P.underlying t=some (.map kt et))(hkt:P.underlying kt=some kind)(hkk:Iu kind=true)(h:Ac c st a w R G)(hx:val st.env x=.obj id gen)(he:st.H id=some e)(hg:e.gen=gen)(hT:e.T=.q (Mo An ss))(hy:val st.env y=.v kv)(hvr:RV w R noG vv (a.eval z))(hf:Gk kind kv An 0=some r)(hn:∀x w' R' G',Ac c {st with H:=upd st.H id (some ⟨gen,.q (Mo (Q3 An kv vv r) ss),0,[]⟩)} a w' R' G'→RV w' R' G' (.v undef) x→next (a.put o.dst x) w'):o.wp P a w next Q:=by
 obtain⟨l,F,k1,k2,k3,k4,k5,k6,k7⟩:=h.objQ (hx▸h.val x) he hg hT;obtain⟨b,clock,es,m1,m2,m3,m4,m5,m6⟩:=J8.1 k6;have e2:a.eval y=kv:=Cd (hy▸h.val y);obtain⟨s,g1,g2,g3⟩:=Q2 es.toList An 0 (by simpa using m3) (fun j e p q1 q2=>(m5 j e p (by simpa using q1) q2).1) r hf;have key:∃es' clock',(Instr.mapUpdate t (a.eval x) (a.eval y) (a.eval z)).run P w=.ok () {w with heap:=w.heap.setIfInBounds b (.map es' clock')}∧es'.size=(Q3 An kv vv r).length∧
   ∀(i:Nat) (e:MapEntry) (p:Value×V),es'[i]? =some e→(Q3 An kv vv r)[i]? =some p→e.key=p.1∧RV w R noG p.2 e.val:=by
  cases r with
  |none=>
   have hs:=g2 rfl;subst hs;refine⟨es.push ⟨kv,a.eval z,clock⟩,clock+1,?_,by simp[Q3,m3],?_⟩
   ·simp[Instr.mapUpdate,m1,e2,run_underlying ht,Go.MapKept.run_getObj_map m2,run_checkKey hkt hkk,run_findKey hkt g1,Go.MapKept.run_setObj_map _ m2,Result.andThen]
   ·intro i e p q1 q2;simp only[Q3]at q2;by_cases hi:i<es.size
    ·rw[Array.getElem?_push_lt hi]at q1;rw[ZQ (by omega)]at q2;exact m5 i e p (by rw[Array.getElem?_eq_getElem hi];exact q1) q2
    ·have hi':i=es.size:=by
      have:=(XL.1 q1).1;simp at this;omega
     subst hi';rw[ZP (by omega)]at q2;have q1':(es.push ⟨kv,a.eval z,clock⟩)[es.size]? =some ⟨kv,a.eval z,clock⟩:=by simp
     rw[q1']at q1;injection q1 with q1;subst q1
     simp[m3]at q2;subst q2;exact⟨rfl,hvr⟩
  |some p=>
   obtain⟨j,u⟩:=p;obtain⟨x',hs,_,en,pn,n1,n2,rfl,rfl⟩:=g3 j u rfl;subst hs;simp only[Nat.sub_zero]at n1 n2;have n1':es[j]? =some en:=by simpa using n1
   obtain⟨_,p',q1,q2⟩:=W0 An 0 j _ hf;simp only[Nat.sub_zero]at q1;rw[n2]at q1;injection q1 with q1;subst q1
   have hkey:=(m5 j en pn n1' n2).1;have hst:(Instr.keyThatStays en.key kv).run P w=.ok kv w:=by
    rw[hkey];simp[Instr.keyThatStays,Aap hkk q2]
   refine⟨es.modify j fun e=> {e with key:=kv,val:=a.eval z},clock,?_,by simp[Q3,m3],?_⟩
   ·simp[Instr.mapUpdate,m1,e2,run_underlying ht,Go.MapKept.run_getObj_map m2,run_checkKey hkt hkk,run_findKey hkt g1,n1',hst,Go.MapKept.run_setObj_map _ m2,Result.andThen]
   ·intro i e p r1 r2;simp only[Q3]at r2;rw[Array.getElem?_modify]at r1;by_cases hij:j=i
    ·subst hij;rw[if_pos rfl,n1']at r1;have hlt:j<An.length:=(ZB.1 n2).1;rw[List.getElem?_set_self hlt]at r2;simp at r1 r2;subst r1 r2;exact⟨rfl,hvr⟩
    ·rw[if_neg hij]at r1;rw[List.getElem?_set_ne hij]at r2;exact m5 i e p r1 r2
 obtain⟨es',clock',hrun,hsz,hents⟩:=key;have hh:=Go.MapKept.heap_set (o':=Obj.map es' clock') m2;have hgb:w.grownBy {w with heap:=w.heap.setIfInBounds b (.map es' clock')} (some b):=⟨rfl,rfl,rfl,by simp,fun k hk hne=>hh.2 k (fun e=>hne (by rw[e]))⟩;have hRR:∀k,R k→R k∧({w with heap:=w.heap.setIfInBounds b (.map es' clock')} :World).heap[k]? =w.heap[k]? :=fun k hk=>⟨hk,hh.2 k (fun e=>(h.hr.mine id _ l k he k1 (by omega) (by subst e;simp only[Loc.ft,k3];exact(m4 _).2 (.inl rfl))).1 hk)⟩;have hft:∀k,(k=b∨∃s∈ss,s.b=k)→l.ft k:=fun k hk=>by simp only[Loc.ft,k3];exact(m4 k).2 hk
 have hss:∀s∈ss,s.b≠b:=fun s hs=>(m6.1 s hs).1;have hrel:=h.setG (id:=id) (l:=⟨l.gen,l.sz,l.val,l.box,some fun k=>k=b∨∃s∈ss,s.b=k⟩) (e:=⟨gen,.q (Mo (Q3 An kv vv r) ss),0,[]⟩) (row:=some b) hgb
  (fun k hk=>⟨l,e,he,k1,by omega,by injection hk with hk;subst hk;exact hft _ (.inl rfl)⟩)
  (fun l0 h0=>.inl (by rw[k1]at h0;injection h0 with h0;subst h0;exact⟨rfl,rfl,rfl,rfl⟩)) (by show l.gen=gen;omega)
  ⟨_,rfl,k4,rfl,J8.2 ⟨b,clock',es',by rw[←k7];exact m1,hh.1,hsz,fun k=>Iff.rfl,fun i e p q1 q2=>⟨(hents i e p q1 q2).1,(hents i e p q1 q2).2.mono hRR (Gle.refl _)⟩,m6.mono hRR fun s hs=>hh.2 _ (hss s hs)⟩⟩
  (fun k hk=>.inr ⟨(h.hr.mine id _ l k he k1 (by omega) (hft k hk)).1,(h.hr.mine id _ l k he k1 (by omega) (hft k hk)).2,fun k' ek lk hne q1 q2 q3 q4=>h.hr.apart k' id ek e lk l k q1 he hne q2 k1 q3 (by omega) q4 (hft k hk)⟩)
 have hex:(execOp a.eval o).run P w=.ok .skip {w with heap:=w.heap.setIfInBounds b (.map es' clock')} :=by
  unfold execOp;rcases ho with ho|ho<;>(rw[ho];simp[hrun])
 unfold Oper.wp;rw[hex];exact hn undef _ R _ hrel (.v _)
theorem Ma[Glob]{c:Ctx}(h:Ac c st a w R G){sz:Nat}{rows:List (List V)}{v:V}{x:Value}(hv:RV w R G v x)(hs:C8 st.H sz v rows):
  (rows=[]∧∃b c',x=.slice b 0 c'∧0≤c')∨∃b off c' xs,x=.slice (some ⟨b,off,none⟩) rows.length c'∧rows≠[]∧xs.length=rows.length*sz∧(∀j y,xs[j]? =some y→w.cell? ⟨b,off+j,none⟩=some y)∧(∀y∈xs,y.oneCell'=true)∧Ch w R G xs sz rows:=by
 have hflat:∀(rows:List (List V)) (f:Nat→Nat→Value) (b off:Nat),(∀row∈rows,row.length=sz)→rows≠[]→
   (∀(i j:Nat) (row:List V) (u:V),rows[i]? =some row→row[j]? =some u→w.cell? ⟨b,off+(i*sz+j),none⟩=some (f i j)∧(f i j).oneCell'=true∧RV w R G u (f i j))→
   ∃xs:List Value,xs.length=rows.length*sz∧(∀j y,xs[j]? =some y→w.cell? ⟨b,off+j,none⟩=some y)∧(∀y∈xs,y.oneCell'=true)∧Ch w R G xs sz rows:=fun rows f b off hlen hne hc=>by
  rcases Nat.eq_zero_or_pos sz with h0|h0
  ·subst h0;refine⟨[],by simp,by simp,by simp,hlen,fun i j row u h1 h2=>?_⟩;have:=hlen row (ZH h1);have:=(ZB.1 h2).1;omega
  ·have hd:∀k,k<rows.length*sz→k/sz<rows.length∧k%sz<sz∧k/sz*sz+k%sz=k:=fun k hk=>
    ⟨Nat.div_lt_of_lt_mul (by rw[Nat.mul_comm];exact hk),Nat.mod_lt _ h0,by rw[Nat.mul_comm];exact Nat.div_add_mod k sz⟩
   have hget:∀k (hk:k<rows.length*sz),∃row u,rows[k/sz]? =some row∧row[k%sz]? =some u:=fun k hk=>by
    obtain⟨q1,q2,q3⟩:=hd k hk;refine⟨rows[k/sz],(rows[k/sz])[k%sz]'(by rw[hlen _ (ZK q1)];exact q2),ZC q1,ZC _⟩
   have hxs:∀j y,((List.range (rows.length*sz)).map fun k=>f (k/sz) (k%sz))[j]? =some y→j<rows.length*sz∧y=f (j/sz) (j%sz):=fun j y hj=>by
    have hjl:j<rows.length*sz:=by have:=(ZB.1 hj).1;simpa using this
    simp[hjl]at hj;exact⟨hjl,hj.symm⟩
   refine⟨(List.range (rows.length*sz)).map fun k=>f (k/sz) (k%sz),by simp,fun j y hj=>?_,fun y hy=>?_,hlen,fun i j row u h1 h2=>?_⟩
   ·obtain⟨hjl,rfl⟩:=hxs j y hj;obtain⟨row,u,q1,q2⟩:=hget j hjl;have:=(hc _ _ row u q1 q2).1
    rwa[(hd j hjl).2.2]at this
   ·obtain⟨j,hj,rfl⟩:=List.mem_iff_getElem.1 hy;obtain⟨hjl,e⟩:=hxs j _ (ZC hj);rw[e];obtain⟨row,u,q1,q2⟩:=hget j hjl;exact(hc _ _ row u q1 q2).2.1
   ·have hi:i<rows.length:=(ZB.1 h1).1;have hj:j<sz:=by have:=(ZB.1 h2).1;rw[hlen row (ZH h1)]at this;exact this
    have hk:i*sz+j<rows.length*sz:=by
     have:(i+1)*sz≤rows.length*sz:=XG _ hi;rw[Nat.add_mul]at this;omega
    have e1:(i*sz+j)/sz=i:=by rw[Nat.mul_comm,Nat.mul_add_div h0,Nat.div_eq_of_lt hj,Nat.add_zero]
    have e2:(i*sz+j)%sz=j:=by rw[Nat.mul_comm,Nat.mul_add_mod];exact Nat.mod_eq_of_lt hj
    refine⟨f i j,by simp[hk,e1,e2],(hc i j row u h1 h2).2⟩
 unfold C8 at hs;split at hs
 ·rename_i id g _;obtain⟨e,he,hg,hsz,rfl⟩:=hs;obtain⟨l,xs,T0,g1,g2,g3,g4,g5,g6,hx,hT0,hop0,hbx0⟩:=h.objO hv he hg;rcases Fs g5 with⟨q1,q2⟩|⟨b,cap,q1,hb⟩
  ·left;exact⟨q2,none,0,by rw[hx,q1],ZT _⟩
  ·by_cases h0:e.rows=[]
   ·left;exact⟨h0,_,cap,by rw[hx,q1,h0];rfl,ZU _⟩
   ·right;obtain⟨ys,y1,y2,y3,y4⟩:=hflat e.rows (fun i j=>(xs[i*sz+j]?).getD undef) b 0 (by rw[←hsz];exact g6.1) h0 (fun i j row u h1 h2=>by
     obtain⟨y,p1,p2,p3⟩:=g6.2 i j row u h1 h2;rw[hsz]at p1;simp only[p1,Option.getD_some,Nat.zero_add];exact⟨Ee g5 hb p1,p2,p3⟩)
    exact⟨b,0,cap,ys,by rw[hx,q1],h0,y1,y2,y3,y4⟩
 ·obtain⟨he,hr⟩:=hs;rw[he]at hv;cases hv with
  |nil clip ad cap hc=>left;exact⟨rfl,ad,cap,rfl,ZU _⟩
  |sl clip rows b off cap sz' f hR hcap hclip hs' hcell hh=>
   by_cases h0:rows=[]
   ·left;exact⟨h0,_,cap,by rw[h0];rfl,ZU _⟩
   ·right;have hsz:sz'=sz:=by
     obtain⟨r,hr'⟩:=List.exists_mem_of_ne_nil rows h0;rw[←hs' r hr'];exact(hr r hr').1
    subst hsz;obtain⟨ys,y1,y2,y3,y4⟩:=hflat rows f b off hs' h0 (fun i j row u h1 h2=>
     ⟨by rw[←Nat.add_assoc];exact hcell i j row u h1 h2,Wk h (X1 (hr row (ZH h1)).2 (ZH h2)) (hh i j row u h1 h2),hh i j row u h1 h2⟩)
    exact⟨b,off,cap,ys,rfl,h0,y1,y2,y3,y4⟩
 ·subst hs;left;exact⟨rfl,none,0,Cd hv,ZT _⟩
 ·rename_i id g lo hi;obtain⟨e,he,hg,hsz,hlh,hhe,rfl⟩:=hs;obtain⟨l,xs,T0,g1,g2,g3,g4,g5,g6,hsub,hT0,hop0,hbx0⟩:=h.objS hv he hg;have hrl:((e.rows.drop lo).take (hi-lo)).length=hi-lo:=by rw[ZM,List.length_drop];omega
  rcases hsub with⟨q1,rfl,rfl,rfl⟩|⟨b,k,cap,off,q1,p1,p2,p3,rfl⟩
  ·left;exact⟨XR (by rw[hrl]),none,0,rfl,ZT _⟩
  ·by_cases h0:lo=hi
   ·left;subst h0;exact⟨XR (by rw[hrl];omega),some ⟨b,off,none⟩,cap-lo,by simp,ZU _⟩
   ·right;have hb:l.val.ownBlock=some b:=by rw[q1];rfl
    have hoff:off=lo*sz:=by rw[p3 (.inr (by omega)),g3,hsz]
    subst hoff;have hat:∀i,i<hi-lo→((e.rows.drop lo).take (hi-lo))[i]? =e.rows[lo+i]? :=fun i hi'=>by rw[XA hi',List.getElem?_drop]
    obtain⟨ys,y1,y2,y3,y4⟩:=hflat ((e.rows.drop lo).take (hi-lo)) (fun i j=>(xs[(lo+i)*sz+j]?).getD undef) b (lo*sz) (fun row hr=>by rw[←hsz];exact g6.1 row (List.mem_of_mem_drop (List.mem_of_mem_take hr))) (fun e0=>by rw[e0]at hrl;simp at hrl;omega) (fun i j row u h1 h2=>by
     have hi':i<hi-lo:=by have:=(ZB.1 h1).1;omega
     rw[hat i hi']at h1;obtain⟨y,p1,p2,p3⟩:=g6.2 (lo+i) j row u h1 h2;rw[hsz]at p1;simp only[p1,Option.getD_some];exact⟨by rw[show lo*sz+(i*sz+j)=(lo+i)*sz+j by rw[Nat.add_mul];omega];exact Ee g5 hb p1,p2,p3⟩)
    refine⟨b,lo*sz,cap-lo,ys,?_,fun e0=>by rw[e0]at hrl;simp at hrl;omega,y1,y2,y3,y4⟩;rw[hrl]
 ·obtain⟨e,he,hg,An,ss,s,hT,hs1,rfl,rfl,rfl,rfl,rfl⟩:=hs;obtain⟨l,F,k1,k2,k3,k4,k5,k6,hx⟩:=h.objM hv he hg hT;obtain⟨b,clock,es,m1,m2,m3,m4,m5,m6⟩:=J8.1 k6;obtain⟨q1,q2,xs,q3,q4⟩:=m6.1 s hs1;by_cases h0:s.rows=[]
  ·left;exact⟨h0,_,s.cap,by rw[hx,h0];rfl,ZU _⟩
  ·right;obtain⟨ys,y1,y2,y3,y4⟩:=hflat s.rows (fun i j=>(xs[i*s.sz+j]?).getD undef) s.b 0 q4.1 h0 (fun i j row u h1 h2=>by
    obtain⟨y,p1,p2,p3⟩:=q4.2 i j row u h1 h2;simp only[p1,Option.getD_some,Nat.zero_add];exact⟨Ee (e:=⟨0,.t s.T,s.sz,s.rows⟩) (l:=⟨0,s.sz,s.val,false,none⟩) q3 rfl p1,p2,W5 p3⟩)
   exact⟨s.b,0,s.cap,ys,hx,h0,y1,y2,y3,y4⟩
 ·exact hs.elim
theorem Ap4[Glob]{c:Ctx}{t:TypeId}{x:Operand}{v:Value}{ds:TypeDesc}(ho:o.op=.makeInterface t x)(ht:P.underlying t=some ds)(hni:∀m,ds≠.interface m)(h:Ac c st a w R G)(hx:∀y,RV w R G (val st.env x) y→y=v):C2 P c st a w G o Q d (.v (.iface t v)) []:=by
 have e1:a.eval x=v:=hx _ (h.val x);refine Ay h ?_ (.v _);unfold execOp;rw[ho];refine Dh _ ?_;rw[e1];simp only[Instr.makeInterface,Sem.run_bind,run_underlying ht,Result.andThen_ok];cases ds<;>first|(exact absurd rfl (hni _))|rfl
theorem Arv{vs:List Value}{y:Value}(h:RV w R G (.agg (vs.map .v)) y):y=.agg vs.toArray:=by
 generalize hcs:vs.map V.v=cs at h;cases h with
 |agg cs xs hl hh=>
  subst hcs;congr 2;apply List.ext_getElem?;intro i;by_cases hi:i<vs.length
  ·have hx:i<xs.length:=by rw[←hl];simpa using hi
   have:=hh i (.v vs[i]) xs[i] (by simp[hi]) (by simp[hx]);have e:=Cd this;simp[hi,hx,e]
  ·have hl':vs.length=xs.length:=by simpa using hl
   rw[XK (by omega),XK (by omega)]
theorem Ass[Glob]{c:Ctx}{t t' e:TypeId}{x:Operand}{ns:List Int}(ho:o.op=.convert t t' x)(ht:P.underlying t=some (.slice e))(he:P.underlying e=some (.int .u8))(ht':P.underlying t'=some .string)(h:Ac c st a w R G)(hs:C8 st.H 1 (val st.env x) (ns.map fun n=>[.v (.int .u8 n)])):
  C2 P c st a w G o Q d (.v (.string (Z0 ns))) []:=by
 refine Ay h ?_ (.v _);unfold execOp;rw[ho];refine Dh _ ?_;rcases Ma h (h.val x) hs with⟨q1,b,c',q2,_⟩|⟨b,off,c',xs,q1,q2,q3,q4,q5,q6⟩
 ·have hn:ns=[]:=by simpa using q1
  subst hn;rw[q2];cases b with
  |none=>exact run_convert_bytes_nil w t e ht he _ _ t' ht'
  |some ad=>
   obtain⟨b,off,p⟩:=ad;rw[run_convert_bytes_string w t t' e _ 0 c' ht he ht',run_bytesToString w _ 0 c' [] (by simp[loadCells,loadCellsFrom])];rfl
 ·rw[q1];rw[ZE];refine run_convert_bytes_arg w t e ht he b off ns.length c' ns rfl (fun i hi=>?_) t' ht';obtain⟨y,r1,r2,r3⟩:=q6.2 i 0 _ _ (by rw[XJ,ZC hi];rfl) rfl;have:=q4 _ y r1;rw[Nat.mul_one,Nat.add_zero]at this;rw[this,Cd r3];simp[List.getD,hi]
theorem Asg[Glob]{c:Ctx}{t t' e:TypeId}{x:Operand}{s:ByteArray}{ds:TypeDesc}(ho:o.op=.convert t t' x)(ht:P.underlying t=some ds)(he:P.underlying e=some (.int .u8))(ht':P.underlying t'=some (.slice e))(h:Ac c st a w R G)(hx:val st.env x=.v (.string s)):
  C2 P c st a w G o Q d (.sl false (s.data.toList.map fun b=>[.v (.int .u8 b.toNat)])) []:=by
 intro next hn
 have e1:a.eval x=.string s:=Cd (hx▸h.val x);have hr:(execOp a.eval o).run P w=.ok (.value (.slice (some ⟨w.heap.size,0,none⟩) s.size (grownCap w s.size 0 e))) (Go.Lib.bytesWorld w e s):=by
  unfold execOp;rw[ho];refine Dh _ ?_;rw[e1];exact Go.Lib.run_convert_string_bytes w t t' e s ht ht' he
 have hsz:=Go.Lib.bytesWorld_size w e s;have hfr:Fr (fun _=>False) w (Go.Lib.bytesWorld w e s):=⟨rfl,rfl,rfl,by omega,fun k hk _=>Go.Lib.bytesWorld_at_old w e s k hk⟩;have hrel:=h.world (R':=fun b=>R b∨b=w.heap.size) hfr (fun b hb=>.inl hb) (fun b hb=>hb.elim) (fun b hb=>by
  rcases hb with hb|hb
  ·exact .inl hb
  ·exact .inr ⟨by omega,.inr (by have:=h.fr.size;omega),.inr (by omega)⟩)
 refine De hr (hn _ _ _ G hrel ?_ (fun _ _=>rfl));have hlen:s.data.toList.length=s.size:=by rw[Array.length_toList];rfl
 by_cases h0:s.size=0
 ·have e0:s.data.toList=[]:=XR (by rw[hlen];exact h0);rw[e0,h0];exact .nil _ _ _ (by simp)
 ·have key:=RV.sl (w:=Go.Lib.bytesWorld w e s) (R:=fun b=>R b∨b=w.heap.size) (G:=G) false (s.data.toList.map fun b=>[V.v (.int .u8 b.toNat)]) w.heap.size 0 (grownCap w s.size 0 e) 1 (fun i _=>.int .u8 (s.data.toList.getD i 0).toNat) (.inr rfl)
   (by rw[ZE,hlen];exact grownCap_ge w s.size 0 e) (by simp) (by simp) ?_ ?_
  ·rw[ZE,hlen]at key;exact key
  ·intro i j row u h1 h2;rw[XJ]at h1;cases hq:s.data.toList[i]? with
   |none=>rw[hq]at h1;cases h1
   |some y=>
    rw[hq]at h1;simp at h1;subst h1;have hi:i<s.size:=by rw[←hlen];exact(ZB.1 hq).1
    have hj:j=0:=by have:=(ZB.1 h2).1;simpa using this
    subst hj;have:=Go.Lib.bytesWorld_cell w e s i hi;simpa using this
  ·intro i j row u h1 h2;rw[XJ]at h1;cases hq:s.data.toList[i]? with
   |none=>rw[hq]at h1;cases h1
   |some y=>
    rw[hq]at h1;simp at h1;subst h1;have hj:j=0:=by have:=(ZB.1 h2).1;simpa using this
    subst hj;simp at h2;subst h2;have:s.data.toList.getD i 0=y:=by simp[List.getD,hq]
    rw[this];exact .v _
end
end Go.Proofs.YtchbkgnobpejnaaGreatDoor
