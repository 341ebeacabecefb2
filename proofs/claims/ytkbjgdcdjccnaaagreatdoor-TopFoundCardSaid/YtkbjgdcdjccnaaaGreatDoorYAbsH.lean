/- The framework: part of this claim. -/
import Derived.Test.YtkbjgdcdjccnaaaGreatDoorYAbsG
set_option linter.unusedSimpArgs false
set_option linter.unusedVariables false
namespace Go.Proofs.YtkbjgdcdjccnaaaGreatDoor
open Go.RowKit
abbrev RT:=Nat×Option (Bool×Nat)
def Auk(P:Program):ResultVar→Option RT
 |.tmp t=>some (t,none)
 |.cell a T=>match P.info? T,H1 P T with
  |some i,some agg=>some (a,some (agg,if agg then i.size else 1))
  |_,_=>none
def Nf(P:Program):List ResultVar→Option (List RT)
 |[]=>some []
 |r::l=>match Auk P r,Nf P l with
  |some x,some y=>some (x::y)
  |_,_=>none
inductive Hy(env:Nat→V)(H:Nat→Option Ent):List RT→List V→Prop
 |nil:Hy env H [] []
 |tmp {t:Nat} {r:List RT} {us:List V} :Hy env H r us→Hy env H ((t,none)::r) (env t::us)
 |cell {a id gen k off sz:Nat} {agg:Bool} {e:Ent} {row:List V} {r:List RT} {us:List V} :env a=.ptr id gen k off→H id=some e→e.gen=gen→e.rows[k]? =some row→off+sz≤row.length→Hy env H r us→
   Hy env H ((a,some (agg,sz))::r) (mkV agg ((row.drop off).take sz)::us)
def Avq(rts:List RT)(rs:List Par)(st:St):Prop:=∃us gone,Hy st.env st.H rts us∧Av st.H gone true gone us rs
def Akv(rts:List RT)(rs:List Par):Ex→St→Prop
 |.exit _,_=>False
 |_,st=>Avq rts rs st
def Cb(P:Program)(f np:Nat):Option (Aj×List RT):=
 match P.funcs[f]? with
 |none=>none
 |some fn=>match fn.body with
  |none=>none
  | some code => if (fn.name == "runtime.NumGoroutine") || !(decide (np ≤ fn.ntmps)) then none else match Ap P fn.ntmps code, Nf P fn.results.toList with
   |some rc,some ts=>some (rc,ts)
   |_,_=>none
section
variable {P:Program} {c:Ctx} {st:St} {a:Act} {w w':World} {R:Nat→Prop} {G:Nat→Option Loc}
theorem Axl{t:TypeId}{i:TypeInfo}{agg:Bool}{sz:Nat}{id gen k off:Nat}{e:Ent}{row:List V}{v:Value}(hi:P.info? t=some i)(ha:H1 P t=some agg)(hsz:sz=if agg then i.size else 1)(h:Ai c st a w R G)(hv:RV w R G (.ptr id gen k off) v)(he:st.H id=some e)(hg:e.gen=gen)(hrow:e.rows[k]? =some row)(hb:off+sz≤row.length):
  ∃x,(do loadVar t (←asAddr v):Sem Value).run P w=.ok x w∧RV w R G (mkV agg ((row.drop off).take sz)) x:=by
 obtain⟨l,xs,b,T0,g1,g2,g3,g4,g5,g6,hbk,hax,hT0,hop0⟩:=h.objP hv he hg hrow;have hcells:∀j,j<sz→∃y,xs[k*e.sz+off+j]? =some y∧RV w R G (row[off+j]?.getD .any) y:=fun j hj=>by
  have hr:row[off+j]? =some (row[off+j]'(by omega)):=ZC (by omega);obtain⟨y,h1,_,h2⟩:=g6.2 k (off+j) row _ hrow hr;exact⟨y,by rw[Nat.add_assoc];exact h1,by rw[hr];exact h2⟩
 have hxl:((xs.drop (k*e.sz+off)).take sz).length=sz:=by
  rcases Nat.eq_zero_or_pos sz with h0|h0
  ·simp[h0]
  ·obtain⟨y,h1,_⟩:=hcells (sz-1) (by omega);have:=(ZB.1 h1).1;simp;omega
 have hrun:=N5 (w:=w) (xs:=(xs.drop (k*e.sz+off)).take sz) (b:=b) (k:=k*l.sz+off) hi ha hsz hxl (fun j y hj=>by
  have hjs:j<sz:=by have:=(ZB.1 hj).1;omega
  rw[Iz _ _ _ _ hjs]at hj;rw[g3];exact Ff g5 hbk hj)
 refine⟨if agg then .agg ((xs.drop (k*e.sz+off)).take sz).toArray else((xs.drop (k*e.sz+off)).take sz).headD undef,?_,?_⟩
 ·rw[hax];simpa[asAddr]using hrun
 ·refine Aca (by rw[hxl];simp;omega) (fun e=>by subst e;simp at hsz;subst hsz;simp;omega) ?_;intro j u y h1 h2;have hjs:j<sz:=by have:=(ZB.1 h2).1;omega
  rw[Iz _ _ _ _ hjs]at h1 h2;obtain⟨y',h3,h4⟩:=hcells j hjs;rw[h3]at h2;injection h2 with h2;subst h2
  rw[h1]at h4;exact h4
theorem Im(h:Ai c st a w R G):∀(l:List ResultVar) {rts:List RT} {us:List V},Nf P l=some rts→Hy st.env st.H rts us→∃xs:List Value,(l.mapM fun(r:ResultVar)=>match r with
   |.tmp t=>(pure (a.tmps.getD t undef):Sem Value)
   |.cell b t=>(do loadVar t (←asAddr (a.tmps.getD b undef)))).run P w=.ok xs w∧xs.length=us.length∧(∀(i:Nat) (u:V) (x:Value),us[i]? =some u→xs[i]? =some x→RV w R G u x)
 |[],rts,us,hr,hg=>by
  simp only[Nf,ZD]at hr;subst hr;cases hg;exact⟨[],by simp,rfl,fun i u x h1=>by simp at h1⟩
 |r::l,rts,us,hr,hg=>by
  simp only[Nf]at hr;split at hr
  ·rename_i x y hx hy;simp only[ZD]at hr;subst hr;have fin:∀{u:V} {us':List V} {v:Value},(match r with
     |.tmp t=>(pure (a.tmps.getD t undef):Sem Value)
     |.cell b t=>(do loadVar t (←asAddr (a.tmps.getD b undef)))).run P w=.ok v w→RV w R G u v→Hy st.env st.H y us'→∃xs:List Value,((r::l).mapM fun(r:ResultVar)=>match r with
     |.tmp t=>(pure (a.tmps.getD t undef):Sem Value)
     |.cell b t=>(do loadVar t (←asAddr (a.tmps.getD b undef)))).run P w=.ok xs w∧xs.length=(u::us').length∧(∀(i:Nat) (u':V) (x:Value),(u::us')[i]? =some u'→xs[i]? =some x→RV w R G u' x):=fun {u us' v} h1 h2 h3=>by
    obtain⟨xs,k1,k2,k3⟩:=Im h l hy h3;refine⟨v::xs,?_,by simp[k2],fun i u' x g1 g2=>?_⟩
    ·rw[List.mapM_cons];simp only[Sem.run_bind];refine(congrArg (fun r=>Result.andThen r _) h1).trans ?_;simp only[Result.andThen_ok,Sem.run_bind];refine(congrArg (fun r=>Result.andThen r _) k1).trans ?_;simp only[Result.andThen_ok,Sem.run_pure]
    ·cases i with
     |zero=>simp only[List.getElem?_cons_zero,ZD]at g1 g2;subst g1 g2;exact h2
     |succ i=>simp only[List.getElem?_cons_succ]at g1 g2;exact k3 i u' x g1 g2
   cases r with
   |tmp t=>
    simp only[Auk,ZD]at hx;subst hx;cases hg with
    |tmp hg=>exact fin (v:=a.tmps.getD t undef) (by simp) (h.env t) hg
   |cell b T=>
    simp only[Auk]at hx;split at hx
    ·rename_i i agg hi ha;simp only[ZD]at hx;subst hx;cases hg with
     |cell e1 e2 e3 e4 e5 hg=>
      obtain⟨v,q1,q2⟩:=Axl (v:=a.tmps.getD b undef) hi ha rfl h (e1▸h.env b) e2 e3 e4 e5;exact fin q1 q2 hg
    ·cases hx
  ·cases hr
theorem Hk{fn:Func}{tmps:Array Value}{xs:List Value}(h:(fn.results.toList.mapM fun(r:ResultVar)=>match r with
   |.tmp t=>(pure (tmps.getD t undef):Sem Value)
   |.cell b t=>(do loadVar t (←asAddr (tmps.getD b undef)))).run P w=.ok xs w):(results fn tmps).run P w=.ok (Fx xs) w:=by
 unfold results;simp only[Sem.run_bind];rw[Array.mapM_eq_mapM_toList,Sem.run_map];refine(congrArg (fun r=>Result.andThen (Result.andThen r fun a w'=>Result.ok (List.toArray a) w') _) h).trans ?_;simp only[Result.andThen_ok,Sem.run_pure]
 match xs with
 |[]=>rfl
 |[t]=>rfl
 |t::t'::ts=>simp[Fx]
end
theorem Aih {P : Program} {f : FuncId} {fn : Func} {code : Code} {rc : Aj} {ps rs : List Par} {rts : List RT} (hf : P.funcs[f]? = some fn) (hb : fn.body = some code) (hname : (fn.name == "runtime.NumGoroutine") = false) (hres : Ap P fn.ntmps code = some rc)
  (hlen:ps.length≤fn.ntmps) (hts:Nf P fn.results.toList=some rts) (h:wpv P rc (Akv rts rs) (P8 ps)):Fun P f ps rs:=by
 refine⟨⟨fn,hf,hname,by rw[hb];rfl⟩,fun w R xs hlt hp=>?_⟩;refine calls_of_wp hf hb ?_;obtain⟨G0,hrel⟩:=Ug (n:=fn.ntmps) hlt hp hlen;refine wp_mono (Ca (c:=⟨w,R,Ax ps xs,fn.ntmps,noD,G0⟩) rfl code hres h hrel) fun e a' w' he=>?_;have fin:∀st,Avq rts rs st→Rel ⟨w,R,Ax ps xs,fn.ntmps,noD,G0⟩ st a' w'→a'.defers=[]∧∃v,(results fn a'.tmps).run P w'=.ok v w'∧∃(ys:List Value) (R':Nat→Prop),Ending.returned v=.returned (Fx ys)∧Fr (Ax ps xs) w w'∧(∀b,R b→R' b)∧
   (∀b,R' b→R b∨(b<w'.heap.size∧(Ax ps xs b∨w.heap.size≤b)))∧Ik w' R' rs ys∧(∀b,Ax rs ys b→Ax ps xs b∨w.heap.size≤b):=fun st ⟨us,gone,hG,hA⟩ ⟨R2,G,hR⟩=>by
  obtain⟨zs,z1,z2,z3⟩:=Im hR _ hts hG;refine⟨hR.defers,_,Hk z1,zs,RB R2 G st.H gone true,rfl,hR.fr,fun b hb=>.inl (hR.old b hb),?_,?_⟩
  ·rintro b (hb|⟨_,id,e,l,_,q1,q2,q3,q4⟩)
   ·rcases hR.src b hb with q|q
    ·exact .inl q
    ·exact .inr ⟨hR.lt b hb,q⟩
   ·exact .inr ⟨hR.hr.lt q1 q2 q3 q4,(hR.hr.mine id e l b q1 q2 q3 q4).2⟩
  ·obtain⟨h1,h2⟩:=G4 hR (bor0:=true) (xs:=zs) hA (fun e=>e) z2.symm (fun i u x h3 h4=>z3 i u x h3 h4) (fun id hid=>hid);refine⟨h1,fun b hb=>?_⟩;obtain⟨id,_,e,l,q1,q2,q3,q4⟩:=h2 b hb;exact(hR.hr.mine id e l b q1 q2 q3 q4).2
 cases e with
 |normal=>obtain⟨st,h1,h2⟩:=he;exact fin st h1 h2
 |ret=>obtain⟨st,h1,h2⟩:=he;exact fin st h1 h2
 |exit id=>obtain⟨st,h1,h2⟩:=he;exact h1.elim
 |goto l=>exact he.elim
 |panic ch=>obtain⟨v,_,h2,_⟩:=he;exact h2.elim
 |outgrown=>exact he.elim
theorem Au8{P:Program}{f:FuncId}{np:Nat}{rc:Aj}{ts:List RT}{ps rs:List Par}(hc:Cb P f np=some (rc,ts))(hn:ps.length=np)(h:wpv P rc (Akv ts rs) (P8 ps)):Fun P f ps rs:=by
 unfold Cb at hc;split at hc
 ·cases hc
 ·rename_i fn hf;split at hc
  ·cases hc
  ·rename_i code hb;split at hc
   ·cases hc
   ·rename_i hk;simp only[Bool.or_eq_true,not_or,Bool.not_eq_true',Bool.not_eq_true,decide_eq_false_iff_not,Classical.not_not]at hk;split at hc
    ·rename_i rc' ts' h1 h2;simp only[ZD,Prod.mk.injEq]at hc;obtain⟨rfl,rfl⟩:=hc;refine Aih hf hb ?_ h1 ?_ h2 h
     ·exact hk.1
     ·rw[hn];simpa using hk.2
    ·cases hc
def Aq1(ts:List RT)(rs:List Par):Ex→Env→Hp→Prop
 |.exit _=>fun _ _=>False
 |.normal=>fun env H=>∃us gone,Hy env H ts us∧Av H gone true gone us rs
 |.ret=>fun env H=>∃us gone,Hy env H ts us∧Av H gone true gone us rs
theorem Ait{P:Program}{f:FuncId}{np:Nat}{rc:Aj}{ts:List RT}{ps rs:List Par}(hc:Cb P f np=some (rc,ts))(hn:ps.length=np)(h:wpx P noD rc (Aq1 ts rs) (Ho ps) (Mx ps)):Fun P f ps rs:=by
 refine Au8 hc hn (Cm rc (fun e env H h=>?_) h);cases e with
 |normal=>exact h
 |exit j=>exact h
 |ret=>exact h
end Go.Proofs.YtkbjgdcdjccnaaaGreatDoor
