/- The framework: part of this claim. -/
import Derived.Test.YtchbkgnobpejnaaGreatDoorYAbsG
set_option linter.unusedSimpArgs false
set_option linter.unusedVariables false
namespace Go.Proofs.YtchbkgnobpejnaaGreatDoor
open Go.RowKit
abbrev RT:=Nat×Option (Bool×Nat)
def Anr(P:Program):ResultVar→Option RT
 |.tmp t=>some (t,none)
 |.cell a T=>match P.info? T,G5 P T with
  |some i,some agg=>some (a,some (agg,if agg then i.size else 1))
  |_,_=>none
def Jd(P:Program):List ResultVar→Option (List RT)
 |[]=>some []
 |r::l=>match Anr P r,Jd P l with
  |some x,some y=>some (x::y)
  |_,_=>none
inductive Il(env:Nat→V)(H:Nat→Option Ent):List RT→List V→Prop
 |nil:Il env H [] []
 |tmp {t:Nat} {r:List RT} {us:List V} :Il env H r us→Il env H ((t,none)::r) (env t::us)
 |cell {a id gen k off sz:Nat} {agg:Bool} {e:Ent} {row:List V} {r:List RT} {us:List V} :env a=.ptr id gen k off→H id=some e→e.gen=gen→e.rows[k]? =some row→off+sz≤row.length→Il env H r us→
   Il env H ((a,some (agg,sz))::r) (mkV agg ((row.drop off).take sz)::us)
def Ari(rts:List RT)(rs:List Par)(st:St):Prop:=∃us gone,Il st.env st.H rts us∧Ar st.H gone true gone us rs
def Agd(rts:List RT)(rs:List Par):Ex→St→Prop
 |.exit _,_=>False
 |_,st=>Ari rts rs st
def Bi(P:Program)(f np:Nat):Option (Ae×List RT):=
 match P.funcs[f]? with
 |none=>none
 |some fn=>match fn.body with
  |none=>none
  | some code => if (fn.name == "runtime.NumGoroutine") || !(decide (np ≤ fn.ntmps)) then none else match Ao P fn.ntmps code, Jd P fn.results.toList with
   |some rc,some ts=>some (rc,ts)
   |_,_=>none
section
variable {P:Program} {st:St} {a:Act} {w w':World} {R:Nat→Prop} {G:Nat→Option Loc}
theorem Ar6[Glob]{c:Ctx}{t:TypeId}{i:TypeInfo}{agg:Bool}{sz:Nat}{id gen k off:Nat}{e:Ent}{row:List V}{v:Value}(hi:P.info? t=some i)(ha:G5 P t=some agg)(hsz:sz=if agg then i.size else 1)(h:Ac c st a w R G)(hv:RV w R G (.ptr id gen k off) v)(he:st.H id=some e)(hg:e.gen=gen)(hrow:e.rows[k]? =some row)(hb:off+sz≤row.length):
  ∃x,(do loadVar t (←asAddr v):Sem Value).run P w=.ok x w∧RV w R G (mkV agg ((row.drop off).take sz)) x:=by
 obtain⟨l,xs,b,T0,g1,g2,g3,g4,g5,g6,hbk,hax,hT0,hop0⟩:=h.objP hv he hg hrow;have hcells:∀j,j<sz→∃y,xs[k*e.sz+off+j]? =some y∧RV w R G (row[off+j]?.getD .any) y:=fun j hj=>by
  have hr:row[off+j]? =some (row[off+j]'(by omega)):=ZC (by omega);obtain⟨y,h1,_,h2⟩:=g6.2 k (off+j) row _ hrow hr;exact⟨y,by rw[Nat.add_assoc];exact h1,by rw[hr];exact h2⟩
 have hxl:((xs.drop (k*e.sz+off)).take sz).length=sz:=by
  rcases Nat.eq_zero_or_pos sz with h0|h0
  ·simp[h0]
  ·obtain⟨y,h1,_⟩:=hcells (sz-1) (by omega);have:=(ZB.1 h1).1;simp;omega
 have hrun:=O5 (w:=w) (xs:=(xs.drop (k*e.sz+off)).take sz) (b:=b) (k:=k*l.sz+off) hi ha hsz hxl (fun j y hj=>by
  have hjs:j<sz:=by have:=(ZB.1 hj).1;omega
  rw[Ic _ _ _ _ hjs]at hj;rw[g3];exact Ee g5 hbk hj)
 refine⟨if agg then .agg ((xs.drop (k*e.sz+off)).take sz).toArray else((xs.drop (k*e.sz+off)).take sz).headD undef,?_,?_⟩
 ·rw[hax];simpa[asAddr]using hrun
 ·refine Aah (by rw[hxl];simp;omega) (fun e=>by subst e;simp at hsz;subst hsz;simp;omega) ?_;intro j u y h1 h2;have hjs:j<sz:=by have:=(ZB.1 h2).1;omega
  rw[Ic _ _ _ _ hjs]at h1 h2;obtain⟨y',h3,h4⟩:=hcells j hjs;rw[h3]at h2;injection h2 with h2;subst h2
  rw[h1]at h4;exact h4
theorem Ge[Glob]{c:Ctx}(h:Ac c st a w R G):∀(l:List ResultVar) {rts:List RT} {us:List V},Jd P l=some rts→Il st.env st.H rts us→∃xs:List Value,(l.mapM fun(r:ResultVar)=>match r with
   |.tmp t=>(pure (a.tmps.getD t undef):Sem Value)
   |.cell b t=>(do loadVar t (←asAddr (a.tmps.getD b undef)))).run P w=.ok xs w∧xs.length=us.length∧(∀(i:Nat) (u:V) (x:Value),us[i]? =some u→xs[i]? =some x→RV w R G u x)
 |[],rts,us,hr,hg=>by
  simp only[Jd,ZD]at hr;subst hr;cases hg;exact⟨[],by simp,rfl,fun i u x h1=>by simp at h1⟩
 |r::l,rts,us,hr,hg=>by
  simp only[Jd]at hr;split at hr
  ·rename_i x y hx hy;simp only[ZD]at hr;subst hr;have fin:∀{u:V} {us':List V} {v:Value},(match r with
     |.tmp t=>(pure (a.tmps.getD t undef):Sem Value)
     |.cell b t=>(do loadVar t (←asAddr (a.tmps.getD b undef)))).run P w=.ok v w→RV w R G u v→Il st.env st.H y us'→∃xs:List Value,((r::l).mapM fun(r:ResultVar)=>match r with
     |.tmp t=>(pure (a.tmps.getD t undef):Sem Value)
     |.cell b t=>(do loadVar t (←asAddr (a.tmps.getD b undef)))).run P w=.ok xs w∧xs.length=(u::us').length∧(∀(i:Nat) (u':V) (x:Value),(u::us')[i]? =some u'→xs[i]? =some x→RV w R G u' x):=fun {u us' v} h1 h2 h3=>by
    obtain⟨xs,k1,k2,k3⟩:=Ge h l hy h3;refine⟨v::xs,?_,by simp[k2],fun i u' x g1 g2=>?_⟩
    ·rw[List.mapM_cons];simp only[Sem.run_bind];refine(congrArg (fun r=>Result.andThen r _) h1).trans ?_;simp only[Result.andThen_ok,Sem.run_bind];refine(congrArg (fun r=>Result.andThen r _) k1).trans ?_;simp only[Result.andThen_ok,Sem.run_pure]
    ·cases i with
     |zero=>simp only[List.getElem?_cons_zero,ZD]at g1 g2;subst g1 g2;exact h2
     |succ i=>simp only[List.getElem?_cons_succ]at g1 g2;exact k3 i u' x g1 g2
   cases r with
   |tmp t=>
    simp only[Anr,ZD]at hx;subst hx;cases hg with
    |tmp hg=>exact fin (v:=a.tmps.getD t undef) (by simp) (h.env t) hg
   |cell b T=>
    simp only[Anr]at hx;split at hx
    ·rename_i i agg hi ha;simp only[ZD]at hx;subst hx;cases hg with
     |cell e1 e2 e3 e4 e5 hg=>
      obtain⟨v,q1,q2⟩:=Ar6 (v:=a.tmps.getD b undef) hi ha rfl h (e1▸h.env b) e2 e3 e4 e5;exact fin q1 q2 hg
    ·cases hx
  ·cases hr
theorem E5{fn:Func}{tmps:Array Value}{xs:List Value}(h:(fn.results.toList.mapM fun(r:ResultVar)=>match r with
   |.tmp t=>(pure (tmps.getD t undef):Sem Value)
   |.cell b t=>(do loadVar t (←asAddr (tmps.getD b undef)))).run P w=.ok xs w):(results fn tmps).run P w=.ok (Dl xs) w:=by
 unfold results;simp only[Sem.run_bind];rw[Array.mapM_eq_mapM_toList,Sem.run_map];refine(congrArg (fun r=>Result.andThen (Result.andThen r fun a w'=>Result.ok (List.toArray a) w') _) h).trans ?_;simp only[Result.andThen_ok,Sem.run_pure]
 match xs with
 |[]=>rfl
 |[t]=>rfl
 |t::t'::ts=>simp[Dl]
end
theorem Afe [Glob] {P : Program} {f : FuncId} {fn : Func} {code : Code} {rc : Ae} {ps rs : List Par} {rts : List RT} (hf : P.funcs[f]? = some fn) (hb : fn.body = some code) (hname : (fn.name == "runtime.NumGoroutine") = false) (hres : Ao P fn.ntmps code = some rc)
  (hlen:ps.length≤fn.ntmps) (hts:Jd P fn.results.toList=some rts) (h:wpv P rc (Agd rts rs) (P8 ps)):Fun P f ps rs:=by
 refine⟨⟨fn,hf,hname,by rw[hb];rfl⟩,fun w R xs hlt hp hg=>?_⟩;refine calls_of_wp hf hb ?_;obtain⟨G0,hrel⟩:=Tq (n:=fn.ntmps) hlt hp hlen hg;refine wp_mono (Bs (c:=⟨w,R,A4 ps xs,fn.ntmps,noD,G0,hg⟩) rfl code hres h hrel) fun e a' w' he=>?_;have fin:∀st,Ari rts rs st→Rel ⟨w,R,A4 ps xs,fn.ntmps,noD,G0,hg⟩ st a' w'→a'.defers=[]∧∃v,(results fn a'.tmps).run P w'=.ok v w'∧∃(ys:List Value) (R':Nat→Prop),Ending.returned v=.returned (Dl ys)∧Fr (A4 ps xs) w w'∧(∀b,R b→R' b)∧
   (∀b,R' b→R b∨(b<w'.heap.size∧(A4 ps xs b∨w.heap.size≤b)))∧M3 w' R' rs ys∧(∀b,A4 rs ys b→A4 ps xs b∨w.heap.size≤b):=fun st ⟨us,gone,hG,hA⟩ ⟨R2,G,hR⟩=>by
  obtain⟨zs,z1,z2,z3⟩:=Ge hR _ hts hG;refine⟨hR.defers,_,E5 z1,zs,RB R2 G st.H gone true,rfl,hR.fr,fun b hb=>.inl (hR.old b hb),?_,?_⟩
  ·rintro b (hb|⟨_,id,e,l,_,q1,q2,q3,q4⟩)
   ·rcases hR.src b hb with q|q
    ·exact .inl q
    ·exact .inr ⟨hR.lt b hb,q⟩
   ·exact .inr ⟨hR.hr.lt q1 q2 q3 q4,(hR.hr.mine id e l b q1 q2 q3 q4).2⟩
  ·obtain⟨h1,h2⟩:=Gf hR (bor0:=true) (xs:=zs) hA (fun e=>e) z2.symm (fun i u x h3 h4=>z3 i u x h3 h4) (fun id hid=>hid);refine⟨h1,fun b hb=>?_⟩;obtain⟨id,_,e,l,q1,q2,q3,q4⟩:=h2 b hb;exact(hR.hr.mine id e l b q1 q2 q3 q4).2
 cases e with
 |normal=>obtain⟨st,h1,h2⟩:=he;exact fin st h1 h2
 |ret=>obtain⟨st,h1,h2⟩:=he;exact fin st h1 h2
 |exit id=>obtain⟨st,h1,h2⟩:=he;exact h1.elim
 |goto l=>exact he.elim
 |panic ch=>obtain⟨v,_,h2,_⟩:=he;exact h2.elim
 |outgrown=>exact he.elim
theorem Anv[Glob]{P:Program}{f:FuncId}{np:Nat}{rc:Ae}{ts:List RT}{ps rs:List Par}(hc:Bi P f np=some (rc,ts))(hn:ps.length=np)(h:wpv P rc (Agd ts rs) (P8 ps)):Fun P f ps rs:=by
 unfold Bi at hc;split at hc
 ·cases hc
 ·rename_i fn hf;split at hc
  ·cases hc
  ·rename_i code hb;split at hc
   ·cases hc
   ·rename_i hk;simp only[Bool.or_eq_true,not_or,Bool.not_eq_true',Bool.not_eq_true,decide_eq_false_iff_not,Classical.not_not]at hk;split at hc
    ·rename_i rc' ts' h1 h2;simp only[ZD,Prod.mk.injEq]at hc;obtain⟨rfl,rfl⟩:=hc;refine Afe hf hb ?_ h1 ?_ h2 h
     ·exact hk.1
     ·rw[hn];simpa using hk.2
    ·cases hc
def Akd(ts:List RT)(rs:List Par):Ex→Env→Hp→Prop
 |.exit _=>fun _ _=>False
 |.normal=>fun env H=>∃us gone,Il env H ts us∧Ar H gone true gone us rs
 |.ret=>fun env H=>∃us gone,Il env H ts us∧Ar H gone true gone us rs
theorem Abi[Glob]{P:Program}{f:FuncId}{np:Nat}{rc:Ae}{ts:List RT}{ps rs:List Par}(hc:Bi P f np=some (rc,ts))(hn:ps.length=np)(h:wpx P noD rc (Akd ts rs) (Gt ps) (Jc ps)):Fun P f ps rs:=by
 refine Anv hc hn (B3 rc (fun e env H h=>?_) h);cases e with
 |normal=>exact h
 |exit j=>exact h
 |ret=>exact h
end Go.Proofs.YtchbkgnobpejnaaGreatDoor
