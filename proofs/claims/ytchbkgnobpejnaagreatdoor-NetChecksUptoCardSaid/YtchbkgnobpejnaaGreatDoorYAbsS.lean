/- The framework: part of this claim. -/
import Derived.Test.YtchbkgnobpejnaaGreatDoorYAbsQ
set_option linter.unusedSimpArgs false
set_option linter.unusedVariables false
namespace Go.Proofs.YtchbkgnobpejnaaGreatDoor
open Go.RowKit
theorem Aht{H:Nat→Option Ent}{all:List Nat}{bor:Bool}{gone:List Nat}{us:List V}{ps:List Bf}(h:Bm H all bor gone us ps):us.length=ps.length:=by
 induction h<;>simp_all
theorem Zt:∀(ps:List Bf) (i:Nat),(G9 i ps).length=(B4 ps).length
 |[],_=>rfl
 |p::ps,i=>by cases p<;>simp[G9,B4,Zt ps]
def Aov(rts:List RT)(ps rs:List Bf)(st:St):Prop:=∃us gone,Il st.env st.H rts us∧Bm st.H gone true gone (us++G9 0 ps) (rs++B4 ps)
def Aqs(rts:List RT)(ps rs:List Bf):Ex→St→Prop
 |.exit _,_=>False
 |_,st=>Aov rts ps rs st
theorem Us [Glob] {P : Program} {f : FuncId} {fn : Func} {code : Code} {rc : Ae} {ps rs : List Bf} {rts : List RT} (hf : P.funcs[f]? = some fn) (hb : fn.body = some code) (hname : (fn.name == "runtime.NumGoroutine") = false) (hres : Ao P fn.ntmps code = some (Cv rc))
  (hlen:ps.length≤fn.ntmps) (hts:Jd P fn.results.toList=some rts) (hnd:(Ny 0 ps).Nodup) (h:wpv P rc (Aqs rts ps rs) (Abe noD ps)):Gl P f ps rs:=by
 refine⟨⟨fn,hf,hname,by rw[hb];rfl⟩,fun w R xs F hlt hp hg=>?_⟩;refine calls_of_wp hf hb ?_;obtain⟨G0,hrel,hV0⟩:=Na (n:=fn.ntmps) (D:=noD) hlt hp hlen hnd hg;refine wp_mono (Ce (c:=⟨w,R,F,fn.ntmps,noD,G0,hg⟩) rfl rc hres h ⟨R,G0,hrel⟩) fun e a' w' he=>?_;have fin:∀st,Aov rts ps rs st→Rel ⟨w,R,F,fn.ntmps,noD,G0,hg⟩ st a' w'→a'.defers=[]∧∃v,(results fn a'.tmps).run P w'=.ok v w'∧∃(ys:List Value) (R' F':Nat→Prop),Ending.returned v=.returned (Dl ys)∧rs.length=ys.length∧Fr F w w'∧(∀b,R b→R' b)∧
   (∀b,R' b→R b∨(b<w'.heap.size∧(F b∨w.heap.size≤b)))∧Cm w' R' (rs++B4 ps) (ys++Du ps xs) F'∧(∀b,F' b→F b∨w.heap.size≤b):=fun st ⟨us,gone,hG,hA⟩ ⟨R2,G,hR⟩=>by
  obtain⟨zs,z1,z2,z3⟩:=Ge hR _ hts hG;have hRR:∀b,R b→R2 b∧w'.heap[b]? =w.heap[b]? :=fun b hb=>⟨hR.old b hb,hR.fr.block b (hlt b hb) (fun hl=>hp.free b hl hb)⟩;obtain⟨x1,x2⟩:=S5 ps xs 0 hp.len (fun j u x q1 q2=>(hV0 j u x q1 q2).mono hRR hR.gle);obtain⟨F',h1,h2,h3⟩:=Mx hR (bor0:=true) (xs:=zs++Du ps xs) hA (fun e=>e) (by simp[x1,z2]) (fun i u x q1 q2=>by
   by_cases hi:i<us.length
   ·rw[ZQ hi]at q1;rw[ZQ (by omega)]at q2;exact z3 i u x q1 q2
   ·rw[ZP (by omega)]at q1 q2;rw[z2]at q2;exact x2 _ u x q1 q2)
  have hrl:rs.length=zs.length:=by
   have e1:=Aht hA;have e2:(G9 0 ps).length=(B4 ps).length:=Zt ps 0;simp only[ZF]at e1;omega
  refine⟨hR.defers,_,E5 z1,zs,RB R2 G st.H gone true,F',rfl,hrl,hR.fr,fun b hb=>.inl (hR.old b hb),?_,h1,fun b hb=>?_⟩
  ·rintro b (hb|⟨_,id,e,l,_,q1,q2,q3,q4⟩)
   ·rcases hR.src b hb with q|q
    ·exact .inl q
    ·exact .inr ⟨hR.lt b hb,q⟩
   ·exact .inr ⟨hR.hr.lt q1 q2 q3 q4,(hR.hr.mine id e l b q1 q2 q3 q4).2⟩
  ·obtain⟨id,_,e,l,q1,q2,q3,q4⟩:=h2 b hb;exact(hR.hr.mine id e l b q1 q2 q3 q4).2
 cases e with
 |normal=>obtain⟨st,h1,h2⟩:=he;exact fin st h1 h2
 |ret=>obtain⟨st,h1,h2⟩:=he;exact fin st h1 h2
 |exit id=>obtain⟨st,h1,h2⟩:=he;exact h1.elim
 |goto l=>exact he.elim
 |panic ch=>obtain⟨v,_,h2,_⟩:=he;exact h2.elim
 |outgrown=>exact he.elim
def Aa0(rts:List RT)(ps rs:List Bf):Ex→Env→Hp→Prop
 |.exit _=>fun _ _=>False
 |.normal=>fun env H=>∃us gone,Il env H rts us∧Bm H gone true gone (us++G9 0 ps) (rs++B4 ps)
 |.ret=>fun env H=>∃us gone,Il env H rts us∧Bm H gone true gone (us++G9 0 ps) (rs++B4 ps)
theorem Au7[Glob]{P:Program}{f:FuncId}{np:Nat}{rc:Ae}{ts:List RT}{ps rs:List Bf}(hc:Bi P f np=some (rc,ts))(hn:ps.length=np)(hnd:(Ny 0 ps).Nodup)(h:wpx P noD rc (Aa0 ts ps rs) (atV (Gm 0 ps)) (Bx noH (Qf 0 ps))):Gl P f ps rs:=by
 unfold Bi at hc;split at hc
 ·cases hc
 ·rename_i fn hf;split at hc
  ·cases hc
  ·rename_i code hb;split at hc
   ·cases hc
   ·rename_i hk;simp only[Bool.or_eq_true,not_or,Bool.not_eq_true',Bool.not_eq_true,decide_eq_false_iff_not,Classical.not_not]at hk;split at hc
    ·rename_i rc' ts' h1 h2;simp only[ZD,Prod.mk.injEq]at hc;obtain⟨rfl,rfl⟩:=hc;have hk2:np≤fn.ntmps:=by simpa using hk.2
     refine Us hf hb hk.1 (by rw[Dc code h1];exact h1) (by omega) h2 hnd (B3 _ (fun e env H h=>?_) h);cases e with
     |normal=>exact h
     |exit j=>exact h
     |ret=>exact h
    ·cases hc
theorem Ag8{P : Program}{f : FuncId}{np : Nat}{rc : Ae}{rts : List RT}(hc : Bi P f np = some (rc, rts)): ∃ fn code, P.funcs[f]? = some fn ∧ fn.body = some code ∧ (fn.name == "runtime.NumGoroutine") = false ∧ Ao P fn.ntmps code = some rc ∧ np ≤ fn.ntmps ∧ Jd P fn.results.toList = some rts := by
 unfold Bi at hc;split at hc
 ·cases hc
 ·rename_i fn hf;split at hc
  ·cases hc
  ·rename_i code hb;split at hc
   ·cases hc
   ·rename_i hk;simp only[Bool.or_eq_true,not_or,Bool.not_eq_true',Bool.not_eq_true,decide_eq_false_iff_not,Classical.not_not]at hk;split at hc
    ·rename_i rc' ts' h1 h2;simp only[ZD,Prod.mk.injEq]at hc;obtain⟨rfl,rfl⟩:=hc;exact⟨fn,code,hf,hb,hk.1,h1,by simpa using hk.2,h2⟩
    ·cases hc
theorem Ady[Glob]{P:Program}{f:FuncId}{np:Nat}{rc rcD:Ae}{ts:List RT}{ps rs:List Bf}(hc:Bi P f np=some (rc,ts))(hs:Cv rcD=Cv rc)(hn:ps.length=np)(hnd:(Ny 0 ps).Nodup)(h:wpx P noD rcD (Aa0 ts ps rs) (atV (Gm 0 ps)) (Bx noH (Qf 0 ps))):Gl P f ps rs:=by
 obtain⟨fn,code,h1,h2,h3,h4,h5,h6⟩:=Ag8 hc;refine Us h1 h2 h3 (by rw[hs,Dc code h4];exact h4) (by omega) h6 hnd (B3 _ (fun e env H h=>?_) h);cases e with
 |normal=>exact h
 |exit j=>exact h
 |ret=>exact h
theorem Ae6[Glob]{P:Program}{f:FuncId}{np:Nat}{rc rcD:Ae}{ts:List RT}{ps:List Bf}{v:Value}(hc:Bi P f np=some (rc,ts))(hs:Cv rcD=Cv rc)(hn:ps.length=np)(hnd:(Ny 0 ps).Nodup)(h:wpx P (fun x=>x=v) rcD Ap8 (atV (Gm 0 ps)) (Bx noH (Qf 0 ps))):Ij P f ps v:=by
 obtain⟨fn,code,h1,h2,h3,h4,h5,h6⟩:=Ag8 hc;refine⟨⟨fn,h1,h3,by rw[h2];rfl⟩,fun w R xs F hlt hp hg=>?_⟩;refine calls_of_wp h1 h2 ?_;obtain⟨G0,hrel,hV0⟩:=Na (n:=fn.ntmps) (D:=fun x=>x=v) hlt hp (by omega) hnd hg;refine wp_mono (Ce (c:=⟨w,R,F,fn.ntmps,fun x=>x=v,G0,hg⟩) rfl rcD (by rw[hs,Dc code h4];exact h4) (B3 (Q':=Ast) rcD (fun e env H h=>h.elim) h) ⟨R,G0,hrel⟩) fun e a' w' he=>?_;cases e with
 |normal=>obtain⟨st,h1,h2⟩:=he;exact h1.elim
 |ret=>obtain⟨st,h1,h2⟩:=he;exact h1.elim
 |exit id=>obtain⟨st,h1,h2⟩:=he;exact h1.elim
 |goto l=>exact he.elim
 |panic ch=>obtain⟨v',rfl,rfl,h3,h4⟩:=he;exact⟨h4,rfl,h3⟩
 |outgrown=>exact he.elim
end Go.Proofs.YtchbkgnobpejnaaGreatDoor
