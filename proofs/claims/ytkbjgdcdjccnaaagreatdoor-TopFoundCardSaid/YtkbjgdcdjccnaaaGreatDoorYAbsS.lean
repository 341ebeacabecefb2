/- The framework: part of this claim. -/
import Derived.Test.YtkbjgdcdjccnaaaGreatDoorYAbsQ
set_option linter.unusedSimpArgs false
set_option linter.unusedVariables false
namespace Go.Proofs.YtkbjgdcdjccnaaaGreatDoor
open Go.RowKit
theorem Anf{H:Nat→Option Ent}{all:List Nat}{bor:Bool}{gone:List Nat}{us:List V}{ps:List Bj}(h:Bk H all bor gone us ps):us.length=ps.length:=by
 induction h<;>simp_all
theorem Aba:∀(ps:List Bj) (i:Nat),(H5 i ps).length=(B5 ps).length
 |[],_=>rfl
 |p::ps,i=>by cases p<;>simp[H5,B5,Aba ps]
def Ava(rts:List RT)(ps rs:List Bj)(st:St):Prop:=∃us gone,Hy st.env st.H rts us∧Bk st.H gone true gone (us++H5 0 ps) (rs++B5 ps)
def Aws(rts:List RT)(ps rs:List Bj):Ex→St→Prop
 |.exit _,_=>False
 |_,st=>Ava rts ps rs st
theorem Aei {P : Program} {f : FuncId} {fn : Func} {code : Code} {rc : Aj} {ps rs : List Bj} {rts : List RT} (hf : P.funcs[f]? = some fn) (hb : fn.body = some code) (hname : (fn.name == "runtime.NumGoroutine") = false) (hres : Ap P fn.ntmps code = some rc)
  (hlen:ps.length≤fn.ntmps) (hts:Nf P fn.results.toList=some rts) (hnd:(N6 0 ps).Nodup) (h:wpv P rc (Aws rts ps rs) (Ad2 noD ps)):Hz P f ps rs:=by
 refine⟨⟨fn,hf,hname,by rw[hb];rfl⟩,fun w R xs F hlt hp=>?_⟩;refine calls_of_wp hf hb ?_;obtain⟨G0,hrel,hV0⟩:=Qp (n:=fn.ntmps) (D:=noD) hlt hp hlen hnd;refine wp_mono (Ca (c:=⟨w,R,F,fn.ntmps,noD,G0⟩) rfl code hres h ⟨R,G0,hrel⟩) fun e a' w' he=>?_;have fin:∀st,Ava rts ps rs st→Rel ⟨w,R,F,fn.ntmps,noD,G0⟩ st a' w'→a'.defers=[]∧∃v,(results fn a'.tmps).run P w'=.ok v w'∧∃(ys:List Value) (R' F':Nat→Prop),Ending.returned v=.returned (Fx ys)∧rs.length=ys.length∧Fr F w w'∧(∀b,R b→R' b)∧
   (∀b,R' b→R b∨(b<w'.heap.size∧(F b∨w.heap.size≤b)))∧Cy w' R' (rs++B5 ps) (ys++Dq ps xs) F'∧(∀b,F' b→F b∨w.heap.size≤b):=fun st ⟨us,gone,hG,hA⟩ ⟨R2,G,hR⟩=>by
  obtain⟨zs,z1,z2,z3⟩:=Im hR _ hts hG;have hRR:∀b,R b→R2 b∧w'.heap[b]? =w.heap[b]? :=fun b hb=>⟨hR.old b hb,hR.fr.block b (hlt b hb) (fun hl=>hp.free b hl hb)⟩;obtain⟨x1,x2⟩:=Ti ps xs 0 hp.len (fun j u x q1 q2=>(hV0 j u x q1 q2).mono hRR hR.gle);obtain⟨F',h1,h2,h3⟩:=Mr hR (bor0:=true) (xs:=zs++Dq ps xs) hA (fun e=>e) (by simp[x1,z2]) (fun i u x q1 q2=>by
   by_cases hi:i<us.length
   ·rw[ZQ hi]at q1;rw[ZQ (by omega)]at q2;exact z3 i u x q1 q2
   ·rw[ZP (by omega)]at q1 q2;rw[z2]at q2;exact x2 _ u x q1 q2)
  have hrl:rs.length=zs.length:=by
   have e1:=Anf hA;have e2:(H5 0 ps).length=(B5 ps).length:=Aba ps 0;simp only[ZF]at e1;omega
  refine⟨hR.defers,_,Hk z1,zs,RB R2 G st.H gone true,F',rfl,hrl,hR.fr,fun b hb=>.inl (hR.old b hb),?_,h1,fun b hb=>?_⟩
  ·rintro b (hb|⟨_,id,e,l,_,q1,q2,q3,q4⟩)
   ·rcases hR.src b hb with q|q
    ·exact .inl q
    ·exact .inr ⟨hR.lt b hb,q⟩
   ·exact .inr ⟨hR.hr.lt q1 q2 q3 q4,(hR.hr.mine id e l b q1 q2 q3 q4).2⟩
  ·obtain⟨id,_,e,l,q1,q2,q3,q4⟩:=h2 b hb;exact(hR.hr.mine id e l b q1 q2 q3 q4).2
 cases e with
 |normal=>obtain⟨st,h1,h2⟩:=he;exact fin st h1 h2
 |ret=>obtain⟨st,h1,h2⟩:=he;exact fin st h1 h2
 |exit id=>obtain⟨st,h1,h2⟩:=he;exact h1.elim
 |goto l=>exact he.elim
 |panic ch=>obtain⟨v,_,h2,_⟩:=he;exact h2.elim
 |outgrown=>exact he.elim
def Avh(rts:List RT)(ps rs:List Bj):Ex→Env→Hp→Prop
 |.exit _=>fun _ _=>False
 |.normal=>fun env H=>∃us gone,Hy env H rts us∧Bk H gone true gone (us++H5 0 ps) (rs++B5 ps)
 |.ret=>fun env H=>∃us gone,Hy env H rts us∧Bk H gone true gone (us++H5 0 ps) (rs++B5 ps)
theorem Ako{P:Program}{f:FuncId}{np:Nat}{rc:Aj}{ts:List RT}{ps rs:List Bj}(hc:Cb P f np=some (rc,ts))(hn:ps.length=np)(hnd:(N6 0 ps).Nodup)(h:wpx P noD rc (Avh ts ps rs) (atV (Io 0 ps)) (Ce noH (U9 0 ps))):Hz P f ps rs:=by
 unfold Cb at hc;split at hc
 ·cases hc
 ·rename_i fn hf;split at hc
  ·cases hc
  ·rename_i code hb;split at hc
   ·cases hc
   ·rename_i hk;simp only[Bool.or_eq_true,not_or,Bool.not_eq_true',Bool.not_eq_true,decide_eq_false_iff_not,Classical.not_not]at hk;split at hc
    ·rename_i rc' ts' h1 h2;simp only[ZD,Prod.mk.injEq]at hc;obtain⟨rfl,rfl⟩:=hc;have hk2:np≤fn.ntmps:=by simpa using hk.2
     refine Aei hf hb hk.1 h1 (by omega) h2 hnd (Cm _ (fun e env H h=>?_) h);cases e with
     |normal=>exact h
     |exit j=>exact h
     |ret=>exact h
    ·cases hc
theorem Abd{P:Program}{f:FuncId}{np:Nat}{rc:Aj}{ts:List RT}{ps:List Bj}{v:Value}(hc:Cb P f np=some (rc,ts))(hn:ps.length=np)(hnd:(N6 0 ps).Nodup)(h:wpx P (fun x=>x=v) rc Ayy (atV (Io 0 ps)) (Ce noH (U9 0 ps))):Gz P f ps v:=by
 unfold Cb at hc;split at hc
 ·cases hc
 ·rename_i fn hf;split at hc
  ·cases hc
  ·rename_i code hb;split at hc
   ·cases hc
   ·rename_i hk;simp only[Bool.or_eq_true,not_or,Bool.not_eq_true',Bool.not_eq_true,decide_eq_false_iff_not,Classical.not_not]at hk;split at hc
    ·rename_i rc' ts' h1 h2;simp only[ZD,Prod.mk.injEq]at hc;obtain⟨rfl,rfl⟩:=hc;have hk2:np≤fn.ntmps:=by simpa using hk.2
     exact Tb hf hb hk.1 h1 (by omega) hnd (Cm _ (fun e env H h=>h.elim) h)
    ·cases hc
end Go.Proofs.YtkbjgdcdjccnaaaGreatDoor
