/- The framework: part of this claim. -/
import Derived.Test.YtkbjgdcdjccnaaaGreatDoorWAbsQ
set_option linter.unusedSimpArgs false
set_option linter.unusedVariables false
namespace Go.Proofs.YtkbjgdcdjccnaaaGreatDoor
open Go.RowKit
theorem Aoz{H:Nat→Option Ent}{all:List Nat}{bor:Bool}{gone:List Nat}{us:List V}{ps:List Bg}(h:Bj H all bor gone us ps):us.length=ps.length:=by
 induction h<;>simp_all
theorem Ae3:∀(ps:List Bg) (i:Nat),(Ij i ps).length=(B7 ps).length
 |[],_=>rfl
 |p::ps,i=>by cases p<;>simp[Ij,B7,Ae3 ps]
def Axx(rts:List RT)(ps rs:List Bg)(st:St):Prop:=∃us gone,Ia st.env st.H rts us∧Bj st.H gone true gone (us++Ij 0 ps) (rs++B7 ps)
def Ba6(rts:List RT)(ps rs:List Bg):Ex→St→Prop
 |.exit _,_=>False
 |_,st=>Axx rts ps rs st
theorem Ahn {P : Program} {f : FuncId} {fn : Func} {code : Code} {rc : Ag} {ps rs : List Bg} {rts : List RT} (hf : P.funcs[f]? = some fn) (hb : fn.body = some code) (hname : (fn.name == "runtime.NumGoroutine") = false) (hres : As P fn.ntmps code = some rc)
  (hlen:ps.length≤fn.ntmps) (hts:Ou P fn.results.toList=some rts) (hnd:(Pr 0 ps).Nodup) (h:wpv P rc (Ba6 rts ps rs) (Aek noD ps)):Hv P f ps rs:=by
 refine⟨⟨fn,hf,hname,by rw[hb];rfl⟩,fun w R xs F hlt hp=>?_⟩;refine calls_of_wp hf hb ?_;obtain⟨G0,hrel,hV0⟩:=Sm (n:=fn.ntmps) (D:=noD) hlt hp hlen hnd;refine wp_mono (B9 (c:=⟨w,R,F,fn.ntmps,noD,G0⟩) rfl code hres h ⟨R,G0,hrel⟩) fun e a' w' he=>?_;have fin:∀st,Axx rts ps rs st→Rel ⟨w,R,F,fn.ntmps,noD,G0⟩ st a' w'→a'.defers=[]∧∃v,(results fn a'.tmps).run P w'=.ok v w'∧∃(ys:List Value) (R' F':Nat→Prop),Ending.returned v=.returned (Ge ys)∧rs.length=ys.length∧Fr F w w'∧(∀b,R b→R' b)∧
   (∀b,R' b→R b∨(b<w'.heap.size∧(F b∨w.heap.size≤b)))∧C2 w' R' (rs++B7 ps) (ys++Ds ps xs) F'∧(∀b,F' b→F b∨w.heap.size≤b):=fun st ⟨us,gone,hG,hA⟩ ⟨R2,G,hR⟩=>by
  obtain⟨zs,z1,z2,z3⟩:=Jc hR _ hts hG;have hRR:∀b,R b→R2 b∧w'.heap[b]? =w.heap[b]? :=fun b hb=>⟨hR.old b hb,hR.fr.block b (hlt b hb) (fun hl=>hp.free b hl hb)⟩;obtain⟨x1,x2⟩:=We ps xs 0 hp.len (fun j u x q1 q2=>(hV0 j u x q1 q2).mono hRR hR.gle);obtain⟨F',h1,h2,h3⟩:=N3 hR (bor0:=true) (xs:=zs++Ds ps xs) hA (fun e=>e) (by simp[x1,z2]) (fun i u x q1 q2=>by
   by_cases hi:i<us.length
   ·rw[ZQ hi]at q1;rw[ZQ (by omega)]at q2;exact z3 i u x q1 q2
   ·rw[ZP (by omega)]at q1 q2;rw[z2]at q2;exact x2 _ u x q1 q2)
  have hrl:rs.length=zs.length:=by
   have e1:=Aoz hA;have e2:(Ij 0 ps).length=(B7 ps).length:=Ae3 ps 0;simp only[ZF]at e1;omega
  refine⟨hR.defers,_,H6 z1,zs,RB R2 G st.H gone true,F',rfl,hrl,hR.fr,fun b hb=>.inl (hR.old b hb),?_,h1,fun b hb=>?_⟩
  ·rintro b (hb|⟨_,id,e,l,_,q1,q2,q3,q4⟩)
   ·rcases hR.src b hb with q|q
    ·exact .inl q
    ·exact .inr ⟨hR.lt b hb,q⟩
   ·exact .inr ⟨hR.hr.lt q1 q2 q3 q4,(hR.hr.mine id e l b q1 q2 q3 q4).2⟩
  ·obtain⟨id,_,e,l,q1,q2,q3,q4⟩:=h2 b hb;exact(hR.hr.mine id e l b q1 q2 q3 q4).2
 cases e with
 |normal=>obtain⟨st,h1,h2⟩:=he;exact fin st h1 h2
 |ret=>obtain⟨st,h1,h2⟩:=he;exact fin st h1 h2
 |exit id=>obtain⟨st,h1,h2⟩:=he;exact h1.elim
 |goto l=>exact he.elim
 |panic ch=>obtain⟨v,_,h2,_⟩:=he;exact h2.elim
 |outgrown=>exact he.elim
def Ayu(rts:List RT)(ps rs:List Bg):Ex→Env→Hp→Prop
 |.exit _=>fun _ _=>False
 |.normal=>fun env H=>∃us gone,Ia env H rts us∧Bj H gone true gone (us++Ij 0 ps) (rs++B7 ps)
 |.ret=>fun env H=>∃us gone,Ia env H rts us∧Bj H gone true gone (us++Ij 0 ps) (rs++B7 ps)
theorem Aoh{P:Program}{f:FuncId}{np:Nat}{rc:Ag}{ts:List RT}{ps rs:List Bg}(hc:Ce P f np=some (rc,ts))(hn:ps.length=np)(hnd:(Pr 0 ps).Nodup)(h:wpx P noD rc (Ayu ts ps rs) (atV (Ji 0 ps)) (Cg noH (Xs 0 ps))):Hv P f ps rs:=by
 unfold Ce at hc;split at hc
 ·cases hc
 ·rename_i fn hf;split at hc
  ·cases hc
  ·rename_i code hb;split at hc
   ·cases hc
   ·rename_i hk;simp only[Bool.or_eq_true,not_or,Bool.not_eq_true',Bool.not_eq_true,decide_eq_false_iff_not,Classical.not_not]at hk;split at hc
    ·rename_i rc' ts' h1 h2;simp only[ZD,Prod.mk.injEq]at hc;obtain⟨rfl,rfl⟩:=hc;have hk2:np≤fn.ntmps:=by simpa using hk.2
     refine Ahn hf hb hk.1 h1 (by omega) h2 hnd (Cp _ (fun e env H h=>?_) h);cases e with
     |normal=>exact h
     |exit j=>exact h
     |ret=>exact h
    ·cases hc
theorem Ada{P:Program}{f:FuncId}{np:Nat}{rc:Ag}{ts:List RT}{ps:List Bg}{v:Value}(hc:Ce P f np=some (rc,ts))(hn:ps.length=np)(hnd:(Pr 0 ps).Nodup)(h:wpx P (fun x=>x=v) rc Bcb (atV (Ji 0 ps)) (Cg noH (Xs 0 ps))):Ha P f ps v:=by
 unfold Ce at hc;split at hc
 ·cases hc
 ·rename_i fn hf;split at hc
  ·cases hc
  ·rename_i code hb;split at hc
   ·cases hc
   ·rename_i hk;simp only[Bool.or_eq_true,not_or,Bool.not_eq_true',Bool.not_eq_true,decide_eq_false_iff_not,Classical.not_not]at hk;split at hc
    ·rename_i rc' ts' h1 h2;simp only[ZD,Prod.mk.injEq]at hc;obtain⟨rfl,rfl⟩:=hc;have hk2:np≤fn.ntmps:=by simpa using hk.2
     exact T5 hf hb hk.1 h1 (by omega) hnd (Cp _ (fun e env H h=>h.elim) h)
    ·cases hc
end Go.Proofs.YtkbjgdcdjccnaaaGreatDoor
