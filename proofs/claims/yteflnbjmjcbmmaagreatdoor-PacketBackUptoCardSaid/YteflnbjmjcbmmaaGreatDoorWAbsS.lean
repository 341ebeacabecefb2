/- The framework: part of this claim. -/
import Derived.Test.YteflnbjmjcbmmaaGreatDoorWAbsQ
set_option linter.unusedSimpArgs false
set_option linter.unusedVariables false
namespace Go.Proofs.YteflnbjmjcbmmaaGreatDoor
open Go.RowKit
theorem Adg{H:Nat→Option Ent}{all:List Nat}{bor:Bool}{gone:List Nat}{us:List V}{ps:List Ba}(h:Bg H all bor gone us ps):us.length=ps.length:=by
 induction h<;>simp_all
theorem V6:∀(ps:List Ba) (i:Nat),(Ft i ps).length=(Bp ps).length
 |[],_=>rfl
 |p::ps,i=>by cases p<;>simp[Ft,Bp,V6 ps]
def Ahv(rts:List RT)(ps rs:List Ba)(st:St):Prop:=∃us gone,G3 st.env st.H rts us∧Bg st.H gone true gone (us++Ft 0 ps) (rs++Bp ps)
def Ai8(rts:List RT)(ps rs:List Ba):Ex→St→Prop
 |.exit _,_=>False
 |_,st=>Ahv rts ps rs st
theorem Q1 [Glob] {P : Program} {f : FuncId} {fn : Func} {code : Code} {rc : Ag} {ps rs : List Ba} {rts : List RT} (hf : P.funcs[f]? = some fn) (hb : fn.body = some code) (hname : (fn.name == "runtime.NumGoroutine") = false) (hres : Al P fn.ntmps code = some (Dj rc))
  (hlen:ps.length≤fn.ntmps) (hts:Lt P fn.results.toList=some rts) (hnd:(Ls 0 ps).Nodup) (h:wpv P rc (Ai8 rts ps rs) (Wd noD ps)):E8 P f ps rs:=by
 refine⟨⟨fn,hf,hname,by rw[hb];rfl⟩,fun w R xs F hlt hp hg=>?_⟩;refine calls_of_wp hf hb ?_;obtain⟨G0,hrel,hV0⟩:=K7 (n:=fn.ntmps) (D:=noD) hlt hp hlen hnd hg;refine wp_mono (Cb (c:=⟨w,R,F,fn.ntmps,noD,G0,hg⟩) rfl rc hres h ⟨R,G0,hrel⟩) fun e a' w' he=>?_;have fin:∀st,Ahv rts ps rs st→Rel ⟨w,R,F,fn.ntmps,noD,G0,hg⟩ st a' w'→a'.defers=[]∧∃v,(results fn a'.tmps).run P w'=.ok v w'∧∃(ys:List Value) (R' F':Nat→Prop),Ending.returned v=.returned (Db ys)∧rs.length=ys.length∧Fr F w w'∧(∀b,R b→R' b)∧
   (∀b,R' b→R b∨(b<w'.heap.size∧(F b∨w.heap.size≤b)))∧Ca w' R' (rs++Bp ps) (ys++Da ps xs) F'∧(∀b,F' b→F b∨w.heap.size≤b):=fun st ⟨us,gone,hG,hA⟩ ⟨R2,G,hR⟩=>by
  obtain⟨zs,z1,z2,z3⟩:=Jq hR _ hts hG;have hRR:∀b,R b→R2 b∧w'.heap[b]? =w.heap[b]? :=fun b hb=>⟨hR.old b hb,hR.fr.block b (hlt b hb) (fun hl=>hp.free b hl hb)⟩;obtain⟨x1,x2⟩:=Pz ps xs 0 hp.len (fun j u x q1 q2=>(hV0 j u x q1 q2).mono hRR hR.gle);obtain⟨F',h1,h2,h3⟩:=Lp hR (bor0:=true) (xs:=zs++Da ps xs) hA (fun e=>e) (by simp[x1,z2]) (fun i u x q1 q2=>by
   by_cases hi:i<us.length
   ·rw[ZQ hi]at q1;rw[ZQ (by omega)]at q2;exact z3 i u x q1 q2
   ·rw[ZP (by omega)]at q1 q2;rw[z2]at q2;exact x2 _ u x q1 q2)
  have hrl:rs.length=zs.length:=by
   have e1:=Adg hA;have e2:(Ft 0 ps).length=(Bp ps).length:=V6 ps 0;simp only[ZF]at e1;omega
  refine⟨hR.defers,_,Ij z1,zs,RB R2 G st.H gone true,F',rfl,hrl,hR.fr,fun b hb=>.inl (hR.old b hb),?_,h1,fun b hb=>?_⟩
  ·rintro b (hb|⟨_,id,e,l,_,q1,q2,q3,q4⟩)
   ·rcases hR.src b hb with q|q
    ·exact .inl q
    ·exact .inr ⟨hR.lt b hb,q⟩
   ·exact .inr ⟨hR.hr.lt q1 q2 q3 q4,(hR.hr.mine id e l b q1 q2 q3 q4).2⟩
  ·obtain⟨id,_,e,l,q1,q2,q3,q4⟩:=h2 b hb;exact(hR.hr.mine id e l b q1 q2 q3 q4).2
 cases e with
 |normal=>obtain⟨st,h1,h2⟩:=he;exact fin st h1 h2
 |ret=>obtain⟨st,h1,h2⟩:=he;exact fin st h1 h2
 |exit id=>obtain⟨st,h1,h2⟩:=he;exact h1.elim
 |goto l=>exact he.elim
 |panic ch=>obtain⟨v,_,h2,_⟩:=he;exact h2.elim
 |outgrown=>exact he.elim
def Wi(rts:List RT)(ps rs:List Ba):Ex→Env→Hp→Prop
 |.exit _=>fun _ _=>False
 |.normal=>fun env H=>∃us gone,G3 env H rts us∧Bg H gone true gone (us++Ft 0 ps) (rs++Bp ps)
 |.ret=>fun env H=>∃us gone,G3 env H rts us∧Bg H gone true gone (us++Ft 0 ps) (rs++Bp ps)
theorem Alp[Glob]{P:Program}{f:FuncId}{np:Nat}{rc:Ag}{ts:List RT}{ps rs:List Ba}(hc:Cr P f np=some (rc,ts))(hn:ps.length=np)(hnd:(Ls 0 ps).Nodup)(h:wpx P noD rc (Wi ts ps rs) (atV (Fe 0 ps)) (Bn noH (Nt 0 ps))):E8 P f ps rs:=by
 unfold Cr at hc;split at hc
 ·cases hc
 ·rename_i fn hf;split at hc
  ·cases hc
  ·rename_i code hb;split at hc
   ·cases hc
   ·rename_i hk;simp only[Bool.or_eq_true,not_or,Bool.not_eq_true',Bool.not_eq_true,decide_eq_false_iff_not,Classical.not_not]at hk;split at hc
    ·rename_i rc' ts' h1 h2;simp only[ZD,Prod.mk.injEq]at hc;obtain⟨rfl,rfl⟩:=hc;have hk2:np≤fn.ntmps:=by simpa using hk.2
     refine Q1 hf hb hk.1 (by rw[Dd code h1];exact h1) (by omega) h2 hnd (B8 _ (fun e env H h=>?_) h);cases e with
     |normal=>exact h
     |exit j=>exact h
     |ret=>exact h
    ·cases hc
theorem Abk{P : Program}{f : FuncId}{np : Nat}{rc : Ag}{rts : List RT}(hc : Cr P f np = some (rc, rts)): ∃ fn code, P.funcs[f]? = some fn ∧ fn.body = some code ∧ (fn.name == "runtime.NumGoroutine") = false ∧ Al P fn.ntmps code = some rc ∧ np ≤ fn.ntmps ∧ Lt P fn.results.toList = some rts := by
 unfold Cr at hc;split at hc
 ·cases hc
 ·rename_i fn hf;split at hc
  ·cases hc
  ·rename_i code hb;split at hc
   ·cases hc
   ·rename_i hk;simp only[Bool.or_eq_true,not_or,Bool.not_eq_true',Bool.not_eq_true,decide_eq_false_iff_not,Classical.not_not]at hk;split at hc
    ·rename_i rc' ts' h1 h2;simp only[ZD,Prod.mk.injEq]at hc;obtain⟨rfl,rfl⟩:=hc;exact⟨fn,code,hf,hb,hk.1,h1,by simpa using hk.2,h2⟩
    ·cases hc
theorem Ys[Glob]{P:Program}{f:FuncId}{np:Nat}{rc rcD:Ag}{ts:List RT}{ps rs:List Ba}(hc:Cr P f np=some (rc,ts))(hs:Dj rcD=Dj rc)(hn:ps.length=np)(hnd:(Ls 0 ps).Nodup)(h:wpx P noD rcD (Wi ts ps rs) (atV (Fe 0 ps)) (Bn noH (Nt 0 ps))):E8 P f ps rs:=by
 obtain⟨fn,code,h1,h2,h3,h4,h5,h6⟩:=Abk hc;refine Q1 h1 h2 h3 (by rw[hs,Dd code h4];exact h4) (by omega) h6 hnd (B8 _ (fun e env H h=>?_) h);cases e with
 |normal=>exact h
 |exit j=>exact h
 |ret=>exact h
theorem Zj[Glob]{P:Program}{f:FuncId}{np:Nat}{rc rcD:Ag}{ts:List RT}{ps:List Ba}{v:Value}(hc:Cr P f np=some (rc,ts))(hs:Dj rcD=Dj rc)(hn:ps.length=np)(hnd:(Ls 0 ps).Nodup)(h:wpx P (fun x=>x=v) rcD Ai9 (atV (Fe 0 ps)) (Bn noH (Nt 0 ps))):Gu P f ps v:=by
 obtain⟨fn,code,h1,h2,h3,h4,h5,h6⟩:=Abk hc;refine⟨⟨fn,h1,h3,by rw[h2];rfl⟩,fun w R xs F hlt hp hg=>?_⟩;refine calls_of_wp h1 h2 ?_;obtain⟨G0,hrel,hV0⟩:=K7 (n:=fn.ntmps) (D:=fun x=>x=v) hlt hp (by omega) hnd hg;refine wp_mono (Cb (c:=⟨w,R,F,fn.ntmps,fun x=>x=v,G0,hg⟩) rfl rcD (by rw[hs,Dd code h4];exact h4) (B8 (Q':=Al9) rcD (fun e env H h=>h.elim) h) ⟨R,G0,hrel⟩) fun e a' w' he=>?_;cases e with
 |normal=>obtain⟨st,h1,h2⟩:=he;exact h1.elim
 |ret=>obtain⟨st,h1,h2⟩:=he;exact h1.elim
 |exit id=>obtain⟨st,h1,h2⟩:=he;exact h1.elim
 |goto l=>exact he.elim
 |panic ch=>obtain⟨v',rfl,rfl,h3,h4⟩:=he;exact⟨h4,rfl,h3⟩
 |outgrown=>exact he.elim
end Go.Proofs.YteflnbjmjcbmmaaGreatDoor
