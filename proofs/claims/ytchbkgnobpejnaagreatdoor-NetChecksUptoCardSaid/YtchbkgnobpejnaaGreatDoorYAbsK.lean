/- The framework: part of this claim. -/
import Derived.Test.YtchbkgnobpejnaaGreatDoorYAbsQ
set_option linter.unusedSimpArgs false
set_option linter.unusedVariables false
namespace Go.Proofs.YtchbkgnobpejnaaGreatDoor
open Go.RowKit
def Aem(env:Env)(H:Hp):List RT→(List V→Prop)→Prop
 |[],K=>K []
 |(t,none)::r,K=>f1 (env t) fun u=>Aem env H r fun us=>K (u::us)
 |(t,some (agg,sz))::r,K=>match env t with
  |.ptr id gen i off=>atH H id gen fun e=>∃row,e.rows[i]? =some row∧bX (Nat.ble (off+sz) row.length) (mkX agg ((row.drop off).take sz) fun u=>Aem env H r fun us=>K (u::us))
  |_=>False
theorem Vr{env:Env}{H:Hp}:∀{rts:List RT} {K:List V→Prop},Aem env H rts K→∃us,Il env H rts us∧K us
 |[],K,h=>⟨[],.nil,h⟩
 |(t,none)::r,K,h=>by
  simp only[Aem,Uu]at h;obtain⟨us,h1,h2⟩:=Vr h;exact⟨_,.tmp h1,h2⟩
 |(t,some (agg,sz))::r,K,h=>by
  simp only[Aem]at h;split at h
  ·rename_i id gen i off ht;obtain⟨e,h1,h2,row,h3,h4⟩:=Cp h;obtain⟨h5,h6⟩:=Ha h4;rw[Am3]at h6;obtain⟨us,h7,h8⟩:=Vr h6;exact⟨_,.cell ht h1 h2 h3 (Nat.le_of_ble_eq_true h5) h7,h8⟩
  ·exact h.elim
def Aj5(rts:List RT)(K:List V→Hp→Prop):Ex→St→Prop
 |.exit _,_=>False
 |_,st=>∃us,Il st.env st.H rts us∧K us st.H
def Ama(rts:List RT)(K:List V→Hp→Prop):Ex→Env→Hp→Prop
 |.exit _=>fun _ _=>False
 |.normal=>fun env H=>Aem env H rts fun us=>K us H
 |.ret=>fun env H=>Aem env H rts fun us=>K us H
theorem Rv [Glob] [Off] {P : Program} {f : FuncId} {fn : Func} {code : Code} {rc rcD : Ae} {rts : List RT} {us : List V} {H : Hp} {D : Value → Prop} {K : List V → Hp → Prop} (h1 : P.funcs[f]? = some fn) (h2 : fn.body = some code) (h3 : (fn.name == "runtime.NumGoroutine") = false) (h4 : Ao P fn.ntmps code = some rc) (h5 : us.length ≤ fn.ntmps) (h6 : Jd P fn.results.toList = some rts)
  (hs:Cv rcD=Cv rc) (h:wpx P D rcD (Ama rts K) (atV us) H):Inl P f us H D K:=by
 refine⟨⟨fn,h1,h3,by rw[h2];rfl⟩,fun w R G xs hlt hHR hl hh hg=>?_⟩;refine calls_of_wp h1 h2 ?_;have hget:∀i,(xs.toArray++Array.replicate (fn.ntmps-xs.toArray.size) undef).getD i undef=(xs[i]?).getD undef:=fun i=>by
  rw[Array.getD_eq_getD_getElem?,Array.getElem?_append];split
  ·simp
  ·rename_i h;rw[XK (by simpa using h)];rw[Array.getElem?_replicate];split<;>rfl
 have hrel:Ac ⟨w,R,LH H G,fn.ntmps,D,G,hg⟩ ⟨atV us,H,D⟩ {tmps:=xs.toArray++Array.replicate (fn.ntmps-xs.toArray.size) undef,defers:=[]} w R G:=by
  refine⟨fun i=>?_,hHR,hlt,fun b hb=>.inl hb,fun b hb=>hb,Fr.refl _ _,by simp;omega,rfl,rfl,Gle.refl _⟩;show RV w R G (atV us i) ((xs.toArray++Array.replicate (fn.ntmps-xs.toArray.size) undef).getD i undef);rw[hget,Vu];by_cases hi:i<xs.length
  ·have hi':i<us.length:=by omega
   rw[ZC hi,ZC hi'];exact hh i _ _ (ZC hi') (ZC hi)
  ·rw[XK (by omega),XK (by omega)];exact .v _
 have hw:wpv P rcD (Aj5 rts K) ⟨atV us,H,D⟩:=B3 rcD (fun e env H h=>by
  cases e with
  |normal=>exact Vr h
  |exit j=>exact h
  |ret=>exact Vr h) h
 refine wp_mono (Ce (c:=⟨w,R,LH H G,fn.ntmps,D,G,hg⟩) rfl rcD (by rw[hs,Dc code h4];exact h4) hw ⟨R,G,hrel⟩) fun e a' w' he=>?_;have fin:∀st us',Il st.env st.H rts us'→K us' st.H→Rel ⟨w,R,LH H G,fn.ntmps,D,G,hg⟩ st a' w'→a'.defers=[]∧∃v,(results fn a'.tmps).run P w'=.ok v w'∧
   ((∃(us':List V) (H':Nat→Option Ent) (x:Value) (R':Nat→Prop) (G':Nat→Option Loc),K us' H'∧Ending.returned v=.returned x∧RV w' R' G' (F7 us') x∧HR w (LH H G) w' R' G' H'∧(∀b,R' b→b<w'.heap.size)∧(∀b,R' b→R b∨(LH H G b∨w.heap.size≤b))∧(∀b,R b→R' b)∧Fr (LH H G) w w'∧Gle G G')∨
   (∃x,Ending.returned v=.panicked [{v:=x,recovered:=false}]∧D x∧Fr (LH H G) w w')):=fun st us' hG hK ⟨R2,G2,hR⟩=>by
  obtain⟨zs,z1,z2,z3⟩:=Ge hR _ h6 hG;exact⟨hR.defers,_,E5 z1,.inl ⟨us',st.H,_,R2,G2,hK,rfl,Sr z2.symm z3,hR.hr,hR.lt,hR.src,hR.old,hR.fr,hR.gle⟩⟩
 cases e with
 |normal=>obtain⟨st,⟨us',p1,p2⟩,q2⟩:=he;exact fin st us' p1 p2 q2
 |ret=>obtain⟨st,⟨us',p1,p2⟩,q2⟩:=he;exact fin st us' p1 p2 q2
 |exit id=>obtain⟨st,q1,q2⟩:=he;exact q1.elim
 |goto l=>exact he.elim
 |panic ch=>obtain⟨v',rfl,q1,q2,q3⟩:=he;exact⟨q3,.inr ⟨v',rfl,q1,q2⟩⟩
 |outgrown=>exact he.elim
theorem Aaa{P:Program}:∀{l:List ResultVar} {ts:List Nat},l=ts.map .tmp→Jd P l=some (ts.map fun t=>(t,none))
 |[],ts,h=>by
  cases ts with
  |nil=>rfl
  |cons t ts=>cases h
 |r::l,ts,h=>by
  cases ts with
  |nil=>cases h
  |cons t ts=>
   injection h with h1 h2;subst h1;simp only[Jd,Anr,Aaa h2,List.map_cons]
section
variable {P:Program} {f:FuncId} {np:Nat} {rc:Ae} {us:List V} {H:Hp} {D:Value→Prop} {K:List V→Hp→Prop}
theorem Qx{rts : List RT}(hc : Bi P f np = some (rc, rts)): ∃ fn code, P.funcs[f]? = some fn ∧ fn.body = some code ∧ (fn.name == "runtime.NumGoroutine") = false ∧ Ao P fn.ntmps code = some rc ∧ np ≤ fn.ntmps ∧ Jd P fn.results.toList = some rts := by
 unfold Bi at hc;split at hc
 ·cases hc
 ·rename_i fn hf;split at hc
  ·cases hc
  ·rename_i code hb;split at hc
   ·cases hc
   ·rename_i hk;simp only[Bool.or_eq_true,not_or,Bool.not_eq_true',Bool.not_eq_true,decide_eq_false_iff_not,Classical.not_not]at hk;split at hc
    ·rename_i rc' ts' h1 h2;simp only[ZD,Prod.mk.injEq]at hc;obtain⟨rfl,rfl⟩:=hc;exact⟨fn,code,hf,hb,hk.1,h1,by simpa using hk.2,h2⟩
    ·cases hc
theorem Aq[Glob](off m:Nat){ts:List Nat}(hc:Al P f np=some (rc,ts))(hn:us.length=np)(h:letI:Off:=⟨off⟩;wpx P D (Ea m rc) (Ama (ts.map fun t=>(t,none)) K) (atV us) H):Inl P f us H D K:=by
 obtain⟨fn,code,h1,h2,h3,h4,h5,h6⟩:=Ms hc;exact(letI:Off:=⟨off⟩;Rv h1 h2 h3 h4 (by omega) (Aaa h6) (Do m rc) h)
theorem Ahg[Glob](off m:Nat){rts:List RT}(hc:Bi P f np=some (rc,rts))(hn:us.length=np)(h:letI:Off:=⟨off⟩;wpx P D (Ea m rc) (Ama rts K) (atV us) H):Inl P f us H D K:=by
 obtain⟨fn,code,h1,h2,h3,h4,h5,h6⟩:=Qx hc;exact(letI:Off:=⟨off⟩;Rv h1 h2 h3 h4 (by omega) h6 (Do m rc) h)
theorem Im[Glob](off:Nat){ts:List Nat}(hc:Al P f np=some (rc,ts))(hn:us.length=np)(h:letI:Off:=⟨off⟩;wpx P D rc (Ama (ts.map fun t=>(t,none)) K) (atV us) H):Inl P f us H D K:=by
 obtain⟨fn,code,h1,h2,h3,h4,h5,h6⟩:=Ms hc;exact(letI:Off:=⟨off⟩;Rv h1 h2 h3 h4 (by omega) (Aaa h6) rfl h)
theorem Vs[Glob](off:Nat){rts:List RT}(hc:Bi P f np=some (rc,rts))(hn:us.length=np)(h:letI:Off:=⟨off⟩;wpx P D rc (Ama rts K) (atV us) H):Inl P f us H D K:=by
 obtain⟨fn,code,h1,h2,h3,h4,h5,h6⟩:=Qx hc;exact(letI:Off:=⟨off⟩;Rv h1 h2 h3 h4 (by omega) h6 rfl h)
theorem Fh[Glob](m:Nat){ts:List Nat}{ps rs:List Par}(hc:Al P f np=some (rc,ts))(hn:ps.length=np)(h:wpx P noD (Ea m rc) (Ar1 ts rs) (Gt ps) (Jc ps)):Fun P f ps rs:=by
 obtain⟨fn,code,h1,h2,h3,h4,h5,h6⟩:=Ms hc;exact Aro hc ((Do m rc).trans (Dc code h4)) hn h
end
end Go.Proofs.YtchbkgnobpejnaaGreatDoor
