/- The framework: part of this claim. -/
import Derived.Test.YtkbjgdcdjccnaaaGreatDoorYAbsQ
set_option linter.unusedSimpArgs false
set_option linter.unusedVariables false
namespace Go.Proofs.YtkbjgdcdjccnaaaGreatDoor
open Go.RowKit
def Aho(env:Env)(H:Hp):List RT→(List V→Prop)→Prop
 |[],K=>K []
 |(t,none)::r,K=>f1 (env t) fun u=>Aho env H r fun us=>K (u::us)
 |(t,some (agg,sz))::r,K=>match env t with
  |.ptr id gen i off=>atH H id gen fun e=>∃row,e.rows[i]? =some row∧bX (Nat.ble (off+sz) row.length) (mkX agg ((row.drop off).take sz) fun u=>Aho env H r fun us=>K (u::us))
  |_=>False
theorem Ww{env:Env}{H:Hp}:∀{rts:List RT} {K:List V→Prop},Aho env H rts K→∃us,Hy env H rts us∧K us
 |[],K,h=>⟨[],.nil,h⟩
 |(t,none)::r,K,h=>by
  simp only[Aho,Vf]at h;obtain⟨us,h1,h2⟩:=Ww h;exact⟨_,.tmp h1,h2⟩
 |(t,some (agg,sz))::r,K,h=>by
  simp only[Aho]at h;split at h
  ·rename_i id gen i off ht;obtain⟨e,h1,h2,row,h3,h4⟩:=Cv h;obtain⟨h5,h6⟩:=I1 h4;rw[Ard]at h6;obtain⟨us,h7,h8⟩:=Ww h6;exact⟨_,.cell ht h1 h2 h3 (Nat.le_of_ble_eq_true h5) h7,h8⟩
  ·exact h.elim
def Bbx(rts:List RT)(K:List V→Hp→Prop):Ex→St→Prop
 |.exit _,_=>False
 |_,st=>∃us,Hy st.env st.H rts us∧K us st.H
def Asi(rts:List RT)(K:List V→Hp→Prop):Ex→Env→Hp→Prop
 |.exit _=>fun _ _=>False
 |.normal=>fun env H=>Aho env H rts fun us=>K us H
 |.ret=>fun env H=>Aho env H rts fun us=>K us H
theorem Zx [Off] {P : Program} {f : FuncId} {fn : Func} {code : Code} {rc rcD : Aj} {rts : List RT} {us : List V} {H : Hp} {D : Value → Prop} {K : List V → Hp → Prop} (h1 : P.funcs[f]? = some fn) (h2 : fn.body = some code) (h3 : (fn.name == "runtime.NumGoroutine") = false) (h4 : Ap P fn.ntmps code = some rc) (h5 : us.length ≤ fn.ntmps) (h6 : Nf P fn.results.toList = some rts)
  (hs:Du rcD=Du rc) (h:wpx P D rcD (Asi rts K) (atV us) H):Inl P f us H D K:=by
 refine⟨⟨fn,h1,h3,by rw[h2];rfl⟩,fun w R G xs hlt hHR hl hh=>?_⟩;refine calls_of_wp h1 h2 ?_;have hget:∀i,(xs.toArray++Array.replicate (fn.ntmps-xs.toArray.size) undef).getD i undef=(xs[i]?).getD undef:=fun i=>by
  rw[Array.getD_eq_getD_getElem?,Array.getElem?_append];split
  ·simp
  ·rename_i h;rw[XK (by simpa using h)];rw[Array.getElem?_replicate];split<;>rfl
 have hrel:Ai ⟨w,R,LH H G,fn.ntmps,D,G⟩ ⟨atV us,H,D⟩ {tmps:=xs.toArray++Array.replicate (fn.ntmps-xs.toArray.size) undef,defers:=[]} w R G:=by
  refine⟨fun i=>?_,hHR,hlt,fun b hb=>.inl hb,fun b hb=>hb,Fr.refl _ _,by simp;omega,rfl,rfl,Gle.refl _⟩;show RV w R G (atV us i) ((xs.toArray++Array.replicate (fn.ntmps-xs.toArray.size) undef).getD i undef);rw[hget,Adi];by_cases hi:i<xs.length
  ·have hi':i<us.length:=by omega
   rw[ZC hi,ZC hi'];exact hh i _ _ (ZC hi') (ZC hi)
  ·rw[XK (by omega),XK (by omega)];exact .v _
 have hw:wpv P rcD (Bbx rts K) ⟨atV us,H,D⟩:=Cm rcD (fun e env H h=>by
  cases e with
  |normal=>exact Ww h
  |exit j=>exact h
  |ret=>exact Ww h) h
 refine wp_mono (C7 (c:=⟨w,R,LH H G,fn.ntmps,D,G⟩) rfl rcD (by rw[hs,E4 code h4];exact h4) hw ⟨R,G,hrel⟩) fun e a' w' he=>?_;have fin:∀st us',Hy st.env st.H rts us'→K us' st.H→Rel ⟨w,R,LH H G,fn.ntmps,D,G⟩ st a' w'→a'.defers=[]∧∃v,(results fn a'.tmps).run P w'=.ok v w'∧
   ((∃(us':List V) (H':Nat→Option Ent) (x:Value) (R':Nat→Prop) (G':Nat→Option Loc),K us' H'∧Ending.returned v=.returned x∧RV w' R' G' (H2 us') x∧HR w (LH H G) w' R' G' H'∧(∀b,R' b→b<w'.heap.size)∧(∀b,R' b→R b∨(LH H G b∨w.heap.size≤b))∧(∀b,R b→R' b)∧Fr (LH H G) w w'∧Gle G G')∨
   (∃x,Ending.returned v=.panicked [{v:=x,recovered:=false}]∧D x∧Fr (LH H G) w w')):=fun st us' hG hK ⟨R2,G2,hR⟩=>by
  obtain⟨zs,z1,z2,z3⟩:=Im hR _ h6 hG;exact⟨hR.defers,_,Hk z1,.inl ⟨us',st.H,_,R2,G2,hK,rfl,Ze z2.symm z3,hR.hr,hR.lt,hR.src,hR.old,hR.fr,hR.gle⟩⟩
 cases e with
 |normal=>obtain⟨st,⟨us',p1,p2⟩,q2⟩:=he;exact fin st us' p1 p2 q2
 |ret=>obtain⟨st,⟨us',p1,p2⟩,q2⟩:=he;exact fin st us' p1 p2 q2
 |exit id=>obtain⟨st,q1,q2⟩:=he;exact q1.elim
 |goto l=>exact he.elim
 |panic ch=>obtain⟨v',rfl,q1,q2,q3⟩:=he;exact⟨q3,.inr ⟨v',rfl,q1,q2⟩⟩
 |outgrown=>exact he.elim
theorem Adv{P:Program}:∀{l:List ResultVar} {ts:List Nat},l=ts.map .tmp→Nf P l=some (ts.map fun t=>(t,none))
 |[],ts,h=>by
  cases ts with
  |nil=>rfl
  |cons t ts=>cases h
 |r::l,ts,h=>by
  cases ts with
  |nil=>cases h
  |cons t ts=>
   injection h with h1 h2;subst h1;simp only[Nf,Auk,Adv h2,List.map_cons]
section
variable {P:Program} {f:FuncId} {np:Nat} {rc:Aj} {us:List V} {H:Hp} {D:Value→Prop} {K:List V→Hp→Prop}
theorem W7{rts : List RT}(hc : Cb P f np = some (rc, rts)): ∃ fn code, P.funcs[f]? = some fn ∧ fn.body = some code ∧ (fn.name == "runtime.NumGoroutine") = false ∧ Ap P fn.ntmps code = some rc ∧ np ≤ fn.ntmps ∧ Nf P fn.results.toList = some rts := by
 unfold Cb at hc;split at hc
 ·cases hc
 ·rename_i fn hf;split at hc
  ·cases hc
  ·rename_i code hb;split at hc
   ·cases hc
   ·rename_i hk;simp only[Bool.or_eq_true,not_or,Bool.not_eq_true',Bool.not_eq_true,decide_eq_false_iff_not,Classical.not_not]at hk;split at hc
    ·rename_i rc' ts' h1 h2;simp only[ZD,Prod.mk.injEq]at hc;obtain⟨rfl,rfl⟩:=hc;exact⟨fn,code,hf,hb,hk.1,h1,by simpa using hk.2,h2⟩
    ·cases hc
theorem Ab(off m:Nat){ts:List Nat}(hc:Ak P f np=some (rc,ts))(hn:us.length=np)(h: @wpx ⟨off⟩ P D (Eo m rc) (Asi (ts.map fun t=>(t,none)) K) (atV us) H):Inl P f us H D K:=by
 obtain⟨fn,code,h1,h2,h3,h4,h5,h6⟩:=Lo hc;exact @Zx ⟨off⟩ _ _ _ _ _ _ _ _ _ _ _ h1 h2 h3 h4 (by omega) (Adv h6) (Dv m rc) h
theorem W3(off m:Nat){rts:List RT}(hc:Cb P f np=some (rc,rts))(hn:us.length=np)(h: @wpx ⟨off⟩ P D (Eo m rc) (Asi rts K) (atV us) H):Inl P f us H D K:=by
 obtain⟨fn,code,h1,h2,h3,h4,h5,h6⟩:=W7 hc;exact @Zx ⟨off⟩ _ _ _ _ _ _ _ _ _ _ _ h1 h2 h3 h4 (by omega) h6 (Dv m rc) h
theorem Awg(off:Nat){ts:List Nat}(hc:Ak P f np=some (rc,ts))(hn:us.length=np)(h: @wpx ⟨off⟩ P D rc (Asi (ts.map fun t=>(t,none)) K) (atV us) H):Inl P f us H D K:=by
 obtain⟨fn,code,h1,h2,h3,h4,h5,h6⟩:=Lo hc;exact @Zx ⟨off⟩ _ _ _ _ _ _ _ _ _ _ _ h1 h2 h3 h4 (by omega) (Adv h6) rfl h
theorem B4(m:Nat){ts:List Nat}{ps rs:List Par}(hc:Ak P f np=some (rc,ts))(hn:ps.length=np)(h:wpx P noD (Eo m rc) (Ay4 ts rs) (Ho ps) (Mx ps)):Fun P f ps rs:=by
 obtain⟨fn,code,h1,h2,h3,h4,h5,h6⟩:=Lo hc;exact Avy hc ((Dv m rc).trans (E4 code h4)) hn h
end
end Go.Proofs.YtkbjgdcdjccnaaaGreatDoor
