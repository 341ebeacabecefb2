/- The framework: part of this claim. -/
import Derived.Test.YtchbkgnobpejnaaGreatDoorYAbsE
import Derived.IntWalk
set_option linter.unusedSimpArgs false
set_option linter.unusedVariables false
namespace Go.Proofs.YtchbkgnobpejnaaGreatDoor
open Go.RowKit
section
variable [Off]
def Iz:List ResultVar→Option (List Nat)
 |[]=>some []
 |.tmp t::r=>match Iz r with
  |some ts=>some (t::ts)
  |none=>none
 |.cell _ _::_=>none
end
theorem Gy:∀(l:List ResultVar) {ts:List Nat},Iz l=some ts→l=ts.map .tmp
 |[],ts,h=>by simp only[Iz,ZD]at h;subst h;rfl
 |.tmp t::r,ts,h=>by
  simp only[Iz]at h;split at h
  ·rename_i ts' h';simp only[ZD]at h;subst h;rw[Gy r h'];rfl
  ·cases h
 |.cell a t::r,ts,h=>by simp[Iz]at h
section
variable [Off]
def Al(P:Program)(f np:Nat):Option (Ae×List Nat):=
 match P.funcs[f]? with
 |none=>none
 |some fn=>match fn.body with
  |none=>none
  | some code => if (fn.name == "runtime.NumGoroutine") || !(decide (np ≤ fn.ntmps)) then none else match Ao P fn.ntmps code, Iz fn.results.toList with
   |some rc,some ts=>some (rc,ts)
   |_,_=>none
theorem Aq6[Glob]{P:Program}{f:FuncId}{np:Nat}{rc:Ae}{ts:List Nat}{ps rs:List Par}(hc:Al P f np=some (rc,ts))(hn:ps.length=np)(h:wpv P rc (Ak8 ts rs) (P8 ps)):Fun P f ps rs:=by
 unfold Al at hc;split at hc
 ·cases hc
 ·rename_i fn hf;split at hc
  ·cases hc
  ·rename_i code hb;split at hc
   ·cases hc
   ·rename_i hk;simp only[Bool.or_eq_true,not_or,Bool.not_eq_true',Bool.not_eq_true,decide_eq_false_iff_not,Classical.not_not]at hk;split at hc
    ·rename_i rc' ts' h1 h2;simp only[ZD,Prod.mk.injEq]at hc;obtain⟨rfl,rfl⟩:=hc;refine Ai1 hf hb ?_ h1 ?_ (Gy _ h2) h
     ·exact hk.1
     ·rw[hn];simpa using hk.2
    ·cases hc
theorem Amu[Glob]{P:Program}{f:FuncId}{np:Nat}{rc rcD:Ae}{ts:List Nat}{ps rs:List Par}(hc:Al P f np=some (rc,ts))(hs:Cv rcD=rc)(hn:ps.length=np)(h:wpv P rcD (Ak8 ts rs) (P8 ps)):Fun P f ps rs:=by
 unfold Al at hc;split at hc
 ·cases hc
 ·rename_i fn hf;split at hc
  ·cases hc
  ·rename_i code hb;split at hc
   ·cases hc
   ·rename_i hk;simp only[Bool.or_eq_true,not_or,Bool.not_eq_true',Bool.not_eq_true,decide_eq_false_iff_not,Classical.not_not]at hk;split at hc
    ·rename_i rc' ts' h1 h2;simp only[ZD,Prod.mk.injEq]at hc;obtain⟨rfl,rfl⟩:=hc;refine Aer hf hb ?_ (h1.trans (by rw[hs])) ?_ (Gy _ h2) h
     ·exact hk.1
     ·rw[hn];simpa using hk.2
    ·cases hc
end
theorem K5{n:Int}(h1: -9223372036854775808≤n)(h2:n≤9223372036854775807):IntKind.i64.wrap n=n:=IntWalk.i64_in n ⟨h1,h2⟩
theorem Aev[Glob]{st st':St}(he:∀i,st'.env i=.any∨st'.env i=st.env i)(hH:∀id e,st'.H id=some e→st.H id=some e)(hD:st'.D=st.D):Aou st st':=fun c a w ⟨R,G,h⟩=>by
 refine⟨R,G,fun i=>?_,h.hr.sub hH,h.lt,h.src,h.old,h.fr,h.n,h.defers,hD.trans h.die,h.gle⟩;rcases he i with q|q
 ·rw[q];exact .any _
 ·rw[q];exact h.env i
end Go.Proofs.YtchbkgnobpejnaaGreatDoor
