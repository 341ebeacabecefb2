/- The framework: part of this claim. -/
import Derived.Test.YtchbkgnobpejnaaGreatDoorYAbs9
set_option linter.unusedSimpArgs false
set_option linter.unusedVariables false
namespace Go.Proofs.YtchbkgnobpejnaaGreatDoor
open Go.RowKit
def Alv[Glob](P:Program)(r:ROp)(env:Nat→V)(H:Nat→Option Ent)(D:Value→Prop)(K:V→(Nat→Option Ent)→Prop):Prop:=match r with
 |.call x args=>match val env x with
  |.v (.func (.func f) ⟨[]⟩ ⟨[]⟩)=>Inl P f (args.map (val env)) H D fun us H'=>K (F7 us) H'
  |.clo f caps=>Inl P f (args.map (val env)++caps) H D fun us H'=>K (F7 us) H'
  |_=>False
 |_=>False
def R5[Glob](P:Program)(r:ROp)(env:Nat→V)(H:Nat→Option Ent)(D:Value→Prop)(b:Nat)(K:V→(Nat→Option Ent)→Prop):Prop:=
 Ej P r env H D b (fun u dH=>K u (Bx H dH))∨Alv P r env H D K
section
variable {P:Program} {st:St} {a:Act} {w w':World} {R:Nat→Prop} {G:Nat→Option Loc} {o:Oper} {r:ROp} {Q:Exit→Act→World→Prop} {d:Nat}
set_option maxHeartbeats 1000000 in
theorem Afm{x:Operand}{args:List Operand}(hres:A6 P o=some (.call x args)):∃cl ts,o.op=.call ⟨.value x,cl,ts⟩∧args=cl.toList:=by
 cases hop:o.op with
 |call cl=>
  obtain⟨callee,as,ts⟩:=cl;cases callee with
  |value f=>
   simp only[A6,hop,ZD,ROp.call.injEq]at hres;obtain⟨rfl,rfl⟩:=hres;exact⟨as,ts,rfl,rfl⟩
  |invoke f m=>simp[A6,hop]at hres
  |builtin b=>
   exfalso;cases b<;>simp only[A6,hop]at hres<;>repeat' (split at hres)
   all_goals first
    |(cases hres;done)
    |(simp at hres;done)
 |makeFunc fn first caps=>
  exfalso;cases fn<;>simp only[A6,hop,reduceCtorEq]at hres<;>repeat' (split at hres)
  all_goals first
   |(cases hres;done)
   |(simp at hres;done)
 |_=>
  exfalso;simp only[A6,hop,reduceCtorEq]at hres
  repeat' (split at hres)
  all_goals first
   |(cases hres;done)
   |contradiction
   |(simp at hres;done)
theorem Ja[Glob]{c:Ctx}(hres:A6 P o=some r)(h:Ac c st a w R G){K:V→(Nat→Option Ent)→Prop}(hs:R5 P r st.env st.H st.D (16*d) K){next:Act→World→Prop}(hK:∀u H',K u H'→∀x w' R' G',Ac c {st with H:=H'} a w' R' G'→RV w' R' G' u x→next (a.put o.dst x) w')(hdie:∀v,st.D v→∀w',Fr c.L c.w0 w'→Q (.panic [{v:=v,recovered:=false}]) a w'):o.wp P a w next Q:=by
 rcases hs with hs|hs
 ·exact Ahx hres h hs (fun u dH hk x w' R' G'=>hK u _ hk x w' R' G') hdie
 ·unfold Alv at hs;split at hs
  ·rename_i x args;obtain⟨cl,ts,hop,rfl⟩:=Afm hres;obtain⟨e1,e2⟩:=Xx h cl.toList;split at hs
   ·rename_i f' hf;have hx:a.eval x=.func (.func f') #[] ([]:List Value).toArray:=Cd (hf▸h.val x);have hr:=Mr (P:=P) (w:=w) hop rfl hx hs.can;rw[List.append_nil]at hr;exact Ap5 h hr e1 e2 hs (fun us' H' hk x w' R' G' h1 h2=>hK _ _ hk x w' R' G' h1 h2) hdie
   ·rename_i f' caps hf;have hv:=h.val x;rw[hf]at hv;generalize hax:a.eval x=ax at hv;cases hv with
    |clo f' caps xs hl hh=>
     refine Ap5 (us:=cl.toList.map (val st.env)++caps) (xs:=cl.toList.map a.eval++xs) h (Mr (P:=P) (w:=w) hop rfl hax hs.can) (by simp[hl]) ?_ hs (fun us' H' hk x w' R' G' h1 h2=>hK _ _ hk x w' R' G' h1 h2) hdie;intro i u x g1 g2;by_cases hi:i<(cl.toList.map (val st.env)).length
     ·rw[ZQ hi]at g1;rw[ZQ (by simpa using hi)]at g2;exact e2 i u x g1 g2
     ·rw[ZP (by omega)]at g1;rw[ZP (by simpa using hi)]at g2;exact hh _ u x (by simpa using g1) (by simpa using g2)
   ·exact hs.elim
  ·exact hs.elim
end
end Go.Proofs.YtchbkgnobpejnaaGreatDoor
