/- The framework: part of this claim. -/
import Derived.Test.YtchbkgnobpejnaaGreatDoorYAbsP
set_option linter.unusedSimpArgs false
set_option linter.unusedVariables false
namespace Go.Proofs.YtchbkgnobpejnaaGreatDoor
open Go.RowKit
def LH(H:Nat→Option Ent)(G:Nat→Option Loc)(b:Nat):Prop:=∃id e l,H id=some e∧G id=some l∧l.gen=e.gen∧l.ft b
structure Inl[Glob](P:Program)(f:FuncId)(us:List V)(H:Nat→Option Ent)(D:Value→Prop)(K:List V→(Nat→Option Ent)→Prop):Prop where
 can:Ds P f
 run:∀(w:World) (R:Nat→Prop) (G:Nat→Option Loc) (xs:List Value),(∀b,R b→b<w.heap.size)→HR w (LH H G) w R G H→us.length=xs.length→(∀(i:Nat) (u:V) (x:Value),us[i]? =some u→xs[i]? =some x→RV w R G u x)→Cc w (LH H G)→
  Calls P f xs.toArray w fun e w'=>
   (∃(us':List V) (H':Nat→Option Ent) (x:Value) (R':Nat→Prop) (G':Nat→Option Loc),K us' H'∧e=.returned x∧RV w' R' G' (F7 us') x∧HR w (LH H G) w' R' G' H'∧(∀b,R' b→b<w'.heap.size)∧(∀b,R' b→R b∨(LH H G b∨w.heap.size≤b))∧(∀b,R b→R' b)∧Fr (LH H G) w w'∧Gle G G')∨
   (∃v,e=.panicked [{v:=v,recovered:=false}]∧D v∧Fr (LH H G) w w')
theorem Inl.mono[Glob]{P:Program}{f:FuncId}{us:List V}{H:Nat→Option Ent}{D:Value→Prop}{K K':List V→(Nat→Option Ent)→Prop}(h:Inl P f us H D K)(hk:∀us' H',K us' H'→K' us' H'):Inl P f us H D K':=
 ⟨h.can,fun w R G xs h1 h2 h3 h4 h5=>(h.run w R G xs h1 h2 h3 h4 h5).mono fun e w' he=>by
  rcases he with⟨us',H',x,R',G',q,r⟩|he
  ·exact .inl ⟨us',H',x,R',G',hk _ _ q,r⟩
  ·exact .inr he⟩
section
variable {P:Program} {st:St} {a:Act} {w w':World} {R:Nat→Prop} {G:Nat→Option Loc} {o:Oper} {Q:Exit→Act→World→Prop}
theorem LH.out[Glob]{c:Ctx}(h:Ac c st a w R G){b:Nat}(hb:LH st.H G b):¬R b∧(c.L b∨c.w0.heap.size≤b):=by
 obtain⟨id,e,l,q1,q2,q3,q4⟩:=hb;exact h.hr.mine id e l b q1 q2 q3 q4
theorem Fr.lh[Glob]{c:Ctx}(h:Ac c st a w R G)(hfr:Fr (LH st.H G) w w'):Fr c.L c.w0 w':=
 ⟨hfr.os.trans h.fr.os,hfr.tape.trans h.fr.tape,hfr.output.trans h.fr.output,XI h.fr.size hfr.size,fun k hk hkl=>by
  refine(hfr.block k (XH hk h.fr.size) (fun hl'=>?_)).trans (h.fr.block k hk hkl);rcases(LH.out h hl').2 with h5|h5
  ·exact hkl h5
  ·omega⟩
theorem Ap5[Glob]{c:Ctx}{f:FuncId}{xs:List Value}{us:List V}{D:Value→Prop}{K:List V→(Nat→Option Ent)→Prop}(h:Ac c st a w R G)(hr:(execOp a.eval o).run P w=.ok (.enter f xs.toArray) w)(hl:us.length=xs.length)(hh:∀(i:Nat) (u:V) (x:Value),us[i]? =some u→xs[i]? =some x→RV w R G u x)(hI:Inl P f us st.H D K){next:Act→World→Prop}(hn:∀us' H',K us' H'→∀x w' R' G',Ac c {st with H:=H'} a w' R' G'→RV w' R' G' (F7 us') x→next (a.put o.dst x) w')(hdie:∀v,D v→∀w',Fr c.L c.w0 w'→Q (.panic [{v:=v,recovered:=false}]) a w'):o.wp P a w next Q:=by
 unfold Oper.wp;rw[hr];simp only[Oper.upon];refine(hI.run w R G xs h.lt ⟨h.hr.le,h.hr.obj,h.hr.apart,fun id e l b q1 q2 q3 q4=>⟨(h.hr.mine id e l b q1 q2 q3 q4).1,.inl ⟨id,e,l,q1,q2,q3,q4⟩⟩⟩ hl hh (h.glb fun b hb=>(LH.out h hb).2)).mono ?_
 rintro e w' (⟨us',H',x,R',G',hK,rfl,hV,hHR,hlt,hsrc,hold,hfr,hgle⟩|⟨v,rfl,hD,hfr⟩)
 ·have hst:∀b,R b→R' b∧w'.heap[b]? =w.heap[b]? :=fun b hb=>⟨hold b hb,hfr.block b (h.lt b hb) fun hl'=>(LH.out h hl').1 hb⟩;refine hn us' H' hK x w' R' G' ⟨fun i=>(h.env i).mono hst hgle,⟨hHR.le,hHR.obj,hHR.apart,fun id e l b q1 q2 q3 q4=>?_⟩,hlt,fun b hb=>?_,fun b hb=>hold b (h.old b hb),Fr.lh h hfr,h.n,h.defers,h.die,h.gle.trans hgle⟩ hV
  ·obtain⟨m1,m2⟩:=hHR.mine id e l b q1 q2 q3 q4;refine⟨m1,?_⟩;rcases m2 with m2|m2
   ·exact(LH.out h m2).2
   ·exact .inr (XI h.fr.size m2)
  ·rcases hsrc b hb with q|q|q
   ·exact h.src b q
   ·exact .inr (LH.out h q).2
   ·exact .inr (.inr (XI h.fr.size q))
 ·exact hdie v hD w' (Fr.lh h hfr)
end
end Go.Proofs.YtchbkgnobpejnaaGreatDoor
