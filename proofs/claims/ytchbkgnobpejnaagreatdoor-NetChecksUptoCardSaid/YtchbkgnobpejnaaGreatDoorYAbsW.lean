/- The framework: part of this claim. -/
import Derived.Test.YtchbkgnobpejnaaGreatDoorYAbsK
set_option linter.unusedSimpArgs false
set_option linter.unusedVariables false
namespace Go.Proofs.YtchbkgnobpejnaaGreatDoor
open Go.RowKit
section
variable {P:Program} {st:St} {a:Act} {w w':World} {R:Nat→Prop} {G:Nat→Option Loc}
theorem Asi[Glob]{c:Ctx}{f:FuncId}{xs:List Value}{us:List V}{D:Value→Prop}{K:List V→(Nat→Option Ent)→Prop}(h:Ac c st a w R G)(hl:us.length=xs.length)(hh:∀(i:Nat) (u:V) (x:Value),us[i]? =some u→xs[i]? =some x→RV w R G u x)(hI:Inl P f us st.H D K):
  Calls P f xs.toArray w fun e w'=>(∃us' H' x R' G',K us' H'∧e=.returned x∧Ac c {st with H:=H'} a w' R' G'∧RV w' R' G' (F7 us') x)∨(∃v,e=.panicked [{v:=v,recovered:=false}]∧D v∧Fr c.L c.w0 w'):=by
 refine(hI.run w R G xs h.lt ⟨h.hr.le,h.hr.obj,h.hr.apart,fun id e l b q1 q2 q3 q4=>⟨(h.hr.mine id e l b q1 q2 q3 q4).1,.inl ⟨id,e,l,q1,q2,q3,q4⟩⟩⟩ hl hh (h.glb fun b hb=>(LH.out h hb).2)).mono ?_
 rintro e w' (⟨us',H',x,R',G',hK,rfl,hV,hHR,hlt,hsrc,hold,hfr,hgle⟩|⟨v,rfl,hD,hfr⟩)
 ·have hst:∀b,R b→R' b∧w'.heap[b]? =w.heap[b]? :=fun b hb=>⟨hold b hb,hfr.block b (h.lt b hb) fun hl'=>(LH.out h hl').1 hb⟩;refine .inl ⟨us',H',x,R',G',hK,rfl,⟨fun i=>(h.env i).mono hst hgle,⟨hHR.le,hHR.obj,hHR.apart,fun id e l b q1 q2 q3 q4=>?_⟩,hlt,fun b hb=>?_,fun b hb=>hold b (h.old b hb),Fr.lh h hfr,h.n,h.defers,h.die,h.gle.trans hgle⟩,hV⟩
  ·obtain⟨m1,m2⟩:=hHR.mine id e l b q1 q2 q3 q4;refine⟨m1,?_⟩;rcases m2 with m2|m2
   ·exact(LH.out h m2).2
   ·exact .inr (XI h.fr.size m2)
  ·rcases hsrc b hb with q|q|q
   ·exact h.src b q
   ·exact .inr (LH.out h q).2
   ·exact .inr (.inr (XI h.fr.size q))
 ·exact .inr ⟨v,rfl,hD,Fr.lh h hfr⟩
theorem Ac.alloc[Glob]{c:Ctx}(h:Ac c st a w R G)(o:Obj):Ac c st a (w.alloc o) R G:=
 h.world (L':=fun _=>False) ⟨rfl,rfl,rfl,by rw[World.size_alloc];exact Nat.le_succ _,fun k hk _=>by show(w.heap.push o)[k]? =_;rw[Array.getElem?_push_lt hk];exact(Array.getElem?_eq_getElem hk).symm⟩ (fun _ q=>q) (fun _ q=>q.elim) (fun b q=>.inl q)
theorem Ac.cellAt[Glob]{c:Ctx}(h:Ac c st a w R G){id gen:Nat}{x:Value}{e:Ent}{row:List V}{j:Nat}{u:V}(hx:RV w R G (.ptr id gen 0 0) x)(he:st.H id=some e)(hg:e.gen=gen)(hr:e.rows[0]? =some row)(hj:row[j]? =some u):
  ∃b y,x=.pointer (some ⟨b,0,none⟩)∧w.cell? ⟨b,j,none⟩=some y∧RV w R G u y:=by
 obtain⟨l,xs,b,T,h1,h2,h3,h4,h5,h6,h7,h8,_⟩:=h.objP hx he hg hr;obtain⟨y,k1,_,k2⟩:=h6.2 0 j row u hr hj;rw[Nat.zero_mul,Nat.zero_add]at h8 k1;exact⟨b,y,h8,Ee h5 h7 k1,k2⟩
end
theorem Ani [Glob] {P : Program} {f : FuncId} {fn : Func} {code : Code} {rts : List RT} {us : List V} {H : Hp} {D : Value → Prop} {K : List V → Hp → Prop} (h1 : P.funcs[f]? = some fn) (h2 : fn.body = some code) (h3 : (fn.name == "runtime.NumGoroutine") = false) (h5 : us.length ≤ fn.ntmps) (h6 : Jd P fn.results.toList = some rts)
  (hsem:∀(c:Ctx) (a:Act) (w:World),c.n=fn.ntmps→c.D=D→Rel c ⟨atV us,H,D⟩ a w→code.wp P (So c (Aj5 rts K)) a w):Inl P f us H D K:=by
 refine⟨⟨fn,h1,h3,by rw[h2];rfl⟩,fun w R G xs hlt hHR hl hh hg=>?_⟩;refine calls_of_wp h1 h2 ?_;have hget:∀i,(xs.toArray++Array.replicate (fn.ntmps-xs.toArray.size) undef).getD i undef=(xs[i]?).getD undef:=fun i=>by
  rw[Array.getD_eq_getD_getElem?,Array.getElem?_append];split
  ·simp
  ·rename_i h;rw[XK (by simpa using h)];rw[Array.getElem?_replicate];split<;>rfl
 have hrel:Ac ⟨w,R,LH H G,fn.ntmps,D,G,hg⟩ ⟨atV us,H,D⟩ {tmps:=xs.toArray++Array.replicate (fn.ntmps-xs.toArray.size) undef,defers:=[]} w R G:=by
  refine⟨fun i=>?_,hHR,hlt,fun b hb=>.inl hb,fun b hb=>hb,Fr.refl _ _,by simp;omega,rfl,rfl,Gle.refl _⟩;show RV w R G (atV us i) ((xs.toArray++Array.replicate (fn.ntmps-xs.toArray.size) undef).getD i undef);rw[hget,Vu];by_cases hi:i<xs.length
  ·have hi':i<us.length:=by omega
   rw[ZC hi,ZC hi'];exact hh i _ _ (ZC hi') (ZC hi)
  ·rw[XK (by omega),XK (by omega)];exact .v _
 refine wp_mono (hsem ⟨w,R,LH H G,fn.ntmps,D,G,hg⟩ _ _ rfl rfl ⟨R,G,hrel⟩) fun e a' w' he=>?_;have fin:∀st us',Il st.env st.H rts us'→K us' st.H→Rel ⟨w,R,LH H G,fn.ntmps,D,G,hg⟩ st a' w'→a'.defers=[]∧∃v,(results fn a'.tmps).run P w'=.ok v w'∧
   ((∃(us':List V) (H':Nat→Option Ent) (x:Value) (R':Nat→Prop) (G':Nat→Option Loc),K us' H'∧Ending.returned v=.returned x∧RV w' R' G' (F7 us') x∧HR w (LH H G) w' R' G' H'∧(∀b,R' b→b<w'.heap.size)∧(∀b,R' b→R b∨(LH H G b∨w.heap.size≤b))∧(∀b,R b→R' b)∧Fr (LH H G) w w'∧Gle G G')∨
   (∃x,Ending.returned v=.panicked [{v:=x,recovered:=false}]∧D x∧Fr (LH H G) w w')):=fun st us' hG hK ⟨R2,G2,hR⟩=>by
  obtain⟨zs,z1,z2,z3⟩:=Ge hR _ h6 hG;exact⟨hR.defers,_,E5 z1,.inl ⟨us',st.H,_,R2,G2,hK,rfl,Sr z2.symm z3,hR.hr,hR.lt,hR.src,hR.old,hR.fr,hR.gle⟩⟩
 cases e with
 |normal=>obtain⟨st,⟨us',p1,p2⟩,q2⟩:=he;exact fin st us' p1 p2 q2
 |ret=>obtain⟨st,⟨us',p1,p2⟩,q2⟩:=he;exact fin st us' p1 p2 q2
 |exit id=>obtain⟨st,q1,q2⟩:=he;exact q1.elim
 |goto l=>exact he.elim
 |panic ch=>obtain⟨v',rfl,q1,q2,q3⟩:=he;exact⟨q3,.inr ⟨v',rfl,q1,q2⟩⟩
 |outgrown=>exact he.elim
structure Apt[Glob](P:Program)(D:Value→Prop)(n:Nat)(rts:List RT)(c2:Code)(K:List V→Hp→Prop)(env:Env)(H:Hp):Prop where
 go:∀(c:Ctx) (a:Act) (w:World),c.n=n→Rel c ⟨env,H,D⟩ a w→c2.wp P (So c (Aj5 rts K)) a w
def Ap3[Glob](P:Program)(D:Value→Prop)(n:Nat)(rts:List RT)(c2:Code)(K:List V→Hp→Prop)(e:Ex)(env:Env)(H:Hp):Prop:=match e with
 |.normal=>Apt P D n rts c2 K env H
 |_=>False
theorem Ajr [Glob] [Off] {P : Program} {f : FuncId} {fn : Func} {c0 c1 c2 : Code} {r0 r1 : Ae} {rts : List RT} {us : List V} {H : Hp} {D : Value → Prop} {K : List V → Hp → Prop} (h1 : P.funcs[f]? = some fn) (h2 : fn.body = some (.seq c0 (.seq c1 c2))) (h3 : (fn.name == "runtime.NumGoroutine") = false)
  (h4:Ao P fn.ntmps c0=some r0) (h4':Ao P fn.ntmps c1=some r1) (h5:us.length≤fn.ntmps) (h6:Jd P fn.results.toList=some rts) (h:wpx P D (.seq r0 r1) (Ap3 P D fn.ntmps rts c2 K) (atV us) H):Inl P f us H D K:=by
 refine Ani h1 h2 h3 h5 h6 fun cc a w hn hD hrel=>?_;have hw:wpv P (.seq r0 r1) (fun e st=>e=.normal∧∀(c:Ctx) (a:Act) (w:World),c.n=fn.ntmps→Rel c st a w→c2.wp P (So c (Aj5 rts K)) a w) ⟨atV us,H,D⟩:=B3 _ (fun e env H h=>by cases e with|normal=>exact⟨rfl,h.go⟩|exit id=>exact h.elim|ret=>exact h.elim) h;refine wp_seq (wp_mono (Bs hn c0 h4 hw hrel) fun e a1 w1 he=>?_);cases e with
 |normal=>
  obtain⟨st1,q1,q2⟩:=he;refine wp_seq (wp_mono (Bs hn c1 h4' q1 q2) fun e a2 w2 he=>?_);cases e with
  |normal=>obtain⟨st2,⟨_,k1⟩,k2⟩:=he;exact k1 _ _ _ hn k2
  |exit id=>obtain⟨_,⟨k,_⟩,_⟩:=he;cases k
  |ret=>obtain⟨_,⟨k,_⟩,_⟩:=he;cases k
  |goto l=>exact he
  |panic ch=>exact he
  |outgrown=>exact he
 |exit id=>obtain⟨_,⟨k,_⟩,_⟩:=he;cases k
 |ret=>obtain⟨_,⟨k,_⟩,_⟩:=he;cases k
 |goto l=>exact he
 |panic ch=>exact he
 |outgrown=>exact he
end Go.Proofs.YtchbkgnobpejnaaGreatDoor
