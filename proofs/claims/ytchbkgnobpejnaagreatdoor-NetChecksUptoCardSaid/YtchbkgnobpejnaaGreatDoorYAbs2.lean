/- The framework: part of this claim. -/
import Derived.Test.YtchbkgnobpejnaaGreatDoorYAbs1
import Derived.Orders
import Derived.Calls
set_option linter.unusedSimpArgs false
set_option linter.unusedVariables false
namespace Go.Proofs.YtchbkgnobpejnaaGreatDoor
open Go.RowKit
inductive Par where
 |c (u:V)
 |o (T:TypeId) (sz:Nat) (rows:List (List V))
def noG:Nat→Option Loc:=fun _=>none
def O4(w:World)(R:Nat→Prop):Par→Value→Prop
 |.c u,x=>RV w R noG u x
 |.o T sz rows,x=>0<sz∧∃xs,w.ownsRow 0 T sz x rows.length xs∧Ch w R noG xs sz rows
def A4(ps:List Par)(xs:List Value)(b:Nat):Prop:=∃(i:Nat) (T:TypeId) (sz:Nat) (rows:List (List V)) (x:Value),ps[i]? =some (.o T sz rows)∧xs[i]? =some x∧x.ownBlock=some b
structure M3(w:World)(R:Nat→Prop)(ps:List Par)(xs:List Value):Prop where
 len:ps.length=xs.length
 ok:∀(i:Nat) (p:Par) (x:Value),ps[i]? =some p→xs[i]? =some x→O4 w R p x
 apart:∀(i j:Nat) (T:TypeId) (sz:Nat) (rows:List (List V)) (T':TypeId) (sz':Nat) (rows':List (List V)) (x y:Value) (b:Nat),i≠j→ps[i]? =some (.o T sz rows)→ps[j]? =some (.o T' sz' rows')→xs[i]? =some x→xs[j]? =some y→x.ownBlock=some b→y.ownBlock≠some b
 free:∀b,A4 ps xs b→¬R b
def Dl:List Value→Value
 |[y]=>y
 |ys=>.tuple ys.toArray
def Ds(P : Program)(f : FuncId): Prop := ∃ fn, P.funcs[f]? = some fn ∧ (fn.name == "runtime.NumGoroutine") = false ∧ fn.body.isNone = false
def Fun[Glob](P:Program)(f:FuncId)(ps rs:List Par):Prop:=
 Ds P f∧∀(w:World) (R:Nat→Prop) (xs:List Value),(∀b,R b→b<w.heap.size)→M3 w R ps xs→Cc w (A4 ps xs)→
  Calls P f xs.toArray w fun e w'=>∃(ys:List Value) (R':Nat→Prop),e=.returned (Dl ys)∧Fr (A4 ps xs) w w'∧(∀b,R b→R' b)∧
   (∀b,R' b→R b∨(b<w'.heap.size∧(A4 ps xs b∨w.heap.size≤b)))∧M3 w' R' rs ys∧(∀b,A4 rs ys b→A4 ps xs b∨w.heap.size≤b)
def Aq3(H:Nat→Option Ent)(u u':V):Prop:=
 (u'=u∧Cl u)∨(∃id g e,u=.own id g∧H id=some e∧e.gen=g∧u'=.sl false e.rows∧∀row∈e.rows,∀u∈row,Cl u)∨(u=.v (.slice none 0 0)∧∃c,u'=.sl c [])
def Ack(H:Nat→Option Ent)(rows rows':List (List V)):Prop:=
 rows.length=rows'.length∧∀(i:Nat) (row row':List V),rows[i]? =some row→rows'[i]? =some row'→row.length=row'.length∧∀(j:Nat) (u u':V),row[j]? =some u→row'[j]? =some u'→Aq3 H u u'
theorem Qj{H:Nat→Option Ent}{rows:List (List V)}(h:∀row∈rows,∀u∈row,Cl u):Ack H rows rows:=
 ⟨rfl,fun i row row' h1 h2=>by
  rw[h1]at h2;injection h2 with h2;subst h2
  refine⟨rfl,fun j u u' h3 h4=>?_⟩;rw[h3]at h4;injection h4 with h4;subst h4
  exact .inl ⟨rfl,h row (ZH h1) u (ZH h3)⟩⟩
def Aqv(An:List (Value×V))(w:World)(R:Nat→Prop)(x:Value)(F:Nat→Prop):Prop:=
 ∃(b clock:Nat) (es:Array MapEntry),x=.map (some b)∧w.heap[b]? =some (.map es clock)∧es.size=An.length∧(∀k,F k↔k=b)∧
  ∀(i:Nat) (e:MapEntry) (p:Value×V),es[i]? =some e→An[i]? =some p→e.key=p.1∧RV w R noG p.2 e.val
def Mj(An:List (Value×V)):Opq where
 inv:=Aqv An
 mono:=fun {w w' R R' x F} h hR hF=>by
  obtain⟨b,clock,es,h1,h2,h3,h4,h5⟩:=h
  exact⟨b,clock,es,h1,(hF b ((h4 b).2 rfl)).trans h2,h3,h4,fun i e p q1 q2=>⟨(h5 i e p q1 q2).1,(h5 i e p q1 q2).2.mono hR (Gle.refl _)⟩⟩
 lt:=fun {w R x F b} h hb=>by
  obtain⟨b',clock,es,h1,h2,h3,h4,h5⟩:=h
  have:=(h4 b).1 hb;subst this
  exact(XL.1 h2).1
 view:=some An
 vok:=fun {w R x F ents'} h hi=>by
  injection h with h;subst h
  obtain⟨b,clock,es,h1,h2,h3,h4,h5⟩:=hi
  exact⟨b,clock,es,h1,h2,h3,h5⟩
structure SE where
 T:TypeId
 sz:Nat
 b:Nat
 cap:Nat
 rows:List (List V)
def SE.val(s:SE):Value:=.slice (some ⟨s.b,0,none⟩) s.rows.length s.cap
def Ag3(w:World)(R:Nat→Prop)(b:Nat)(es:List SE):Prop:=
 (∀s∈es,s.b≠b∧0<s.sz∧∃xs,w.ownsRow 0 s.T s.sz s.val s.rows.length xs∧Ch w R noG xs s.sz s.rows)∧es.Pairwise fun s t=>s.b≠t.b
theorem Anh{w:World}{s:SE}{xs:List Value}(h:w.ownsRow 0 s.T s.sz s.val s.rows.length xs):s.b<w.heap.size:=(h.lt s.b rfl).2
theorem Ag3.mono{w w':World}{R R':Nat→Prop}{b:Nat}{es:List SE}(h:Ag3 w R b es)(hR:∀b,R b→R' b∧w'.heap[b]? =w.heap[b]?)(hF:∀s∈es,w'.heap[s.b]? =w.heap[s.b]?):Ag3 w' R' b es:=by
 refine⟨fun s hs=>?_,h.2⟩;obtain⟨h1,h2,xs,h4,h5⟩:=h.1 s hs;refine⟨h1,h2,xs,⟨h4.1,?_⟩,h5.mono hR (Gle.refl _)⟩;rcases h4.2 with q|⟨g,cap,cur,hv,hg,hh,r⟩
 ·exact .inl q
 ·refine .inr ⟨g,cap,cur,hv,hg,?_,r⟩;have e:g=s.b:=by unfold SE.val at hv;injection hv with q;injection q with q;injection q with q;exact q.symm
  subst e;exact(hF s hs).trans hh
def Ahj(An:List (Value×V))(ss:List SE)(w:World)(R:Nat→Prop)(x:Value)(F:Nat→Prop):Prop:=
 ∃(b clock:Nat) (es:Array MapEntry),x=.map (some b)∧w.heap[b]? =some (.map es clock)∧es.size=An.length∧(∀k,F k↔(k=b∨∃s∈ss,s.b=k))∧
  (∀(i:Nat) (e:MapEntry) (p:Value×V),es[i]? =some e→An[i]? =some p→e.key=p.1∧RV w R noG p.2 e.val)∧Ag3 w R b ss
def At4(An:List (Value×V))(ss:List SE):Opq where
 inv:=Ahj An ss
 mono:=fun {w w' R R' x F} h hR hF=>by
  obtain⟨b,clock,es,h1,h2,h3,h4,h5,h6⟩:=h
  exact⟨b,clock,es,h1,(hF b ((h4 b).2 (.inl rfl))).trans h2,h3,h4,fun i e p q1 q2=>⟨(h5 i e p q1 q2).1,(h5 i e p q1 q2).2.mono hR (Gle.refl _)⟩,h6.mono hR fun s hs=>hF _ ((h4 _).2 (.inr ⟨s,hs,rfl⟩))⟩
 lt:=fun {w R x F b} h hb=>by
  obtain⟨b',clock,es,h1,h2,h3,h4,h5,h6⟩:=h
  rcases(h4 b).1 hb with e|⟨s,hs,e⟩
  ·subst e;exact(XL.1 h2).1
  ·obtain⟨_,_,xs,k,_⟩:=h6.1 s hs
   subst e;exact Anh k
 view:=some An
 vok:=fun {w R x F ents'} h hi=>by
  injection h with h;subst h
  obtain⟨b,clock,es,h1,h2,h3,h4,h5,_⟩:=hi
  exact⟨b,clock,es,h1,h2,h3,h5⟩
def Mo(An:List (Value×V)):List SE→Opq
 |[]=>Mj An
 |s::ss=>At4 An (s::ss)
theorem J8{An:List (Value×V)}{ss:List SE}{w:World}{R:Nat→Prop}{x:Value}{F:Nat→Prop}:(Mo An ss).inv w R x F↔Ahj An ss w R x F:=by
 cases ss with
 |cons s ss=>exact Iff.rfl
 |nil=>
  refine⟨fun⟨b,clock,es,h1,h2,h3,h4,h5⟩=>⟨b,clock,es,h1,h2,h3,fun k=>(h4 k).trans ⟨.inl,fun h=>h.elim id fun⟨s,hs,_⟩=>(by simp at hs)⟩,h5,⟨fun s hs=>(by simp at hs),.nil⟩⟩,
   fun⟨b,clock,es,h1,h2,h3,h4,h5,_⟩=>⟨b,clock,es,h1,h2,h3,fun k=>(h4 k).trans ⟨fun h=>h.elim id fun⟨s,hs,_⟩=>(by simp at hs),.inl⟩,h5⟩⟩
def Agx(H:Nat→Option Ent)(all:List Nat)(u u':V):Prop:=
 (u'=u∧Cl u)∨(∃id g e An,u=.obj id g∧H id=some e∧e.gen=g∧e.T=.q (Mj An)∧id∉all∧u'=.rmap An)
def Yi(H:Nat→Option Ent)(all:List Nat):List V→List V→Prop
 |[],[]=>True
 |u::us,u'::us'=>Agx H all u u'∧Yi H all us us'
 |_,_=>False
theorem Ui{H H':Nat→Option Ent}(hH:∀id e,H id=some e→H' id=some e){all:List Nat}:∀(us us':List V),Yi H all us us'→Yi H' all us us'
 |[],[],h=>trivial
 |u::us,u'::us',h=>by
  refine⟨?_,Ui hH us us' h.2⟩;rcases h.1 with q|⟨id,g,e,An,h1,h2,h3⟩
  ·exact .inl q
  ·exact .inr ⟨id,g,e,An,h1,hH _ _ h2,h3⟩
theorem Zn{H:Nat→Option Ent}{all:List Nat}:∀{us us':List V},Yi H all us us'→us.length=us'.length∧∀(j:Nat) (u':V),us'[j]? =some u'→∃u,us[j]? =some u∧Agx H all u u'
 |[],[],h=>⟨rfl,fun j u' hu=>by simp at hu⟩
 |u::us,u'::us',h=>by
  obtain⟨h1,h2⟩:=Zn h.2;refine⟨by simp[h1],fun j v hv=>?_⟩;cases j with
  |zero=>simp at hv;subst hv;exact⟨u,rfl,h.1⟩
  |succ j=>exact h2 j v (by simpa using hv)
def Atm(H:Nat→Option Ent)(all:List Nat)(u u':V):Prop:=
 (u'=u∧Cl u)∨(∃id g i off e row row',u=.ptr id g i off∧H id=some e∧e.gen=g∧e.rows[i]? =some row∧Yi H all row row'∧id∉all∧u'=.rptr row' off)∨
 (∃id g e An,u=.obj id g∧H id=some e∧e.gen=g∧e.T=.q (Mj An)∧id∉all∧u'=.rmap An)
def W2(H:Nat→Option Ent)(all:List Nat):List V→List V→Prop
 |[],[]=>True
 |u::us,u'::us'=>Atm H all u u'∧W2 H all us us'
 |_,_=>False
inductive Bt(H:Nat→Option Ent)(all:List Nat):List V→List V→Prop where
 |nil:Bt H all [] []
 |same {u us us'} (hu:Cl u) (h:Bt H all us us'):Bt H all (u::us) (u::us')
 |nilsl {us us'} (c:Bool) (h:Bt H all us us'):Bt H all (.v (.slice none 0 0)::us) (.sl c []::us')
 |own {id g e us us'} (he:H id=some e) (hg:e.gen=g) (hr:∀row∈e.rows,∀u∈row,Cl u) (hn:id∉all) (h:Bt H all us us'):Bt H all (.own id g::us) (.sl false e.rows::us')
theorem Bt.mono{H H':Nat→Option Ent}(hH:∀id e,H id=some e→H' id=some e){all:List Nat}{us us':List V}(h:Bt H all us us'):Bt H' all us us':=by
 induction h with
 |nil=>exact .nil
 |same hu h ih=>exact .same hu ih
 |nilsl c h ih=>exact .nilsl c ih
 |own he hg hr hn h ih=>exact .own (hH _ _ he) hg hr hn ih
inductive Ar(H:Nat→Option Ent)(all:List Nat):Bool→List Nat→List V→List Par→Prop where
 |nil (bor:Bool):Ar H all bor [] [] []
 |same {bor gone u us ps} (hu:Cl u) (h:Ar H all bor gone us ps):Ar H all bor gone (u::us) (.c u::ps)
 |nilsl {bor gone us ps} (c:Bool) (h:Ar H all bor gone us ps):Ar H all bor gone (.v (.slice none 0 0)::us) (.c (.sl c [])::ps)
 |nilown {bor gone us ps} (T:TypeId) (sz:Nat) (hz:0<sz) (h:Ar H all bor gone us ps):Ar H all bor gone (.v (.slice none 0 0)::us) (.o T sz []::ps)
 |bor {gone id g e rows' us ps} (he:H id=some e) (hg:e.gen=g) (hr:Ack (fun k=>if k∈id::all then none else H k) e.rows rows') (hn:id∉all) (h:Ar H all true gone us ps):Ar H all true gone (.own id g::us) (.c (.sl false rows')::ps)
 |borp {gone id g e i row off us ps} (he:H id=some e) (hg:e.gen=g) (hi:e.rows[i]? =some row) (hr:∀u∈row,Cl u) (hn:id∉all) (h:Ar H all true gone us ps):Ar H all true gone (.ptr id g i off::us) (.c (.rptr row off)::ps)
 |borc {gone f caps caps' us ps} (hc:W2 H all caps caps') (h:Ar H all true gone us ps):Ar H all true gone (.clo f caps::us) (.c (.clo f caps')::ps)
 |bora {gone cs cs' us ps} (hc:Bt H all cs cs') (h:Ar H all true gone us ps):Ar H all true gone (.agg cs::us) (.c (.agg cs')::ps)
 |givv {bor gone id g e T n us ps} (he:H id=some e) (hg:e.gen=g) (hT:e.T=.t T) (hl:n≤e.rows.length) (hr:∀row∈e.rows,∀u∈row,Cl u) (hn:id∉gone) (ha:id∈all) (h:Ar H all bor gone us ps):Ar H all bor (id::gone) (.osub id g 0 n::us) (.o T e.sz (e.rows.take n)::ps)
 |give {bor gone id g e T us ps} (he:H id=some e) (hg:e.gen=g) (hT:e.T=.t T) (hr:∀row∈e.rows,∀u∈row,Cl u) (hn:id∉gone) (ha:id∈all) (h:Ar H all bor gone us ps):Ar H all bor (id::gone) (.own id g::us) (.o T e.sz e.rows::ps)
def Dx(rs:List Par):Prop:=∀r∈rs,match r with
 |.c u=>Fl u
 |.o _ _ rows=>∀row∈rows,∀u∈row,Fl u
def Ih(g:Nat→Nat):Nat→List Par→List V
 |_,[]=>[]
 |k,.c u::rs=>u::Ih g k rs
 |k,.o _ _ _::rs=>.own k (g k)::Ih g (k+1) rs
def P1(g:Nat→Nat):Nat→List Par→List (Nat×Option Ent)
 |_,[]=>[]
 |k,.c _::rs=>P1 g k rs
 |k,.o T sz rows::rs=>(k,some ⟨g k,.t T,sz,rows⟩)::P1 g (k+1) rs
def F7:List V→V
 |[u]=>u
 |us=>.tup us
inductive ROp where
 |mv (x:Operand)
 |pick (c a b:Operand)
 |box (T:TypeId) (sz:Nat) (x:Operand)
 |zbox (T:TypeId) (z:List Value)
 |build (z:List Value) (parts:List (Nat×Nat×Operand))
 |mks (T:TypeId) (sz n:Nat) (z:List Value) (parts:List (Nat×Operand))
 |mkn (T:TypeId) (sz bytes:Nat) (z:List Value) (x y:Operand)
 |load (agg:Bool) (sz:Nat) (x:Operand)
 |bin (op:BinOp) (x y:Operand)
 |mm (mx:Bool) (x y:Operand)
 |eqb (neg:Bool) (x y:Operand)
 |eqS (neg:Bool) (ts:List Nat) (x y:Operand)
 |not (x:Operand)
 |neg (x:Operand)
 |conv (k:IntKind) (x:Operand)
 |convS (x:Operand)
 |fld (agg:Bool) (sz off:Nat) (x:Operand)
 |fldA (off:Nat) (x:Operand)
 |idxA (sz:Nat) (x i:Operand)
 |idxS (x i:Operand)
 |slcS (x:Operand) (lo hi:Option Operand)
 |slcL (sz:Nat) (x:Operand) (lo hi mx:Option Operand)
 |ext (x:Operand) (i:Nat)
 |len (str:Bool) (x:Operand)
 |call (x:Operand) (args:List Operand)
 |mkfn (f:FuncId) (caps:List Operand)
 |store (sz:Nat) (x y:Operand)
 |app (T:TypeId) (sz bytes:Nat) (z:Value) (x y:Operand)
 |mkm
 |mlook (kind:TypeDesc) (ok:Bool) (z:Value) (x i:Operand)
 |mlen (x:Operand)
 |mupd (kind:TypeDesc) (x i v:Operand)
 |die (x:Operand)
 |mki (t:TypeId) (x:Operand)
 |ofB (x:Operand)
 |toB (x:Operand)
 |clr (sz:Nat) (z:List Value) (x:Operand)
 |isnil (neg:Bool) (x:Operand)
structure Aa where
 dst:Option Nat
 guard:Option (Nat×Bool)
 op:ROp
def val(env:Nat→V):Operand→V
 |.tmp t=>env t
 |.const x=>.v x
 |.global g=>.v (.pointer (some ⟨g,0,none⟩))
 |.func f=>.v (.func (.func f) #[] #[])
def eqV:List Nat→List V→List V→Option Bool
 |[],[],[]=>some true
 |0::ts,.v (.int k a)::us,.v (.int k' b)::vs=>if k=k' then(match eqV ts us vs with
  |some r=>some ((a==b)&&r)
  |none=>none)else none
 |1::ts,.v (.string a)::us,.v (.string b)::vs=>match eqV ts us vs with
  |some r=>some ((a.toList==b.toList)&&r)
  |none=>none
 |2::ts,.v (.bool a)::us,.v (.bool b)::vs=>match eqV ts us vs with
  |some r=>some ((a==b)&&r)
  |none=>none
 |_,_,_=>none
def one(H:Nat→Option Ent):V→Prop
 |.v x=>x.oneCell'=true
 |.sl _ _=>True
 |.rptr _ _=>True
 |.clo _ _=>True
 |.rmap _=>True
 |.own id g=>∃e,H id=some e∧e.gen=g
 |.ptr id g _ _=>∃e,H id=some e∧e.gen=g
 |.obj id g=>∃e,H id=some e∧e.gen=g∧∃An,e.T=.q (Mj An)
 |_=>False
def Hl(H:Nat→Option Ent):List V→Prop
 |[]=>True
 |u::us=>one H u∧Hl H us
def Eb:V→Option (List V)
 |.agg cs=>some cs
 |.any=>none
 |.tup _=>none
 |u=>some [u]
def Lh(cs:List V)(off:Nat)(us:List V):List V:=cs.take off++us++cs.drop (off+us.length)
def Gb(env:Nat→V)(H:Nat→Option Ent):List V→List (Nat×Nat×Operand)→(List V→Prop)→Prop
 |cs,[],K=>K cs
 |cs,(off,sz,x)::ps,K=>match Eb (val env x)with
  |some us=>us.length=sz∧off+sz≤cs.length∧Hl H us∧Gb env H (Lh cs off us) ps K
  |none=>False
def F9(env:Nat→V)(H:Nat→Option Ent)(sz:Nat):List (List V)→List (Nat×Operand)→(List (List V)→Prop)→Prop
 |rows,[],K=>K rows
 |rows,(i,x)::ps,K=>match Eb (val env x)with
  |some us=>us.length=sz∧i<rows.length∧Hl H us∧F9 env H sz (rows.set i us) ps K
  |none=>False
def mkV(agg:Bool)(cs:List V):V:=if agg then .agg cs else cs.headD .any
def Akf(op:BinOp)(k:IntKind)(x:Int)(k':IntKind)(y:Int)(K:Value→Prop):Prop:=
 match op with
 |.add=>k=k'∧∃c,k.wrap (x+y)=c∧K (.int k c)
 |.sub=>k=k'∧∃c,k.wrap (x-y)=c∧K (.int k c)
 |.mul=>k=k'∧∃c,k.wrap (x*y)=c∧K (.int k c)
 |.quo=>k=k'∧y≠0∧∃c,k.wrap (x.tdiv y)=c∧K (.int k c)
 |.rem=>k=k'∧y≠0∧∃c,x.tmod y=c∧K (.int k c)
 |.shl=>0≤y∧∃c,k.wrap (x*2^(min y.toNat k.bits))=c∧K (.int k c)
 |.shr=>0≤y∧∃c,x.fdiv (2^(min y.toNat k.bits))=c∧K (.int k c)
 |.and=>k=k'∧∃c,k.wrap ((BitVec.ofInt k.bits x&&&BitVec.ofInt k.bits y).toNat)=c∧K (.int k c)
 |.or=>k=k'∧∃c,k.wrap ((BitVec.ofInt k.bits x|||BitVec.ofInt k.bits y).toNat)=c∧K (.int k c)
 |.andNot=>k=k'∧∃c,k.wrap ((BitVec.ofInt k.bits x&&& ~~~BitVec.ofInt k.bits y).toNat)=c∧K (.int k c)
 |.eql=>k=k'∧K (.bool (x==y))
 |.neq=>k=k'∧K (.bool (x !=y))
 |.lss=>k=k'∧K (.bool (decide (x<y)))
 |.leq=>k=k'∧K (.bool (decide (x≤y)))
 |.gtr=>k=k'∧K (.bool (decide (y<x)))
 |.geq=>k=k'∧K (.bool (decide (y≤x)))
 |_=>False
def Amc(op:BinOp)(x y:ByteArray)(K:Value→Prop):Prop:=
 match op with
 |.add=>((x.size+y.size:Nat):Int)≤9223372036854775807∧K (.string (x++y))
 |.eql=>K (.bool (x.toList==y.toList))
 |.neq=>K (.bool (!(x.toList==y.toList)))
 |.lss=>K (.bool (Op.bytesLess x.toList y.toList))
 |.leq=>K (.bool (Op.bytesLess x.toList y.toList||x.toList==y.toList))
 |.gtr=>K (.bool (!(Op.bytesLess x.toList y.toList||x.toList==y.toList)))
 |.geq=>K (.bool (!(Op.bytesLess x.toList y.toList)))
 |_=>False
def S1(op:BinOp)(a b:Value)(K:Value→Prop):Prop:=
 match a,b with
 |.int k x,.int k' y=>Akf op k x k' y K
 |.string x,.string y=>Amc op x y K
 |_,_=>False
def Gk(kind:TypeDesc)(k:Value):List (Value×V)→Nat→Option (Option (Nat×V))
 |[],_=>some none
 |(a,v)::es,i=>match Instr.sameNow kind k a with
  |some true=>some (some (i,v))
  |some false=>Gk kind k es (i+1)
  |none=>none
def Ld(H:Nat→Option Ent):V→List (Value×V)→Prop
 |.obj id g,An=>∃e,H id=some e∧e.gen=g∧∃I,e.T=.q I∧I.view=some An
 |.rmap ents',An=>ents'=An
 |.v (.map none),An=>An=[]
 |_,_=>False
def wit(v u:V):V:=match v with
 |.obj id gen=>match u with
  |.v (.slice (some ⟨b,0,none⟩) n cap)=>.inm id gen b n cap
  |_=>u
 |_=>u
def Ahe(v:V)(ok:Bool)(z:Value):Option (Nat×V)→V
 |some (_,u)=>bif ok then .tup [u,.v (.bool true)]else wit v u
 |none=>bif ok then .tup [.v z,.v (.bool false)]else .v z
def Q3(An:List (Value×V))(k:Value)(v:V):Option (Nat×V)→List (Value×V)
 |some (i,_)=>An.set i (k,v)
 |none=>An++[(k,v)]
def loV(env:Nat→V):Option Operand→Nat→Prop
 |none,l=>l=0
 |some x,l=>∃k,val env x=.v (.int k (l:Int))
def hiV(env:Nat→V)(len:Nat):Option Operand→Nat→Prop
 |none,h=>h=len
 |some x,h=>∃k,val env x=.v (.int k (h:Int))
def C8(H:Nat→Option Ent)(sz:Nat):V→List (List V)→Prop
 |.own id g,rows=>∃e,H id=some e∧e.gen=g∧e.sz=sz∧e.rows=rows
 |.sl _ rows',rows=>rows'=rows∧∀row∈rows,row.length=sz∧Hl H row
 |.v (.slice none 0 0),rows=>rows=[]
 |.osub id g lo hi,rows=>∃e,H id=some e∧e.gen=g∧e.sz=sz∧lo≤hi∧hi≤e.rows.length∧(e.rows.drop lo).take (hi-lo)=rows
 |.inm id g b n cap,rows=>∃e,H id=some e∧e.gen=g∧∃An ss s,e.T=.q (Mo An ss)∧s∈ss∧s.b=b∧s.cap=cap∧s.rows.length=n∧s.sz=sz∧s.rows=rows
 |_,_=>False
def Z0(ns:List Int):ByteArray:=⟨(ns.map fun n=>UInt8.ofNat n.toNat).toArray⟩
def Ak[Glob](P:Program)(r:ROp)(env:Nat→V)(H:Nat→Option Ent)(g:Nat→Nat)(b:Nat)(K:V→List (Nat×Option Ent)→Prop):Prop:=
 match r with
 |.mv x=>K (val env x) []
 |.pick c x y=>match val env c with
  |.v (.bool t)=>(t=true→K (val env x) [])∧(t=false→K (val env y) [])
  |_=>False
 |.box T sz x=>match Eb (val env x)with
  |some cs=>cs.length=sz∧Hl H cs∧K (.ptr b (g b) 0 0) [(b,some ⟨g b,.b T,sz,[cs]⟩)]
  |none=>False
 |.zbox T z=>K (.ptr b (g b) 0 0) [(b,some ⟨g b,.b T,z.length,[z.map .v]⟩)]
 |.build z ps=>Gb env H (z.map .v) ps fun cs=>K (.agg cs) []
 |.mks T sz n z ps=>F9 env H sz (List.replicate n (z.map .v)) ps fun rows=>K (.own b (g b)) [(b,some ⟨g b,.t T,sz,rows⟩)]
 |.mkn T sz bytes z x y=>match val env x,val env y with
  |.v (.int _ n),.v (.int _ m)=>∃k:Nat,n=(k:Int)∧m=(k:Int)∧k≤maxLen∧k*bytes≤140737488355328∧K (.own b (g b)) [(b,some ⟨g b,.t T,sz,List.replicate k (z.map .v)⟩)]
  |_,_=>False
 |.load agg sz x=>match val env x with
  |.rptr row off=>off+sz≤row.length∧K (mkV agg ((row.drop off).take sz)) []
  |.ptr id gen i off=>∃e row,H id=some e∧e.gen=gen∧e.rows[i]? =some row∧off+sz≤row.length∧K (mkV agg ((row.drop off).take sz)) []
  |_=>False
 |.bin op x y=>match val env x,val env y with
  |.v a,.v c=>S1 op a c fun r=>K (.v r) []
  |_,_=>False
 |.mm mx x y=>match val env x,val env y with
  |.v (.int k a),.v (.int _ c)=>K (.v (.int k (bif mx then max a c else min a c))) []
  |_,_=>False
 |.eqb neg x y=>match val env x,val env y with
  |.v (.bool a),.v (.bool c)=>K (.v (.bool (if neg then a !=c else a==c))) []
  |_,_=>False
 |.eqS neg ts x y=>match val env x,val env y with
  |.agg us,.agg vs=>match eqV ts us vs with
   |some b=>K (.v (.bool (bif neg then !b else b))) []
   |none=>False
  |_,_=>False
 |.not x=>match val env x with
  |.v (.bool a)=>K (.v (.bool (!a))) []
  |_=>False
 |.neg x=>match val env x with
  |.v (.int k a)=>∃c,k.wrap (0-a)=c∧K (.v (.int k c)) []
  |_=>False
 |.conv k x=>match val env x with
  |.v (.int _ a)=>∃c,k.wrap a=c∧K (.v (.int k c)) []
  |_=>False
 |.convS x=>match val env x with
  |.v (.string s)=>K (.v (.string s)) []
  |_=>False
 |.fld agg sz off x=>match val env x with
  |.agg cs=>off+sz≤cs.length∧K (mkV agg ((cs.drop off).take sz)) []
  |_=>False
 |.fldA off x=>match val env x with
  |.rptr row o=>K (.rptr row (o+off)) []
  |.ptr id gen i o=>(∃e,H id=some e∧e.gen=gen)∧K (.ptr id gen i (o+off)) []
  |_=>False
 |.idxA sz x i=>match val env x,val env i with
  |.sl _ rows,.v (.int _ n)=>∃(j:Nat) (row:List V),n=(j:Int)∧rows[j]? =some row∧row.length=sz∧K (.rptr row 0) []
  |.own id gen,.v (.int _ n)=>∃(e:Ent) (j:Nat) (row:List V),H id=some e∧e.gen=gen∧e.sz=sz∧n=(j:Int)∧e.rows[j]? =some row∧K (.ptr id gen j 0) []
  |_,_=>False
 |.idxS x i=>match val env x,val env i with
  |.v (.string s),.v (.int _ n)=>∃(j:Nat) (c:UInt8),n=(j:Int)∧s[j]? =some c∧K (.v (.int .u8 c.toNat)) []
  |_,_=>False
 |.slcS x lo hi=>match val env x with
  |.v (.string s)=>∃l h:Nat,loV env lo l∧hiV env s.size hi h∧l≤h∧h≤s.size∧K (.v (.string (s.extract l h))) []
  |_=>False
 |.slcL sz x lo hi mx=>match val env x with
  |.sl clip rows=>∃l h:Nat,loV env lo l∧hiV env rows.length hi h∧l≤h∧h≤rows.length∧(rows=[]∨∃row,rows[0]? =some row∧row.length=sz)∧
    match mx with
    |none=>K (.sl false ((rows.drop l).take (h-l))) []
    |some y=>hi.isSome=true∧(∃k,val env y=.v (.int k (h:Int)))∧K (.sl true ((rows.drop l).take (h-l))) []
  |.own id gen=>∃e:Ent,∃l h:Nat,H id=some e∧e.gen=gen∧e.sz=sz∧loV env lo l∧hiV env e.rows.length hi h∧l≤h∧h≤e.rows.length∧
    match mx with
    |none=>(none:Option Operand)=none∧K (.osub id gen l h) []
    |some y=>l=0∧hi.isSome=true∧(∃kd,val env y=.v (.int kd (h:Int)))∧K (.oclip id gen h) []
  |.osub id gen lo0 hi0=>∃e:Ent,∃l h:Nat,H id=some e∧e.gen=gen∧e.sz=sz∧loV env lo l∧hiV env (hi0-lo0) hi h∧l≤h∧lo0+h≤e.rows.length∧mx=none∧lo0≤hi0∧K (.osub id gen (lo0+l) (lo0+h)) []
  |_=>False
 |.ext x i=>match val env x with
  |.tup us=>∃u,us[i]? =some u∧K u []
  |_=>False
 |.len true x=>match val env x with
  |.v (.string s)=>K (.v (.int .i64 s.size)) []
  |_=>False
 |.len false x=>match val env x with
  |.v (.slice _ n _)=>K (.v (.int .i64 n)) []
  |.sl _ rows=>K (.v (.int .i64 rows.length)) []
  |.own id gen=>∃e,H id=some e∧e.gen=gen∧K (.v (.int .i64 e.rows.length)) []
  |.osub id gen lo hi=>(∃e,H id=some e∧e.gen=gen)∧K (.v (.int .i64 ((hi-lo:Nat):Int))) []
  |.inm _ _ _ n _=>K (.v (.int .i64 n)) []
  |_=>False
 |.call x args=>match val env x with
  |.v (.func (.func f) ⟨[]⟩ ⟨[]⟩)=>∃ps rs bor,Ar H [] bor [] (args.map (val env)) ps∧Fun P f ps rs∧(bor=true→Dx rs)∧rs.length≤16∧K (F7 (Ih g b rs)) (P1 g b rs)
  |.clo f caps=>∃ps rs bor,Ar H [] bor [] (args.map (val env)++caps) ps∧Fun P f ps rs∧(bor=true→Dx rs)∧rs.length≤16∧K (F7 (Ih g b rs)) (P1 g b rs)
  |_=>False
 |.mkfn f caps=>K (.clo f (caps.map (val env))) []
 |.mkm=>K (.obj b (g b)) [(b,some ⟨g b,.q (Mj []),0,[]⟩)]
 |.mlook kind ok z x i=>∃An kv r,Ld H (val env x) An∧val env i=.v kv∧Gk kind kv An 0=some r∧
   K (Ahe (val env x) ok z r) []
 |.mlen x=>∃An,Ld H (val env x) An∧K (.v (.int .i64 An.length)) []
 |.mupd _ _ _ _=>False
 |.die _=>False
 |.mki t x=>match val env x with
  |.v v=>K (.v (.iface t v)) []
  |.agg cs=>∃vs:List Value,cs=vs.map .v∧K (.v (.iface t (.agg vs.toArray))) []
  |_=>False
 |.clr _ _ _=>False
 |.isnil _ _=>False
 |.ofB x=>∃(rows:List (List V)) (ns:List Int),C8 H 1 (val env x) rows∧rows=ns.map (fun n=>[.v (.int .u8 n)])∧K (.v (.string (Z0 ns))) []
 |.toB x=>match val env x with
  |.v (.string s)=>K (.sl false (s.data.toList.map fun b=>[.v (.int .u8 b.toNat)])) []
  |_=>False
 |.store _ _ _=>False
 |.app _ _ _ _ _ _=>False
theorem W7{env:Nat→V}{H:Nat→Option Ent}:∀(ps:List (Nat×Nat×Operand)) (cs:List V) (K:List V→Prop),Gb env H cs ps K→∃cs',Gb env H cs ps (fun x=>x=cs')∧K cs'
 |[],cs,K,h=>⟨cs,rfl,h⟩
 |(off,sz,x)::ps,cs,K,h=>by
  simp only[Gb]at h ⊢;split at h
  ·rename_i us hu;obtain⟨cs',h1,h2⟩:=W7 ps _ K h.2.2.2;exact⟨cs',⟨h.1,h.2.1,h.2.2.1,h1⟩,h2⟩
  ·exact h.elim
theorem Wm{env:Nat→V}{H:Nat→Option Ent}{sz:Nat}:∀(ps:List (Nat×Operand)) (rows:List (List V)) (K:List (List V)→Prop),F9 env H sz rows ps K→∃rows',F9 env H sz rows ps (fun x=>x=rows')∧K rows'
 |[],rows,K,h=>⟨rows,rfl,h⟩
 |(i,x)::ps,rows,K,h=>by
  simp only[F9]at h ⊢;split at h
  ·obtain⟨cs',h1,h2⟩:=Wm ps _ K h.2.2.2;exact⟨cs',⟨h.1,h.2.1,h.2.2.1,h1⟩,h2⟩
  ·exact h.elim
theorem An9{op:BinOp}{k k':IntKind}{x y:Int}{K:Value→Prop}(h:Akf op k x k' y K):∃r,Akf op k x k' y (fun x=>x=r)∧K r:=by
 cases op<;>first
  |exact h.elim
  |(obtain⟨h1,c,h2,hK⟩:=h;exact⟨_,⟨h1,c,h2,rfl⟩,hK⟩)
  |(obtain⟨h1,h0,c,h2,hK⟩:=h;exact⟨_,⟨h1,h0,c,h2,rfl⟩,hK⟩)
  |(obtain⟨h1,hK⟩:=h;exact⟨_,⟨h1,rfl⟩,hK⟩)
theorem An2{op:BinOp}{x y:ByteArray}{K:Value→Prop}(h:Amc op x y K):∃r,Amc op x y (fun x=>x=r)∧K r:=by
 cases op<;>first
  |exact h.elim
  |(obtain⟨h1,hK⟩:=h;exact⟨_,⟨h1,rfl⟩,hK⟩)
  |exact⟨_,rfl,h⟩
theorem Ab6{op:BinOp}{a b:Value}{K:Value→Prop}(h:S1 op a b K):∃r,S1 op a b (fun x=>x=r)∧K r:=by
 unfold S1 at h ⊢;split at h
 ·exact An9 h
 ·exact An2 h
 ·exact h.elim
end Go.Proofs.YtchbkgnobpejnaaGreatDoor
