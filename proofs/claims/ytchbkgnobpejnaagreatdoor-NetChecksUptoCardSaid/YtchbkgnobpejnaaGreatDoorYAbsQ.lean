/- The framework: part of this claim. -/
import Derived.Test.YtchbkgnobpejnaaGreatDoorYAbsH
set_option linter.unusedSimpArgs false
set_option linter.unusedVariables false
namespace Go.Proofs.YtchbkgnobpejnaaGreatDoor
open Go.RowKit
def inP:Bf→Bf
 |.ms T sz rows _=>.p (.o T sz rows)
 |.mn T cells _=>.pn T cells
 |.mo I _=>.po I
 |p=>p
def Gm(i:Nat)(ps:List Bf):List V:=match ps with
 |[]=>[]
 |p::ps=>Aj3 (16*i) 0 (inP p)::Gm (i+1) ps
def Qf(i:Nat):List Bf→List (Nat×Option Ent)
 |[]=>[]
 |p::ps=>U8 (fun _=>0) (16*i) 0 (inP p)++Qf (i+1) ps
def Ny(i:Nat):List Bf→List Nat
 |[]=>[]
 |p::ps=>Qv (16*i) (inP p)++Ny (i+1) ps
def atV:List V→Nat→V
 |[],_=>.v undef
 |v::_,0=>v
 |_::vs,i+1=>atV vs i
theorem Vu:∀(l:List V) (i:Nat),atV l i=(l[i]?).getD (.v undef)
 |[],i=>by simp[atV]
 |v::l,0=>rfl
 |v::l,i+1=>by rw[atV,Vu l i];simp
def noH:Hp:=fun _=>none
def G9(i:Nat):List Bf→List V
 |[]=>[]
 |.ms T sz rows rows'::ps=>.own (16*i) 0::G9 (i+1) ps
 |.mn T cells cells'::ps=>.ptr (16*i) 0 0 0::G9 (i+1) ps
 |.mo I I'::ps=>.ptr (16*i) 0 0 0::G9 (i+1) ps
 |_::ps=>G9 (i+1) ps
section
variable {P:Program} {st:St} {a:Act} {w w':World} {R:Nat→Prop} {G:Nat→Option Loc}
theorem Ann{p:Bf}{x:Value}{F:Nat→Prop}(h:Ji w R p x F):Ji w R (inP p) x F:=by
 cases p<;>exact h
theorem Ain{p:Bf}{y:Value}{F:Nat→Prop}(hp:Ji w R p y F)(gn:Nat):∃l,Abf gn (inP p) y F l:=by
 cases p with
 |p p=>cases p with
  |c u=>exact⟨⟨gn,0,y,false,none⟩,rfl,trivial⟩
  |o T sz rows=>exact⟨⟨gn,sz,y,false,none⟩,rfl,rfl,rfl,rfl,rfl⟩
 |ms T sz rows rows'=>exact⟨⟨gn,sz,y,false,none⟩,rfl,rfl,rfl,rfl,rfl⟩
 |mn T cells cells'=>
  obtain⟨b,xs,p1,_⟩:=hp;exact⟨⟨gn,cells.length,.slice (some ⟨b,0,none⟩) 1 1,true,none⟩,rfl,rfl,⟨b,p1,rfl⟩,rfl,rfl⟩
 |pn T cells=>
  obtain⟨b,xs,p1,_⟩:=hp;exact⟨⟨gn,cells.length,.slice (some ⟨b,0,none⟩) 1 1,true,none⟩,rfl,rfl,⟨b,p1,rfl⟩,rfl,rfl⟩
 |mo I I'=>
  obtain⟨⟨b,hb⟩,_⟩:=hp;exact⟨⟨gn,0,.slice (some ⟨b,0,none⟩) 1 1,true,some F⟩,rfl,⟨b,hb,rfl⟩,rfl,rfl⟩
 |po I=>
  obtain⟨⟨b,hb⟩,_⟩:=hp;exact⟨⟨gn,0,.slice (some ⟨b,0,none⟩) 1 1,true,some F⟩,rfl,⟨b,hb,rfl⟩,rfl,rfl⟩
theorem Ace[Glob]{c:Ctx}:∀(ps:List Bf) (xs:List Value) (i:Nat) {st:St} {G:Nat→Option Loc} {F:Nat→Prop},Ac c st a w R G→Cm w R ps xs F→(Ny i ps).Nodup→
  (∀k∈Ny i ps,G k=none)→(∀b,F b→¬R b∧(c.L b∨c.w0.heap.size≤b)∧∀k ek lk,st.H k=some ek→G k=some lk→lk.gen=ek.gen→¬lk.ft b)→
  ∃G',Ac c {st with H:=Bx st.H (Qf i ps)} a w R G'∧Gle G G'∧(Gm i ps).length=xs.length∧∀(j:Nat) (u:V) (x:Value),(Gm i ps)[j]? =some u→xs[j]? =some x→RV w R G' u x
 |[],[],i,st,G,F,h,_,_,_,_=>⟨G,h,Gle.refl _,rfl,fun i u y hu=>by simp[Gm]at hu⟩
 |p::ps,y::ys,k,st,G,F,h,hP,hnd,hgen,hfree=>by
  obtain⟨F1,F2,h1,h2,h3,h4⟩:=hP;obtain⟨l,hl⟩:=Ain h1 0;have hnd':=List.nodup_append.1 hnd;obtain⟨G1,k1,k2,k3,k4,k5⟩:=Abm (g:=fun _=>0) h (Ann h1) hl (fun l0 h0=>by rw[hgen _ (List.mem_append_left _ (XB ..))]at h0;cases h0)
   (fun j hj l0 h0=>by rw[hgen _ (List.mem_append_left _ (ZL _ (XO.2 ⟨j,List.mem_range.2 hj,rfl⟩)))]at h0;cases h0) (fun b hb=>hfree b ((h4 b).2 (.inl hb)))
  obtain⟨G2,m1,m2,m4,m5⟩:=Ace ps ys (k+1) k1 h2 hnd'.2.1
   (fun i hi=>by rw[k3 i (fun q=>hnd'.2.2 i q i hi rfl)];exact hgen i (List.mem_append_right _ hi)) (fun b hb=>by
    obtain⟨q1,q2,q3⟩:=hfree b ((h4 b).2 (.inr hb));refine⟨q1,q2,fun i ei li r1 r2 r3 r4=>?_⟩;rcases k5 i ei li b r1 r2 r3 r4 with r|⟨r5,r6⟩
    ·exact(h3 b r).1 hb
    ·exact q3 i ei li r5 r6 r3 r4)
  refine⟨G2,?_,k2.trans m2,by simp[Gm,m4],fun i u z q1 q2=>?_⟩
  ·show Ac c {st with H:=Bx st.H (U8 (fun _=>0) (16*k) 0 (inP p)++Qf (k+1) ps)} a w R G2;rw[Br];exact m1
  ·cases i with
   |zero=>simp[Gm]at q1 q2;subst q1 q2;exact k4.mono (fun b hb=>⟨hb,rfl⟩) m2
   |succ i=>exact m5 i u z (by simpa[Gm]using q1) (by simpa using q2)
theorem Cm.len:∀{ps:List Bf} {xs:List Value} {F:Nat→Prop},Cm w R ps xs F→ps.length=xs.length
 |[],[],F,h=>rfl
 |p::ps,x::xs,F,h=>by obtain⟨F1,F2,h1,h2,_⟩:=h;simp[Cm.len h2]
theorem S5:∀(ps:List Bf) (xs:List Value) (i:Nat),ps.length=xs.length→(∀(j:Nat) (u:V) (x:Value),(Gm i ps)[j]? =some u→xs[j]? =some x→RV w R G u x)→
  (G9 i ps).length=(Du ps xs).length∧∀(j:Nat) (u:V) (x:Value),(G9 i ps)[j]? =some u→(Du ps xs)[j]? =some x→RV w R G u x
 |[],[],i,_,_=>⟨rfl,fun j u x h=>by simp[G9]at h⟩
 |p::ps,x::xs,i,hl,h=>by
  obtain⟨h1,h2⟩:=S5 ps xs (i+1) (by simpa using hl) (fun j u y q1 q2=>h (j+1) u y (by simpa[Gm]using q1) (by simpa using q2));have h0:=h 0 (Aj3 (16*i) 0 (inP p)) x rfl rfl;have step:∀u0,RV w R G u0 x→(u0::G9 (i+1) ps).length=(x::Du ps xs).length∧∀(j:Nat) (u:V) (y:Value),(u0::G9 (i+1) ps)[j]? =some u→(x::Du ps xs)[j]? =some y→RV w R G u y:=fun u0 hu0=>⟨by simp[h1],fun j u y q1 q2=>by
   cases j with
   |zero=>simp at q1 q2;subst q1 q2;exact hu0
   |succ j=>exact h2 j u y (by simpa using q1) (by simpa using q2)⟩
  cases p with
  |p p=>exact⟨h1,h2⟩
  |ms T sz rows rows'=>exact step _ h0
  |mn T cells cells'=>exact step _ h0
  |mo I I'=>exact step _ h0
  |pn T cells=>exact⟨h1,h2⟩
  |po I=>exact⟨h1,h2⟩
end
def Asb(ts:List Nat)(ps rs:List Bf)(st:St):Prop:=∃gone,Bm st.H gone true gone (ts.map st.env++G9 0 ps) (rs++B4 ps)
def Atr(ts:List Nat)(ps rs:List Bf):Ex→St→Prop
 |.exit _,_=>False
 |_,st=>Asb ts ps rs st
def Abe(D:Value→Prop)(ps:List Bf):St:=⟨atV (Gm 0 ps),Bx noH (Qf 0 ps),D⟩
theorem Na[Glob]{w:World}{R:Nat→Prop}{D:Value→Prop}{ps:List Bf}{xs:List Value}{F:Nat→Prop}{n:Nat}(hlt:∀b,R b→b<w.heap.size)(hp:Cm w R ps xs F)(hn:ps.length≤n)(hnd:(Ny 0 ps).Nodup)(hg:Cc w F):
  ∃G0,Ac ⟨w,R,F,n,D,G0,hg⟩ (Abe D ps) {tmps:=xs.toArray++Array.replicate (n-xs.toArray.size) undef,defers:=[]} w R G0∧∀(j:Nat) (u:V) (x:Value),(Gm 0 ps)[j]? =some u→xs[j]? =some x→RV w R G0 u x:=by
 have hlen:=hp.len;have hget:∀i,(xs.toArray++Array.replicate (n-xs.toArray.size) undef).getD i undef=(xs[i]?).getD undef:=fun i=>by
  rw[Array.getD_eq_getD_getElem?,Array.getElem?_append];split
  ·simp
  ·rename_i h;rw[XK (by simpa using h)];rw[Array.getElem?_replicate];split<;>rfl
 have h0:Ac ⟨w,R,F,n,D,noG,hg⟩ ⟨fun _=>.any,noH,D⟩ {tmps:=xs.toArray++Array.replicate (n-xs.toArray.size) undef,defers:=[]} w R noG:=by
  refine⟨fun i=>.any _,⟨fun k e l h=>(by cases h),fun k e l h=>(by cases h),fun k k' e e' l l' b h=>(by cases h),fun k e l b h=>(by cases h)⟩,hlt,fun b hb=>.inl hb,fun b hb=>hb,Fr.refl _ _,?_,rfl,rfl,Gle.refl _⟩;simp;omega
 obtain⟨G0,h1,h2,h3,h4⟩:=Ace ps xs 0 h0 hp hnd (fun k _=>rfl) (fun b hb=>⟨hp.free b hb,.inl hb,fun k ek lk h=>by cases h⟩);refine⟨G0,⟨fun i=>?_,h1.hr,h1.lt,h1.src,h1.old,h1.fr,h1.n,h1.defers,h1.die,Gle.refl _⟩,h4⟩;show RV w R G0 (atV (Gm 0 ps) i) ((xs.toArray++Array.replicate (n-xs.toArray.size) undef).getD i undef);rw[hget,Vu];by_cases hi:i<xs.length
 ·have hi':i<(Gm 0 ps).length:=by omega
  rw[ZC hi,ZC hi'];exact h4 i _ _ (ZC hi') (ZC hi)
 ·rw[XK (by omega),XK (by omega)];exact .v _
theorem Aew [Glob] {P : Program} {f : FuncId} {fn : Func} {code : Code} {rc : Ae} {ps rs : List Bf} {ts : List Nat} (hf : P.funcs[f]? = some fn) (hb : fn.body = some code) (hname : (fn.name == "runtime.NumGoroutine") = false) (hres : Ao P fn.ntmps code = some rc)
  (hlen:ps.length≤fn.ntmps) (hts:fn.results.toList=ts.map .tmp) (hrl:rs.length=ts.length) (hnd:(Ny 0 ps).Nodup) (h:wpv P rc (Atr ts ps rs) (Abe noD ps)):Gl P f ps rs:=by
 refine⟨⟨fn,hf,hname,by rw[hb];rfl⟩,fun w R xs F hlt hp hg=>?_⟩;refine calls_of_wp hf hb ?_;obtain⟨G0,hrel,hV0⟩:=Na (n:=fn.ntmps) (D:=noD) hlt hp hlen hnd hg;refine wp_mono (Bs (c:=⟨w,R,F,fn.ntmps,noD,G0,hg⟩) rfl code hres h ⟨R,G0,hrel⟩) fun e a' w' he=>?_;have fin:∀st,Asb ts ps rs st→Rel ⟨w,R,F,fn.ntmps,noD,G0,hg⟩ st a' w'→a'.defers=[]∧∃v,(results fn a'.tmps).run P w'=.ok v w'∧∃(ys:List Value) (R' F':Nat→Prop),Ending.returned v=.returned (Dl ys)∧rs.length=ys.length∧Fr F w w'∧(∀b,R b→R' b)∧
   (∀b,R' b→R b∨(b<w'.heap.size∧(F b∨w.heap.size≤b)))∧Cm w' R' (rs++B4 ps) (ys++Du ps xs) F'∧(∀b,F' b→F b∨w.heap.size≤b):=fun st ⟨gone,hA⟩ ⟨R2,G,hR⟩=>by
  have hRR:∀b,R b→R2 b∧w'.heap[b]? =w.heap[b]? :=fun b hb=>⟨hR.old b hb,hR.fr.block b (hlt b hb) (fun hl=>hp.free b hl hb)⟩;obtain⟨x1,x2⟩:=S5 ps xs 0 hp.len (fun j u x q1 q2=>(hV0 j u x q1 q2).mono hRR hR.gle);obtain⟨F',h1,h2,h3⟩:=Mx hR (bor0:=true) (xs:=(ts.map fun t=>a'.tmps.getD t undef)++Du ps xs) hA (fun e=>e) (by simp[x1]) (fun i u x q1 q2=>by
   by_cases hi:i<ts.length
   ·rw[ZQ (by simpa using hi)]at q1 q2;simp only[XJ,ZC hi,Option.map_some,ZD]at q1 q2;subst q1 q2;exact hR.env _
   ·rw[ZP (by simpa using hi)]at q1 q2;simp only[ZE]at q1 q2;exact x2 _ u x q1 q2)
  refine⟨hR.defers,_,Ub hts _ _,(ts.map fun t=>a'.tmps.getD t undef),RB R2 G st.H gone true,F',rfl,by simp[hrl],hR.fr,fun b hb=>.inl (hR.old b hb),?_,h1,fun b hb=>?_⟩
  ·rintro b (hb|⟨_,id,e,l,_,q1,q2,q3,q4⟩)
   ·rcases hR.src b hb with q|q
    ·exact .inl q
    ·exact .inr ⟨hR.lt b hb,q⟩
   ·exact .inr ⟨hR.hr.lt q1 q2 q3 q4,(hR.hr.mine id e l b q1 q2 q3 q4).2⟩
  ·obtain⟨id,_,e,l,q1,q2,q3,q4⟩:=h2 b hb;exact(hR.hr.mine id e l b q1 q2 q3 q4).2
 cases e with
 |normal=>obtain⟨st,h1,h2⟩:=he;exact fin st h1 h2
 |ret=>obtain⟨st,h1,h2⟩:=he;exact fin st h1 h2
 |exit id=>obtain⟨st,h1,h2⟩:=he;exact h1.elim
 |goto l=>exact he.elim
 |panic ch=>obtain⟨v,_,h2,_⟩:=he;exact h2.elim
 |outgrown=>exact he.elim
def Ast:Ex→St→Prop:=fun _ _=>False
theorem Aa5 [Glob] {P : Program} {f : FuncId} {fn : Func} {code : Code} {rc : Ae} {ps : List Bf} {v : Value} (hf : P.funcs[f]? = some fn) (hb : fn.body = some code) (hname : (fn.name == "runtime.NumGoroutine") = false) (hres : Ao P fn.ntmps code = some rc)
  (hlen:ps.length≤fn.ntmps) (hnd:(Ny 0 ps).Nodup) (h:wpv P rc Ast (Abe (fun x=>x=v) ps)):Ij P f ps v:=by
 refine⟨⟨fn,hf,hname,by rw[hb];rfl⟩,fun w R xs F hlt hp hg=>?_⟩;refine calls_of_wp hf hb ?_;obtain⟨G0,hrel,hV0⟩:=Na (n:=fn.ntmps) (D:=fun x=>x=v) hlt hp hlen hnd hg;refine wp_mono (Bs (c:=⟨w,R,F,fn.ntmps,fun x=>x=v,G0,hg⟩) rfl code hres h ⟨R,G0,hrel⟩) fun e a' w' he=>?_;cases e with
 |normal=>obtain⟨st,h1,h2⟩:=he;exact h1.elim
 |ret=>obtain⟨st,h1,h2⟩:=he;exact h1.elim
 |exit id=>obtain⟨st,h1,h2⟩:=he;exact h1.elim
 |goto l=>exact he.elim
 |panic ch=>obtain⟨v',rfl,rfl,h3,h4⟩:=he;exact⟨h4,rfl,h3⟩
 |outgrown=>exact he.elim
def Au6(ts:List Nat)(ps rs:List Bf):Ex→Env→Hp→Prop
 |.exit _=>fun _ _=>False
 |.normal=>fun env H=>∃gone,Bm H gone true gone (ts.map env++G9 0 ps) (rs++B4 ps)
 |.ret=>fun env H=>∃gone,Bm H gone true gone (ts.map env++G9 0 ps) (rs++B4 ps)
def Ap8:Ex→Env→Hp→Prop:=fun _ _ _=>False
theorem Ms{P : Program}{f : FuncId}{np : Nat}{rc : Ae}{ts : List Nat}(hc : Al P f np = some (rc, ts)): ∃ fn code, P.funcs[f]? = some fn ∧ fn.body = some code ∧ (fn.name == "runtime.NumGoroutine") = false ∧ Ao P fn.ntmps code = some rc ∧ np ≤ fn.ntmps ∧ fn.results.toList = ts.map .tmp := by
 unfold Al at hc;split at hc
 ·cases hc
 ·rename_i fn hf;split at hc
  ·cases hc
  ·rename_i code hb;split at hc
   ·cases hc
   ·rename_i hk;simp only[Bool.or_eq_true,not_or,Bool.not_eq_true',Bool.not_eq_true,decide_eq_false_iff_not,Classical.not_not]at hk;split at hc
    ·rename_i rc' ts' h1 h2;simp only[ZD,Prod.mk.injEq]at hc;obtain⟨rfl,rfl⟩:=hc;exact⟨fn,code,hf,hb,hk.1,h1,by simpa using hk.2,Gy _ h2⟩
    ·cases hc
theorem On[Glob]{P:Program}{f:FuncId}{np:Nat}{rc:Ae}{ts:List Nat}{ps rs:List Bf}(hc:Al P f np=some (rc,ts))(hn:ps.length=np)(hrl:rs.length=ts.length)(hnd:(Ny 0 ps).Nodup)(h:wpx P noD rc (Au6 ts ps rs) (atV (Gm 0 ps)) (Bx noH (Qf 0 ps))):Gl P f ps rs:=by
 obtain⟨fn,code,h1,h2,h3,h4,h5,h6⟩:=Ms hc;refine Aew h1 h2 h3 h4 (by omega) h6 hrl hnd (B3 rc (fun e env H h=>?_) h);cases e with
 |normal=>exact h
 |exit j=>exact h
 |ret=>exact h
theorem Acj[Glob]{P:Program}{f:FuncId}{np:Nat}{rc:Ae}{ts:List Nat}{ps:List Bf}{v:Value}(hc:Al P f np=some (rc,ts))(hn:ps.length=np)(hnd:(Ny 0 ps).Nodup)(h:wpx P (fun x=>x=v) rc Ap8 (atV (Gm 0 ps)) (Bx noH (Qf 0 ps))):Ij P f ps v:=by
 obtain⟨fn,code,h1,h2,h3,h4,h5,h6⟩:=Ms hc;exact Aa5 h1 h2 h3 h4 (by omega) hnd (B3 rc (fun e env H h=>h.elim) h)
section
variable {H:Nat→Option Ent} {all:List Nat} {bor:Bool} {gone:List Nat} {us:List V} {ps:List Bf}
theorem Ci{u:V}(hu:Cl u)(h:Bm H all bor gone us ps):Bm H all bor gone (u::us) (.p (.c u)::ps):=.old (gone1:=[]) (.same hu (.nil _)) (by simp) h
theorem Apc{id g:Nat}{e:Ent}{rows':List (List V)}(he:H id=some e)(hg:e.gen=g)(hr:Ack (fun k=>if k∈id::all then none else H k) e.rows rows')(hn:id∉all)(h:Bm H all true gone us ps):Bm H all true gone (.own id g::us) (.p (.c (.sl false rows'))::ps):=.old (gone1:=[]) (.bor he hg hr hn (.nil _)) (by simp) h
theorem My:∀{row:List V},(∀u∈row,Cl u)→Ar H all false [] row (row.map .c)
 |[],_=>.nil _
 |u::row,h=>.same (h u (XB ..)) (My fun v hv=>h v (ZL _ hv))
theorem Asn{id g n:Nat}{I I':Opq}{rows:List (List V)}(he:H id=some ⟨g,.q I,n,rows⟩)(hn:id∉gone)(ha:id∈all)(h:Bm H all bor gone us ps):Bm H all bor (id::gone) (.ptr id g 0 0::us) (.mo I I'::ps):=
 .mo (e:=⟨g,.q I,n,rows⟩) he rfl rfl hn ha h
theorem Ato{id g n:Nat}{I:Opq}{rows:List (List V)}(he:H id=some ⟨g,.q I,n,rows⟩)(hn:id∉gone)(ha:id∈all)(h:Bm H all bor gone us ps):Bm H all bor (id::gone) (.ptr id g 0 0::us) (.po I::ps):=
 .po (e:=⟨g,.q I,n,rows⟩) he rfl rfl hn ha h
theorem As4{id g n:Nat}{T:TypeId}{row:List V}{I I':Opq}(he:H id=some ⟨g,.b T,n,[row]⟩)(hr:∀u∈row,Cl u)(hf:Ae0 T row I)(hn:id∉gone)(ha:id∈all)(h:Bm H all bor gone us ps):Bm H all bor (id::gone) (.ptr id g 0 0::us) (.mo I I'::ps):=
 .fo (e:=⟨g,.b T,n,[row]⟩) he rfl rfl rfl hr hf hn ha h
end
theorem L8:∀u∈([]:List V),Cl u:=fun u hu=>by simp at hu
theorem I2{u:V}{us:List V}(h:Cl u)(hs:∀v∈us,Cl v):∀v∈u::us,Cl v:=fun v hv=>by
 rcases XC.1 hv with e|e
 ·rw[e];exact h
 ·exact hs v e
theorem Pw{cs:List V}(h:∀u∈cs,Cl u):Cl (.agg cs):=fun w R G G' x hx=>by
 cases hx with
 |agg cs xs hl hc=>exact .agg cs xs hl fun i u y h1 h2=>h u (ZH h1) w R G G' y (hc i u y h1 h2)
theorem Agw{H:Nat→Option Ent}{all gone:List Nat}{cs cs' us:List V}{ps:List Bf}(hc:Bt H all cs cs')(h:Bm H all true gone us ps):Bm H all true gone (.agg cs::us) (.p (.c (.agg cs'))::ps):=.old (gone1:=[]) (.bora hc (.nil _)) (by simp) h
theorem Ate{H:Nat→Option Ent}{all gone gone1:List Nat}{bor:Bool}{id g n:Nat}{T:TypeId}{row:List V}{cells cells':List Par}{us:List V}{ps:List Bf}(he:H id=some ⟨g,.b T,n,[row]⟩)(hc:Ar H all false gone1 row cells)(hd:∀k∈gone1,k∉gone∧k∈all∧k≠id)(hn:id∉gone)(ha:id∈all)(hl:cells'.length=cells.length)(h:Bm H all bor gone us ps):
  Bm H all bor (id::(gone1++gone)) (.ptr id g 0 0::us) (.mn T cells cells'::ps):=.mn he rfl rfl rfl hc hd hn ha hl h
theorem Er{H:Nat→Option Ent}{all gone gone1:List Nat}{bor:Bool}{id g n:Nat}{T:TypeId}{row:List V}{cells:List Par}{us:List V}{ps:List Bf}(he:H id=some ⟨g,.b T,n,[row]⟩)(hc:Ar H all false gone1 row cells)(hd:∀k∈gone1,k∉gone∧k∈all∧k≠id)(hn:id∉gone)(ha:id∈all)(h:Bm H all bor gone us ps):
  Bm H all bor (id::(gone1++gone)) (.ptr id g 0 0::us) (.pn T cells::ps):=.pn he rfl rfl rfl hc hd hn ha h
theorem Jt{H:Nat→Option Ent}{all:List Nat}{id g sz:Nat}{T:TO}{rows rows':List (List V)}{us us':List V}(he:H id=some ⟨g,T,sz,rows⟩)(hrr:rows=rows')(hr:∀row∈rows',∀u∈row,Cl u)(hn:id∉all)(h:Bt H all us us'):Bt H all (.own id g::us) (.sl false rows'::us'):=by
 subst hrr;exact .own he rfl hr hn h
def ndB:List Nat→Bool
 |[]=>true
 |x::l=>l.all (fun y=> !(Nat.beq x y))&&ndB l
theorem Qk:∀{l:List Nat},ndB l=true→l.Nodup
 |[],_=>List.nodup_nil
 |x::l,h=>by
  simp only[ndB,ZO,List.all_eq_true]at h;rw[List.nodup_cons];refine⟨fun hm=>?_,Qk h.2⟩;have:=h.1 x hm;simp at this
abbrev Rq(d:Nat)(o:ROp):Aa:=⟨some d,none,o⟩
abbrev Gq(d s:Nat)(w:Bool)(o:ROp):Aa:=⟨some d,some (s,w),o⟩
abbrev Sq(n:Nat)(x y:Operand):Aa:=⟨none,none,.store n x y⟩
abbrev Kq(n:Int):Operand:=.const (.int .i64 n)
instance (n:Nat):OfNat Operand n:=⟨.tmp n⟩
abbrev Mq(d:Nat)(x:Operand):Aa:=Rq d (.mv x)
abbrev Nq(d:Nat)(x:Int):Aa:=Rq d (.mv (Kq x))
abbrev Lq(d:Nat)(x:Operand):Aa:=Rq d (.load false 1 x)
abbrev Fq(d o:Nat)(x:Operand):Aa:=Rq d (.fldA o x)
abbrev Cq(d f:Nat)(l:List Operand):Aa:=Rq d (.call (.func f) l)
abbrev Iq(d n:Nat)(x i:Operand):Aa:=Rq d (.idxA n x i)
abbrev Eq1(d:Nat)(x:Operand)(i:Nat):Aa:=Rq d (.ext x i)
abbrev Bq(d:Nat)(o:BinOp)(x y:Operand):Aa:=Rq d (.bin o x y)
abbrev Hq(d s:Nat)(w:Bool)(x:Operand):Aa:=Gq d s w (.mv x)
end Go.Proofs.YtchbkgnobpejnaaGreatDoor
