/- The framework: part of this claim. -/
import Derived.Test.YtchbkgnobpejnaaGreatDoorWAbsH
set_option linter.unusedSimpArgs false
set_option linter.unusedVariables false
namespace Go.Proofs.YtchbkgnobpejnaaGreatDoor
open Go.RowKit
def inP:Be→Be
 |.ms T sz rows _=>.p (.o T sz rows)
 |.mn T cells _=>.pn T cells
 |.mo I _=>.po I
 |p=>p
def Fp(i:Nat)(ps:List Be):List V:=match ps with
 |[]=>[]
 |p::ps=>Afw (16*i) 0 (inP p)::Fp (i+1) ps
def Ox(i:Nat):List Be→List (Nat×Option Ent)
 |[]=>[]
 |p::ps=>Td (fun _=>0) (16*i) 0 (inP p)++Ox (i+1) ps
def L7(i:Nat):List Be→List Nat
 |[]=>[]
 |p::ps=>O1 (16*i) (inP p)++L7 (i+1) ps
def atV:List V→Nat→V
 |[],_=>.v undef
 |v::_,0=>v
 |_::vs,i+1=>atV vs i
theorem Tr:∀(l:List V) (i:Nat),atV l i=(l[i]?).getD (.v undef)
 |[],i=>by simp[atV]
 |v::l,0=>rfl
 |v::l,i+1=>by rw[atV,Tr l i];simp
def noH:Hp:=fun _=>none
def F5(i:Nat):List Be→List V
 |[]=>[]
 |.ms T sz rows rows'::ps=>.own (16*i) 0::F5 (i+1) ps
 |.mn T cells cells'::ps=>.ptr (16*i) 0 0 0::F5 (i+1) ps
 |.mo I I'::ps=>.ptr (16*i) 0 0 0::F5 (i+1) ps
 |_::ps=>F5 (i+1) ps
section
variable {P:Program} {st:St} {a:Act} {w w':World} {R:Nat→Prop} {G:Nat→Option Loc}
theorem Ala{p:Be}{x:Value}{F:Nat→Prop}(h:Is w R p x F):Is w R (inP p) x F:=by
 cases p<;>exact h
theorem Afc{p:Be}{y:Value}{F:Nat→Prop}(hp:Is w R p y F)(gn:Nat):∃l,Yu gn (inP p) y F l:=by
 cases p with
 |p p=>cases p with
  |c u=>exact⟨⟨gn,0,y,false,none⟩,rfl,trivial⟩
  |o T sz rows=>exact⟨⟨gn,sz,y,false,none⟩,rfl,rfl,rfl,rfl,rfl⟩
 |ms T sz rows rows'=>exact⟨⟨gn,sz,y,false,none⟩,rfl,rfl,rfl,rfl,rfl⟩
 |mn T cells cells'=>
  obtain⟨b,xs,p1,_⟩:=hp;exact⟨⟨gn,cells.length,.slice (some ⟨b,0,none⟩) 1 1,true,none⟩,rfl,rfl,⟨b,p1,rfl⟩,rfl,rfl⟩
 |pn T cells=>
  obtain⟨b,xs,p1,_⟩:=hp;exact⟨⟨gn,cells.length,.slice (some ⟨b,0,none⟩) 1 1,true,none⟩,rfl,rfl,⟨b,p1,rfl⟩,rfl,rfl⟩
 |mo I I'=>
  obtain⟨⟨b,hb⟩,_⟩:=hp;exact⟨⟨gn,0,.slice (some ⟨b,0,none⟩) 1 1,true,some F⟩,rfl,⟨b,hb,rfl⟩,rfl,rfl⟩
 |po I=>
  obtain⟨⟨b,hb⟩,_⟩:=hp;exact⟨⟨gn,0,.slice (some ⟨b,0,none⟩) 1 1,true,some F⟩,rfl,⟨b,hb,rfl⟩,rfl,rfl⟩
theorem Z9[Glob]{c:Ctx}:∀(ps:List Be) (xs:List Value) (i:Nat) {st:St} {G:Nat→Option Loc} {F:Nat→Prop},Ac c st a w R G→Cd w R ps xs F→(L7 i ps).Nodup→
  (∀k∈L7 i ps,G k=none)→(∀b,F b→¬R b∧(c.L b∨c.w0.heap.size≤b)∧∀k ek lk,st.H k=some ek→G k=some lk→lk.gen=ek.gen→¬lk.ft b)→
  ∃G',Ac c {st with H:=Bu st.H (Ox i ps)} a w R G'∧Gle G G'∧(Fp i ps).length=xs.length∧∀(j:Nat) (u:V) (x:Value),(Fp i ps)[j]? =some u→xs[j]? =some x→RV w R G' u x
 |[],[],i,st,G,F,h,_,_,_,_=>⟨G,h,Gle.refl _,rfl,fun i u y hu=>by simp[Fp]at hu⟩
 |p::ps,y::ys,k,st,G,F,h,hP,hnd,hgen,hfree=>by
  obtain⟨F1,F2,h1,h2,h3,h4⟩:=hP;obtain⟨l,hl⟩:=Afc h1 0;have hnd':=List.nodup_append.1 hnd;obtain⟨G1,k1,k2,k3,k4,k5⟩:=Y9 (g:=fun _=>0) h (Ala h1) hl (fun l0 h0=>by rw[hgen _ (List.mem_append_left _ (XB ..))]at h0;cases h0)
   (fun j hj l0 h0=>by rw[hgen _ (List.mem_append_left _ (ZL _ (XO.2 ⟨j,List.mem_range.2 hj,rfl⟩)))]at h0;cases h0) (fun b hb=>hfree b ((h4 b).2 (.inl hb)))
  obtain⟨G2,m1,m2,m4,m5⟩:=Z9 ps ys (k+1) k1 h2 hnd'.2.1
   (fun i hi=>by rw[k3 i (fun q=>hnd'.2.2 i q i hi rfl)];exact hgen i (List.mem_append_right _ hi)) (fun b hb=>by
    obtain⟨q1,q2,q3⟩:=hfree b ((h4 b).2 (.inr hb));refine⟨q1,q2,fun i ei li r1 r2 r3 r4=>?_⟩;rcases k5 i ei li b r1 r2 r3 r4 with r|⟨r5,r6⟩
    ·exact(h3 b r).1 hb
    ·exact q3 i ei li r5 r6 r3 r4)
  refine⟨G2,?_,k2.trans m2,by simp[Fp,m4],fun i u z q1 q2=>?_⟩
  ·show Ac c {st with H:=Bu st.H (Td (fun _=>0) (16*k) 0 (inP p)++Ox (k+1) ps)} a w R G2;rw[Bm];exact m1
  ·cases i with
   |zero=>simp[Fp]at q1 q2;subst q1 q2;exact k4.mono (fun b hb=>⟨hb,rfl⟩) m2
   |succ i=>exact m5 i u z (by simpa[Fp]using q1) (by simpa using q2)
theorem Cd.len:∀{ps:List Be} {xs:List Value} {F:Nat→Prop},Cd w R ps xs F→ps.length=xs.length
 |[],[],F,h=>rfl
 |p::ps,x::xs,F,h=>by obtain⟨F1,F2,h1,h2,_⟩:=h;simp[Cd.len h2]
theorem Q2:∀(ps:List Be) (xs:List Value) (i:Nat),ps.length=xs.length→(∀(j:Nat) (u:V) (x:Value),(Fp i ps)[j]? =some u→xs[j]? =some x→RV w R G u x)→
  (F5 i ps).length=(Df ps xs).length∧∀(j:Nat) (u:V) (x:Value),(F5 i ps)[j]? =some u→(Df ps xs)[j]? =some x→RV w R G u x
 |[],[],i,_,_=>⟨rfl,fun j u x h=>by simp[F5]at h⟩
 |p::ps,x::xs,i,hl,h=>by
  obtain⟨h1,h2⟩:=Q2 ps xs (i+1) (by simpa using hl) (fun j u y q1 q2=>h (j+1) u y (by simpa[Fp]using q1) (by simpa using q2));have h0:=h 0 (Afw (16*i) 0 (inP p)) x rfl rfl;have step:∀u0,RV w R G u0 x→(u0::F5 (i+1) ps).length=(x::Df ps xs).length∧∀(j:Nat) (u:V) (y:Value),(u0::F5 (i+1) ps)[j]? =some u→(x::Df ps xs)[j]? =some y→RV w R G u y:=fun u0 hu0=>⟨by simp[h1],fun j u y q1 q2=>by
   cases j with
   |zero=>simp at q1 q2;subst q1 q2;exact hu0
   |succ j=>exact h2 j u y (by simpa using q1) (by simpa using q2)⟩
  cases p with
  |p p=>exact⟨h1,h2⟩
  |ms T sz rows rows'=>exact step _ h0
  |mn T cells cells'=>exact step _ h0
  |mo I I'=>exact step _ h0
  |pn T cells=>exact⟨h1,h2⟩
  |po I=>exact⟨h1,h2⟩
end
def Aow(ts:List Nat)(ps rs:List Be)(st:St):Prop:=∃gone,Bi st.H gone true gone (ts.map st.env++F5 0 ps) (rs++Bw ps)
def Aqi(ts:List Nat)(ps rs:List Be):Ex→St→Prop
 |.exit _,_=>False
 |_,st=>Aow ts ps rs st
def Yg(D:Value→Prop)(ps:List Be):St:=⟨atV (Fp 0 ps),Bu noH (Ox 0 ps),D⟩
theorem L1[Glob]{w:World}{R:Nat→Prop}{D:Value→Prop}{ps:List Be}{xs:List Value}{F:Nat→Prop}{n:Nat}(hlt:∀b,R b→b<w.heap.size)(hp:Cd w R ps xs F)(hn:ps.length≤n)(hnd:(L7 0 ps).Nodup)(hg:B6 w F):
  ∃G0,Ac ⟨w,R,F,n,D,G0,hg⟩ (Yg D ps) {tmps:=xs.toArray++Array.replicate (n-xs.toArray.size) undef,defers:=[]} w R G0∧∀(j:Nat) (u:V) (x:Value),(Fp 0 ps)[j]? =some u→xs[j]? =some x→RV w R G0 u x:=by
 have hlen:=hp.len;have hget:∀i,(xs.toArray++Array.replicate (n-xs.toArray.size) undef).getD i undef=(xs[i]?).getD undef:=fun i=>by
  rw[Array.getD_eq_getD_getElem?,Array.getElem?_append];split
  ·simp
  ·rename_i h;rw[XK (by simpa using h)];rw[Array.getElem?_replicate];split<;>rfl
 have h0:Ac ⟨w,R,F,n,D,noG,hg⟩ ⟨fun _=>.any,noH,D⟩ {tmps:=xs.toArray++Array.replicate (n-xs.toArray.size) undef,defers:=[]} w R noG:=by
  refine⟨fun i=>.any _,⟨fun k e l h=>(by cases h),fun k e l h=>(by cases h),fun k k' e e' l l' b h=>(by cases h),fun k e l b h=>(by cases h)⟩,hlt,fun b hb=>.inl hb,fun b hb=>hb,Fr.refl _ _,?_,rfl,rfl,Gle.refl _⟩;simp;omega
 obtain⟨G0,h1,h2,h3,h4⟩:=Z9 ps xs 0 h0 hp hnd (fun k _=>rfl) (fun b hb=>⟨hp.free b hb,.inl hb,fun k ek lk h=>by cases h⟩);refine⟨G0,⟨fun i=>?_,h1.hr,h1.lt,h1.src,h1.old,h1.fr,h1.n,h1.defers,h1.die,Gle.refl _⟩,h4⟩;show RV w R G0 (atV (Fp 0 ps) i) ((xs.toArray++Array.replicate (n-xs.toArray.size) undef).getD i undef);rw[hget,Tr];by_cases hi:i<xs.length
 ·have hi':i<(Fp 0 ps).length:=by omega
  rw[ZC hi,ZC hi'];exact h4 i _ _ (ZC hi') (ZC hi)
 ·rw[XK (by omega),XK (by omega)];exact .v _
theorem Acf [Glob] {P : Program} {f : FuncId} {fn : Func} {code : Code} {rc : Ae} {ps rs : List Be} {ts : List Nat} (hf : P.funcs[f]? = some fn) (hb : fn.body = some code) (hname : (fn.name == "runtime.NumGoroutine") = false) (hres : Ao P fn.ntmps code = some rc)
  (hlen:ps.length≤fn.ntmps) (hts:fn.results.toList=ts.map .tmp) (hrl:rs.length=ts.length) (hnd:(L7 0 ps).Nodup) (h:wpv P rc (Aqi ts ps rs) (Yg noD ps)):Hd P f ps rs:=by
 refine⟨⟨fn,hf,hname,by rw[hb];rfl⟩,fun w R xs F hlt hp hg=>?_⟩;refine calls_of_wp hf hb ?_;obtain⟨G0,hrel,hV0⟩:=L1 (n:=fn.ntmps) (D:=noD) hlt hp hlen hnd hg;refine wp_mono (Bn (c:=⟨w,R,F,fn.ntmps,noD,G0,hg⟩) rfl code hres h ⟨R,G0,hrel⟩) fun e a' w' he=>?_;have fin:∀st,Aow ts ps rs st→Rel ⟨w,R,F,fn.ntmps,noD,G0,hg⟩ st a' w'→a'.defers=[]∧∃v,(results fn a'.tmps).run P w'=.ok v w'∧∃(ys:List Value) (R' F':Nat→Prop),Ending.returned v=.returned (Da ys)∧rs.length=ys.length∧Fr F w w'∧(∀b,R b→R' b)∧
   (∀b,R' b→R b∨(b<w'.heap.size∧(F b∨w.heap.size≤b)))∧Cd w' R' (rs++Bw ps) (ys++Df ps xs) F'∧(∀b,F' b→F b∨w.heap.size≤b):=fun st ⟨gone,hA⟩ ⟨R2,G,hR⟩=>by
  have hRR:∀b,R b→R2 b∧w'.heap[b]? =w.heap[b]? :=fun b hb=>⟨hR.old b hb,hR.fr.block b (hlt b hb) (fun hl=>hp.free b hl hb)⟩;obtain⟨x1,x2⟩:=Q2 ps xs 0 hp.len (fun j u x q1 q2=>(hV0 j u x q1 q2).mono hRR hR.gle);obtain⟨F',h1,h2,h3⟩:=Lx hR (bor0:=true) (xs:=(ts.map fun t=>a'.tmps.getD t undef)++Df ps xs) hA (fun e=>e) (by simp[x1]) (fun i u x q1 q2=>by
   by_cases hi:i<ts.length
   ·rw[ZQ (by simpa using hi)]at q1 q2;simp only[XJ,ZC hi,Option.map_some,ZD]at q1 q2;subst q1 q2;exact hR.env _
   ·rw[ZP (by simpa using hi)]at q1 q2;simp only[ZE]at q1 q2;exact x2 _ u x q1 q2)
  refine⟨hR.defers,_,S5 hts _ _,(ts.map fun t=>a'.tmps.getD t undef),RB R2 G st.H gone true,F',rfl,by simp[hrl],hR.fr,fun b hb=>.inl (hR.old b hb),?_,h1,fun b hb=>?_⟩
  ·rintro b (hb|⟨_,id,e,l,_,q1,q2,q3,q4⟩)
   ·rcases hR.src b hb with q|q
    ·exact .inl q
    ·exact .inr ⟨hR.lt b hb,q⟩
   ·exact .inr ⟨hR.hr.lt q1 q2 q3 q4,(hR.hr.mine id e l b q1 q2 q3 q4).2⟩
  ·obtain⟨id,_,e,l,q1,q2,q3,q4⟩:=h2 b hb;exact(hR.hr.mine id e l b q1 q2 q3 q4).2
 cases e with
 |normal=>obtain⟨st,h1,h2⟩:=he;exact fin st h1 h2
 |ret=>obtain⟨st,h1,h2⟩:=he;exact fin st h1 h2
 |exit id=>obtain⟨st,h1,h2⟩:=he;exact h1.elim
 |goto l=>exact he.elim
 |panic ch=>obtain⟨v,_,h2,_⟩:=he;exact h2.elim
 |outgrown=>exact he.elim
def Aqm:Ex→St→Prop:=fun _ _=>False
theorem Y2 [Glob] {P : Program} {f : FuncId} {fn : Func} {code : Code} {rc : Ae} {ps : List Be} {v : Value} (hf : P.funcs[f]? = some fn) (hb : fn.body = some code) (hname : (fn.name == "runtime.NumGoroutine") = false) (hres : Ao P fn.ntmps code = some rc)
  (hlen:ps.length≤fn.ntmps) (hnd:(L7 0 ps).Nodup) (h:wpv P rc Aqm (Yg (fun x=>x=v) ps)):Ha P f ps v:=by
 refine⟨⟨fn,hf,hname,by rw[hb];rfl⟩,fun w R xs F hlt hp hg=>?_⟩;refine calls_of_wp hf hb ?_;obtain⟨G0,hrel,hV0⟩:=L1 (n:=fn.ntmps) (D:=fun x=>x=v) hlt hp hlen hnd hg;refine wp_mono (Bn (c:=⟨w,R,F,fn.ntmps,fun x=>x=v,G0,hg⟩) rfl code hres h ⟨R,G0,hrel⟩) fun e a' w' he=>?_;cases e with
 |normal=>obtain⟨st,h1,h2⟩:=he;exact h1.elim
 |ret=>obtain⟨st,h1,h2⟩:=he;exact h1.elim
 |exit id=>obtain⟨st,h1,h2⟩:=he;exact h1.elim
 |goto l=>exact he.elim
 |panic ch=>obtain⟨v',rfl,rfl,h3,h4⟩:=he;exact⟨h4,rfl,h3⟩
 |outgrown=>exact he.elim
def Apa(ts:List Nat)(ps rs:List Be):Ex→Env→Hp→Prop
 |.exit _=>fun _ _=>False
 |.normal=>fun env H=>∃gone,Bi H gone true gone (ts.map env++F5 0 ps) (rs++Bw ps)
 |.ret=>fun env H=>∃gone,Bi H gone true gone (ts.map env++F5 0 ps) (rs++Bw ps)
def Anl:Ex→Env→Hp→Prop:=fun _ _ _=>False
theorem K3{P : Program}{f : FuncId}{np : Nat}{rc : Ae}{ts : List Nat}(hc : Ai P f np = some (rc, ts)): ∃ fn code, P.funcs[f]? = some fn ∧ fn.body = some code ∧ (fn.name == "runtime.NumGoroutine") = false ∧ Ao P fn.ntmps code = some rc ∧ np ≤ fn.ntmps ∧ fn.results.toList = ts.map .tmp := by
 unfold Ai at hc;split at hc
 ·cases hc
 ·rename_i fn hf;split at hc
  ·cases hc
  ·rename_i code hb;split at hc
   ·cases hc
   ·rename_i hk;simp only[Bool.or_eq_true,not_or,Bool.not_eq_true',Bool.not_eq_true,decide_eq_false_iff_not,Classical.not_not]at hk;split at hc
    ·rename_i rc' ts' h1 h2;simp only[ZD,Prod.mk.injEq]at hc;obtain⟨rfl,rfl⟩:=hc;exact⟨fn,code,hf,hb,hk.1,h1,by simpa using hk.2,Fo _ h2⟩
    ·cases hc
theorem Us[Glob]{P:Program}{f:FuncId}{np:Nat}{rc:Ae}{ts:List Nat}{ps rs:List Be}(hc:Ai P f np=some (rc,ts))(hn:ps.length=np)(hrl:rs.length=ts.length)(hnd:(L7 0 ps).Nodup)(h:wpx P noD rc (Apa ts ps rs) (atV (Fp 0 ps)) (Bu noH (Ox 0 ps))):Hd P f ps rs:=by
 obtain⟨fn,code,h1,h2,h3,h4,h5,h6⟩:=K3 hc;refine Acf h1 h2 h3 h4 (by omega) h6 hrl hnd (Bv rc (fun e env H h=>?_) h);cases e with
 |normal=>exact h
 |exit j=>exact h
 |ret=>exact h
theorem Abm[Glob]{P:Program}{f:FuncId}{np:Nat}{rc:Ae}{ts:List Nat}{ps:List Be}{v:Value}(hc:Ai P f np=some (rc,ts))(hn:ps.length=np)(hnd:(L7 0 ps).Nodup)(h:wpx P (fun x=>x=v) rc Anl (atV (Fp 0 ps)) (Bu noH (Ox 0 ps))):Ha P f ps v:=by
 obtain⟨fn,code,h1,h2,h3,h4,h5,h6⟩:=K3 hc;exact Y2 h1 h2 h3 h4 (by omega) hnd (Bv rc (fun e env H h=>h.elim) h)
section
variable {H:Nat→Option Ent} {all:List Nat} {bor:Bool} {gone:List Nat} {us:List V} {ps:List Be}
theorem Tw{u:V}(hu:Cl u)(h:Bi H all bor gone us ps):Bi H all bor gone (u::us) (.p (.c u)::ps):=.old (gone1:=[]) (.same hu (.nil _)) (by simp) h
theorem Aog{id g:Nat}{e:Ent}{rows':List (List V)}(he:H id=some e)(hg:e.gen=g)(hr:Aav (fun k=>if k∈id::all then none else H k) e.rows rows')(hn:id∉all)(h:Bi H all true gone us ps):Bi H all true gone (.own id g::us) (.p (.c (.sl false rows'))::ps):=.old (gone1:=[]) (.bor he hg hr hn (.nil _)) (by simp) h
theorem Lg:∀{row:List V},(∀u∈row,Cl u)→Au H all false [] row (row.map .c)
 |[],_=>.nil _
 |u::row,h=>.same (h u (XB ..)) (Lg fun v hv=>h v (ZL _ hv))
theorem Aqf{id g n:Nat}{I I':Opq}{rows:List (List V)}(he:H id=some ⟨g,.q I,n,rows⟩)(hn:id∉gone)(ha:id∈all)(h:Bi H all bor gone us ps):Bi H all bor (id::gone) (.ptr id g 0 0::us) (.mo I I'::ps):=
 .mo (e:=⟨g,.q I,n,rows⟩) he rfl rfl hn ha h
theorem Aq8{id g n:Nat}{I:Opq}{rows:List (List V)}(he:H id=some ⟨g,.q I,n,rows⟩)(hn:id∉gone)(ha:id∈all)(h:Bi H all bor gone us ps):Bi H all bor (id::gone) (.ptr id g 0 0::us) (.po I::ps):=
 .po (e:=⟨g,.q I,n,rows⟩) he rfl rfl hn ha h
theorem Apt{id g n:Nat}{T:TypeId}{row:List V}{I I':Opq}(he:H id=some ⟨g,.b T,n,[row]⟩)(hr:∀u∈row,Cl u)(hf:Aar T row I)(hn:id∉gone)(ha:id∈all)(h:Bi H all bor gone us ps):Bi H all bor (id::gone) (.ptr id g 0 0::us) (.mo I I'::ps):=
 .fo (e:=⟨g,.b T,n,[row]⟩) he rfl rfl rfl hr hf hn ha h
end
theorem Ko:∀u∈([]:List V),Cl u:=fun u hu=>by simp at hu
theorem Hv{u:V}{us:List V}(h:Cl u)(hs:∀v∈us,Cl v):∀v∈u::us,Cl v:=fun v hv=>by
 rcases XC.1 hv with e|e
 ·rw[e];exact h
 ·exact hs v e
theorem N7{cs:List V}(h:∀u∈cs,Cl u):Cl (.agg cs):=fun w R G G' x hx=>by
 cases hx with
 |agg cs xs hl hc=>exact .agg cs xs hl fun i u y h1 h2=>h u (ZH h1) w R G G' y (hc i u y h1 h2)
theorem Adv{H:Nat→Option Ent}{all gone:List Nat}{cs cs' us:List V}{ps:List Be}(hc:Cv H all cs cs')(h:Bi H all true gone us ps):Bi H all true gone (.agg cs::us) (.p (.c (.agg cs'))::ps):=.old (gone1:=[]) (.bora hc (.nil _)) (by simp) h
theorem Aph{H:Nat→Option Ent}{all gone gone1:List Nat}{bor:Bool}{id g n:Nat}{T:TypeId}{row:List V}{cells cells':List Par}{us:List V}{ps:List Be}(he:H id=some ⟨g,.b T,n,[row]⟩)(hc:Au H all false gone1 row cells)(hd:∀k∈gone1,k∉gone∧k∈all∧k≠id)(hn:id∉gone)(ha:id∈all)(hl:cells'.length=cells.length)(h:Bi H all bor gone us ps):
  Bi H all bor (id::(gone1++gone)) (.ptr id g 0 0::us) (.mn T cells cells'::ps):=.mn he rfl rfl rfl hc hd hn ha hl h
theorem Aen{H:Nat→Option Ent}{all gone gone1:List Nat}{bor:Bool}{id g n:Nat}{T:TypeId}{row:List V}{cells:List Par}{us:List V}{ps:List Be}(he:H id=some ⟨g,.b T,n,[row]⟩)(hc:Au H all false gone1 row cells)(hd:∀k∈gone1,k∉gone∧k∈all∧k≠id)(hn:id∉gone)(ha:id∈all)(h:Bi H all bor gone us ps):
  Bi H all bor (id::(gone1++gone)) (.ptr id g 0 0::us) (.pn T cells::ps):=.pn he rfl rfl rfl hc hd hn ha h
theorem Pf{H:Nat→Option Ent}{all:List Nat}{id g sz:Nat}{T:TO}{rows rows':List (List V)}{us us':List V}(he:H id=some ⟨g,T,sz,rows⟩)(hrr:rows=rows')(hr:∀row∈rows',∀u∈row,Cl u)(hn:id∉all)(h:Cv H all us us'):Cv H all (.own id g::us) (.sl false rows'::us'):=by
 subst hrr;exact .own he rfl hr hn h
def ndB:List Nat→Bool
 |[]=>true
 |x::l=>l.all (fun y=> !(Nat.beq x y))&&ndB l
theorem Uo:∀{l:List Nat},ndB l=true→l.Nodup
 |[],_=>List.nodup_nil
 |x::l,h=>by
  simp only[ndB,ZO,List.all_eq_true]at h;rw[List.nodup_cons];refine⟨fun hm=>?_,Uo h.2⟩;have:=h.1 x hm;simp at this
abbrev Rq(d:Nat)(o:ROp):Aa:=⟨some d,none,o⟩
abbrev Gq(d s:Nat)(w:Bool)(o:ROp):Aa:=⟨some d,some (s,w),o⟩
abbrev Sq(n:Nat)(x y:Operand):Aa:=⟨none,none,.store n x y⟩
abbrev Kq(n:Int):Operand:=.const (.int .i64 n)
instance (n:Nat):OfNat Operand n:=⟨.tmp n⟩
abbrev Mq(d:Nat)(x:Operand):Aa:=Rq d (.mv x)
abbrev Nq(d:Nat)(x:Int):Aa:=Rq d (.mv (Kq x))
abbrev Lq(d:Nat)(x:Operand):Aa:=Rq d (.load false 1 x)
abbrev Fq(d o:Nat)(x:Operand):Aa:=Rq d (.fldA o x)
abbrev Cq(d f:Nat)(l:List Operand):Aa:=Rq d (.call (.func f) l)
abbrev Iq(d n:Nat)(x i:Operand):Aa:=Rq d (.idxA n x i)
abbrev Eq1(d:Nat)(x:Operand)(i:Nat):Aa:=Rq d (.ext x i)
abbrev Bq(d:Nat)(o:BinOp)(x y:Operand):Aa:=Rq d (.bin o x y)
abbrev Hq(d s:Nat)(w:Bool)(x:Operand):Aa:=Gq d s w (.mv x)
end Go.Proofs.YtchbkgnobpejnaaGreatDoor
