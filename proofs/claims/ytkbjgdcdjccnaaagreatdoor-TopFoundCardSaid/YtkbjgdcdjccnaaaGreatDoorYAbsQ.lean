/- The framework: part of this claim. -/
import Derived.Test.YtkbjgdcdjccnaaaGreatDoorYAbsH
set_option linter.unusedSimpArgs false
set_option linter.unusedVariables false
namespace Go.Proofs.YtkbjgdcdjccnaaaGreatDoor
open Go.RowKit
def inP:Bj→Bj
 |.ms T sz rows _=>.p (.o T sz rows)
 |.mn T cells _=>.pn T cells
 |.mo I _=>.po I
 |p=>p
def Io(i:Nat)(ps:List Bj):List V:=match ps with
 |[]=>[]
 |p::ps=>An7 (16*i) 0 (inP p)::Io (i+1) ps
def U9(i:Nat):List Bj→List (Nat×Option Ent)
 |[]=>[]
 |p::ps=>V0 (fun _=>0) (16*i) 0 (inP p)++U9 (i+1) ps
def N6(i:Nat):List Bj→List Nat
 |[]=>[]
 |p::ps=>Q7 (16*i) (inP p)++N6 (i+1) ps
def atV:List V→Nat→V
 |[],_=>.v undef
 |v::_,0=>v
 |_::vs,i+1=>atV vs i
theorem Adi:∀(l:List V) (i:Nat),atV l i=(l[i]?).getD (.v undef)
 |[],i=>by simp[atV]
 |v::l,0=>rfl
 |v::l,i+1=>by rw[atV,Adi l i];simp
def noH:Hp:=fun _=>none
def H5(i:Nat):List Bj→List V
 |[]=>[]
 |.ms T sz rows rows'::ps=>.own (16*i) 0::H5 (i+1) ps
 |.mn T cells cells'::ps=>.ptr (16*i) 0 0 0::H5 (i+1) ps
 |.mo I I'::ps=>.ptr (16*i) 0 0 0::H5 (i+1) ps
 |_::ps=>H5 (i+1) ps
section
variable {P:Program} {c:Ctx} {st:St} {a:Act} {w w':World} {R:Nat→Prop} {G:Nat→Option Loc}
theorem Asm{p:Bj}{x:Value}{F:Nat→Prop}(h:La w R p x F):La w R (inP p) x F:=by
 cases p<;>exact h
theorem Ann{p:Bj}{y:Value}{F:Nat→Prop}(hp:La w R p y F)(gn:Nat):∃l,Ad0 gn (inP p) y F l:=by
 cases p with
 |p p=>cases p with
  |c u=>exact⟨⟨gn,0,y,false,none⟩,rfl,trivial⟩
  |o T sz rows=>exact⟨⟨gn,sz,y,false,none⟩,rfl,rfl,rfl,rfl,rfl⟩
 |ms T sz rows rows'=>exact⟨⟨gn,sz,y,false,none⟩,rfl,rfl,rfl,rfl,rfl⟩
 |mn T cells cells'=>
  obtain⟨b,xs,p1,_⟩:=hp;exact⟨⟨gn,cells.length,.slice (some ⟨b,0,none⟩) 1 1,true,none⟩,rfl,rfl,⟨b,p1,rfl⟩,rfl,rfl⟩
 |pn T cells=>
  obtain⟨b,xs,p1,_⟩:=hp;exact⟨⟨gn,cells.length,.slice (some ⟨b,0,none⟩) 1 1,true,none⟩,rfl,rfl,⟨b,p1,rfl⟩,rfl,rfl⟩
 |mo I I'=>
  obtain⟨⟨b,hb⟩,_⟩:=hp;exact⟨⟨gn,0,.slice (some ⟨b,0,none⟩) 1 1,true,some F⟩,rfl,⟨b,hb,rfl⟩,rfl,rfl⟩
 |po I=>
  obtain⟨⟨b,hb⟩,_⟩:=hp;exact⟨⟨gn,0,.slice (some ⟨b,0,none⟩) 1 1,true,some F⟩,rfl,⟨b,hb,rfl⟩,rfl,rfl⟩
theorem Aex:∀(ps:List Bj) (xs:List Value) (i:Nat) {st:St} {G:Nat→Option Loc} {F:Nat→Prop},Ai c st a w R G→Cy w R ps xs F→(N6 i ps).Nodup→
  (∀k∈N6 i ps,G k=none)→(∀b,F b→¬R b∧(c.L b∨c.w0.heap.size≤b)∧∀k ek lk,st.H k=some ek→G k=some lk→lk.gen=ek.gen→¬lk.ft b)→
  ∃G',Ai c {st with H:=Ce st.H (U9 i ps)} a w R G'∧Gle G G'∧(Io i ps).length=xs.length∧∀(j:Nat) (u:V) (x:Value),(Io i ps)[j]? =some u→xs[j]? =some x→RV w R G' u x
 |[],[],i,st,G,F,h,_,_,_,_=>⟨G,h,Gle.refl _,rfl,fun i u y hu=>by simp[Io]at hu⟩
 |p::ps,y::ys,k,st,G,F,h,hP,hnd,hgen,hfree=>by
  obtain⟨F1,F2,h1,h2,h3,h4⟩:=hP;obtain⟨l,hl⟩:=Ann h1 0;have hnd':=List.nodup_append.1 hnd;obtain⟨G1,k1,k2,k3,k4,k5⟩:=Ae3 (g:=fun _=>0) h (Asm h1) hl (fun l0 h0=>by rw[hgen _ (List.mem_append_left _ (XB ..))]at h0;cases h0)
   (fun j hj l0 h0=>by rw[hgen _ (List.mem_append_left _ (ZL _ (XO.2 ⟨j,List.mem_range.2 hj,rfl⟩)))]at h0;cases h0) (fun b hb=>hfree b ((h4 b).2 (.inl hb)))
  obtain⟨G2,m1,m2,m4,m5⟩:=Aex ps ys (k+1) k1 h2 hnd'.2.1
   (fun i hi=>by rw[k3 i (fun q=>hnd'.2.2 i q i hi rfl)];exact hgen i (List.mem_append_right _ hi)) (fun b hb=>by
    obtain⟨q1,q2,q3⟩:=hfree b ((h4 b).2 (.inr hb));refine⟨q1,q2,fun i ei li r1 r2 r3 r4=>?_⟩;rcases k5 i ei li b r1 r2 r3 r4 with r|⟨r5,r6⟩
    ·exact(h3 b r).1 hb
    ·exact q3 i ei li r5 r6 r3 r4)
  refine⟨G2,?_,k2.trans m2,by simp[Io,m4],fun i u z q1 q2=>?_⟩
  ·show Ai c {st with H:=Ce st.H (V0 (fun _=>0) (16*k) 0 (inP p)++U9 (k+1) ps)} a w R G2;rw[Bw];exact m1
  ·cases i with
   |zero=>simp[Io]at q1 q2;subst q1 q2;exact k4.mono (fun b hb=>⟨hb,rfl⟩) m2
   |succ i=>exact m5 i u z (by simpa[Io]using q1) (by simpa using q2)
theorem Cy.len:∀{ps:List Bj} {xs:List Value} {F:Nat→Prop},Cy w R ps xs F→ps.length=xs.length
 |[],[],F,h=>rfl
 |p::ps,x::xs,F,h=>by obtain⟨F1,F2,h1,h2,_⟩:=h;simp[Cy.len h2]
theorem Ti:∀(ps:List Bj) (xs:List Value) (i:Nat),ps.length=xs.length→(∀(j:Nat) (u:V) (x:Value),(Io i ps)[j]? =some u→xs[j]? =some x→RV w R G u x)→
  (H5 i ps).length=(Dq ps xs).length∧∀(j:Nat) (u:V) (x:Value),(H5 i ps)[j]? =some u→(Dq ps xs)[j]? =some x→RV w R G u x
 |[],[],i,_,_=>⟨rfl,fun j u x h=>by simp[H5]at h⟩
 |p::ps,x::xs,i,hl,h=>by
  obtain⟨h1,h2⟩:=Ti ps xs (i+1) (by simpa using hl) (fun j u y q1 q2=>h (j+1) u y (by simpa[Io]using q1) (by simpa using q2));have h0:=h 0 (An7 (16*i) 0 (inP p)) x rfl rfl;have step:∀u0,RV w R G u0 x→(u0::H5 (i+1) ps).length=(x::Dq ps xs).length∧∀(j:Nat) (u:V) (y:Value),(u0::H5 (i+1) ps)[j]? =some u→(x::Dq ps xs)[j]? =some y→RV w R G u y:=fun u0 hu0=>⟨by simp[h1],fun j u y q1 q2=>by
   cases j with
   |zero=>simp at q1 q2;subst q1 q2;exact hu0
   |succ j=>exact h2 j u y (by simpa using q1) (by simpa using q2)⟩
  cases p with
  |p p=>exact⟨h1,h2⟩
  |ms T sz rows rows'=>exact step _ h0
  |mn T cells cells'=>exact step _ h0
  |mo I I'=>exact step _ h0
  |pn T cells=>exact⟨h1,h2⟩
  |po I=>exact⟨h1,h2⟩
end
def Ayw(ts:List Nat)(ps rs:List Bj)(st:St):Prop:=∃gone,Bk st.H gone true gone (ts.map st.env++H5 0 ps) (rs++B5 ps)
def Azj(ts:List Nat)(ps rs:List Bj):Ex→St→Prop
 |.exit _,_=>False
 |_,st=>Ayw ts ps rs st
def Ad2(D:Value→Prop)(ps:List Bj):St:=⟨atV (Io 0 ps),Ce noH (U9 0 ps),D⟩
theorem Qp{w:World}{R:Nat→Prop}{D:Value→Prop}{ps:List Bj}{xs:List Value}{F:Nat→Prop}{n:Nat}(hlt:∀b,R b→b<w.heap.size)(hp:Cy w R ps xs F)(hn:ps.length≤n)(hnd:(N6 0 ps).Nodup):
  ∃G0,Ai ⟨w,R,F,n,D,G0⟩ (Ad2 D ps) {tmps:=xs.toArray++Array.replicate (n-xs.toArray.size) undef,defers:=[]} w R G0∧∀(j:Nat) (u:V) (x:Value),(Io 0 ps)[j]? =some u→xs[j]? =some x→RV w R G0 u x:=by
 have hlen:=hp.len;have hget:∀i,(xs.toArray++Array.replicate (n-xs.toArray.size) undef).getD i undef=(xs[i]?).getD undef:=fun i=>by
  rw[Array.getD_eq_getD_getElem?,Array.getElem?_append];split
  ·simp
  ·rename_i h;rw[XK (by simpa using h)];rw[Array.getElem?_replicate];split<;>rfl
 have h0:Ai ⟨w,R,F,n,D,noG⟩ ⟨fun _=>.any,noH,D⟩ {tmps:=xs.toArray++Array.replicate (n-xs.toArray.size) undef,defers:=[]} w R noG:=by
  refine⟨fun i=>.any _,⟨fun k e l h=>(by cases h),fun k e l h=>(by cases h),fun k k' e e' l l' b h=>(by cases h),fun k e l b h=>(by cases h)⟩,hlt,fun b hb=>.inl hb,fun b hb=>hb,Fr.refl _ _,?_,rfl,rfl,Gle.refl _⟩;simp;omega
 obtain⟨G0,h1,h2,h3,h4⟩:=Aex ps xs 0 h0 hp hnd (fun k _=>rfl) (fun b hb=>⟨hp.free b hb,.inl hb,fun k ek lk h=>by cases h⟩);refine⟨G0,⟨fun i=>?_,h1.hr,h1.lt,h1.src,h1.old,h1.fr,h1.n,h1.defers,h1.die,Gle.refl _⟩,h4⟩;show RV w R G0 (atV (Io 0 ps) i) ((xs.toArray++Array.replicate (n-xs.toArray.size) undef).getD i undef);rw[hget,Adi];by_cases hi:i<xs.length
 ·have hi':i<(Io 0 ps).length:=by omega
  rw[ZC hi,ZC hi'];exact h4 i _ _ (ZC hi') (ZC hi)
 ·rw[XK (by omega),XK (by omega)];exact .v _
theorem Ak3 {P : Program} {f : FuncId} {fn : Func} {code : Code} {rc : Aj} {ps rs : List Bj} {ts : List Nat} (hf : P.funcs[f]? = some fn) (hb : fn.body = some code) (hname : (fn.name == "runtime.NumGoroutine") = false) (hres : Ap P fn.ntmps code = some rc)
  (hlen:ps.length≤fn.ntmps) (hts:fn.results.toList=ts.map .tmp) (hrl:rs.length=ts.length) (hnd:(N6 0 ps).Nodup) (h:wpv P rc (Azj ts ps rs) (Ad2 noD ps)):Hz P f ps rs:=by
 refine⟨⟨fn,hf,hname,by rw[hb];rfl⟩,fun w R xs F hlt hp=>?_⟩;refine calls_of_wp hf hb ?_;obtain⟨G0,hrel,hV0⟩:=Qp (n:=fn.ntmps) (D:=noD) hlt hp hlen hnd;refine wp_mono (Ca (c:=⟨w,R,F,fn.ntmps,noD,G0⟩) rfl code hres h ⟨R,G0,hrel⟩) fun e a' w' he=>?_;have fin:∀st,Ayw ts ps rs st→Rel ⟨w,R,F,fn.ntmps,noD,G0⟩ st a' w'→a'.defers=[]∧∃v,(results fn a'.tmps).run P w'=.ok v w'∧∃(ys:List Value) (R' F':Nat→Prop),Ending.returned v=.returned (Fx ys)∧rs.length=ys.length∧Fr F w w'∧(∀b,R b→R' b)∧
   (∀b,R' b→R b∨(b<w'.heap.size∧(F b∨w.heap.size≤b)))∧Cy w' R' (rs++B5 ps) (ys++Dq ps xs) F'∧(∀b,F' b→F b∨w.heap.size≤b):=fun st ⟨gone,hA⟩ ⟨R2,G,hR⟩=>by
  have hRR:∀b,R b→R2 b∧w'.heap[b]? =w.heap[b]? :=fun b hb=>⟨hR.old b hb,hR.fr.block b (hlt b hb) (fun hl=>hp.free b hl hb)⟩;obtain⟨x1,x2⟩:=Ti ps xs 0 hp.len (fun j u x q1 q2=>(hV0 j u x q1 q2).mono hRR hR.gle);obtain⟨F',h1,h2,h3⟩:=Mr hR (bor0:=true) (xs:=(ts.map fun t=>a'.tmps.getD t undef)++Dq ps xs) hA (fun e=>e) (by simp[x1]) (fun i u x q1 q2=>by
   by_cases hi:i<ts.length
   ·rw[ZQ (by simpa using hi)]at q1 q2;simp only[XJ,ZC hi,Option.map_some,ZD]at q1 q2;subst q1 q2;exact hR.env _
   ·rw[ZP (by simpa using hi)]at q1 q2;simp only[ZE]at q1 q2;exact x2 _ u x q1 q2)
  refine⟨hR.defers,_,Vn hts _ _,(ts.map fun t=>a'.tmps.getD t undef),RB R2 G st.H gone true,F',rfl,by simp[hrl],hR.fr,fun b hb=>.inl (hR.old b hb),?_,h1,fun b hb=>?_⟩
  ·rintro b (hb|⟨_,id,e,l,_,q1,q2,q3,q4⟩)
   ·rcases hR.src b hb with q|q
    ·exact .inl q
    ·exact .inr ⟨hR.lt b hb,q⟩
   ·exact .inr ⟨hR.hr.lt q1 q2 q3 q4,(hR.hr.mine id e l b q1 q2 q3 q4).2⟩
  ·obtain⟨id,_,e,l,q1,q2,q3,q4⟩:=h2 b hb;exact(hR.hr.mine id e l b q1 q2 q3 q4).2
 cases e with
 |normal=>obtain⟨st,h1,h2⟩:=he;exact fin st h1 h2
 |ret=>obtain⟨st,h1,h2⟩:=he;exact fin st h1 h2
 |exit id=>obtain⟨st,h1,h2⟩:=he;exact h1.elim
 |goto l=>exact he.elim
 |panic ch=>obtain⟨v,_,h2,_⟩:=he;exact h2.elim
 |outgrown=>exact he.elim
def Bay:Ex→St→Prop:=fun _ _=>False
theorem Tb {P : Program} {f : FuncId} {fn : Func} {code : Code} {rc : Aj} {ps : List Bj} {v : Value} (hf : P.funcs[f]? = some fn) (hb : fn.body = some code) (hname : (fn.name == "runtime.NumGoroutine") = false) (hres : Ap P fn.ntmps code = some rc)
  (hlen:ps.length≤fn.ntmps) (hnd:(N6 0 ps).Nodup) (h:wpv P rc Bay (Ad2 (fun x=>x=v) ps)):Gz P f ps v:=by
 refine⟨⟨fn,hf,hname,by rw[hb];rfl⟩,fun w R xs F hlt hp=>?_⟩;refine calls_of_wp hf hb ?_;obtain⟨G0,hrel,hV0⟩:=Qp (n:=fn.ntmps) (D:=fun x=>x=v) hlt hp hlen hnd;refine wp_mono (Ca (c:=⟨w,R,F,fn.ntmps,fun x=>x=v,G0⟩) rfl code hres h ⟨R,G0,hrel⟩) fun e a' w' he=>?_;cases e with
 |normal=>obtain⟨st,h1,h2⟩:=he;exact h1.elim
 |ret=>obtain⟨st,h1,h2⟩:=he;exact h1.elim
 |exit id=>obtain⟨st,h1,h2⟩:=he;exact h1.elim
 |goto l=>exact he.elim
 |panic ch=>obtain⟨v',rfl,rfl,h3,h4⟩:=he;exact⟨h4,rfl,h3⟩
 |outgrown=>exact he.elim
def Azy(ts:List Nat)(ps rs:List Bj):Ex→Env→Hp→Prop
 |.exit _=>fun _ _=>False
 |.normal=>fun env H=>∃gone,Bk H gone true gone (ts.map env++H5 0 ps) (rs++B5 ps)
 |.ret=>fun env H=>∃gone,Bk H gone true gone (ts.map env++H5 0 ps) (rs++B5 ps)
def Ayy:Ex→Env→Hp→Prop:=fun _ _ _=>False
theorem Lo{P : Program}{f : FuncId}{np : Nat}{rc : Aj}{ts : List Nat}(hc : Ak P f np = some (rc, ts)): ∃ fn code, P.funcs[f]? = some fn ∧ fn.body = some code ∧ (fn.name == "runtime.NumGoroutine") = false ∧ Ap P fn.ntmps code = some rc ∧ np ≤ fn.ntmps ∧ fn.results.toList = ts.map .tmp := by
 unfold Ak at hc;split at hc
 ·cases hc
 ·rename_i fn hf;split at hc
  ·cases hc
  ·rename_i code hb;split at hc
   ·cases hc
   ·rename_i hk;simp only[Bool.or_eq_true,not_or,Bool.not_eq_true',Bool.not_eq_true,decide_eq_false_iff_not,Classical.not_not]at hk;split at hc
    ·rename_i rc' ts' h1 h2;simp only[ZD,Prod.mk.injEq]at hc;obtain⟨rfl,rfl⟩:=hc;exact⟨fn,code,hf,hb,hk.1,h1,by simpa using hk.2,Hs _ h2⟩
    ·cases hc
theorem Le{P:Program}{f:FuncId}{np:Nat}{rc:Aj}{ts:List Nat}{ps rs:List Bj}(hc:Ak P f np=some (rc,ts))(hn:ps.length=np)(hrl:rs.length=ts.length)(hnd:(N6 0 ps).Nodup)(h:wpx P noD rc (Azy ts ps rs) (atV (Io 0 ps)) (Ce noH (U9 0 ps))):Hz P f ps rs:=by
 obtain⟨fn,code,h1,h2,h3,h4,h5,h6⟩:=Lo hc;refine Ak3 h1 h2 h3 h4 (by omega) h6 hrl hnd (Cm rc (fun e env H h=>?_) h);cases e with
 |normal=>exact h
 |exit j=>exact h
 |ret=>exact h
theorem Ly{P:Program}{f:FuncId}{np:Nat}{rc:Aj}{ts:List Nat}{ps:List Bj}{v:Value}(hc:Ak P f np=some (rc,ts))(hn:ps.length=np)(hnd:(N6 0 ps).Nodup)(h:wpx P (fun x=>x=v) rc Ayy (atV (Io 0 ps)) (Ce noH (U9 0 ps))):Gz P f ps v:=by
 obtain⟨fn,code,h1,h2,h3,h4,h5,h6⟩:=Lo hc;exact Tb h1 h2 h3 h4 (by omega) hnd (Cm rc (fun e env H h=>h.elim) h)
section
variable {H:Nat→Option Ent} {all:List Nat} {bor:Bool} {gone:List Nat} {us:List V} {ps:List Bj}
theorem Ij{u:V}(hu:Cl u)(h:Bk H all bor gone us ps):Bk H all bor gone (u::us) (.p (.c u)::ps):=.old (gone1:=[]) (.same hu (.nil _)) (by simp) h
theorem Awz{id g:Nat}{e:Ent}{rows':List (List V)}(he:H id=some e)(hg:e.gen=g)(hr:Afg (fun k=>if k∈id::all then none else H k) e.rows rows')(hn:id∉all)(h:Bk H all true gone us ps):Bk H all true gone (.own id g::us) (.p (.c (.sl false rows'))::ps):=.old (gone1:=[]) (.bor he hg hr hn (.nil _)) (by simp) h
theorem Aul{id g i off:Nat}{e:Ent}{row:List V}(he:H id=some e)(hg:e.gen=g)(hi:e.rows[i]? =some row)(hr:∀u∈row,Cl u)(hn:id∉all)(h:Bk H all true gone us ps):Bk H all true gone (.ptr id g i off::us) (.p (.c (.rptr row off))::ps):=.old (gone1:=[]) (.borp he hg hi hr hn (.nil _)) (by simp) h
theorem Aun{id g:Nat}{T:TypeId}{sz:Nat}{rows rows':List (List V)}(he:H id=some ⟨g,.t T,sz,rows⟩)(hr:∀row∈rows,∀u∈row,Cl u)(hn:id∉gone)(ha:id∈all)(hl:rows'.length=rows.length)(h:Bk H all bor gone us ps):Bk H all bor (id::gone) (.own id g::us) (.ms T sz rows rows'::ps):=
 .ms (e:=⟨g,.t T,sz,rows⟩) he rfl rfl hr hn ha hl h
theorem Ml:∀{row:List V},(∀u∈row,Cl u)→Av H all false [] row (row.map .c)
 |[],_=>.nil _
 |u::row,h=>.same (h u (XB ..)) (Ml fun v hv=>h v (ZL _ hv))
theorem Bah{id g n:Nat}{I I':Opq}{rows:List (List V)}(he:H id=some ⟨g,.q I,n,rows⟩)(hn:id∉gone)(ha:id∈all)(h:Bk H all bor gone us ps):Bk H all bor (id::gone) (.ptr id g 0 0::us) (.mo I I'::ps):=
 .mo (e:=⟨g,.q I,n,rows⟩) he rfl rfl hn ha h
theorem Azo{id g n:Nat}{I:Opq}{rows:List (List V)}(he:H id=some ⟨g,.q I,n,rows⟩)(hn:id∉gone)(ha:id∈all)(h:Bk H all bor gone us ps):Bk H all bor (id::gone) (.ptr id g 0 0::us) (.po I::ps):=
 .po (e:=⟨g,.q I,n,rows⟩) he rfl rfl hn ha h
theorem X4{id g n:Nat}{T:TypeId}{row:List V}{I I':Opq}(he:H id=some ⟨g,.b T,n,[row]⟩)(hr:∀u∈row,Cl u)(hf:Aem T row I)(hn:id∉gone)(ha:id∈all)(h:Bk H all bor gone us ps):Bk H all bor (id::gone) (.ptr id g 0 0::us) (.mo I I'::ps):=
 .fo (e:=⟨g,.b T,n,[row]⟩) he rfl rfl rfl hr hf hn ha h
end
theorem Aka{H:Nat→Option Ent}{all:List Nat}{id g i off:Nat}{e:Ent}{row:List V}{us us':List V}(he:H id=some e)(hg:e.gen=g)(hi:e.rows[i]? =some row)(hr:∀v∈row,Cl v)(hn:id∉all)(h:J2 H all us us'):J2 H all (.ptr id g i off::us) (.rptr row off::us'):=
 ⟨.inr (.inl ⟨id,g,i,off,e,row,row,rfl,he,hg,hi,Ab9 hr,hn,rfl⟩),h⟩
theorem Awk{H:Nat→Option Ent}{all:List Nat}{id g off idm gm n m:Nat}{T:TO}{rows:List (List V)}{ents:List (Value×V)}{us us':List V}(he:H id=some ⟨g,T,m,[[.obj idm gm]]⟩)(hm:H idm=some ⟨gm,.q (Ov ents),n,rows⟩)(hn:id∉all)(hn2:idm∉all)(h:J2 H all us us'):J2 H all (.ptr id g 0 off::us) (.rptr [.rmap ents] off::us'):=
 ⟨.inr (.inl ⟨id,g,0,off,_,[.obj idm gm],[.rmap ents],rfl,he,rfl,rfl,⟨.inr ⟨idm,gm,_,ents,rfl,hm,rfl,rfl,hn2,rfl⟩,trivial⟩,hn,rfl⟩),h⟩
theorem Aez{H:Nat→Option Ent}{all:List Nat}:J2 H all [] []:=trivial
theorem Al3{H:Nat→Option Ent}{all gone:List Nat}{f:FuncId}{caps caps' us:List V}{ps:List Bj}(hc:J2 H all caps caps')(h:Bk H all true gone us ps):Bk H all true gone (.clo f caps::us) (.p (.c (.clo f caps'))::ps):=.old (gone1:=[]) (.borc hc (.nil _)) (by simp) h
theorem Lt:∀u∈([]:List V),Cl u:=fun u hu=>by simp at hu
theorem Jm{u:V}{us:List V}(h:Cl u)(hs:∀v∈us,Cl v):∀v∈u::us,Cl v:=fun v hv=>by
 rcases XC.1 hv with e|e
 ·rw[e];exact h
 ·exact hs v e
theorem O4{cs:List V}(h:∀u∈cs,Cl u):Cl (.agg cs):=fun w R G G' x hx=>by
 cases hx with
 |agg cs xs hl hc=>exact .agg cs xs hl fun i u y h1 h2=>h u (ZH h1) w R G G' y (hc i u y h1 h2)
theorem Acx{H:Nat→Option Ent}{all gone:List Nat}{cs cs' us:List V}{ps:List Bj}(hc:Cj H all cs cs')(h:Bk H all true gone us ps):Bk H all true gone (.agg cs::us) (.p (.c (.agg cs'))::ps):=.old (gone1:=[]) (.bora hc (.nil _)) (by simp) h
theorem Baq{H:Nat→Option Ent}{all gone gone1:List Nat}{bor:Bool}{id g n:Nat}{T:TypeId}{row:List V}{cells cells':List Par}{us:List V}{ps:List Bj}(he:H id=some ⟨g,.b T,n,[row]⟩)(hc:Av H all false gone1 row cells)(hd:∀k∈gone1,k∉gone∧k∈all∧k≠id)(hn:id∉gone)(ha:id∈all)(hl:cells'.length=cells.length)(h:Bk H all bor gone us ps):
  Bk H all bor (id::(gone1++gone)) (.ptr id g 0 0::us) (.mn T cells cells'::ps):=.mn he rfl rfl rfl hc hd hn ha hl h
theorem N8{H:Nat→Option Ent}{all gone gone1:List Nat}{bor:Bool}{id g n:Nat}{T:TypeId}{row:List V}{cells:List Par}{us:List V}{ps:List Bj}(he:H id=some ⟨g,.b T,n,[row]⟩)(hc:Av H all false gone1 row cells)(hd:∀k∈gone1,k∉gone∧k∈all∧k≠id)(hn:id∉gone)(ha:id∈all)(h:Bk H all bor gone us ps):
  Bk H all bor (id::(gone1++gone)) (.ptr id g 0 0::us) (.pn T cells::ps):=.pn he rfl rfl rfl hc hd hn ha h
theorem Aiq{H:Nat→Option Ent}{all:List Nat}{id g sz:Nat}{T:TO}{rows rows':List (List V)}{us us':List V}(he:H id=some ⟨g,T,sz,rows⟩)(hrr:rows=rows')(hr:∀row∈rows',∀u∈row,Cl u)(hn:id∉all)(h:Cj H all us us'):Cj H all (.own id g::us) (.sl false rows'::us'):=by
 subst hrr;exact .own he rfl hr hn h
def ndB:List Nat→Bool
 |[]=>true
 |x::l=>l.all (fun y=> !(Nat.beq x y))&&ndB l
theorem Ko:∀{l:List Nat},ndB l=true→l.Nodup
 |[],_=>List.nodup_nil
 |x::l,h=>by
  simp only[ndB,ZO,List.all_eq_true]at h;rw[List.nodup_cons];refine⟨fun hm=>?_,Ko h.2⟩;have:=h.1 x hm;simp at this
abbrev Rq(d:Nat)(o:ROp):Ae:=⟨some d,none,o⟩
abbrev Gq(d s:Nat)(w:Bool)(o:ROp):Ae:=⟨some d,some (s,w),o⟩
abbrev Sq(n:Nat)(x y:Operand):Ae:=⟨none,none,.store n x y⟩
abbrev Kq(n:Int):Operand:=.const (.int .i64 n)
instance (n:Nat):OfNat Operand n:=⟨.tmp n⟩
abbrev Mq(d:Nat)(x:Operand):Ae:=Rq d (.mv x)
abbrev Nq(d:Nat)(x:Int):Ae:=Rq d (.mv (Kq x))
abbrev Lq(d:Nat)(x:Operand):Ae:=Rq d (.load false 1 x)
abbrev Fq(d o:Nat)(x:Operand):Ae:=Rq d (.fldA o x)
abbrev Cq(d f:Nat)(l:List Operand):Ae:=Rq d (.call (.func f) l)
abbrev Iq(d n:Nat)(x i:Operand):Ae:=Rq d (.idxA n x i)
abbrev Eq1(d:Nat)(x:Operand)(i:Nat):Ae:=Rq d (.ext x i)
abbrev Bq(d:Nat)(o:BinOp)(x y:Operand):Ae:=Rq d (.bin o x y)
abbrev Hq(d s:Nat)(w:Bool)(x:Operand):Ae:=Gq d s w (.mv x)
end Go.Proofs.YtkbjgdcdjccnaaaGreatDoor
