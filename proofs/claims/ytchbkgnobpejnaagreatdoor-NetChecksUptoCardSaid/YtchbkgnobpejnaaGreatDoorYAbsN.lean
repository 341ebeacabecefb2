/- The framework: part of this claim. -/
import Derived.Test.YtchbkgnobpejnaaGreatDoorYAbsMap
set_option linter.unusedSimpArgs false
set_option linter.unusedVariables false
namespace Go.Proofs.YtchbkgnobpejnaaGreatDoor
open Go.RowKit
inductive Bf where
 |p (p:Par)
 |ms (T:TypeId) (sz:Nat) (rows rows':List (List V))
 |mn (T:TypeId) (cells cells':List Par)
 |mo (I I':Opq)
 |pn (T:TypeId) (cells:List Par)
 |po (I:Opq)
def Aeh(w:World)(R:Nat→Prop)(T:TypeId)(cells:List Par)(x:Value)(F:Nat→Prop):Prop:=
 ∃b xs,x=.pointer (some ⟨b,0,none⟩)∧0<cells.length∧w.ownsRow 0 T cells.length (.slice (some ⟨b,0,none⟩) 1 1) 1 xs∧M3 w R cells xs∧(∀v∈xs,v.oneCell'=true)∧¬A4 cells xs b∧∀k,F k↔(k=b∨A4 cells xs k)
def Wv(w:World)(R:Nat→Prop)(I:Opq)(x:Value)(F:Nat→Prop):Prop:=(∃b,x=.pointer (some ⟨b,0,none⟩))∧I.inv w R x F
def Ji(w:World)(R:Nat→Prop):Bf→Value→(Nat→Prop)→Prop
 |.p p,x,F=>O4 w R p x∧∀k,F k↔A4 [p] [x] k
 |.ms T sz rows _,x,F=>O4 w R (.o T sz rows) x∧∀k,F k↔A4 [.o T sz rows] [x] k
 |.mn T cells _,x,F=>Aeh w R T cells x F
 |.mo I _,x,F=>Wv w R I x F
 |.pn T cells,x,F=>Aeh w R T cells x F
 |.po I,x,F=>Wv w R I x F
def Cm(w:World)(R:Nat→Prop):List Bf→List Value→(Nat→Prop)→Prop
 |[],[],F=>∀b,¬F b
 |p::ps,x::xs,F=>∃F1 F2,Ji w R p x F1∧Cm w R ps xs F2∧(∀b,F1 b→¬F2 b∧¬R b)∧∀b,F b↔F1 b∨F2 b
 |_,_,_=>False
def B4:List Bf→List Bf
 |[]=>[]
 |.ms T sz _ rows'::ps=>.p (.o T sz rows')::B4 ps
 |.mn T _ cells'::ps=>.pn T cells'::B4 ps
 |.mo _ I'::ps=>.po I'::B4 ps
 |_::ps=>B4 ps
def Du:List Bf→List Value→List Value
 |.ms _ _ _ _::ps,x::xs=>x::Du ps xs
 |.mn _ _ _::ps,x::xs=>x::Du ps xs
 |.mo _ _::ps,x::xs=>x::Du ps xs
 |_::ps,_::xs=>Du ps xs
 |_,_=>[]
def Gl[Glob](P:Program)(f:FuncId)(ps rs:List Bf):Prop:=
 Ds P f∧∀(w:World) (R:Nat→Prop) (xs:List Value) (F:Nat→Prop),(∀b,R b→b<w.heap.size)→Cm w R ps xs F→Cc w F→
  Calls P f xs.toArray w fun e w'=>∃(ys:List Value) (R' F':Nat→Prop),e=.returned (Dl ys)∧rs.length=ys.length∧Fr F w w'∧(∀b,R b→R' b)∧
   (∀b,R' b→R b∨(b<w'.heap.size∧(F b∨w.heap.size≤b)))∧Cm w' R' (rs++B4 ps) (ys++Du ps xs) F'∧(∀b,F' b→F b∨w.heap.size≤b)
def Ij[Glob](P:Program)(f:FuncId)(ps:List Bf)(v:Value):Prop:=
 Ds P f∧∀(w:World) (R:Nat→Prop) (xs:List Value) (F:Nat→Prop),(∀b,R b→b<w.heap.size)→Cm w R ps xs F→Cc w F→
  Calls P f xs.toArray w fun e w'=>e=.panicked [{v:=v,recovered:=false}]∧Fr F w w'
def Ae0(T:TypeId)(row:List V)(I:Opq):Prop:=
 ∀(w:World) (R:Nat→Prop) (b:Nat) (xs:List Value),w.ownsRow 0 T row.length (.slice (some ⟨b,0,none⟩) 1 1) 1 xs→(∀(j:Nat) (u:V) (y:Value),row[j]? =some u→xs[j]? =some y→RV w R noG u y)→I.inv w R (.pointer (some ⟨b,0,none⟩)) fun k=>k=b
inductive Bm(H:Nat→Option Ent)(all:List Nat):Bool→List Nat→List V→List Bf→Prop where
 |nil (bor:Bool):Bm H all bor [] [] []
 |old {bor gone1 gone u p us ps} (h1:Ar H all bor gone1 [u] [p]) (hd:∀id∈gone1,id∉gone∧id∈all) (h:Bm H all bor gone us ps):Bm H all bor (gone1++gone) (u::us) (.p p::ps)
 |ms {bor gone id g e T rows' us ps} (he:H id=some e) (hg:e.gen=g) (hT:e.T=.t T) (hr:∀row∈e.rows,∀u∈row,Cl u) (hn:id∉gone) (ha:id∈all) (hl:rows'.length=e.rows.length) (h:Bm H all bor gone us ps):Bm H all bor (id::gone) (.own id g::us) (.ms T e.sz e.rows rows'::ps)
 |mn {bor gone gone1 id g e T row cells cells' us ps} (he:H id=some e) (hg:e.gen=g) (hT:e.T=.b T) (hrow:e.rows=[row]) (hc:Ar H all false gone1 row cells) (hd:∀k∈gone1,k∉gone∧k∈all∧k≠id) (hn:id∉gone) (ha:id∈all) (hl:cells'.length=cells.length) (h:Bm H all bor gone us ps):Bm H all bor (id::(gone1++gone)) (.ptr id g 0 0::us) (.mn T cells cells'::ps)
 |pn {bor gone gone1 id g e T row cells us ps} (he:H id=some e) (hg:e.gen=g) (hT:e.T=.b T) (hrow:e.rows=[row]) (hc:Ar H all false gone1 row cells) (hd:∀k∈gone1,k∉gone∧k∈all∧k≠id) (hn:id∉gone) (ha:id∈all) (h:Bm H all bor gone us ps):Bm H all bor (id::(gone1++gone)) (.ptr id g 0 0::us) (.pn T cells::ps)
 |mo {bor gone id g e I I' us ps} (he:H id=some e) (hg:e.gen=g) (hT:e.T=.q I) (hn:id∉gone) (ha:id∈all) (h:Bm H all bor gone us ps):Bm H all bor (id::gone) (.ptr id g 0 0::us) (.mo I I'::ps)
 |fo {bor gone id g e T row I I' us ps} (he:H id=some e) (hg:e.gen=g) (hT:e.T=.b T) (hrow:e.rows=[row]) (hcl:∀u∈row,Cl u) (hf:Ae0 T row I) (hn:id∉gone) (ha:id∈all) (h:Bm H all bor gone us ps):Bm H all bor (id::gone) (.ptr id g 0 0::us) (.mo I I'::ps)
 |po {bor gone id g e I us ps} (he:H id=some e) (hg:e.gen=g) (hT:e.T=.q I) (hn:id∉gone) (ha:id∈all) (h:Bm H all bor gone us ps):Bm H all bor (id::gone) (.ptr id g 0 0::us) (.po I::ps)
 |pf {bor gone id g e T row I us ps} (he:H id=some e) (hg:e.gen=g) (hT:e.T=.b T) (hrow:e.rows=[row]) (hcl:∀u∈row,Cl u) (hf:Ae0 T row I) (hn:id∉gone) (ha:id∈all) (h:Bm H all bor gone us ps):Bm H all bor (id::gone) (.ptr id g 0 0::us) (.po I::ps)
section
variable {P:Program} {st:St} {a:Act} {w w':World} {R:Nat→Prop} {G:Nat→Option Loc} {o:Oper} {Q:Exit→Act→World→Prop} {d:Nat} {u:V} {dH:List (Nat×Option Ent)}
theorem Akm{v:Value}{b:Nat}(h:v.ownBlock=some b):pv v=.pointer (some ⟨b,0,none⟩):=by
 cases v with
 |slice ad n cap=>cases ad with
  |none=>cases h
  |some ad=>simp only[Value.ownBlock]at h;injection h with h;simp[pv,h]
 |_=>cases h
theorem Ag9[Glob]{c:Ctx}(h:Ac c st a w R G){all gone1:List Nat}{bor0:Bool}{id g:Nat}{e:Ent}{T:TypeId}{row:List V}{cells:List Par}{x:Value}(hx:RV w R G (.ptr id g 0 0) x)(he:st.H id=some e)(hg:e.gen=g)(hT:e.T=.b T)(hrow:e.rows=[row])(hc:Ar st.H all false gone1 row cells)(hd:∀k∈gone1,k∈all∧k≠id)(ha:id∈all):
  ∃F,Aeh w (RB R G st.H all bor0) T cells x F∧(∀b,F b→∃k∈id::gone1,∃ek l,st.H k=some ek∧G k=some l∧l.gen=ek.gen∧l.ft b):=by
 obtain⟨l,xs,b,T0,g1,g2,g3,g4,g5,g6,hbk,hax,hT0,hop0⟩:=h.objP hx he hg (k:=0) (row:=row) (by rw[hrow];rfl);have g2':l.gen=e.gen:=g2.trans hg.symm;rcases hT0 with hT0|⟨hT0,hb0,b',hv⟩
 ·rw[hT]at hT0;cases hT0
 rw[hT]at hT0;injection hT0 with hT0;subst hT0
 have hbb:b'=b:=by rw[hv]at hbk;simpa[Value.ownBlock]using hbk
 subst hbb;rw[hrow]at g5 g6;have hrl:row.length=e.sz:=g6.1 row (by simp);have hxl:xs.length=e.sz:=by have:=g5.1;simpa using this
 have hcell:∀(i:Nat) (u:V) (y:Value),row[i]? =some u→xs[i]? =some y→y.oneCell'=true∧RV w R G u y:=fun i u y h1 h2=>by
  obtain⟨z,q1,q2,q3⟩:=g6.2 0 i row u rfl h1;rw[Nat.zero_mul,Nat.zero_add,h2]at q1;injection q1 with q1;subst q1
  exact⟨q2,q3⟩
 obtain⟨h1,h2⟩:=Gf h (bor0:=bor0) hc (fun e=>by cases e) (by omega) (fun i u y q1 q2=>(hcell i u y q1 q2).2) (fun k hk=>(hd k hk).1);have hcl:cells.length=e.sz:=by rw[h1.len];exact hxl
 have hft:l.ft b':=(Loc.ft_of hop0).2 hbk;have hnb:¬A4 cells xs b':=fun q=>by
  obtain⟨k,hk,ek,lk,q1,q2,q3,q4⟩:=h2 b' q;exact h.hr.apart k id ek e lk l b' q1 he (hd k hk).2 q2 g1 q3 g2' q4 hft
 refine⟨fun k=>k=b'∨A4 cells xs k,⟨b',xs,?_,by omega,?_,h1,?_,hnb,fun k=>Iff.rfl⟩,?_⟩
 ·rw[hax];simp
 ·rw[hcl,←hv];exact g5
 ·intro v hv;obtain⟨i,hi,rfl⟩:=List.mem_iff_getElem.1 hv;exact(hcell i (row[i]'(by omega)) _ (ZC (by omega)) (ZC hi)).1
 ·rintro k (rfl|hk)
  ·exact⟨id,XB ..,e,l,he,g1,g2',hft⟩
  ·obtain⟨j,hj,q⟩:=h2 k hk;exact⟨j,ZL _ hj,q⟩
theorem Al6(R:Nat→Prop)(G:Nat→Option Loc)(H:Nat→Option Ent)(all:List Nat)(bor:Bool):∀b,R b→RB R G H all bor b:=fun b hb=>.inl hb
theorem Ajh[Glob]{c:Ctx}(h:Ac c st a w R G){all:List Nat}{bor0:Bool}{id g:Nat}{e:Ent}{I:Opq}{x:Value}(hx:RV w R G (.ptr id g 0 0) x)(he:st.H id=some e)(hg:e.gen=g)(hT:e.T=.q I):
  ∃F,Wv w (RB R G st.H all bor0) I x F∧(∀b,F b→∃ek l,st.H id=some ek∧G id=some l∧l.gen=ek.gen∧l.ft b):=by
 obtain⟨l,b,g1,g2,g3,hbk,hax⟩:=h.objB hx he hg;have g2':l.gen=e.gen:=g2.trans hg.symm;obtain⟨g0,To,sz,rows⟩:=e;have hT:To=.q I:=hT;subst hT;obtain⟨F,k1,k2,k3,k4⟩:=g3;refine⟨F,⟨⟨b,by rw[hax];simp⟩,?_⟩,fun k hk=>⟨_,l,he,g1,g2',by simp only[Loc.ft,k1];exact hk⟩⟩;have e1:x=pv l.val:=by rw[hax,Akm hbk];simp
 rw[e1];exact I.mono k4 (fun b hb=>⟨Al6 _ _ _ _ _ b hb,rfl⟩) (fun _ _=>rfl)
theorem Aho[Glob]{c:Ctx}(h:Ac c st a w R G){all:List Nat}{bor0:Bool}{id g:Nat}{e:Ent}{T:TypeId}{row:List V}{I:Opq}{x:Value}(hx:RV w R G (.ptr id g 0 0) x)(he:st.H id=some e)(hg:e.gen=g)(hT:e.T=.b T)(hrow:e.rows=[row])(hcl:∀u∈row,Cl u)(hf:Ae0 T row I):
  ∃F,Wv w (RB R G st.H all bor0) I x F∧(∀b,F b→∃ek l,st.H id=some ek∧G id=some l∧l.gen=ek.gen∧l.ft b):=by
 obtain⟨l,xs,b,T0,g1,g2,g3,g4,g5,g6,hbk,hax,hT0,hop0⟩:=h.objP hx he hg (k:=0) (row:=row) (by rw[hrow];rfl);have g2':l.gen=e.gen:=g2.trans hg.symm;rcases hT0 with hT0|⟨hT0,hb0,b',hv⟩
 ·rw[hT]at hT0;cases hT0
 rw[hT]at hT0;injection hT0 with hT0;subst hT0
 have hbb:b'=b:=by rw[hv]at hbk;simpa[Value.ownBlock]using hbk
 subst hbb;rw[hrow]at g5 g6;have hrl:row.length=e.sz:=g6.1 row (by simp);have hax':x=.pointer (some ⟨b',0,none⟩):=by rw[hax];simp
 refine⟨fun k=>k=b',⟨⟨b',hax'⟩,?_⟩,fun k hk=>⟨e,l,he,g1,g2',by have hk:k=b':=hk;subst hk;exact(Loc.ft_of hop0).2 hbk⟩⟩;rw[hax'];refine hf w _ b' xs (by rw[hrl,←hv];exact g5) fun j u y h1 h2=>?_;obtain⟨z,q1,q2,q3⟩:=g6.2 0 j row u rfl h1;rw[Nat.zero_mul,Nat.zero_add,h2]at q1;injection q1 with q1;subst q1
 exact(hcl u (ZH h1) _ _ _ noG _ q3).mono (fun b hb=>⟨Al6 _ _ _ _ _ b hb,rfl⟩) (Gle.refl _)
theorem Mx[Glob]{c:Ctx}(h:Ac c st a w R G){all:List Nat}{bor0:Bool}:∀{bor:Bool} {gone:List Nat} {us:List V} {ps:List Bf} {xs:List Value},Bm st.H all bor gone us ps→(bor=true→bor0=true)→us.length=xs.length→
  (∀(i:Nat) (u:V) (x:Value),us[i]? =some u→xs[i]? =some x→RV w R G u x)→
  ∃F,Cm w (RB R G st.H all bor0) ps xs F∧(∀b,F b→∃id∈gone,∃e l,st.H id=some e∧G id=some l∧l.gen=e.gen∧l.ft b)∧∀id∈gone,id∈all:=by
 intro bor gone us ps xs hA;have notR:∀{id:Nat} {e:Ent} {l:Loc} {b:Nat},st.H id=some e→G id=some l→l.gen=e.gen→l.ft b→id∈all→¬RB R G st.H all bor0 b:=fun {id e l b} h1 h2 h3 h4 ha hRB=>by
  rcases hRB with hR|⟨_,id',e',l',q0,q1,q2,q25,q3⟩
  ·exact(h.hr.mine id e l b h1 h2 h3 h4).1 hR
  ·exact h.hr.apart id id' e e' l l' b h1 q1 (fun e=>q0 (e▸ha)) h2 q2 h3 q25 h4 q3
 have step:∀{p:Bf} {ps:List Bf} {x:Value} {xs:List Value} {F1 F2:Nat→Prop} {mine gone:List Nat},Ji w (RB R G st.H all bor0) p x F1→Cm w (RB R G st.H all bor0) ps xs F2→
   (∀b,F1 b→∃id∈mine,∃e l,st.H id=some e∧G id=some l∧l.gen=e.gen∧l.ft b)→(∀b,F2 b→∃id∈gone,∃e l,st.H id=some e∧G id=some l∧l.gen=e.gen∧l.ft b)→(∀id∈mine,id∉gone∧id∈all)→(∀id∈gone,id∈all)→
   ∃F,Cm w (RB R G st.H all bor0) (p::ps) (x::xs) F∧(∀b,F b→∃id∈mine++gone,∃e l,st.H id=some e∧G id=some l∧l.gen=e.gen∧l.ft b)∧∀id∈mine++gone,id∈all:=fun h1 h2 h3 h4 h5 h6=>by
  refine⟨_,⟨_,_,h1,h2,fun b hb=>?_,fun b=>Iff.rfl⟩,?_,fun id hid=>?_⟩
  ·obtain⟨id,hid,e,l,q1,q2,q3,q4⟩:=h3 b hb;refine⟨fun hb2=>?_,notR q1 q2 q3 q4 (h5 id hid).2⟩;obtain⟨id',hid',e',l',r1,r2,r3,r4⟩:=h4 b hb2;exact h.hr.apart id id' e e' l l' b q1 r1 (fun e=>(h5 id hid).1 (e▸hid')) q2 r2 q3 r3 q4 r4
  ·rintro b (hb|hb)
   ·obtain⟨id,hid,q⟩:=h3 b hb;exact⟨id,List.mem_append_left _ hid,q⟩
   ·obtain⟨id,hid,q⟩:=h4 b hb;exact⟨id,List.mem_append_right _ hid,q⟩
  ·rcases XM.1 hid with q|q
   ·exact(h5 id q).2
   ·exact h6 id q
 induction hA generalizing xs with
 |nil=>
  intro hbor hl _
  match xs,hl with
  |[],_=>exact⟨fun _=>False,fun b hb=>hb,fun b hb=>hb.elim,fun id hid=>by simp at hid⟩
 | @old gone1 gone u p us ps h1 hd hA ih=>
  intro hbor hl hh
  match xs,hl with
  |x::xs,hl=>
   obtain⟨F,f1,f2,f3⟩:=ih hbor (by simpa using hl) (fun i u x h1 h2=>hh (i+1) u x (by simpa using h1) (by simpa using h2));obtain⟨k1,k2⟩:=Gf h (bor0:=bor0) h1 hbor (xs:=[x]) rfl (fun i u y q1 q2=>by
    cases i with
    |zero=>simp at q1 q2;subst q1 q2;exact hh 0 _ x rfl rfl
    |succ i=>simp at q1) (fun k hk=>(hd k hk).2)
   exact step (p:=.p p) (F1:=A4 [p] [x]) ⟨k1.ok 0 p x rfl rfl,fun k=>Iff.rfl⟩ f1 k2 f2 (fun k hk=>hd k hk) f3
 | @ms gone id g e T rows' us ps he hg hT hr hn ha hlr hA ih=>
  intro hbor hl hh
  match xs,hl with
  |x::xs,hl=>
   obtain⟨F,f1,f2,f3⟩:=ih hbor (by simpa using hl) (fun i u x h1 h2=>hh (i+1) u x (by simpa using h1) (by simpa using h2));obtain⟨k1,k2⟩:=Gf h (bor0:=bor0) (all:=all) (Ar.give (bor:=false) (gone:=[]) he hg hT hr (by simp) ha (.nil _)) (fun e=>by cases e) (xs:=[x]) rfl (fun i u y q1 q2=>by
    cases i with
    |zero=>simp at q1 q2;subst q1 q2;exact hh 0 _ x rfl rfl
    |succ i=>simp at q1) (fun k hk=>by simp at hk;rw[hk];exact ha)
   exact step (p:=.ms T e.sz e.rows rows') (F1:=A4 [.o T e.sz e.rows] [x]) (mine:=[id]) ⟨k1.ok 0 _ x rfl rfl,fun k=>Iff.rfl⟩ f1 k2 f2 (fun k hk=>by simp at hk;rw[hk];exact⟨hn,ha⟩) f3
 | @mn gone gone1 id g e T row cells cells' us ps he hg hT hrow hc hd hn ha hlc hA ih=>
  intro hbor hl hh
  match xs,hl with
  |x::xs,hl=>
   obtain⟨F,f1,f2,f3⟩:=ih hbor (by simpa using hl) (fun i u x h1 h2=>hh (i+1) u x (by simpa using h1) (by simpa using h2));obtain⟨F1,k1,k2⟩:=Ag9 h (bor0:=bor0) (hh 0 _ x rfl rfl) he hg hT hrow hc (fun k hk=>(hd k hk).2) ha;exact step (p:=.mn T cells cells') (mine:=id::gone1) k1 f1 k2 f2 (fun k hk=>by
    rcases XC.1 hk with rfl|hk
    ·exact⟨hn,ha⟩
    ·exact⟨(hd k hk).1,(hd k hk).2.1⟩) f3
 | @pn gone gone1 id g e T row cells us ps he hg hT hrow hc hd hn ha hA ih=>
  intro hbor hl hh
  match xs,hl with
  |x::xs,hl=>
   obtain⟨F,f1,f2,f3⟩:=ih hbor (by simpa using hl) (fun i u x h1 h2=>hh (i+1) u x (by simpa using h1) (by simpa using h2));obtain⟨F1,k1,k2⟩:=Ag9 h (bor0:=bor0) (hh 0 _ x rfl rfl) he hg hT hrow hc (fun k hk=>(hd k hk).2) ha;exact step (p:=.pn T cells) (mine:=id::gone1) k1 f1 k2 f2 (fun k hk=>by
    rcases XC.1 hk with rfl|hk
    ·exact⟨hn,ha⟩
    ·exact⟨(hd k hk).1,(hd k hk).2.1⟩) f3
 | @mo gone id g e I I' us ps he hg hT hn ha hA ih=>
  intro hbor hl hh
  match xs,hl with
  |x::xs,hl=>
   obtain⟨F,f1,f2,f3⟩:=ih hbor (by simpa using hl) (fun i u x h1 h2=>hh (i+1) u x (by simpa using h1) (by simpa using h2));obtain⟨F1,k1,k2⟩:=Ajh h (all:=all) (bor0:=bor0) (hh 0 _ x rfl rfl) he hg hT;exact step (p:=.mo I I') (mine:=[id]) k1 f1 (fun b hb=>⟨id,by simp,k2 b hb⟩) f2 (fun k hk=>by simp at hk;rw[hk];exact⟨hn,ha⟩) f3
 | @fo gone id g e T row I I' us ps he hg hT hrow hcl hf hn ha hA ih=>
  intro hbor hl hh
  match xs,hl with
  |x::xs,hl=>
   obtain⟨F,f1,f2,f3⟩:=ih hbor (by simpa using hl) (fun i u x h1 h2=>hh (i+1) u x (by simpa using h1) (by simpa using h2));obtain⟨F1,k1,k2⟩:=Aho h (all:=all) (bor0:=bor0) (hh 0 _ x rfl rfl) he hg hT hrow hcl hf;exact step (p:=.mo I I') (mine:=[id]) k1 f1 (fun b hb=>⟨id,by simp,k2 b hb⟩) f2 (fun k hk=>by simp at hk;rw[hk];exact⟨hn,ha⟩) f3
 | @po gone id g e I us ps he hg hT hn ha hA ih=>
  intro hbor hl hh
  match xs,hl with
  |x::xs,hl=>
   obtain⟨F,f1,f2,f3⟩:=ih hbor (by simpa using hl) (fun i u x h1 h2=>hh (i+1) u x (by simpa using h1) (by simpa using h2));obtain⟨F1,k1,k2⟩:=Ajh h (all:=all) (bor0:=bor0) (hh 0 _ x rfl rfl) he hg hT;exact step (p:=.po I) (mine:=[id]) k1 f1 (fun b hb=>⟨id,by simp,k2 b hb⟩) f2 (fun k hk=>by simp at hk;rw[hk];exact⟨hn,ha⟩) f3
 | @pf gone id g e T row I us ps he hg hT hrow hcl hf hn ha hA ih=>
  intro hbor hl hh
  match xs,hl with
  |x::xs,hl=>
   obtain⟨F,f1,f2,f3⟩:=ih hbor (by simpa using hl) (fun i u x h1 h2=>hh (i+1) u x (by simpa using h1) (by simpa using h2));obtain⟨F1,k1,k2⟩:=Aho h (all:=all) (bor0:=bor0) (hh 0 _ x rfl rfl) he hg hT hrow hcl hf;exact step (p:=.po I) (mine:=[id]) k1 f1 (fun b hb=>⟨id,by simp,k2 b hb⟩) f2 (fun k hk=>by simp at hk;rw[hk];exact⟨hn,ha⟩) f3
end
end Go.Proofs.YtchbkgnobpejnaaGreatDoor
