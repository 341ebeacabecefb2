/- The framework: part of this claim. -/
import Derived.Test.YtchbkgnobpejnaaGreatDoorYAbsN
set_option linter.unusedSimpArgs false
set_option linter.unusedVariables false
namespace Go.Proofs.YtchbkgnobpejnaaGreatDoor
open Go.RowKit
def kx(id:Nat):Nat:=100000000+64*id
def U8(g:Nat→Nat)(id gn:Nat):Bf→List (Nat×Option Ent)
 |.p (.o T sz rows)=>[(id,some ⟨gn,.t T,sz,rows⟩)]
 |.pn T cells=>P1 g (kx id) cells++[(id,some ⟨gn,.b T,cells.length,[Ih g (kx id) cells]⟩)]
 |.po I=>[(id,some ⟨gn,.q I,0,[]⟩)]
 |_=>[]
def Aj3(id gn:Nat):Bf→V
 |.p (.c u)=>u
 |.p (.o _ _ _)=>.own id gn
 |.pn _ _=>.ptr id gn 0 0
 |.po _=>.ptr id gn 0 0
 |_=>.any
def nC:Bf→Nat
 |.pn _ cells=>cells.length
 |_=>0
def Qv(id:Nat)(p:Bf):List Nat:=id::(List.range (nC p)).map fun j=>kx id+j
def Abf(gn:Nat)(p:Bf)(y:Value)(F:Nat→Prop)(l:Loc):Prop:=l.gen=gn∧match p with
 |.p (.c _)=>True
 |.p (.o _ sz _)=>l.sz=sz∧l.val=y∧l.box=false∧l.op=none
 |.pn _ cells=>l.sz=cells.length∧(∃b,y=.pointer (some ⟨b,0,none⟩)∧l.val=.slice (some ⟨b,0,none⟩) 1 1)∧l.box=true∧l.op=none
 |.po _=>(∃b,y=.pointer (some ⟨b,0,none⟩)∧l.val.ownBlock=some b)∧l.box=true∧l.op=some F
 |_=>False
def Zj:Bf→Prop
 |.p p=>Dx [p]
 |.pn _ cells=>Dx cells
 |.po I=>∀(w:World) (R R':Nat→Prop) (x:Value) (F:Nat→Prop),I.inv w R x F→I.inv w R' x F
 |_=>True
section
variable {P:Program} {st:St} {a:Act} {w w':World} {R:Nat→Prop} {G:Nat→Option Loc} {o:Oper} {Q:Exit→Act→World→Prop} {d:Nat} {u:V} {dH:List (Nat×Option Ent)}
theorem Ww{R':Nat→Prop}{p:Par}{x:Value}(h:O4 w R p x)(hm:(∀b,R b→R' b)∨Dx [p]):O4 w R' p x:=by
 have key:∀u y,((∀b,R b→R' b)∨Fl u)→RV w R noG u y→RV w R' noG u y:=fun u y q hy=>by
  rcases q with q|q
  ·exact hy.mono (fun b hb=>⟨q b hb,rfl⟩) (Gle.refl _)
  ·exact q _ _ _ _ _ _ _ hy
 cases p with
 |c u=>exact key u x (hm.imp id fun q=>q _ (XN.2 rfl)) h
 |o T sz rows=>
  obtain⟨h1,zs,h2,h3,h4⟩:=h;refine⟨h1,zs,h2,h3,fun i j row u q1 q2=>?_⟩;obtain⟨x,r3,r4,r5⟩:=h4 i j row u q1 q2;exact⟨x,r3,r4,key u x (hm.imp id fun q=>q _ (XN.2 rfl) row (ZH q1) u (ZH q2)) r5⟩
theorem Ai2{R':Nat→Prop}{p:Bf}{x:Value}{F:Nat→Prop}(h:Ji w R p x F)(hm:(∀b,R b→R' b)∨Zj p)(hout:∀q q',p≠.mo q q')(hout2:∀T q q',p≠.mn T q q')(hout3:∀T sz q q',p≠.ms T sz q q')(hF:∀b,F b→¬R' b):Ji w R' p x F:=by
 cases p with
 |p p=>exact⟨Ww h.1 hm,h.2⟩
 |ms T sz q q'=>exact absurd rfl (hout3 T sz q q')
 |mn T q q'=>exact absurd rfl (hout2 T q q')
 |mo q q'=>exact absurd rfl (hout q q')
 |pn T cells=>
  obtain⟨b,xs,h1,h2,h3,h4,h5,h6,h7⟩:=h;refine⟨b,xs,h1,h2,h3,⟨h4.len,fun i p y q1 q2=>Ww (h4.ok i p y q1 q2) (hm.imp id fun q=>?_),h4.apart,fun k hk=>hF k ((h7 k).2 (.inr hk))⟩,h5,h6,h7⟩;intro r hr;rw[XN.1 hr];exact q p (ZH q1)
 |po I=>
  refine⟨h.1,?_⟩;rcases hm with hm|hm
  ·exact I.mono h.2 (fun b hb=>⟨hm b hb,rfl⟩) (fun _ _=>rfl)
  ·exact hm _ _ _ _ _ h.2
theorem Xs[Glob]{c:Ctx}{g:Nat→Nat}{G':Nat→Option Loc}:∀(rs:List Par) (ys:List Value) (k:Nat) {st:St} {H0:Nat→Option Ent} {G0:Nat→Option Loc},rs.length=ys.length→(∀id,(id<k∨k+nO rs≤id)→G' id=G0 id)→(∀(i:Nat) (u:V) (y:Value),(Ih g k rs)[i]? =some u→ys[i]? =some y→RV w R G' u y)→(Ih g k rs).length=ys.length→
  Ac c {st with H:=Bx H0 (P1 g k rs)} a w R G'→
  ∀id e l b,Bx H0 (P1 g k rs) id=some e→G' id=some l→l.gen=e.gen→l.ft b→A4 rs ys b∨(H0 id=some e∧G0 id=some l)
 |[],ys,k,st,H0,G0,_,hG,_,_,h,id,e,l,b,h1,h2,h3,h4=>.inr ⟨h1,by rw[←hG id (Nat.lt_or_ge id k)];exact h2⟩
 |.c v::rs,y::ys,k,st,H0,G0,hl,hG,hV,hlv,h,id,e,l,b,h1,h2,h3,h4=>by
  rcases Xs rs ys k (by simpa using hl) (fun id hid=>hG id hid) (fun i u z q1 q2=>hV (i+1) u z (by simpa[Ih]using q1) (by simpa using q2)) (by simpa[Ih]using hlv) h id e l b h1 h2 h3 h4 with q|q
  ·exact .inl (Bp.2 (.inr q))
  ·exact .inr q
 |.o T sz rows::rs,y::ys,k,st,H0,G0,hl,hG,hV,hlv,h,id,e,l,b,h1,h2,h3,h4=>by
  rcases Xs (st:=st) (H0:=upd H0 k (some ⟨g k,.t T,sz,rows⟩)) (G0:=fun i=>if i=k then G' k else G0 i) rs ys (k+1) (by simpa using hl) (fun id hid=>by
   by_cases hk:id=k
   ·simp only[hk,if_true]
   ·simp only[hk,if_false];exact hG id (by simp[nO];omega)) (fun i u z q1 q2=>hV (i+1) u z (by simpa[Ih]using q1) (by simpa using q2)) (by simpa[Ih]using hlv) h id e l b h1 h2 h3 h4 with q|⟨q1,q2⟩
  ·exact .inl (Bp.2 (.inr q))
  ·by_cases hk:id=k
   ·subst hk;have hx:=hV 0 (.own id (g id)) y rfl rfl;obtain⟨l',xs,T0,g1,g2,g3,g4,g5,g6,g7,g8,g9,g10⟩:=h.objO hx h1 (by
     rw[Aj]at q1;injection q1 with q1;rw[←q1])
    rw[h2]at g1;injection g1 with g1;subst g1
    rw[Loc.ft_of g9,←g7]at h4;exact .inl (Bp.2 (.inl ⟨T,sz,rows,rfl,h4⟩))
   ·rw[Ap _ _ hk]at q1;simp only[hk,if_false]at q2;exact .inr ⟨q1,q2⟩
theorem Abm[Glob]{c:Ctx}{g:Nat→Nat}{p:Bf}{y:Value}{F:Nat→Prop}{id gn:Nat}{l:Loc}(h:Ac c st a w R G)(hp:Ji w R p y F)(hl:Abf gn p y F l)(hgen:∀l0,G id=some l0→Db l0 l∨l0.gen<gn)(hcell:∀j,j<nC p→∀l0,G (kx id+j)=some l0→l0.gen<g (kx id+j))(hfree:∀b,F b→¬R b∧(c.L b∨c.w0.heap.size≤b)∧∀k ek lk,st.H k=some ek→G k=some lk→lk.gen=ek.gen→¬lk.ft b):
  ∃G',Ac c {st with H:=Bx st.H (U8 g id gn p)} a w R G'∧Gle G G'∧(∀k,k∉Qv id p→G' k=G k)∧RV w R G' (Aj3 id gn p) y∧
   (∀k ek lk b,Bx st.H (U8 g id gn p) k=some ek→G' k=some lk→lk.gen=ek.gen→lk.ft b→F b∨(st.H k=some ek∧G k=some lk)):=by
 have hle:Gle G (upd G id (some l)):=fun k m hm=>by
  by_cases hk:k=id
  ·subst hk;exact⟨_,Aj _ _ _,(hgen m hm).imp (fun e=>e) (fun e=>by rw[hl.1];exact e)⟩
  ·exact⟨m,by rw[Ap _ _ hk];exact hm,.inl (Db.refl _)⟩
 have hgb:w.grownBy w none:=⟨rfl,rfl,rfl,ZT _,fun _ _ _=>rfl⟩;cases p with
 |p p=>
  cases p with
  |c u=>
   exact⟨G,h,Gle.refl _,fun _ _=>rfl,W5 hp.1,fun k ek lk b q1 q2 _ _=>.inr ⟨q1,q2⟩⟩
  |o T sz rows=>
   obtain⟨l1,l2,l3,l4,l5⟩:=hl;obtain⟨⟨hz,xs,hown,hrows⟩,hF⟩:=hp;have hft:∀b,l.ft b→F b:=fun b hb=>by
    rw[Loc.ft_of l5,l3]at hb;exact(hF b).2 ⟨0,T,sz,rows,y,rfl,rfl,hb⟩
   have hR:=h.setG (row:=none) (id:=id) (l:=l) (e:=⟨gn,.t T,sz,rows⟩) hgb (by simp) (fun l0 h0=>(hgen l0 h0).imp (fun e=>e) (fun e=>by rw[l1];exact e)) l1
    ⟨l5,xs,l2,hz,by rw[l3];exact hown,hrows.mono (fun b hb=>⟨hb,rfl⟩) (Xu _)⟩ (fun b hb=>.inr ⟨(hfree b (hft b hb)).1,(hfree b (hft b hb)).2.1,fun k ek lk _=>(hfree b (hft b hb)).2.2 k ek lk⟩)
   refine⟨_,hR,hle,fun k hk=>Ap _ _ (fun e=>hk (by rw[e];exact XB ..)),.own id gn l (Aj _ _ _) (Nat.le_of_eq l1.symm) _ fun _=>⟨l3.symm,l4⟩,fun k ek lk b q1 q2 _ q4=>?_⟩;by_cases hk:k=id
   ·subst hk;rw[Aj]at q2;injection q2 with q2;subst q2;exact .inl (hft b q4)
   ·have q1:upd st.H id (some _) k=some ek:=q1;rw[Ap _ _ hk]at q1 q2;exact .inr ⟨q1,q2⟩
 |ms T sz rows rows'=>exact hl.2.elim
 |mn T cells cells'=>exact hl.2.elim
 |mo I I'=>exact hl.2.elim
 |po I=>
  obtain⟨l1,⟨b,l2,l3⟩,l4,l5⟩:=hl;have hft:∀b,l.ft b→F b:=fun b hb=>by simp only[Loc.ft,l5]at hb;exact hb
  have hR:=h.setG (row:=none) (id:=id) (l:=l) (e:=⟨gn,.q I,0,[]⟩) hgb (by simp) (fun l0 h0=>(hgen l0 h0).imp (fun e=>e) (fun e=>by rw[l1];exact e)) l1
   ⟨F,l5,l4,rfl,by rw[Akm l3,←l2];exact hp.2⟩ (fun b hb=>.inr ⟨(hfree b (hft b hb)).1,(hfree b (hft b hb)).2.1,fun k ek lk _=>(hfree b (hft b hb)).2.2 k ek lk⟩)
  refine⟨_,hR,hle,fun k hk=>Ap _ _ (fun e=>hk (by rw[e];exact XB ..)),.ptr id gn 0 0 l (Aj _ _ _) (Nat.le_of_eq l1.symm) _ fun _=>⟨b,l3,by rw[l2];simp⟩,fun k ek lk b q1 q2 _ q4=>?_⟩;by_cases hk:k=id
  ·subst hk;rw[Aj]at q2;injection q2 with q2;subst q2;exact .inl (hft b q4)
  ·have q1:upd st.H id (some _) k=some ek:=q1;rw[Ap _ _ hk]at q1 q2;exact .inr ⟨q1,q2⟩
 |pn T cells=>
  obtain⟨l1,l2,⟨b,l3,l4⟩,l5,l6⟩:=hl;obtain⟨b',xs,p1,p2,p3,p4,p5,p6,p7⟩:=hp;have hbb:b'=b:=by rw[l3]at p1;simp at p1;exact p1.symm
  subst hbb;obtain⟨G1,g1,g2,g3,g4,g5⟩:=Vl (g:=g) cells xs (kx id) h p4.len p4.ok p4.apart (fun k hk=>by
   obtain⟨q1,q2,q3⟩:=hfree k ((p7 k).2 (.inr hk));exact⟨q1,q2,q3⟩) (fun k q1 q2 l0 h0=>by
    have:=hcell (k-kx id) (by simp only[nC];omega) l0 (by rw[show kx id+(k-kx id)=k by omega];exact h0)
    rwa[show kx id+(k-kx id)=k by omega]at this)
  have hlt:id<kx id:=by unfold kx;omega
  have hG1:G1 id=G id:=g3 id (.inl hlt);have hle1:Gle G1 (upd G1 id (some l)):=fun k m hm=>by
   by_cases hk:k=id
   ·subst hk;rw[hG1]at hm;exact⟨_,Aj _ _ _,(hgen m hm).imp (fun e=>e) (fun e=>by rw[l1];exact e)⟩
   ·exact⟨m,by rw[Ap _ _ hk];exact hm,.inl (Db.refl _)⟩
  have hFb:F b':=(p7 b').2 (.inl rfl);have hft:∀k,l.ft k→k=b':=fun k hk=>by
   rw[Loc.ft_of l6,l4]at hk;simp[Value.ownBlock]at hk;exact hk.symm
  have hown:∀k ek lk q,Bx st.H (P1 g (kx id) cells) k=some ek→G1 k=some lk→lk.gen=ek.gen→lk.ft q→A4 cells xs q∨(st.H k=some ek∧G k=some lk):=by
   exact Xs (st:=st) cells xs (kx id) p4.len g3 g5 g4 g1
  have hR:=g1.setG (row:=none) (id:=id) (l:=l) (e:=⟨gn,.b T,cells.length,[Ih g (kx id) cells]⟩) hgb (by simp) (fun l0 h0=>by rw[hG1]at h0;exact(hgen l0 h0).imp (fun e=>e) (fun e=>by rw[l1];exact e)) l1
   ⟨⟨l6,xs,l2,p2,by rw[l4];exact p3,by
     intro row hrow;simp only[XN]at hrow;subst hrow;rw[g4,←p4.len],fun i j row u q1 q2=>by
     cases i with
     |zero=>
      simp at q1;subst q1;have hj:j<xs.length:=by rw[←g4];exact(ZB.1 q2).1
      refine⟨xs[j],by simp[hj],p5 _ (ZK hj),(g5 j u _ q2 (ZC hj)).mono (fun b hb=>⟨hb,rfl⟩) hle1⟩
     |succ i=>simp at q1⟩,l5,b',l4⟩
   (fun k hk=>by
    rw[hft k hk];obtain⟨q1,q2,q3⟩:=hfree b' hFb;refine .inr ⟨q1,q2,fun k ek lk hk h1 h2 h3 h4=>?_⟩;rcases hown k ek lk b' h1 h2 h3 h4 with q|⟨q5,q6⟩
    ·exact p6 q
    ·exact q3 k ek lk q5 q6 h3 h4)
  refine⟨upd G1 id (some l),?_,g2.trans hle1,fun k hk=>?_,.ptr id gn 0 0 l (Aj _ _ _) (Nat.le_of_eq l1.symm) _ fun _=>⟨b',by rw[l4];rfl,by rw[l3];simp⟩,fun k ek lk q q1 q2 q3 q4=>?_⟩
  ·show Ac c {st with H:=Bx st.H (P1 g (kx id) cells++[_])} a w R _;rw[Br];exact hR
  ·have hk1:k≠id:=fun e=>hk (by rw[e];exact XB ..);rw[Ap _ _ hk1];refine g3 k ?_;have hnO:=Agy cells;by_cases q:k<kx id∨kx id+nO cells≤k
   ·exact q
   ·exact absurd (ZL _ (XO.2 ⟨k-kx id,List.mem_range.2 (by simp only[nC];omega),by omega⟩)) hk
  ·have q1:Bx st.H (P1 g (kx id) cells++[(id,some ⟨gn,.b T,cells.length,[Ih g (kx id) cells]⟩)]) k=some ek:=q1;rw[Br]at q1;by_cases hk:k=id
   ·subst hk;rw[Aj]at q2;injection q2 with q2;subst q2
    exact .inl (by rw[hft q q4];exact hFb)
   ·have q1:upd (Bx st.H (P1 g (kx id) cells)) id (some _) k=some ek:=q1;rw[Ap _ _ hk]at q1 q2;rcases hown k ek lk q q1 q2 q3 q4 with r|r
    ·exact .inl ((p7 q).2 (.inr r))
    ·exact .inr r
def Qh(g:Nat→Nat):Nat→List Bf→List V
 |_,[]=>[]
 |k,p::rs=>Aj3 k (g k) p::Qh g (k+1) rs
def Wd(g:Nat→Nat):Nat→List Bf→List (Nat×Option Ent)
 |_,[]=>[]
 |k,p::rs=>U8 g k (g k) p++Wd g (k+1) rs
def V5:Nat→List Bf→List Nat
 |_,[]=>[]
 |k,p::rs=>Qv k p++V5 (k+1) rs
def Aaz:Bf→Bool
 |.p _=>true
 |.pn _ _=>true
 |_=>false
theorem Cm.split{w:World}{R:Nat→Prop}:∀{ps qs:List Bf} {xs ys:List Value} {F:Nat→Prop},ps.length=xs.length→Cm w R (ps++qs) (xs++ys) F→∃F1 F2,Cm w R ps xs F1∧Cm w R qs ys F2∧(∀b,F1 b→¬F2 b)∧∀b,F b↔F1 b∨F2 b
 |[],qs,[],ys,F,_,h=>⟨fun _=>False,F,fun _ hb=>hb,h,fun _ hb=>hb.elim,fun b=>by simp⟩
 |p::ps,qs,x::xs,ys,F,hl,h=>by
  obtain⟨F1,F2,h1,h2,h3,h4⟩:=h;obtain⟨G1,G2,g1,g2,g3,g4⟩:=Cm.split (by simpa using hl) h2;refine⟨fun b=>F1 b∨G1 b,G2,⟨F1,G1,h1,g1,fun b hb=>⟨fun q=>(h3 b hb).1 ((g4 b).2 (.inl q)),(h3 b hb).2⟩,fun _=>Iff.rfl⟩,g2,?_,fun b=>?_⟩
  ·rintro b (q|q) r
   ·exact(h3 b q).1 ((g4 b).2 (.inr r))
   ·exact g3 b q r
  ·rw[h4,g4];constructor
   ·rintro (q|q|q)
    ·exact .inl (.inl q)
    ·exact .inl (.inr q)
    ·exact .inr q
   ·rintro ((q|q)|q)
    ·exact .inl q
    ·exact .inr (.inl q)
    ·exact .inr (.inr q)
theorem Cm.free{w:World}{R:Nat→Prop}:∀{ps:List Bf} {xs:List Value} {F:Nat→Prop},Cm w R ps xs F→∀b,F b→¬R b
 |[],[],F,h,b,hb=>(h b hb).elim
 |p::ps,x::xs,F,h,b,hb=>by
  obtain⟨F1,F2,h1,h2,h3,h4⟩:=h;rcases(h4 b).1 hb with q|q
  ·exact(h3 b q).2
  ·exact Cm.free h2 b q
def Aka:Bf→Bool
 |.p _=>true
 |.pn _ _=>true
 |.po _=>true
 |_=>false
theorem Cm.move{w:World}{R R':Nat→Prop}:∀{ps:List Bf} {xs:List Value} {F:Nat→Prop},Cm w R ps xs F→(∀p∈ps,Aka p=true)→(∀p∈ps,(∀b,R b→R' b)∨Zj p)→(∀b,F b→¬R' b)→Cm w R' ps xs F
 |[],[],F,h,_,_,_=>h
 |p::ps,x::xs,F,h,hg,hm,hF=>by
  obtain⟨F1,F2,h1,h2,h3,h4⟩:=h;have hp:=hg p (XB ..);refine⟨F1,F2,Ai2 h1 (hm p (XB ..)) (fun q q' e=>by subst e;cases hp) (fun T q q' e=>by subst e;cases hp) (fun T sz q q' e=>by subst e;cases hp) (fun b hb=>hF b ((h4 b).2 (.inl hb))),
   Cm.move h2 (fun q hq=>hg q (ZL _ hq)) (fun q hq=>hm q (ZL _ hq)) (fun b hb=>hF b ((h4 b).2 (.inr hb))),fun b hb=>⟨(h3 b hb).1,hF b ((h4 b).2 (.inl hb))⟩,h4⟩
theorem Af6{p:Bf}{y:Value}{F:Nat→Prop}(hp:Ji w R p y F)(ho:Aaz p=true)(gn:Nat):∃l,Abf gn p y F l:=by
 cases p with
 |p p=>cases p with
  |c u=>exact⟨⟨gn,0,y,false,none⟩,rfl,trivial⟩
  |o T sz rows=>exact⟨⟨gn,sz,y,false,none⟩,rfl,rfl,rfl,rfl,rfl⟩
 |pn T cells=>
  obtain⟨b,xs,p1,_⟩:=hp;exact⟨⟨gn,cells.length,.slice (some ⟨b,0,none⟩) 1 1,true,none⟩,rfl,rfl,⟨b,p1,rfl⟩,rfl,rfl⟩
 |_=>cases ho
theorem Ahb[Glob]{c:Ctx}{g:Nat→Nat}:∀(rs:List Bf) (ys:List Value) (k:Nat) {st:St} {G:Nat→Option Loc} {F:Nat→Prop},Ac c st a w R G→Cm w R rs ys F→(∀p∈rs,Aaz p=true)→(V5 k rs).Nodup→
  (∀i∈V5 k rs,∀l0,G i=some l0→l0.gen<g i)→(∀b,F b→¬R b∧(c.L b∨c.w0.heap.size≤b)∧∀k ek lk,st.H k=some ek→G k=some lk→lk.gen=ek.gen→¬lk.ft b)→
  ∃G',Ac c {st with H:=Bx st.H (Wd g k rs)} a w R G'∧Gle G G'∧(∀i,i∉V5 k rs→G' i=G i)∧(Qh g k rs).length=ys.length∧∀(i:Nat) (u:V) (y:Value),(Qh g k rs)[i]? =some u→ys[i]? =some y→RV w R G' u y
 |[],[],k,st,G,F,h,_,_,_,_,_=>⟨G,h,Gle.refl _,fun _ _=>rfl,rfl,fun i u y hu=>by simp[Qh]at hu⟩
 |p::rs,y::ys,k,st,G,F,h,hP,ho,hnd,hgen,hfree=>by
  obtain⟨F1,F2,h1,h2,h3,h4⟩:=hP;obtain⟨l,hl⟩:=Af6 h1 (ho p (XB ..)) (g k);have hnd':=List.nodup_append.1 hnd;obtain⟨G1,k1,k2,k3,k4,k5⟩:=Abm (g:=g) h h1 hl (fun l0 h0=>.inr (hgen k (List.mem_append_left _ (XB ..)) l0 h0))
   (fun j hj l0 h0=>hgen _ (List.mem_append_left _ (ZL _ (XO.2 ⟨j,List.mem_range.2 hj,rfl⟩))) l0 h0) (fun b hb=>hfree b ((h4 b).2 (.inl hb)))
  obtain⟨G2,m1,m2,m3,m4,m5⟩:=Ahb rs ys (k+1) k1 h2 (fun q hq=>ho q (ZL _ hq)) hnd'.2.1
   (fun i hi l0 h0=>hgen i (List.mem_append_right _ hi) l0 (by rw[←k3 i (fun q=>hnd'.2.2 i q i hi rfl)];exact h0)) (fun b hb=>by
    obtain⟨q1,q2,q3⟩:=hfree b ((h4 b).2 (.inr hb));refine⟨q1,q2,fun i ei li r1 r2 r3 r4=>?_⟩;rcases k5 i ei li b r1 r2 r3 r4 with r|⟨r5,r6⟩
    ·exact(h3 b r).1 hb
    ·exact q3 i ei li r5 r6 r3 r4)
  refine⟨G2,?_,k2.trans m2,fun i hi=>?_,by simp[Qh,m4],fun i u z q1 q2=>?_⟩
  ·show Ac c {st with H:=Bx st.H (U8 g k (g k) p++Wd g (k+1) rs)} a w R G2;rw[Br];exact m1
  ·rw[m3 i (fun q=>hi (List.mem_append_right _ q)),k3 i (fun q=>hi (List.mem_append_left _ q))]
  ·cases i with
   |zero=>simp[Qh]at q1 q2;subst q1 q2;exact k4.mono (fun b hb=>⟨hb,rfl⟩) m2
   |succ i=>exact m5 i u z (by simpa[Qh]using q1) (by simpa using q2)
def Ah1(g:Nat→Nat)(u:V):Bf→List (Nat×Option Ent)
 |.ms T sz _ rows'=>match u with|.own id gn=>U8 g id gn (.p (.o T sz rows'))|_=>[]
 |.mn T _ cells'=>match u with|.ptr id gn _ _=>U8 g id gn (.pn T cells')|_=>[]
 |.mo _ I'=>match u with|.ptr id gn _ _=>U8 g id gn (.po I')|_=>[]
 |_=>[]
def Akv(u:V):Bf→List Nat
 |.ms T sz _ rows'=>match u with|.own id gn=>Qv id (.p (.o T sz rows'))|_=>[]
 |.mn T _ cells'=>match u with|.ptr id gn _ _=>Qv id (.pn T cells')|_=>[]
 |.mo _ I'=>match u with|.ptr id gn _ _=>Qv id (.po I')|_=>[]
 |_=>[]
def Ns(g:Nat→Nat):List V→List Bf→List (Nat×Option Ent)
 |u::us,p::ps=>Ah1 g u p++Ns g us ps
 |_,_=>[]
def J3:List V→List Bf→List Nat
 |u::us,p::ps=>Akv u p++J3 us ps
 |_,_=>[]
theorem Oj : ∀ ps : List Bf, ∀ p ∈ B4 ps, Aka p = true
  | [], p, h => by simp [B4] at h
  | q :: ps, p, h => by
    cases q <;> simp only [B4] at h <;> first
      | exact Oj ps p h
      | (rcases XC.1 h with rfl | h
         · rfl
         · exact Oj ps p h)
end
end Go.Proofs.YtchbkgnobpejnaaGreatDoor
