/- The framework: part of this claim. -/
import Derived.Test.YtchbkgnobpejnaaGreatDoorYAbs6
set_option linter.unusedSimpArgs false
set_option linter.unusedVariables false
namespace Go.Proofs.YtchbkgnobpejnaaGreatDoor
open Go.RowKit
section
variable {P:Program} {st:St} {a:Act} {w w':World} {R:Nat→Prop} {G:Nat→Option Loc} {o:Oper} {Q:Exit→Act→World→Prop} {d:Nat} {u:V} {dH:List (Nat×Option Ent)}
theorem M3.nil(w:World)(R:Nat→Prop):M3 w R [] []:=
 ⟨rfl,fun i p x h=>by simp at h,fun i j T sz rows T' sz' rows' x y b _ h=>by simp at h,fun b ⟨i,T,sz,rows,x,h,_⟩=>by simp at h⟩
theorem Bp{p:Par}{ps:List Par}{x:Value}{xs:List Value}{b:Nat}:A4 (p::ps) (x::xs) b↔(∃T sz rows,p=.o T sz rows∧x.ownBlock=some b)∨A4 ps xs b:=by
 constructor
 ·rintro ⟨i,T,sz,rows,y,h1,h2,h3⟩
  cases i with
  |zero=>simp at h1 h2;subst h2;exact .inl ⟨T,sz,rows,h1,h3⟩
  |succ i=>exact .inr ⟨i,T,sz,rows,y,by simpa using h1,by simpa using h2,h3⟩
 ·rintro (⟨T,sz,rows,h1,h2⟩|⟨i,T,sz,rows,y,h1,h2,h3⟩)
  ·exact⟨0,T,sz,rows,x,by simp[h1],rfl,h2⟩
  ·exact⟨i+1,T,sz,rows,y,by simpa using h1,by simpa using h2,h3⟩
theorem M3.cons{p:Par}{ps:List Par}{x:Value}{xs:List Value}(h:M3 w R ps xs)(hp:O4 w R p x)(hb:∀T sz rows b,p=.o T sz rows→x.ownBlock=some b→¬A4 ps xs b∧¬R b):M3 w R (p::ps) (x::xs):=by
 refine⟨by simp[h.len],?_,?_,?_⟩
 ·intro i q y h1 h2;cases i with
  |zero=>simp at h1 h2;subst h1 h2;exact hp
  |succ i=>exact h.ok i q y (by simpa using h1) (by simpa using h2)
 ·intro i j T sz rows T' sz' rows' y z b hij h1 h2 h3 h4 h5 h6;cases i with
  |zero=>
   cases j with
   |zero=>exact hij rfl
   |succ j=>
    simp at h1 h3;subst h3;exact(hb T sz rows b h1 h5).1 ⟨j,T',sz',rows',z,by simpa using h2,by simpa using h4,h6⟩
  |succ i=>
   cases j with
   |zero=>
    simp at h2 h4;subst h4;exact(hb T' sz' rows' b h2 h6).1 ⟨i,T,sz,rows,y,by simpa using h1,by simpa using h3,h5⟩
   |succ j=>exact h.apart i j T sz rows T' sz' rows' y z b (by omega) (by simpa using h1) (by simpa using h2) (by simpa using h3) (by simpa using h4) h5 h6
 ·intro b hbk;rcases Bp.1 hbk with⟨T,sz,rows,h1,h2⟩|hbk
  ·exact(hb T sz rows b h1 h2).2
  ·exact h.free b hbk
def RB(R:Nat→Prop)(G:Nat→Option Loc)(H:Nat→Option Ent)(all:List Nat)(bor:Bool)(b:Nat):Prop:=
 R b∨(bor=true∧∃id e l,id∉all∧H id=some e∧G id=some l∧l.gen=e.gen∧l.ft b)
theorem Xu(G:Nat→Option Loc):Gle noG G:=fun id l h=>by cases h
theorem W5{u:V}{x:Value}(h:RV w R noG u x):RV w R G u x:=h.mono (fun b hb=>⟨hb,rfl⟩) (Xu G)
theorem Afq[Glob]{c:Ctx}(h:Ac c st a w R G){R':Nat→Prop}(hR':∀b,R b→R' b){id g:Nat}{e:Ent}{rows':List (List V)}{x:Value}(hx:RV w R G (.own id g) x)(he:st.H id=some e)(hg:e.gen=g)(hb:∀l b,G id=some l→l.gen=e.gen→l.ft b→R' b)(hlen:e.rows.length=rows'.length)(hd:∀(i:Nat) (row row':List V),e.rows[i]? =some row→rows'[i]? =some row'→row.length=row'.length∧∀(j:Nat) (u u':V) (y:Value),row[j]? =some u→row'[j]? =some u'→RV w R G u y→RV w R' noG u' y):
  RV w R' noG (.sl false rows') x:=by
 obtain⟨l,xs,T0,g1,g2,g3,g4,g5,g6,hxl,hT0,hop0,hbx0⟩:=h.objO hx he hg;rw[hxl];rcases Fs g5 with⟨hv,h0⟩|⟨b,cap,hv,hbk⟩
 ·rw[hv];have:rows'=[]:=XR (by rw[←hlen,h0];rfl);subst this;exact .nil _ _ _ (by simp)
 ·rw[hv,hlen];have hcapn:e.rows.length≤cap:=by
   rcases g5.2 with⟨q,_⟩|⟨g',cap',cur,q,_,_,hnc,_⟩
   ·rw[hv]at q;cases q
   ·rw[hv]at q;injection q with _ _ q;omega
  have hpair:∀(i j:Nat) (row':List V) (u':V),rows'[i]? =some row'→row'[j]? =some u'→∃y,xs[i*e.sz+j]? =some y∧RV w R' noG u' y:=fun i j row' u' h1 h2=>by
   have hi:i<e.rows.length:=by rw[hlen];exact(ZB.1 h1).1
   have hrow:e.rows[i]? =some e.rows[i]:=ZC hi;obtain⟨hl,hj⟩:=hd i _ row' hrow h1;have hjl:j<e.rows[i].length:=by rw[hl];exact(ZB.1 h2).1
   have hu:e.rows[i][j]? =some e.rows[i][j]:=ZC hjl;obtain⟨y,q1,_,q2⟩:=g6.2 i j _ _ hrow hu;exact⟨y,q1,hj j _ u' y hu h2 q2⟩
  refine .sl _ rows' b 0 cap e.sz (fun i j=>(xs[i*e.sz+j]?).getD undef) (hb l b g1 (g2.trans hg.symm) ((Loc.ft_of hop0).2 hbk)) (by omega) (by simp) ?_ ?_ ?_
  ·intro row' hrow';obtain⟨i,hi,rfl⟩:=List.mem_iff_getElem.1 hrow';have hi':i<e.rows.length:=by omega
   obtain⟨hl,_⟩:=hd i e.rows[i] rows'[i] (ZC hi') (ZC hi);rw[←hl];exact g6.1 _ (ZK hi')
  ·intro i j row' u' h1 h2;obtain⟨y,q1,q2⟩:=hpair i j row' u' h1 h2;show w.cell? ⟨b,0+i*e.sz+j,none⟩=some ((xs[i*e.sz+j]?).getD undef);rw[q1,Nat.zero_add];exact Ee g5 hbk q1
  ·intro i j row' u' h1 h2;obtain⟨y,q1,q2⟩:=hpair i j row' u' h1 h2;show RV w R' noG u' ((xs[i*e.sz+j]?).getD undef);rw[q1];exact q2
theorem Ac.objS[Glob]{c:Ctx}(h:Ac c st a w R G){id gen lo hi:Nat}{e:Ent}{x:Value}(hx:RV w R G (.osub id gen lo hi) x)(he:st.H id=some e)(hg:e.gen=gen):
  ∃l xs T,G id=some l∧l.gen=gen∧l.sz=e.sz∧0<e.sz∧w.ownsRow 0 T e.sz l.val e.rows.length xs∧Ch w R G xs e.sz e.rows∧Apb l.val l.sz lo hi x∧e.T=.t T∧l.op=none∧l.box=false:=by
 cases hx with
 |osub id gen lo hi l hG hg' x hx=>
  have:=h.hr.le id e l he hG;have h2:l.gen=e.gen:=by omega
  obtain⟨hx1,hx2⟩:=hx (by omega);obtain⟨l',xs,T,k1,k2,k3,k4,k5,k6,k7,k8,k9,k10⟩:=h.objO (.own id gen l hG hg' l.val (fun _=>⟨rfl,hx1⟩)) he hg;rw[hG]at k1;injection k1 with k1;subst k1
  exact⟨l,xs,T,hG,k2,k3,k4,k5,k6,hx2,k8,k9,k10⟩
theorem Ac.objC[Glob]{c:Ctx}(h:Ac c st a w R G){id gen n:Nat}{e:Ent}{x:Value}(hx:RV w R G (.oclip id gen n) x)(he:st.H id=some e)(hg:e.gen=gen):
  ∃l xs T,G id=some l∧l.gen=gen∧l.sz=e.sz∧0<e.sz∧w.ownsRow 0 T e.sz l.val e.rows.length xs∧Ch w R G xs e.sz e.rows∧Aoo l.val n x∧e.T=.t T∧l.op=none∧l.box=false:=by
 cases hx with
 |oclip id gen n l hG hg' x hx=>
  have:=h.hr.le id e l he hG;have h2:l.gen=e.gen:=by omega
  obtain⟨hx1,hx2⟩:=hx (by omega);obtain⟨l',xs,T,k1,k2,k3,k4,k5,k6,k7,k8,k9,k10⟩:=h.objO (.own id gen l hG hg' l.val (fun _=>⟨rfl,hx1⟩)) he hg;rw[hG]at k1;injection k1 with k1;subst k1
  exact⟨l,xs,T,hG,k2,k3,k4,k5,k6,hx2,k8,k9,k10⟩
theorem Ao0{w:World}{T:TypeId}{sz lsz n m:Nat}{v x:Value}{xs:List Value}(h:w.ownsRow 0 T sz v m xs)(hsz:lsz=sz)(hs:Apb v lsz 0 n x)(hn:n≤m):w.ownsRow 0 T sz x n (xs.take (n*sz))∧∀b,x.ownBlock=some b→v.ownBlock=some b:=by
 rcases hs with⟨rfl,_,rfl,rfl⟩|⟨b,k,cap,off,rfl,h1,h2,h25,rfl⟩
 ·exact⟨by simpa using World.ownsRow_nil w 0 T sz,fun b hb=>by cases hb⟩
 ·have hks:n*sz≤m*sz:=XG _ hn;have hx:off=0:=by rw[h25 (.inl rfl)];simp
  subst hx;refine⟨⟨by rw[ZM,h.1];omega,?_⟩,fun q hq=>hq⟩;rcases h.2 with⟨q,_⟩|⟨g,cap',cur,q,h0,hh,hnc,hcm,hcs,htk⟩
  ·cases q
  ·injection q with q1 q2 q3;injection q1 with q1;injection q1 with q1
   subst q1 q3;refine .inr ⟨b,cap,cur,by simp,h0,hh,by omega,hcm,hcs,?_⟩;rw[←htk,List.take_take,Nat.min_eq_left hks]
theorem Air[Glob]{c:Ctx}(h:Ac c st a w R G){all:List Nat}{cs cs':List V}(hc:Bt st.H all cs cs'):cs.length=cs'.length∧∀(i:Nat) (u u':V) (y:Value),cs[i]? =some u→cs'[i]? =some u'→RV w R G u y→RV w (RB R G st.H all true) noG u' y:=by
 have hsub:∀b,R b→RB R G st.H all true b:=fun b hb=>.inl hb
 induction hc with
 |nil=>exact⟨rfl,fun i u u' y h1=>by simp at h1⟩
 |same hu hc ih=>
  refine⟨by simp[ih.1],fun i u u' y h1 h2 h3=>?_⟩;cases i with
  |zero=>
   simp only[List.getElem?_cons_zero,ZD]at h1 h2;subst h1 h2;exact(hu _ _ _ noG _ h3).mono (fun b hb=>⟨hsub b hb,rfl⟩) (Gle.refl _)
  |succ i=>exact ih.2 i u u' y (by simpa using h1) (by simpa using h2) h3
 |nilsl cl hc ih=>
  refine⟨by simp[ih.1],fun i u u' y h1 h2 h3=>?_⟩;cases i with
  |zero=>
   simp only[List.getElem?_cons_zero,ZD]at h1 h2;subst h1 h2;rw[Cd h3];exact .nil _ _ _ (fun _=>rfl)
  |succ i=>exact ih.2 i u u' y (by simpa using h1) (by simpa using h2) h3
 | @own id g e us us' he hg hr hn hc ih=>
  refine⟨by simp[ih.1],fun i u u' y h1 h2 h3=>?_⟩;cases i with
  |zero=>
   simp only[List.getElem?_cons_zero,ZD]at h1 h2;subst h1 h2;refine Afq h hsub h3 he hg (fun l b h3 h35 h4=>.inr ⟨rfl,id,e,l,hn,he,h3,h35,h4⟩) rfl ?_;intro i2 r2 r2' q1 q2;rw[q1]at q2;injection q2 with q2;subst q2
   refine⟨rfl,fun j2 v v' y2 q3 q4 q5=>?_⟩;rw[q3]at q4;injection q4 with q4;subst q4
   exact(hr r2 (ZH q1) v (ZH q3) _ _ _ noG _ q5).mono (fun b hb=>⟨hsub b hb,rfl⟩) (Gle.refl _)
  |succ i=>exact ih.2 i u u' y (by simpa using h1) (by simpa using h2) h3
theorem Gf[Glob]{c:Ctx}(h:Ac c st a w R G){all:List Nat}{bor0:Bool}:∀{bor:Bool} {gone:List Nat} {us:List V} {ps:List Par} {xs:List Value},Ar st.H all bor gone us ps→(bor=true→bor0=true)→us.length=xs.length→
  (∀(i:Nat) (u:V) (x:Value),us[i]? =some u→xs[i]? =some x→RV w R G u x)→(∀id∈gone,id∈all)→
   M3 w (RB R G st.H all bor0) ps xs∧∀b,A4 ps xs b→∃id∈gone,∃e l,st.H id=some e∧G id=some l∧l.gen=e.gen∧l.ft b:=by
 intro bor gone us ps xs hA;have hsub:∀b,R b→RB R G st.H all bor0 b:=fun b hb=>.inl hb
 induction hA generalizing xs with
 |nil bor=>
  intro hbor hl _ _
  match xs,hl with
  |[],_=>exact⟨M3.nil _ _,fun b ⟨i,T,sz,rows,x,h1,_⟩=>by simp at h1⟩
 |same hu hA ih=>
  intro hbor hl hh hga
  match xs,hl with
  |x::xs,hl=>
   obtain⟨h1,h2⟩:=ih hbor (by simpa using hl) (fun i u x h1 h2=>hh (i+1) u x (by simpa using h1) (by simpa using h2)) hga;refine⟨h1.cons ?_ (fun T sz rows b e=>by cases e),fun b hb=>?_⟩
   ·exact(hu _ _ _ noG _ (hh 0 _ x rfl rfl)).mono (fun b hb=>⟨hsub b hb,rfl⟩) (Gle.refl _)
   ·rcases Bp.1 hb with⟨T,sz,rows,e,_⟩|hb
    ·cases e
    ·exact h2 b hb
 |nilsl cl hA ih=>
  intro hbor hl hh hga
  match xs,hl with
  |x::xs,hl=>
   obtain⟨h1,h2⟩:=ih hbor (by simpa using hl) (fun i u x h1 h2=>hh (i+1) u x (by simpa using h1) (by simpa using h2)) hga;have hx:x=.slice none 0 0:=Cd (hh 0 _ x rfl rfl);subst hx;refine⟨h1.cons (.nil _ _ _ (fun _=>rfl)) (fun T sz rows b e=>by cases e),fun b hb=>?_⟩;rcases Bp.1 hb with⟨T,sz,rows,e,_⟩|hb
   ·cases e
   ·exact h2 b hb
 |nilown T sz hz hA ih=>
  intro hbor hl hh hga
  match xs,hl with
  |x::xs,hl=>
   obtain⟨h1,h2⟩:=ih hbor (by simpa using hl) (fun i u x h1 h2=>hh (i+1) u x (by simpa using h1) (by simpa using h2)) hga;have hx:x=.slice none 0 0:=Cd (hh 0 _ x rfl rfl);subst hx;refine⟨h1.cons ⟨hz,[],World.ownsRow_nil _ _ _ _,by simp,fun i j row u hi=>by simp at hi⟩ (fun T sz rows b e hb=>by cases hb),fun b hb=>?_⟩;rcases Bp.1 hb with⟨T,sz,rows,e,hb⟩|hb
   ·cases hb
   ·exact h2 b hb
 | @bor gone id g e rows' us ps he hg hr hn hA ih=>
  intro hbor hl hh hga
  match xs,hl with
  |x::xs,hl=>
   obtain⟨h1,h2⟩:=ih hbor (by simpa using hl) (fun i u x h1 h2=>hh (i+1) u x (by simpa using h1) (by simpa using h2)) hga;have hb0:bor0=true:=hbor rfl;refine⟨h1.cons ?_ (fun T sz rows b e=>by cases e),fun b hb=>?_⟩
   ·refine Afq h hsub (hh 0 _ x rfl rfl) he hg (fun l b h3 h35 h4=>.inr ⟨hb0,id,e,l,hn,he,h3,h35,h4⟩) hr.1 ?_;intro i row row' h3 h4;obtain⟨h5,h6⟩:=hr.2 i row row' h3 h4;refine⟨h5,fun j u u' y h7 h8 h9=>?_⟩;rcases h6 j u u' h7 h8 with⟨rfl,hcl⟩|⟨id',g',e',rfl,he',hg',rfl,hcl⟩|⟨rfl,cc,rfl⟩
    ·exact(hcl _ _ _ noG _ h9).mono (fun b hb=>⟨hsub b hb,rfl⟩) (Gle.refl _)
    ·have he2:(if id'∈id::all then none else st.H id')=some e':=he';clear he';by_cases hk:id'∈id::all
     ·rw[if_pos hk]at he2;cases he2
     ·rw[if_neg hk]at he2;have he':=he2;refine Afq h hsub h9 he' hg' (fun l b h3 h35 h4=>.inr ⟨hb0,id',e',l,fun hm=>hk (ZL _ hm),he',h3,h35,h4⟩) rfl ?_;intro i2 r2 r2' q1 q2;rw[q1]at q2;injection q2 with q2;subst q2
      refine⟨rfl,fun j2 v v' y2 q3 q4 q5=>?_⟩;rw[q3]at q4;injection q4 with q4;subst q4
      exact(hcl r2 (ZH q1) v (ZH q3) _ _ _ noG _ q5).mono (fun b hb=>⟨hsub b hb,rfl⟩) (Gle.refl _)
    ·rw[Cd h9];exact .nil _ _ _ (fun _=>rfl)
   ·rcases Bp.1 hb with⟨T,sz,rows,e,_⟩|hb
    ·cases e
    ·exact h2 b hb
 | @borp gone id g e i row off us ps he hg hi hr hn hA ih=>
  intro hbor hl hh hga
  match xs,hl with
  |x::xs,hl=>
   obtain⟨h1,h2⟩:=ih hbor (by simpa using hl) (fun i u x h1 h2=>hh (i+1) u x (by simpa using h1) (by simpa using h2)) hga;have hb0:bor0=true:=hbor rfl;obtain⟨l,ys,b,T0,g1,g2,g3,g4,g5,g6,hbk,hax,hT0,hop0⟩:=h.objP (hh 0 _ x rfl rfl) he hg hi;refine⟨h1.cons ?_ (fun T sz rows b e=>by cases e),fun b hb=>?_⟩
   ·have hc:∀(j:Nat) (u:V),row[j]? =some u→∃y,ys[i*e.sz+j]? =some y∧RV w (RB R G st.H all bor0) noG u y:=fun j u hu=>by
     obtain⟨y,q1,_,q2⟩:=g6.2 i j row u hi hu;exact⟨y,q1,(hr u (ZH hu) _ _ _ noG _ q2).mono (fun b hb=>⟨hsub b hb,rfl⟩) (Gle.refl _)⟩
    rw[hax];refine .rptr row off b (i*l.sz) (fun j=>(ys[i*e.sz+j]?).getD undef) (.inr ⟨hb0,id,e,l,hn,he,g1,g2.trans hg.symm,(Loc.ft_of hop0).2 hbk⟩) ?_ ?_
    ·intro j u hu;obtain⟨y,q1,_⟩:=hc j u hu;show _=some ((ys[i*e.sz+j]?).getD undef);rw[g3,q1];exact Ee g5 hbk q1
    ·intro j u hu;obtain⟨y,q1,q2⟩:=hc j u hu;show RV _ _ _ u ((ys[i*e.sz+j]?).getD undef);rw[q1];exact q2
   ·rcases Bp.1 hb with⟨T,sz,rows,e,_⟩|hb
    ·cases e
    ·exact h2 b hb
 | @bora gone cs cs' us ps hc hA ih=>
  intro hbor hl hh hga
  match xs,hl with
  |x::xs,hl=>
   obtain⟨h1,h2⟩:=ih hbor (by simpa using hl) (fun i u x h1 h2=>hh (i+1) u x (by simpa using h1) (by simpa using h2)) hga;have hb0:bor0=true:=hbor rfl;subst hb0;refine⟨h1.cons ?_ (fun T sz rows b e=>by cases e),fun b hb=>?_⟩
   ·have hx:=hh 0 _ x rfl rfl;obtain⟨k1,k2⟩:=Air h hc;cases hx with
    |agg cs ys hl2 hcell=>
     refine .agg cs' ys (k1.symm.trans hl2) fun i u' y q1 q2=>?_;have hi:i<cs.length:=by rw[k1];exact(ZB.1 q1).1
     exact k2 i _ u' y (ZC hi) q1 (hcell i _ y (ZC hi) q2)
   ·rcases Bp.1 hb with⟨T,sz,rows,e,_⟩|hb
    ·cases e
    ·exact h2 b hb
 | @borc gone f caps caps' us ps hc hA ih=>
  intro hbor hl hh hga
  match xs,hl with
  |x::xs,hl=>
   obtain⟨h1,h2⟩:=ih hbor (by simpa using hl) (fun i u x h1 h2=>hh (i+1) u x (by simpa using h1) (by simpa using h2)) hga;have hb0:bor0=true:=hbor rfl;refine⟨h1.cons ?_ (fun T sz rows b e=>by cases e),fun b hb=>?_⟩
   ·have hv:=hh 0 _ x rfl rfl;cases hv with
    |clo f caps vs hlv hvv=>
     have key:∀(caps caps':List V) (vs:List Value),W2 st.H all caps caps'→caps.length=vs.length→(∀(i:Nat) (u:V) (y:Value),caps[i]? =some u→vs[i]? =some y→RV w R G u y)→
       caps'.length=vs.length∧∀(i:Nat) (u:V) (y:Value),caps'[i]? =some u→vs[i]? =some y→RV w (RB R G st.H all bor0) noG u y:=by
      intro caps
      induction caps with
      |nil=>intro caps' vs hc hl hv;match caps',hc with|[],_=>exact⟨hl,fun i u y h=>by simp at h⟩
      |cons u us ih=>
       intro caps' vs hc hl hv
       match caps',vs,hc,hl with
       |u'::us',y::ys,hc,hl=>
        obtain⟨k1,k2⟩:=ih us' ys hc.2 (by simpa using hl) (fun i u x h1 h2=>hv (i+1) u x (by simpa using h1) (by simpa using h2));refine⟨by simp[k1],fun i v z q1 q2=>?_⟩;cases i with
        |succ i=>exact k2 i v z (by simpa using q1) (by simpa using q2)
        |zero=>
         simp at q1 q2;subst q1 q2;have h0:=hv 0 u y rfl rfl;have hmap:∀{id g:Nat} {e:Ent} {An:List (Value×V)} {y:Value},RV w R G (.obj id g) y→st.H id=some e→e.gen=g→e.T=.q (Mj An)→id∉all→RV w (RB R G st.H all bor0) noG (.rmap An) y:=by
          intro id g e An y h0 he hg hT hn;cases h0 with
          |obj id g l hG hg' x hx=>
           have:=h.hr.le id e l he hG;have h2:l.gen=e.gen:=by omega
           have h3:=h.hr.obj id e l he hG h2;have hx1:=hx (by omega);unfold Kz at h3;rw[hT]at h3;obtain⟨F,f1,f2,f3,b,clock,es,m1,m2,m3,m4,m5⟩:=h3;rw[hx1,m1];exact .rmap An b clock es (.inr ⟨hb0,id,e,l,hn,he,hG,h2,by simp only[Loc.ft,f1];exact(m4 _).2 rfl⟩) m2 m3 (fun i e p q1 q2=>(m5 i e p q1 q2).1)
            (fun i e p q1 q2=>(m5 i e p q1 q2).2.mono (fun b hb=>⟨hsub b hb,rfl⟩) (Gle.refl _))
         rcases hc.1 with⟨rfl,hcl⟩|⟨id,g,i,off,e,row,row',rfl,he,hg,hi,hr,hn,rfl⟩|⟨id,g,e,An,rfl,he,hg,hT,hn,rfl⟩
         ·exact(hcl _ _ _ noG _ h0).mono (fun b hb=>⟨hsub b hb,rfl⟩) (Gle.refl _)
         ·obtain⟨l,ys,b,T0,g1,g2,g3,g4,g5,g6,hbk,hax,hT0,hop0⟩:=h.objP h0 he hg hi;have hcc:∀(j:Nat) (u':V),row'[j]? =some u'→∃y,ys[i*e.sz+j]? =some y∧RV w (RB R G st.H all bor0) noG u' y:=fun j u' hu'=>by
           obtain⟨u,hu,hcell⟩:=(Zn hr).2 j u' hu';obtain⟨y,q1,_,q2⟩:=g6.2 i j row u hi hu;refine⟨y,q1,?_⟩;rcases hcell with⟨rfl,hcl⟩|⟨idm,gm,em,An,rfl,hem,hgm,hTm,hnm,rfl⟩
           ·exact(hcl _ _ _ noG _ q2).mono (fun b hb=>⟨hsub b hb,rfl⟩) (Gle.refl _)
           ·exact hmap q2 hem hgm hTm hnm
          rw[hax];refine .rptr row' off b (i*l.sz) (fun j=>(ys[i*e.sz+j]?).getD undef) (.inr ⟨hb0,id,e,l,hn,he,g1,g2.trans hg.symm,(Loc.ft_of hop0).2 hbk⟩) ?_ ?_
          ·intro j u hu;obtain⟨y,q1,_⟩:=hcc j u hu;show _=some ((ys[i*e.sz+j]?).getD undef);rw[g3,q1];exact Ee g5 hbk q1
          ·intro j u hu;obtain⟨y,q1,q2⟩:=hcc j u hu;show RV _ _ _ u ((ys[i*e.sz+j]?).getD undef);rw[q1];exact q2
         ·exact hmap h0 he hg hT hn
     obtain⟨k1,k2⟩:=key _ _ _ hc hlv hvv;exact .clo f caps' vs k1 k2
   ·rcases Bp.1 hb with⟨T,sz,rows,e,_⟩|hb
    ·cases e
    ·exact h2 b hb
 | @givv bor gone id g e T n us ps he hg hT hlen hr hn ha hA ih=>
  intro hbor hl hh hga
  match xs,hl with
  |x::xs,hl=>
   obtain⟨h1,h2⟩:=ih hbor (by simpa using hl) (fun i u x h1 h2=>hh (i+1) u x (by simpa using h1) (by simpa using h2)) (fun k hk=>hga k (ZL _ hk));obtain⟨l,ys,T0,g1,g2,g3,g4,g5,g6,hsb,hT0,hop0,hbx0⟩:=h.objS (hh 0 _ x rfl rfl) he hg;obtain⟨hown,hbx⟩:=Ao0 g5 g3 hsb hlen;have g2':l.gen=e.gen:=g2.trans hg.symm;have hTT:T0=T:=by rw[hT]at hT0;injection hT0 with q;exact q.symm
   subst hTT;refine⟨h1.cons ⟨g4,ys.take (n*e.sz),(by rw[ZM,Nat.min_eq_left hlen];exact hown),fun row hr=>g6.1 row (List.mem_of_mem_take hr),fun i j row u h3 h4=>?_⟩ ?_,fun b hb=>?_⟩
   ·have hi:i<n:=by have:=(ZB.1 h3).1;rw[ZM]at this;omega
    rw[XA hi]at h3;obtain⟨y,q1,q2,q3⟩:=g6.2 i j row u h3 h4;have hj:j<e.sz:=by have:=(ZB.1 h4).1;rw[g6.1 row (ZH h3)]at this;exact this
    have hlt:i*e.sz+j<n*e.sz:=by
     have:(i+1)*e.sz≤n*e.sz:=XG _ hi;rw[Nat.add_mul]at this;omega
    exact⟨y,by rw[XA hlt];exact q1,q2,(hr row (ZH h3) u (ZH h4) _ _ _ noG _ q3).mono (fun b hb=>⟨hsub b hb,rfl⟩) (Gle.refl _)⟩
   ·intro T sz rows b _ hb;have hb:=(Loc.ft_of hop0).2 (hbx b hb);refine⟨fun hpb=>?_,fun hRB=>?_⟩
    ·obtain⟨id',hid',e',l',q1,q2,q25,q3⟩:=h2 b hpb;exact h.hr.apart id id' e e' l l' b he q1 (fun e=>hn (e▸hid')) g1 q2 g2' q25 hb q3
    ·rcases hRB with hR|⟨_,id',e',l',q0,q1,q2,q25,q3⟩
     ·exact(h.hr.mine id e l b he g1 g2' hb).1 hR
     ·exact h.hr.apart id id' e e' l l' b he q1 (fun e=>q0 (e▸ha)) g1 q2 g2' q25 hb q3
   ·rcases Bp.1 hb with⟨T,sz,rows,_,hb⟩|hb
    ·exact⟨id,XB ..,e,l,he,g1,g2',(Loc.ft_of hop0).2 (hbx b hb)⟩
    ·obtain⟨k,hk,q⟩:=h2 b hb;exact⟨k,ZL _ hk,q⟩
 | @give bor gone id g e T us ps he hg hT hr hn ha hA ih=>
  intro hbor hl hh hga
  match xs,hl with
  |x::xs,hl=>
   obtain⟨h1,h2⟩:=ih hbor (by simpa using hl) (fun i u x h1 h2=>hh (i+1) u x (by simpa using h1) (by simpa using h2)) (fun k hk=>hga k (ZL _ hk));obtain⟨l,ys,T0,g1,g2,g3,g4,g5,g6,hx,hT0,hop0,hbx0⟩:=h.objO (hh 0 _ x rfl rfl) he hg;have g2':l.gen=e.gen:=g2.trans hg.symm;subst hx;have hTT:T0=T:=by rw[hT]at hT0;injection hT0 with q;exact q.symm
   subst hTT;refine⟨h1.cons ⟨g4,ys,g5,g6.1,fun i j row u h3 h4=>?_⟩ ?_,fun b hb=>?_⟩
   ·obtain⟨y,q1,q2,q3⟩:=g6.2 i j row u h3 h4;exact⟨y,q1,q2,(hr row (ZH h3) u (ZH h4) _ _ _ noG _ q3).mono (fun b hb=>⟨hsub b hb,rfl⟩) (Gle.refl _)⟩
   ·intro T sz rows b _ hb;have hb:=(Loc.ft_of hop0).2 hb;refine⟨fun hpb=>?_,fun hRB=>?_⟩
    ·obtain⟨id',hid',e',l',q1,q2,q25,q3⟩:=h2 b hpb;exact h.hr.apart id id' e e' l l' b he q1 (fun e=>hn (e▸hid')) g1 q2 g2' q25 hb q3
    ·rcases hRB with hR|⟨_,id',e',l',q0,q1,q2,q25,q3⟩
     ·exact(h.hr.mine id e l b he g1 g2' hb).1 hR
     ·exact h.hr.apart id id' e e' l l' b he q1 (fun e=>q0 (e▸ha)) g1 q2 g2' q25 hb q3
   ·rcases Bp.1 hb with⟨T,sz,rows,_,hb⟩|hb
    ·exact⟨id,XB ..,e,l,he,g1,g2',(Loc.ft_of hop0).2 hb⟩
    ·obtain⟨k,hk,q⟩:=h2 b hb;exact⟨k,ZL _ hk,q⟩
def nO:List Par→Nat
 |[]=>0
 |.c _::rs=>nO rs
 |.o _ _ _::rs=>nO rs+1
theorem Agy:∀rs:List Par,nO rs≤rs.length
 |[]=>ZT _
 |.c _::rs=>by have:=Agy rs;simp[nO];omega
 |.o _ _ _::rs=>by have:=Agy rs;simp[nO];omega
theorem Vl[Glob]{c:Ctx}{R':Nat→Prop}{g:Nat→Nat}:∀(rs:List Par) (ys:List Value) (k:Nat) {st:St} {G:Nat→Option Loc},Ac c st a w R' G→rs.length=ys.length→
  (∀(i:Nat) (p:Par) (y:Value),rs[i]? =some p→ys[i]? =some y→O4 w R' p y)→
  (∀(i j:Nat) (T:TypeId) (sz:Nat) (rows:List (List V)) (T':TypeId) (sz':Nat) (rows':List (List V)) (x y:Value) (b:Nat),i≠j→rs[i]? =some (.o T sz rows)→rs[j]? =some (.o T' sz' rows')→ys[i]? =some x→ys[j]? =some y→x.ownBlock=some b→y.ownBlock≠some b)→
  (∀b,A4 rs ys b→¬R' b∧(c.L b∨c.w0.heap.size≤b)∧∀id e l,st.H id=some e→G id=some l→l.gen=e.gen→¬l.ft b)→
  (∀id,k≤id→id<k+rs.length→∀l0,G id=some l0→l0.gen<g id)→
  ∃G',Ac c {st with H:=Bx st.H (P1 g k rs)} a w R' G'∧Gle G G'∧(∀id,(id<k∨k+nO rs≤id)→G' id=G id)∧(Ih g k rs).length=ys.length∧
   ∀(i:Nat) (u:V) (y:Value),(Ih g k rs)[i]? =some u→ys[i]? =some y→RV w R' G' u y
 |[],[],k,st,G,h,_,_,_,_,_=>⟨G,h,Gle.refl _,fun _ _=>rfl,rfl,fun i u y hu=>by simp[Ih]at hu⟩
 |.c v::rs,y::ys,k,st,G,h,hl,hok,hap,hfree,hgen=>by
  obtain⟨G',h1,h2,h3,h4,h5⟩:=Vl rs ys k h (by simpa using hl) (fun i p y q1 q2=>hok (i+1) p y (by simpa using q1) (by simpa using q2))
   (fun i j T sz rows T' sz' rows' x y b hij q1 q2 q3 q4=>hap (i+1) (j+1) T sz rows T' sz' rows' x y b (by omega) (by simpa using q1) (by simpa using q2) (by simpa using q3) (by simpa using q4))
   (fun b hb=>hfree b (Bp.2 (.inr hb))) (fun id q1 q2=>hgen id q1 (by simp;omega))
  refine⟨G',h1,h2,fun id hid=>h3 id hid,by simp[Ih,h4],fun i u z q1 q2=>?_⟩;cases i with
  |zero=>
   simp[Ih]at q1 q2;subst q1 q2;exact(W5 (hok 0 (.c v) y rfl rfl)).mono (fun b hb=>⟨hb,rfl⟩) (Gle.refl _)
  |succ i=>exact h5 i u z (by simpa[Ih]using q1) (by simpa using q2)
 |.o T sz rows::rs,y::ys,k,st,G,h,hl,hok,hap,hfree,hgen=>by
  obtain⟨hz,xs,hown,hrows⟩:=hok 0 (.o T sz rows) y rfl rfl;have hgk:∀l0,G k=some l0→l0.gen<g k:=hgen k (ZT _) (by simp);have hle1:Gle G (upd G k (some ⟨g k,sz,y,false,none⟩)):=fun id m hm=>by
   by_cases hk:id=k
   ·subst hk;exact⟨_,Aj _ _ _,.inr (hgk m hm)⟩
   ·exact⟨m,by rw[Ap _ _ hk];exact hm,.inl (Db.refl _)⟩
  have h1:=h.set (row:=none) (id:=k) (box:=false) (To:=.t T) (w':=w) ⟨rfl,rfl,rfl,ZT _,fun _ _ _=>rfl⟩ (.inl rfl) (by simp) (fun l0 h0=>.inr (hgk l0 h0)) hz hown
   (hrows.mono (fun b hb=>⟨hb,rfl⟩) (Xu _)) (fun b hb=>.inr (by
    obtain⟨q1,q2,q3⟩:=hfree b (Bp.2 (.inl ⟨T,sz,rows,rfl,hb⟩));exact⟨q1,q2,fun id e l _=>q3 id e l⟩))
  obtain⟨G',g1,g2,g3,g4,g5⟩:=Vl rs ys (k+1) h1 (by simpa using hl) (fun i p y q1 q2=>hok (i+1) p y (by simpa using q1) (by simpa using q2))
   (fun i j T sz rows T' sz' rows' x y b hij q1 q2 q3 q4=>hap (i+1) (j+1) T sz rows T' sz' rows' x y b (by omega) (by simpa using q1) (by simpa using q2) (by simpa using q3) (by simpa using q4))
   (fun b hb=>by
    obtain⟨q1,q2,q3⟩:=hfree b (Bp.2 (.inr hb));refine⟨q1,q2,fun id e l p1 p2 p25 p3=>?_⟩;by_cases hk:id=k
    ·subst hk;simp only[Aj,ZD]at p2;subst p2;obtain⟨j,T',sz',rows',z,r1,r2,r3⟩:=hb;exact hap 0 (j+1) T sz rows T' sz' rows' y z b (by omega) rfl (by simpa using r1) rfl (by simpa using r2) p3 r3
    ·simp only[Ap _ _ hk]at p1 p2;exact q3 id e l p1 p2 p25 p3)
   (fun id q1 q2 l0 hl0=>by
    rw[Ap _ _ (by omega)]at hl0;exact hgen id (by omega) (by simp;omega) l0 hl0)
  refine⟨G',g1,hle1.trans g2,fun id hid=>?_,by simp[Ih,g4],fun i u z q1 q2=>?_⟩
  ·rw[g3 id (by simp[nO]at hid;omega),Ap _ _ (by simp[nO]at hid;omega)]
  ·cases i with
   |zero=>
    simp[Ih]at q1 q2;subst q1 q2;exact .own k (g k) ⟨g k,sz,y,false,none⟩ (by rw[g3 k (by omega),Aj]) (ZT _) _ (fun _=>⟨rfl,rfl⟩)
   |succ i=>exact g5 i u z (by simpa[Ih]using q1) (by simpa using q2)
theorem Ac.drops[Glob]{c:Ctx}:∀(gone:List Nat) {st:St},Ac c st a w R G→Ac c {st with H:=Bx st.H (gone.map fun i=>(i,none))} a w R G
 |[],st,h=>h
 |i::gone,st,h=>Ac.drops gone (h.drop i)
theorem T3:∀(gone:List Nat) (H:Nat→Option Ent) {id:Nat} {e:Ent},Bx H (gone.map fun i=>(i,none)) id=some e→id∉gone∧H id=some e
 |[],H,id,e,h=>⟨by simp,h⟩
 |i::gone,H,id,e,h=>by
  obtain⟨h1,h2⟩:=T3 gone (upd H i none) h;by_cases hi:id=i
  ·subst hi;rw[Aj]at h2;cases h2
  ·rw[Ap _ _ hi]at h2;exact⟨by simp[hi,h1],h2⟩
theorem Br(H:Nat→Option Ent):∀(a b:List (Nat×Option Ent)),Bx H (a++b)=Bx (Bx H a) b
 |[],b=>rfl
 |(k,e)::a,b=>Br (upd H k e) a b
theorem Sr{us:List V}{ys:List Value}(hl:us.length=ys.length)(hh:∀(i:Nat) (u:V) (y:Value),us[i]? =some u→ys[i]? =some y→RV w R G u y):RV w R G (F7 us) (Dl ys):=by
 match us,ys,hl with
 |[],[],_=>exact .tup [] [] rfl (fun i u x h=>by simp at h)
 |[u],[y],_=>exact hh 0 u y rfl rfl
 |u::u'::us,y::y'::ys,hl=>exact .tup _ _ hl hh
theorem Aeu[Glob]{c:Ctx}{g:Nat→Nat}{b0:Nat}{f:FuncId}{xs:List Value}{us:List V}{ps rs:List Par}{bor:Bool}{gone:List Nat}(hb0:∀k,k<16→(b0+k)/16=d)(hgen:∀id,id/16=d→∀l0,G id=some l0→l0.gen<g id)(h:Ac c st a w R G)(hr:(execOp a.eval o).run P w=.ok (.enter f xs.toArray) w)(hl:us.length=xs.length)(hh:∀(i:Nat) (u:V) (x:Value),us[i]? =some u→xs[i]? =some x→RV w R G u x)(hA:Ar st.H gone bor gone us ps)(hF:Fun P f ps rs)(hfl:bor=true→Dx rs)(hrs:rs.length≤16):C2 P c st a w G o Q d (F7 (Ih g b0 rs)) (gone.map (fun i=>(i,none))++P1 g b0 rs):=by
 intro next hn
 obtain⟨hP,hblk⟩:=Gf h (bor0:=bor) hA (fun e=>e) hl hh (fun id hid=>hid);unfold Oper.wp;rw[hr];simp only[Oper.upon];refine(hF.2 w (RB R G st.H gone bor) xs ?_ hP (h.glb fun b hb=>by obtain⟨id,hid,e,l,q1,q2,q25,q3⟩:=hblk b hb;exact(h.hr.mine id e l b q1 q2 q25 q3).2)).mono ?_
 ·rintro b (hb|⟨_,id,e,l,_,q1,q2,q25,q3⟩)
  ·exact h.lt b hb
  ·exact h.hr.lt q1 q2 q25 q3
 ·rintro e w' ⟨ys,R',rfl,hfr,hsub,hR',hpars,hres⟩
  simp only;have hL:∀b,A4 ps xs b→¬R b∧(c.L b∨c.w0.heap.size≤b)∧∀k ek lk,Bx st.H (gone.map fun i=>(i,none)) k=some ek→G k=some lk→lk.gen=ek.gen→¬lk.ft b:=fun b hb=>by
   obtain⟨id,hid,e,l,q1,q2,q25,q3⟩:=hblk b hb;obtain⟨m1,m2⟩:=h.hr.mine id e l b q1 q2 q25 q3;refine⟨m1,m2,fun k ek lk p1 p2 p25 p3=>?_⟩;obtain⟨p4,p5⟩:=T3 gone st.H p1;exact h.hr.apart k id ek e lk l b p5 q1 (fun e=>p4 (e▸hid)) p2 q2 p25 q25 p3 q3
  have h1:=Ac.drops gone h;have hR2:∀b,(R b∨(R' b∧(A4 ps xs b∨w.heap.size≤b)))→R b∨(b<w'.heap.size∧(c.L b∨c.w0.heap.size≤b)∧(A4 ps xs b∨w.heap.size≤b)):=by
   rintro b (hb|⟨hb,h2⟩)
   ·exact .inl hb
   ·right;have hlt:b<w'.heap.size:=by
     rcases hR' b hb with(hb|⟨_,id,e,l,_,q1,q2,q25,q3⟩)|⟨q,_⟩
     ·exact XH (h.lt b hb) hfr.size
     ·exact XH (h.hr.lt q1 q2 q25 q3) hfr.size
     ·exact q
    refine⟨hlt,?_,h2⟩;rcases h2 with h2|h2
    ·exact(hL b h2).2.1
    ·exact .inr (XI h.fr.size h2)
  have h2:=h1.world (R':=fun b=>R b∨(R' b∧(A4 ps xs b∨w.heap.size≤b))) hfr (fun b hb=>.inl hb) hL hR2;have hRV:∀(u:V) (y:Value),(bor=true→Fl u)→RV w' R' noG u y→RV w' (fun b=>R b∨(R' b∧(A4 ps xs b∨w.heap.size≤b))) noG u y:=fun u y hf hy=>by
   cases bor with
   |true=>exact hf rfl _ _ _ _ _ _ _ hy
   |false=>
    refine hy.mono (fun b hb=>⟨?_,rfl⟩) (Gle.refl _);rcases hR' b hb with(hb'|⟨e,_⟩)|⟨_,q⟩
    ·exact .inl hb'
    ·cases e
    ·exact .inr ⟨hb,q⟩
  have hok:∀(i:Nat) (p:Par) (y:Value),rs[i]? =some p→ys[i]? =some y→O4 w' (fun b=>R b∨(R' b∧(A4 ps xs b∨w.heap.size≤b))) p y:=fun i p y q1 q2=>by
   have hp:=hpars.ok i p y q1 q2;cases p with
   |c u=>exact hRV u y (fun e=>hfl e _ (ZH q1)) hp
   |o T sz rows=>
    obtain⟨p1,zs,p2,p3,p4⟩:=hp;refine⟨p1,zs,p2,p3,fun i' j' row u r1 r2=>?_⟩;obtain⟨x,r3,r4,r5⟩:=p4 i' j' row u r1 r2;exact⟨x,r3,r4,hRV u x (fun e=>hfl e _ (ZH q1) row (ZH r1) u (ZH r2)) r5⟩
  obtain⟨G',g1,g2,g3,g4,g5⟩:=Vl rs ys b0 (g:=g) h2 hpars.len hok hpars.apart (fun b hb=>by
    have q1:=hpars.free b hb;have q0:¬(R b∨(R' b∧(A4 ps xs b∨w.heap.size≤b))):=by
     rintro (q|q)
     ·exact q1 (hsub b (.inl q))
     ·exact q1 q.1
    rcases hres b hb with q2|q2
    ·exact⟨q0,(hL b q2).2.1,(hL b q2).2.2⟩
    ·exact⟨q0,.inr (XI h.fr.size q2),fun id e l p1 p2 p25 p3=>by have:=h1.hr.lt p1 p2 p25 p3;omega⟩)
   (fun id q1 q2 l0 hl0=>hgen id (by have:=hb0 (id-b0) (by omega);rwa[show b0+(id-b0)=id by omega]at this) l0 hl0)
  refine hn (Dl ys) w' _ G' ?_ (Sr g4 g5) ?_
  ·rw[Br];exact g1
  ·intro id hid;refine g3 id ?_;have hnO:=Agy rs;by_cases q:id<b0∨b0+nO rs≤id
   ·exact q
   ·exact absurd (by have:=hb0 (id-b0) (by omega);rwa[show b0+(id-b0)=id by omega]at this) hid
theorem Mr{cl:Call}{f:FuncId}{x:Operand}{caps:List Value}(ho:o.op=.call cl)(hc:cl.callee=.value x)(hx:a.eval x=.func (.func f) #[] caps.toArray)(hf:Ds P f):
  (execOp a.eval o).run P w=.ok (.enter f (cl.args.toList.map a.eval++caps).toArray) w:=by
 obtain⟨fn,h1,h2,h3⟩:=hf;have e:cl.args.map a.eval++caps.toArray=(cl.args.toList.map a.eval++caps).toArray:=by apply Array.ext';simp
 rw[←e];have h3':¬fn.body=none:=by intro q;rw[q]at h3;simp at h3
 have h2' : ¬ fn.name = "runtime.NumGoroutine" := by simpa using h2
 unfold execOp;rw[ho];simp[resolve,hc,hx,Deferred.ofValue,invoke,callFunc,h1,h2',h3']
end
end Go.Proofs.YtchbkgnobpejnaaGreatDoor
