/- The framework: part of this claim. -/
import Derived.Test.YtchbkgnobpejnaaGreatDoorYAbsO
set_option linter.unusedSimpArgs false
set_option linter.unusedVariables false
namespace Go.Proofs.YtchbkgnobpejnaaGreatDoor
open Go.RowKit
section
variable {P:Program} {st:St} {a:Act} {w w':World} {R:Nat→Prop} {G:Nat→Option Loc} {o:Oper} {Q:Exit→Act→World→Prop} {d:Nat} {u:V} {dH:List (Nat×Option Ent)}
theorem Aja[Glob]{c:Ctx}{st0:St}{w0:World}{R0:Nat→Prop}{G0:Nat→Option Loc}(h0:Ac c st0 a w0 R0 G0){g:Nat→Nat}(hgf:∀i l0,G0 i=some l0→l0.gen<g i){all:List Nat}:
  ∀{bor:Bool} {gone:List Nat} {us:List V} {ps:List Bf},Bm st0.H all bor gone us ps→∀{xs:List Value},us.length=xs.length→(∀(i:Nat) (u:V) (x:Value),us[i]? =some u→xs[i]? =some x→RV w0 R0 G0 u x)→
  ∀{st:St} {G:Nat→Option Loc} {F:Nat→Prop},Ac c st a w R G→(∀i∈J3 us ps,G i=G0 i)→Cm w R (B4 ps) (Du ps xs) F→(J3 us ps).Nodup→
  (∀b,F b→¬R b∧(c.L b∨c.w0.heap.size≤b)∧∀k ek lk,st.H k=some ek→G k=some lk→lk.gen=ek.gen→¬lk.ft b)→
  ∃G',Ac c {st with H:=Bx st.H (Ns g us ps)} a w R G'∧Gle G G'∧(∀i,i∉J3 us ps→G' i=G i)∧
   (∀k ek lk b,Bx st.H (Ns g us ps) k=some ek→G' k=some lk→lk.gen=ek.gen→lk.ft b→F b∨(st.H k=some ek∧G k=some lk)):=by
 intro bor gone us ps hA;have step:∀{u:V} {us:List V} {p q:Bf} {ps:List Bf} {x:Value} {xs:List Value} {id gn:Nat} {l:Loc},
   Ah1 g u p=U8 g id gn q→Akv u p=Qv id q→B4 (p::ps)=q::B4 ps→Du (p::ps) (x::xs)=x::Du ps xs→
   (∀F,Ji w R q x F→∃l',Abf gn q x F l'∧Db l l')→G0 id=some l→
   (∀{st:St} {G:Nat→Option Loc} {F:Nat→Prop},Ac c st a w R G→(∀i∈J3 us ps,G i=G0 i)→Cm w R (B4 ps) (Du ps xs) F→(J3 us ps).Nodup→
    (∀b,F b→¬R b∧(c.L b∨c.w0.heap.size≤b)∧∀k ek lk,st.H k=some ek→G k=some lk→lk.gen=ek.gen→¬lk.ft b)→
    ∃G',Ac c {st with H:=Bx st.H (Ns g us ps)} a w R G'∧Gle G G'∧(∀i,i∉J3 us ps→G' i=G i)∧
     (∀k ek lk b,Bx st.H (Ns g us ps) k=some ek→G' k=some lk→lk.gen=ek.gen→lk.ft b→F b∨(st.H k=some ek∧G k=some lk)))→
   ∀{st:St} {G:Nat→Option Loc} {F:Nat→Prop},Ac c st a w R G→(∀i∈J3 (u::us) (p::ps),G i=G0 i)→Cm w R (B4 (p::ps)) (Du (p::ps) (x::xs)) F→(J3 (u::us) (p::ps)).Nodup→
    (∀b,F b→¬R b∧(c.L b∨c.w0.heap.size≤b)∧∀k ek lk,st.H k=some ek→G k=some lk→lk.gen=ek.gen→¬lk.ft b)→
    ∃G',Ac c {st with H:=Bx st.H (Ns g (u::us) (p::ps))} a w R G'∧Gle G G'∧(∀i,i∉J3 (u::us) (p::ps)→G' i=G i)∧
     (∀k ek lk b,Bx st.H (Ns g (u::us) (p::ps)) k=some ek→G' k=some lk→lk.gen=ek.gen→lk.ft b→F b∨(st.H k=some ek∧G k=some lk)):=by
  intro u us p q ps x xs id gn l e1 e2 e3 e4 hloc hG0 ih st G F h hG hP hnd hfree;rw[e3,e4]at hP;obtain⟨F1,F2,h1,h2,h3,h4⟩:=hP;simp only[J3,e2]at hG hnd;simp only[Ns,J3,e1,e2];have hnd':=List.nodup_append.1 hnd;obtain⟨l',hl',hs⟩:=hloc F1 h1;obtain⟨G1,k1,k2,k3,k4,k5⟩:=Abm (g:=g) (id:=id) h h1 hl' (fun l0 hl0=>by
    rw[hG id (List.mem_append_left _ (XB ..)),hG0]at hl0;injection hl0 with hl0;subst hl0;exact .inl hs)
   (fun j hj l0 hl0=>by
    rw[hG _ (List.mem_append_left _ (ZL _ (XO.2 ⟨j,List.mem_range.2 hj,rfl⟩)))]at hl0;exact hgf _ _ hl0) (fun b hb=>hfree b ((h4 b).2 (.inl hb)))
  obtain⟨G2,m1,m2,m3,m5⟩:=ih k1 (fun i hi=>by rw[k3 i (fun q=>hnd'.2.2 i q i hi rfl)];exact hG i (List.mem_append_right _ hi)) h2 hnd'.2.1 (fun b hb=>by
   obtain⟨q1,q2,q3⟩:=hfree b ((h4 b).2 (.inr hb));refine⟨q1,q2,fun i ei li r1 r2 r3 r4=>?_⟩;rcases k5 i ei li b r1 r2 r3 r4 with r|⟨r5,r6⟩
   ·exact(h3 b r).1 hb
   ·exact q3 i ei li r5 r6 r3 r4)
  refine⟨G2,?_,k2.trans m2,fun i hi=>?_,fun k ek lk b q1 q2 q3 q4=>?_⟩
  ·rw[Br];exact m1
  ·rw[m3 i (fun q=>hi (List.mem_append_right _ q)),k3 i (fun q=>hi (List.mem_append_left _ q))]
  ·rw[Br]at q1;rcases m5 k ek lk b q1 q2 q3 q4 with r|⟨r1,r2⟩
   ·exact .inl ((h4 b).2 (.inr r))
   ·rcases k5 k ek lk b r1 r2 q3 q4 with r|r
    ·exact .inl ((h4 b).2 (.inl r))
    ·exact .inr r
 induction hA with
 |nil=>
  intro xs hl hh st G F h hG hP hnd hfree;exact⟨G,h,Gle.refl _,fun _ _=>rfl,fun k ek lk b q1 q2 _ _=>.inr ⟨q1,q2⟩⟩
 | @old gone1 gone u p us ps h1 hd hA ih=>
  intro xs hl hh st G F h hG hP hnd hfree
  match xs,hl with
  |x::xs,hl=>exact ih (by simpa using hl) (fun i u x h1 h2=>hh (i+1) u x (by simpa using h1) (by simpa using h2)) h hG hP hnd hfree
 | @pn gone gone1 id gg e T row cells us ps he hg hT hrow hc hd hn ha hA ih=>
  intro xs hl hh st G F h hG hP hnd hfree
  match xs,hl with
  |x::xs,hl=>exact ih (by simpa using hl) (fun i u x h1 h2=>hh (i+1) u x (by simpa using h1) (by simpa using h2)) h hG hP hnd hfree
 | @po gone id gg e I us ps he hg hT hn ha hA ih=>
  intro xs hl hh st G F h hG hP hnd hfree
  match xs,hl with
  |x::xs,hl=>exact ih (by simpa using hl) (fun i u x h1 h2=>hh (i+1) u x (by simpa using h1) (by simpa using h2)) h hG hP hnd hfree
 | @pf gone id gg e T row I us ps he hg hT hrow hcl hf hn ha hA ih=>
  intro xs hl hh st G F h hG hP hnd hfree
  match xs,hl with
  |x::xs,hl=>exact ih (by simpa using hl) (fun i u x h1 h2=>hh (i+1) u x (by simpa using h1) (by simpa using h2)) h hG hP hnd hfree
 | @ms gone id gg e T rows' us ps he hg hT hr hn ha hlr hA ih=>
  intro xs hl hh
  match xs,hl with
  |x::xs,hl=>
   obtain⟨l,ys,T0,g1,g2,g3,g4,g5,g6,hx,hT0,hop0,hbx0⟩:=h0.objO (hh 0 _ x rfl rfl) he hg;intro st G F h hG hP hnd hfree;exact step (u:=.own id gg) (p:=.ms T e.sz e.rows rows') (x:=x) (q:=.p (.o T e.sz rows')) (id:=id) (gn:=gg) (l:=l) rfl rfl rfl rfl (fun F1 hp=>⟨l,⟨g2,g3,hx.symm,hbx0,hop0⟩,Db.refl _⟩) g1
    (ih (by simpa using hl) (fun i u x h1 h2=>hh (i+1) u x (by simpa using h1) (by simpa using h2))) h hG hP hnd hfree
 | @mn gone gone1 id gg e T row cells cells' us ps he hg hT hrow hc hd hn ha hlc hA ih=>
  intro xs hl hh
  match xs,hl with
  |x::xs,hl=>
   obtain⟨l,ys,b,T0,g1,g2,g3,g4,g5,g6,hbk,hax,hT0,hop0⟩:=h0.objP (hh 0 _ x rfl rfl) he hg (k:=0) (row:=row) (by rw[hrow];rfl);rcases hT0 with hT0|⟨hT0,hb0,b',hv⟩
   ·rw[hT]at hT0;cases hT0
   have hbb:b'=b:=by rw[hv]at hbk;simpa[Value.ownBlock]using hbk
   subst hbb;have hrl:row.length=e.sz:=by rw[hrow]at g6;exact g6.1 row (by simp)
   have hyl:ys.length=e.sz:=by rw[hrow]at g5;have:=g5.1;simpa using this
   have hcl:cells.length=e.sz:=by
    have:=(Gf h0 (bor0:=false) hc (fun e=>e) (xs:=ys) (by omega) (fun i u y q1 q2=>by
     obtain⟨z,r1,r2,r3⟩:=g6.2 0 i row u (by rw[hrow];rfl) q1;rw[Nat.zero_mul,Nat.zero_add,q2]at r1;injection r1 with r1;subst r1;exact r3) (fun k hk=>(hd k hk).2.1)).1.len
    omega
   intro st G F h hG hP hnd hfree;exact step (u:=.ptr id gg 0 0) (p:=.mn T cells cells') (x:=x) (q:=.pn T cells') (id:=id) (gn:=gg) (l:=l) rfl rfl rfl rfl (fun F1 hp=>⟨l,⟨g2,by rw[g3,hlc,hcl],⟨b',by rw[hax];simp,hv⟩,hb0,hop0⟩,Db.refl _⟩) g1
    (ih (by simpa using hl) (fun i u x h1 h2=>hh (i+1) u x (by simpa using h1) (by simpa using h2))) h hG hP hnd hfree
 | @mo gone id gg e I I' us ps he hg hT hn ha hA ih=>
  intro xs hl hh
  match xs,hl with
  |x::xs,hl=>
   obtain⟨l,b,g1,g2,g3,hbk,hax⟩:=h0.objB (hh 0 _ x rfl rfl) he hg;have hbx:l.box=true:=by
    unfold Kz at g3;rw[hT]at g3;obtain⟨F,_,q,_⟩:=g3;exact q
   intro st G F h hG hP hnd hfree;exact step (u:=.ptr id gg 0 0) (p:=.mo I I') (x:=x) (q:=.po I') (id:=id) (gn:=gg) (l:=l) rfl rfl rfl rfl (fun F1 hp=>⟨⟨l.gen,l.sz,l.val,l.box,some F1⟩,⟨g2,⟨b,by rw[hax];simp,hbk⟩,hbx,rfl⟩,⟨rfl,rfl,rfl,rfl⟩⟩) g1
    (ih (by simpa using hl) (fun i u x h1 h2=>hh (i+1) u x (by simpa using h1) (by simpa using h2))) h hG hP hnd hfree
 | @fo gone id gg e T row I I' us ps he hg hT hrow hcl hf hn ha hA ih=>
  intro xs hl hh
  match xs,hl with
  |x::xs,hl=>
   obtain⟨l,b,g1,g2,g3,hbk,hax⟩:=h0.objB (hh 0 _ x rfl rfl) he hg;have hbx:l.box=true:=by
    unfold Kz at g3;rw[hT]at g3;exact g3.2.1
   intro st G F h hG hP hnd hfree;exact step (u:=.ptr id gg 0 0) (p:=.mo I I') (x:=x) (q:=.po I') (id:=id) (gn:=gg) (l:=l) rfl rfl rfl rfl (fun F1 hp=>⟨⟨l.gen,l.sz,l.val,l.box,some F1⟩,⟨g2,⟨b,by rw[hax];simp,hbk⟩,hbx,rfl⟩,⟨rfl,rfl,rfl,rfl⟩⟩) g1
    (ih (by simpa using hl) (fun i u x h1 h2=>hh (i+1) u x (by simpa using h1) (by simpa using h2))) h hG hP hnd hfree
theorem Ao5[Glob]{c:Ctx}{g:Nat→Nat}{b0:Nat}{f:FuncId}{xs:List Value}{us:List V}{ps rs:List Bf}{bor:Bool}{gone:List Nat}(hgen:∀id l0,G id=some l0→l0.gen<g id)(h:Ac c st a w R G)(hr:(execOp a.eval o).run P w=.ok (.enter f xs.toArray) w)(hl:us.length=xs.length)(hh:∀(i:Nat) (u:V) (x:Value),us[i]? =some u→xs[i]? =some x→RV w R G u x)(hA:Bm st.H gone bor gone us ps)(hF:Gl P f ps rs)(hfl:bor=true→∀p∈rs++B4 ps,Zj p)(hout:∀p∈rs,Aaz p=true)(hnd:(V5 b0 rs++J3 us ps).Nodup){next:Act→World→Prop}(hn:∀x w' R' G',Ac c {st with H:=Bx st.H (gone.map (fun i=>(i,none))++(Ns g us ps++Wd g b0 rs))} a w' R' G'→RV w' R' G' (F7 (Qh g b0 rs)) x→next (a.put o.dst x) w'):o.wp P a w next Q:=by
 obtain⟨F,hP,hblk,hall⟩:=Mx h (bor0:=bor) hA (fun e=>e) hl hh;unfold Oper.wp;rw[hr];simp only[Oper.upon];refine(hF.2 w (RB R G st.H gone bor) xs F ?_ hP (h.glb fun b hb=>by obtain⟨id,hid,e,l,q1,q2,q25,q3⟩:=hblk b hb;exact(h.hr.mine id e l b q1 q2 q25 q3).2)).mono ?_
 ·rintro b (hb|⟨_,id,e,l,_,q1,q2,q25,q3⟩)
  ·exact h.lt b hb
  ·exact h.hr.lt q1 q2 q25 q3
 ·rintro e w' ⟨ys,R',F',rfl,hlen,hfr,hsub,hR',hpars,hres⟩
  simp only;have hL:∀b,F b→¬R b∧(c.L b∨c.w0.heap.size≤b)∧∀k ek lk,Bx st.H (gone.map fun i=>(i,none)) k=some ek→G k=some lk→lk.gen=ek.gen→¬lk.ft b:=fun b hb=>by
   obtain⟨id,hid,e,l,q1,q2,q25,q3⟩:=hblk b hb;obtain⟨m1,m2⟩:=h.hr.mine id e l b q1 q2 q25 q3;refine⟨m1,m2,fun k ek lk p1 p2 p25 p3=>?_⟩;obtain⟨p4,p5⟩:=T3 gone st.H p1;exact h.hr.apart k id ek e lk l b p5 q1 (fun e=>p4 (e▸hid)) p2 q2 p25 q25 p3 q3
  have h1:=Ac.drops gone h;have hR2:∀b,(R b∨(R' b∧(F b∨w.heap.size≤b)))→R b∨(b<w'.heap.size∧(c.L b∨c.w0.heap.size≤b)∧(F b∨w.heap.size≤b)):=by
   rintro b (hb|⟨hb,h2⟩)
   ·exact .inl hb
   ·right;have hlt:b<w'.heap.size:=by
     rcases hR' b hb with(hb|⟨_,id,e,l,_,q1,q2,q25,q3⟩)|⟨q,_⟩
     ·exact XH (h.lt b hb) hfr.size
     ·exact XH (h.hr.lt q1 q2 q25 q3) hfr.size
     ·exact q
    refine⟨hlt,?_,h2⟩;rcases h2 with h2|h2
    ·exact(hL b h2).2.1
    ·exact .inr (XI h.fr.size h2)
  have h2:=h1.world (R':=fun b=>R b∨(R' b∧(F b∨w.heap.size≤b))) hfr (fun b hb=>.inl hb) hL hR2;have hfree:∀b,F' b→¬(R b∨(R' b∧(F b∨w.heap.size≤b)))∧(c.L b∨c.w0.heap.size≤b)∧∀k ek lk,Bx st.H (gone.map fun i=>(i,none)) k=some ek→G k=some lk→lk.gen=ek.gen→¬lk.ft b:=fun b hb=>by
   have q1:=hpars.free b hb;have q0:¬(R b∨(R' b∧(F b∨w.heap.size≤b))):=by
    rintro (q|q)
    ·exact q1 (hsub b (.inl q))
    ·exact q1 q.1
   rcases hres b hb with q2|q2
   ·exact⟨q0,(hL b q2).2.1,(hL b q2).2.2⟩
   ·exact⟨q0,.inr (XI h.fr.size q2),fun k ek lk p1 p2 p25 p3=>by have:=h1.hr.lt p1 p2 p25 p3;omega⟩
  have hgood:∀p∈rs++B4 ps,Aka p=true:=fun p hp=>by
   rcases XM.1 hp with q|q
   ·have:=hout p q;cases p<;>first|rfl|cases this
   ·exact Oj ps p q
  have hpars':=hpars.move (R':=fun b=>R b∨(R' b∧(F b∨w.heap.size≤b))) hgood (fun p hp=>by
   cases bor with
   |true=>exact .inr (hfl rfl p hp)
   |false=>
    left;intro b hb;rcases hR' b hb with(hb'|⟨e,_⟩)|⟨_,q⟩
    ·exact .inl hb'
    ·cases e
    ·exact .inr ⟨hb,q⟩) (fun b hb=>(hfree b hb).1)
  obtain⟨F1,F2,p1,p2,p3,p4⟩:=Cm.split hlen hpars';have hnd':=List.nodup_append.1 hnd;obtain⟨G1,k1,k2,k3,k5⟩:=Aja h hgen hA hl hh h2 (fun i _=>rfl) p2 hnd'.2.1 (fun b hb=>hfree b ((p4 b).2 (.inr hb)));obtain⟨G2,m1,m2,m3,m4,m5⟩:=Ahb (g:=g) rs ys b0 k1 p1 hout hnd'.1 (fun i hi l0 hl0=>by
   rw[k3 i (fun q=>hnd'.2.2 i hi i q rfl)]at hl0;exact hgen i l0 hl0) (fun b hb=>by
    obtain⟨q1,q2,q3⟩:=hfree b ((p4 b).2 (.inl hb));refine⟨q1,q2,fun i ei li r1 r2 r3 r4=>?_⟩;rcases k5 i ei li b r1 r2 r3 r4 with r|⟨r5,r6⟩
    ·exact p3 b hb r
    ·exact q3 i ei li r5 r6 r3 r4)
  refine hn (Dl ys) w' _ G2 ?_ (Sr m4 m5);rw[Br,Br];exact m1
theorem Arx[Glob]{c:Ctx}{f:FuncId}{xs:List Value}{us:List V}{ps:List Bf}{bor:Bool}{gone:List Nat}{v:Value}(h:Ac c st a w R G)(hr:(execOp a.eval o).run P w=.ok (.enter f xs.toArray) w)(hl:us.length=xs.length)(hh:∀(i:Nat) (u:V) (x:Value),us[i]? =some u→xs[i]? =some x→RV w R G u x)(hA:Bm st.H gone bor gone us ps)(hF:Ij P f ps v){next:Act→World→Prop}(hn:∀w',Fr c.L c.w0 w'→Q (.panic [{v:=v,recovered:=false}]) a w'):o.wp P a w next Q:=by
 obtain⟨F,hP,hblk,hall⟩:=Mx h (bor0:=bor) hA (fun e=>e) hl hh;unfold Oper.wp;rw[hr];simp only[Oper.upon];refine(hF.2 w (RB R G st.H gone bor) xs F ?_ hP (h.glb fun b hb=>by obtain⟨id,hid,e,l,q1,q2,q25,q3⟩:=hblk b hb;exact(h.hr.mine id e l b q1 q2 q25 q3).2)).mono ?_
 ·rintro b (hb|⟨_,id,e,l,_,q1,q2,q25,q3⟩)
  ·exact h.lt b hb
  ·exact h.hr.lt q1 q2 q25 q3
 ·rintro e w' ⟨rfl,hfr⟩
  refine hn w' ⟨hfr.os.trans h.fr.os,hfr.tape.trans h.fr.tape,hfr.output.trans h.fr.output,XI h.fr.size hfr.size,fun k hk hkl=>?_⟩;refine(hfr.block k (XH hk h.fr.size) (fun hl'=>?_)).trans (h.fr.block k hk hkl);obtain⟨id,hid,e,l,q1,q2,q25,q3⟩:=hblk k hl';rcases(h.hr.mine id e l k q1 q2 q25 q3).2 with h5|h5
  ·exact hkl h5
  ·omega
end
end Go.Proofs.YtchbkgnobpejnaaGreatDoor
