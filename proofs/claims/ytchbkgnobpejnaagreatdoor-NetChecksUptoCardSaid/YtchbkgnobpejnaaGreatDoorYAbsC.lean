/- The framework: part of this claim. -/
import Derived.Test.YtchbkgnobpejnaaGreatDoorYAbsB
set_option linter.unusedSimpArgs false
set_option linter.unusedVariables false
namespace Go.Proofs.YtchbkgnobpejnaaGreatDoor
open Go.RowKit
section
variable [Off]
def Akx(l:List Operand):List Nat:=l.filterMap fun x=>match x with|.tmp t=>some t|_=>none
def Aa.reads(r:Aa):List Nat:=(match r.guard with|some (s,_)=>[s]|none=>[])++Akx r.op.looks
def An6(o:Oper)(j:Nat):Bool:=o.after.any fun e=>e.on==j&&Region.binds .any e
def Jj(ops:Array Oper)(i j:Nat):Bool:=match ops[i]? with|some o=>An6 o j|none=>false
def S7(acc:List Nat)(o:Oper):Nat:=o.after.foldl (fun m e=>if Region.binds .any e then m|||2^e.on|||acc.getD e.on 0 else m) 0
def Zz:List Oper→List Nat→List Nat
 |[],acc=>acc
 |o::l,acc=>Zz l (acc++[S7 acc o])
def Bn(ops:Array Oper):List Nat:=Zz ops.toList []
def Ip(ms:List Nat)(s:Nat):Bool:=(ms.drop s).all fun m=>m&&&(2^s-1)==2^s-1
def Ada(ops:Array Oper)(s:Nat)(seg:List Aa):Bool:=
 (seg.all fun r=>r.op.quiet&&r.dst.isSome)&&decide ((seg.map Aa.d).Nodup)&&
 ((List.range seg.length).all fun i=>(List.range seg.length).all fun j=>match seg[i]?,seg[j]? with
  |some r,some q=> !(r.reads.contains q.d)||(decide (j<i)&&Jj ops (s+i) (s+j))
  |_,_=>false)
def Afd(ops:Array Oper):Bool:=(List.range ops.size).all fun i=>match ops[i]? with
 |some o=>o.after.all fun e=> !(Region.binds .any e)||decide (e.on<i)
 |none=>false
def G3(ms:List Nat):Nat→List Aa→List Aa→List (List Aa)
 |_,cur,[]=>if cur.isEmpty then []else [cur.reverse]
 |i,cur,r::rs=>if Ip ms i&& !cur.isEmpty then cur.reverse::G3 ms (i+1) [r] rs else G3 ms (i+1) (r::cur) rs
def Al2(ops:Array Oper)(rs:List Aa):List (List Aa):=G3 (Bn ops) 0 [] rs
end
section
variable {P:Program} {Q:Exit→Act→World→Prop} {ops:Array Oper} {n:Nat} {g:Nat→Nat}
section
variable [Off]
structure Ak1[Glob](P:Program)(g:Nat→Nat)(r:Aa)(st st':St)(v:V)(dH:List (Nat×Option Ent)):Prop where
 go:(gv st.env r.guard=some false∧v=.v undef∧dH=[])∨(gv st.env r.guard=some true∧Ak P r.op st.env st.H g (16*(r.d+Off.o)) (fun u d=>u=v∧d=dH))
 new:W6 g (16*(r.d+Off.o)) (16*(r.d+Off.o)+16) dH
 quiet:r.op.allocs=false→dH=[]
 next:st'=St.put {st with H:=Bx st.H dH} r.dst v
theorem Abt[Glob](g:Nat→Nat):∀(rs:List Aa) {st:St} {K:St→Prop},N1 P rs st K→∃(sts:Nat→St) (vs:Nat→V) (ds:Nat→List (Nat×Option Ent)),sts 0=st∧K (sts rs.length)∧
  ∀i r,rs[i]? =some r→Ak1 P g r (sts i) (sts (i+1)) (vs i) (ds i)
 |[],st,K,h=>⟨fun _=>st,fun _=>.any,fun _=>[],rfl,h,fun i r hr=>by simp at hr⟩
 |r::rs,st,K,h=>by
  simp only[N1]at h;have fin:∀(v:V) (dH:List (Nat×Option Ent)) (st':St),Ak1 P g r st st' v dH→N1 P rs st' K→∃(sts:Nat→St) (vs:Nat→V) (ds:Nat→List (Nat×Option Ent)),sts 0=st∧K (sts (r::rs).length)∧
    ∀i q,(r::rs)[i]? =some q→Ak1 P g q (sts i) (sts (i+1)) (vs i) (ds i):=fun v dH st' hrun hw=>by
   obtain⟨sts,vs,ds,h1,h2,h3⟩:=Abt g rs hw;refine⟨fun i=>match i with|0=>st|i+1=>sts i,fun i=>match i with|0=>v|i+1=>vs i,fun i=>match i with|0=>dH|i+1=>ds i,rfl,h2,fun i q hq=>?_⟩;cases i with
   |zero=>simp at hq;subst hq;show Ak1 P g r st (sts 0) v dH;rw[h1];exact hrun
   |succ i=>exact h3 i q (by simpa using hq)
  rcases Je h with⟨hg,h⟩|⟨hg,h⟩
  ·have hq:Ak P r.op st.env st.H g (16*(r.d+Off.o)) (Fd r st fun st'=>N1 P rs st' K):=by
    unfold opD at h;split at h
    ·exact h g
    ·rename_i hal;exact I6 (by simpa using hal) h
   obtain⟨u,dH,h1,h2,h3,h4⟩:=Mp hq;exact fin u dH _ ⟨.inr ⟨hg,h1⟩,h3,h4,rfl⟩ h2
  ·exact fin (.v undef) [] _ ⟨.inl ⟨hg,rfl,rfl⟩,trivial,fun _=>rfl,rfl⟩ h
end
theorem Q0{g:Nat→Nat}:∀(dH:List (Nat×Option Ent)) (lo hi:Nat) (H:Nat→Option Ent) (id:Nat),W6 g lo hi dH→(id<lo∨hi≤id)→Bx H dH id=H id
 |[],_,_,_,_,_,_=>rfl
 |(k,e)::r,lo,hi,H,id,h,hid=>by
  obtain⟨h1,h2,h3,h4⟩:=h;rw[Bx,Q0 r (k+1) hi _ id h4 (by omega),Ap _ _ (by omega)]
theorem Ya{g:Nat→Nat}:∀(dH:List (Nat×Option Ent)) (lo hi:Nat) (H:Nat→Option Ent),W6 g lo hi dH→∀k e,(k,e)∈dH→Bx H dH k=e
 |(k0,e0)::r,lo,hi,H,h,k,e,hm=>by
  obtain⟨h1,h2,h3,h4⟩:=h;rw[Bx];rcases XC.1 hm with q|q
  ·injection q with q1 q2;subst q1 q2;rw[Q0 r (k+1) hi _ k h4 (by omega),Aj]
  ·exact Ya r (k0+1) hi _ h4 k e q
theorem Adi{g:Nat→Nat}:∀(dH:List (Nat×Option Ent)) (lo hi:Nat) (H:Nat→Option Ent),W6 g lo hi dH→∀id e,Bx H dH id=some e→H id=some e∨((id,some e)∈dH∧lo≤id∧id<hi∧e.gen=g id)
 |[],_,_,_,_,id,e,h=>.inl h
 |(k,e0)::r,lo,hi,H,h,id,e,hm=>by
  obtain⟨h1,h2,⟨e',he',hg⟩,h4⟩:=h;rcases Adi r (k+1) hi (upd H k e0) h4 id e hm with q|⟨q1,q2,q3,q4⟩
  ·by_cases hk:id=k
   ·subst hk;rw[Aj]at q;subst q;injection he' with he';subst he'
    exact .inr ⟨by simp,h1,h2,hg⟩
   ·rw[Ap _ _ hk]at q;exact .inl q
  ·exact .inr ⟨ZL _ q1,by omega,q3,q4⟩
theorem Pj:∀(dH:List (Nat×Option Ent)) (H:Nat→Option Ent),(∀k e,(k,e)∈dH→H k=e)→Bx H dH=H
 |[],_,_=>rfl
 |(k,e)::r,H,h=>by
  have e1:upd H k e=H:=by
   funext i;by_cases hi:i=k
   ·subst hi;rw[Aj];exact(h i e (by simp)).symm
   ·rw[Ap _ _ hi]
  rw[Bx,e1];exact Pj r H fun k' e' hm=>h k' e' (ZL _ hm)
theorem Ah4{d id:Nat}(h1:16*d≤id)(h2:id<16*d+16):id/16=d:=by omega
section
variable [Off]
structure Cy[Glob](P:Program)(g:Nat→Nat)(rs:List Aa)(st0:St)(sts:Nat→St)(vs:Nat→V)(ds:Nat→List (Nat×Option Ent)):Prop where
 zero:sts 0=st0
 step:∀(i:Nat) (r:Aa),rs[i]? =some r→Ak1 P g r (sts i) (sts (i+1)) (vs i) (ds i)
 nodup:(rs.map Aa.d).Nodup
 some_:∀(i:Nat) (r:Aa),rs[i]? =some r→r.dst=some r.d
 drop:∀id e,st0.H id=some e→∀(i:Nat) (r:Aa),rs[i]? =some r→r.op.allocs=true→id/16≠r.d+Off.o
end
section
variable [Off]
variable [Glob] {rs:List Aa} {st0:St} {sts:Nat→St} {vs:Nat→V} {ds:Nat→List (Nat×Option Ent)} (T:Cy P g rs st0 sts vs ds)
include T
theorem Cy.inj{i j:Nat}{r q:Aa}(hi:rs[i]? =some r)(hj:rs[j]? =some q)(hd:r.d=q.d):i=j:=by
 have h1:(rs.map Aa.d)[i]? =some r.d:=by rw[XJ,hi];rfl
 have h2:(rs.map Aa.d)[j]? =some r.d:=by rw[XJ,hj,hd];rfl
 have hil:i<(rs.map Aa.d).length:=(ZB.1 h1).1;have hjl:j<(rs.map Aa.d).length:=(ZB.1 h2).1;rw[ZC hil]at h1;rw[ZC hjl]at h2;have hp:=List.pairwise_iff_getElem.1 T.nodup;have e:=(Option.some.inj h1).trans (Option.some.inj h2).symm;rcases Nat.lt_trichotomy i j with q|q|q
 ·exact absurd e (hp i j hil hjl q)
 ·exact q
 ·exact absurd e.symm (hp j i hjl hil q)
theorem Cy.D_at:∀i,i≤rs.length→(sts i).D=st0.D
 |0,_=>by rw[T.zero]
 |i+1,hi=>by
  have hr:rs[i]? =some (rs[i]'(by omega)):=ZC (by omega);have hs:=T.step i _ hr;rw[hs.next,T.some_ i _ hr];exact Cy.D_at i (by omega)
theorem Cy.env_other:∀i,i≤rs.length→∀t,(∀j r,j<i→rs[j]? =some r→r.d≠t)→(sts i).env t=st0.env t
 |0,_,t,_=>by rw[T.zero]
 |i+1,hi,t,h=>by
  have hr:rs[i]? =some (rs[i]'(by omega)):=ZC (by omega);have hs:=T.step i _ hr;rw[hs.next,T.some_ i _ hr];show upd (sts i).env _ _ t=_;rw[Ap _ _ (fun e=>h i _ (by omega) hr e.symm)];exact Cy.env_other i (by omega) t fun j r hj=>h j r (by omega)
theorem Cy.env_at:∀i,i≤rs.length→∀j r,j<i→rs[j]? =some r→(sts i).env r.d=vs j
 |0,_,j,r,hj,_=>by omega
 |i+1,hi,j,r,hj,hjr=>by
  have hr:rs[i]? =some (rs[i]'(by omega)):=ZC (by omega);have hs:=T.step i _ hr;rw[hs.next,T.some_ i _ hr];show upd (sts i).env _ _ r.d=_;by_cases hij:j=i
  ·subst hij;rw[hr]at hjr;injection hjr with hjr;subst hjr
   rw[Aj]
  ·rw[Ap _ _ (fun e=>hij (T.inj hjr hr e))];exact Cy.env_at i (by omega) j r (by omega) hjr
theorem Cy.H_from:∀i,i≤rs.length→∀id e,(sts i).H id=some e→st0.H id=some e∨∃j r,j<i∧rs[j]? =some r∧id/16=r.d+Off.o∧e.gen=g id∧r.op.allocs=true
 |0,_,id,e,h=>by rw[T.zero]at h;exact .inl h
 |i+1,hi,id,e,h=>by
  have hr:rs[i]? =some (rs[i]'(by omega)):=ZC (by omega);have hs:=T.step i _ hr;rw[hs.next,T.some_ i _ hr]at h;have h':Bx (sts i).H (ds i) id=some e:=h;rcases Adi _ _ _ _ hs.new id e h' with q|⟨q1,q2,q3,q4⟩
  ·rcases Cy.H_from i (by omega) id e q with p|⟨j,r,p1,p2⟩
   ·exact .inl p
   ·exact .inr ⟨j,r,by omega,p2⟩
  ·refine .inr ⟨i,_,by omega,hr,Ah4 q2 q3,q4,?_⟩;cases ha:(rs[i]'(by omega)).op.allocs with
   |true=>rfl
   |false=>rw[hs.quiet ha]at q1;simp at q1
theorem Cy.H_step{i:Nat}(hi:i<rs.length){id:Nat}{e:Ent}(h:(sts i).H id=some e):(sts (i+1)).H id=some e:=by
 have hr:rs[i]? =some (rs[i]'hi):=ZC hi;have hs:=T.step i _ hr;have e1:(sts (i+1)).H=Bx (sts i).H (ds i):=by rw[hs.next,T.some_ i _ hr];rfl
 rw[e1];cases ha:(rs[i]'hi).op.allocs with
 |false=>rw[hs.quiet ha];exact h
 |true=>
  have hne:id/16≠(rs[i]'hi).d+Off.o:=by
   rcases T.H_from i (by omega) id e h with p|⟨j,r,p1,p2,p3,_⟩
   ·exact T.drop id e p i _ hr ha
   ·intro e2;have:=T.inj p2 hr (by omega);omega
  rw[Q0 _ _ _ _ id hs.new (by omega)];exact h
theorem Cy.H_mono{i m:Nat}(him:i≤m)(hm:m≤rs.length){id:Nat}{e:Ent}(h:(sts i).H id=some e):(sts m).H id=some e:=by
 induction m with
 |zero=>
  have:i=0:=by omega
  subst this;exact h
 |succ m ih=>
  by_cases q:i=m+1
  ·subst q;exact h
  ·exact T.H_step (by omega) (ih (by omega) (by omega))
theorem Cy.H_fin{i:Nat}{r:Aa}(hr:rs[i]? =some r):Bx (sts rs.length).H (ds i)=(sts rs.length).H:=by
 have hi:i<rs.length:=(ZB.1 hr).1;have hs:=T.step i r hr;refine Pj _ _ fun k e hm=>?_;have h1:=Ya _ _ _ (sts i).H hs.new k e hm;have e1:(sts (i+1)).H=Bx (sts i).H (ds i):=by rw[hs.next,T.some_ i _ hr];rfl
 rw[←e1]at h1;cases e with
 |none=>
  exfalso;have:∀(dH:List (Nat×Option Ent)) (lo hi:Nat),W6 g lo hi dH→(k,none)∉dH:=by
   intro dH
   induction dH with
   |nil=>intro _ _ _;simp
   |cons p dH ih=>
    obtain⟨k',e'⟩:=p
    rintro lo hi ⟨_,_,⟨e2,h5,_⟩,h6⟩ hm
    rcases XC.1 hm with q|q
    ·injection q with _ q;rw[←q]at h5;cases h5
    ·exact ih _ _ h6 q
  exact this _ _ _ hs.new hm
 |some e=>exact T.H_mono (by omega) (ZT _) h1
end
theorem Afj(n i:Nat)(hi:i<n)(p q:Nat→Bool)(hp:p i=true)(hq:q i=false)(h:∀j,j≠i→q j=p j):(List.range n).countP q+1=(List.range n).countP p:=by
 induction n with
 |zero=>omega
 |succ n ih=>
  rw[List.range_succ,List.countP_append,List.countP_append];by_cases hin:i=n
  ·subst hin;have:(List.range i).countP q=(List.range i).countP p:=List.countP_congr fun x hx=>by rw[h x (by have:=List.mem_range.1 hx;omega)]
   simp[hp,hq,this]
  ·have:=ih (by omega);simp[h n (fun e=>hin e.symm)];omega
section
variable [Off]
def unl(ops:Array Oper)(listed:Array Bool):Nat:=(List.range ops.size).countP fun i=> !(listed.getD i true)
end
theorem Iw{listed:Array Bool}(hs:listed.size=ops.size){i:Nat}(hi:i<ops.size)(hu:listed.getD i true=false):unl ops (listed.setIfInBounds i true)+1=unl ops listed:=by
 unfold unl;refine Afj ops.size i hi _ _ (by simp[hu]) ?_ ?_
 ·simp[Array.getD_eq_getD_getElem?,hs,hi]
 ·intro j hj;simp only[Array.getD_eq_getD_getElem?,Array.getElem?_setIfInBounds_ne (fun e=>hj e.symm)]
theorem Ai{listed:Array Bool}{i j:Nat}(hi:i<listed.size){d:Bool}:(listed.setIfInBounds i true).getD j d=if j=i then true else listed.getD j d:=by
 by_cases h:j=i
 ·subst h;simp[Array.getD_eq_getD_getElem?,hi]
 ·rw[if_neg h];simp only[Array.getD_eq_getD_getElem?,Array.getElem?_setIfInBounds_ne (fun e=>h e.symm)]
theorem O9{listed:Array Bool}(h:unl ops listed=0){i:Nat}(hi:i<ops.size):listed.getD i true=true:=by
 unfold unl at h;rw[List.countP_eq_zero]at h;have:=h i (List.mem_range.2 hi);simpa using this
end
end Go.Proofs.YtchbkgnobpejnaaGreatDoor
