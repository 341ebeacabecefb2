/- The framework: part of this claim. -/
import Derived.Test.YtchbkgnobpejnaaGreatDoorYAbsR
set_option linter.unusedSimpArgs false
set_option linter.unusedVariables false
namespace Go.Proofs.YtchbkgnobpejnaaGreatDoor
open Go.RowKit
section
variable [Off]
def Jx:ROp→Bool
 |.call _ _=>true
 |.app _ _ _ _ _ _=>true
 |_=>false
def Aal:Aa→Bool
 |⟨_,none,.mv _⟩=>true
 |_=>false
end
theorem Ts{q:Aa}(h:Aal q=true):∃x,q.op=.mv x∧q.guard=none:=by
 obtain⟨d,g,op⟩:=q;unfold Aal at h;split at h
 ·rename_i heq;cases heq;exact⟨_,rfl,rfl⟩
 ·cases h
section
variable {P:Program} {env env':Nat→V} {H:Nat→Option Ent} {D:Value→Prop} {b:Nat} {K:V→List (Nat×Option Ent)→Prop}
theorem Aex[Glob]{r:ROp}(hl:Jx r=true)(hv:∀x∈r.looks,val env' x=val env x)(h:Ej P r env H D b K):Ej P r env' H D b K:=by
 cases r with
 |call x args=>
  have h1:=hv x (by simp[ROp.looks]);have h2:args.map (val env')=args.map (val env):=List.map_congr_left fun a ha=>hv a (by simp[ROp.looks,ha]);simp only[Ej]at h ⊢;rw[h1,h2];exact h
 |app T sz bytes z x y=>
  have h1:=hv x (by simp[ROp.looks]);have h2:=hv y (by simp[ROp.looks]);simp only[Ej]at h ⊢;rw[h1,h2];exact h
 |_=>cases hl
theorem Aez[Glob]{r:ROp}{K:V→(Nat→Option Ent)→Prop}(hl:Jx r=true)(hv:∀x∈r.looks,val env' x=val env x)(h:R5 P r env H D b K):R5 P r env' H D b K:=by
 rcases h with h|h
 ·exact .inl (Aex hl hv h)
 ·right;cases r with
  |call x args=>
   have h1:=hv x (by simp[ROp.looks]);have h2:args.map (val env')=args.map (val env):=List.map_congr_left fun a ha=>hv a (by simp[ROp.looks,ha]);simp only[Alv]at h ⊢;rw[h1,h2];exact h
  |_=>exact h.elim
end
theorem Aji{r:ROp}(h:Jx r=true):r.isE=true:=by cases r<;>first|rfl|cases h
section
variable [Off]
def Ac3:ROp→Bool
 |.mv _=>true
 |.slcL _ _ _ _ _=>true
 |.fldA _ _=>true
 |.load _ _ _=>true
 |_=>false
def O3(env:Nat→V)(H H':Nat→Option Ent)(q:Aa):Prop:=match q.op with
 |.slcL _ x _ _ _=>match val env x with
  |.own id _=>H' id=H id
  |.sl _ _=>True
  |_=>False
 |.fldA _ x=>match val env x with
  |.ptr id _ _ _=>H' id=H id
  |.rptr _ _=>True
  |_=>False
 |.load _ _ x=>match val env x with
  |.ptr id _ _ _=>H' id=H id
  |.rptr _ _=>True
  |_=>False
 |_=>True
def Aa6(env:Nat→V)(H H':Nat→Option Ent)(fl:List Aa):List Aa→Prop
 |[]=>True
 |q::qs=>(bif fl.any (fun f=>Nat.beq f.d q.d)then O3 env H H' q else True)∧Aa6 env H H' fl qs
end
theorem Ac8{env:Nat→V}{H H':Nat→Option Ent}{fl:List Aa}:∀l:List Aa,Aa6 env H H' fl l→∀q∈l,fl.any (fun f=>Nat.beq f.d q.d)=true→O3 env H H' q:=by
 intro l
 induction l with
 |nil=>intro _ r hr;simp at hr
 |cons a l ih=>
  intro h r hr hf;obtain⟨h1,h2⟩:=h;rcases XC.1 hr with e|e
  ·subst e;simp only[hf,cond_true]at h1;exact h1
  ·exact ih h2 r e hf
section
variable [Off]
def Ju(fl:List Aa)(env:Nat→V)(H H':Nat→Option Ent)(seg:List Aa)(X:Prop):Prop:=match fl with
 |[]=>X
 |_::_=>Aa6 env H H' fl seg∧X
end
theorem Zb{fl:List Aa}{env:Nat→V}{H H':Nat→Option Ent}{seg:List Aa}{X:Prop}(h:Ju fl env H H' seg X):X∧∀q∈seg,fl.any (fun f=>Nat.beq f.d q.d)=true→O3 env H H' q:=by
 cases fl with
 |nil=>exact⟨h,fun q _ hf=>by simp at hf⟩
 |cons f fl=>exact⟨h.2,Ac8 seg h.1⟩
theorem Ad5{fl:List Aa}{env:Nat→V}{H H':Nat→Option Ent}{seg:List Aa}{X Y:Prop}(hxy:X→Y)(h:Ju fl env H H' seg X):Ju fl env H H' seg Y:=by
 cases fl with
 |nil=>exact hxy h
 |cons f fl=>exact⟨h.1,hxy h.2⟩
theorem Ae9[Glob]{P:Program}{q:Aa}{env env':Nat→V}{H H':Nat→Option Ent}{g:Nat→Nat}{b:Nat}{v:V}{d:List (Nat×Option Ent)}(hf:Ac3 q.op=true)(hv:∀x∈q.op.looks,val env' x=val env x)(hs:Aal q=true∨O3 env H H' q)(h:Ak P q.op env H g b (fun u dh=>u=v∧dh=d)):∀g' b',Ak P q.op env' H' g' b' (fun u dh=>u=v∧dh=[]):=by
 obtain⟨dst,gd,op⟩:=q;intro g' b';cases op with
 |mv x=>
  simp only[Ak]at h ⊢;rw[hv x (by simp[ROp.looks])];exact⟨h.1,trivial⟩
 |slcL sz x lo hi mx=>
  have hs:O3 env H H' ⟨dst,gd,.slcL sz x lo hi mx⟩:=by
   rcases hs with hs|hs
   ·obtain⟨_,e,_⟩:=Ts hs;cases e
   ·exact hs
  simp only[O3]at hs;simp only[Ak]at h ⊢;simp only at hv;rw[hv x (by simp[ROp.looks])];have hlo:∀l,loV env lo l→loV env' lo l:=fun l=>Of (fun y hy=>hv y (by simp[ROp.looks]at hy ⊢;simp[hy]));have hhi:∀n k,hiV env n hi k→hiV env' n hi k:=fun n k=>Ph (fun y hy=>hv y (by simp[ROp.looks]at hy ⊢;simp[hy]));split at h
  ·obtain⟨l,k,h1,h2,h3,h4,h5,h6⟩:=h;refine⟨l,k,hlo _ h1,hhi _ _ h2,h3,h4,h5,?_⟩;cases mx with
   |none=>exact⟨h6.1,trivial⟩
   |some y=>simp only at h6 ⊢;rw[hv y (by simp[ROp.looks])];exact⟨h6.1,h6.2.1,h6.2.2.1,trivial⟩
  ·rename_i id gen hx;rw[hx]at hs;obtain⟨e,l,k,h1,h2,h3,h4,h5,h6,h7,h8⟩:=h;refine⟨e,l,k,hs.trans h1,h2,h3,hlo _ h4,hhi _ _ h5,h6,h7,?_⟩;cases mx with
   |none=>exact⟨trivial,h8.2.1,trivial⟩
   |some y=>simp only at h8 ⊢;rw[hv y (by simp[ROp.looks])];exact⟨h8.1,h8.2.1,h8.2.2.1,h8.2.2.2.1,trivial⟩
  ·rename_i id gen lo0 hi0 hx;rw[hx]at hs;exact hs.elim
  ·exact h.elim
 |fldA off x=>
  have hs:O3 env H H' ⟨dst,gd,.fldA off x⟩:=by
   rcases hs with hs|hs
   ·obtain⟨_,e,_⟩:=Ts hs;cases e
   ·exact hs
  simp only[O3]at hs;simp only[Ak]at h ⊢;simp only at hv;rw[hv x (by simp[ROp.looks])];split at h
  ·exact⟨h.1,trivial⟩
  ·rename_i id gen i o hx;rw[hx]at hs;obtain⟨⟨e,h1,h2⟩,h3,_⟩:=h;exact⟨⟨e,hs.trans h1,h2⟩,h3,trivial⟩
  ·exact h.elim
 |load agg sz x=>
  have hs:O3 env H H' ⟨dst,gd,.load agg sz x⟩:=by
   rcases hs with hs|hs
   ·obtain⟨_,e,_⟩:=Ts hs;cases e
   ·exact hs
  simp only[O3]at hs;simp only[Ak]at h ⊢;simp only at hv;rw[hv x (by simp[ROp.looks])];split at h
  ·exact⟨h.1,h.2.1,trivial⟩
  ·rename_i id gen i o hx;rw[hx]at hs;obtain⟨e,row,h1,h2,h3,h4,h5,_⟩:=h;exact⟨e,row,hs.trans h1,h2,h3,h4,h5,trivial⟩
  ·exact h.elim
 |_=>cases hf
section
variable [Off]
def Aq5(q:Aa):Bool:=q.guard.isNone&&Ac3 q.op
def Afn(ops:Array Oper)(ms:List Nat)(s:Nat)(seg:List Aa)(r:Aa)(fl:List Aa):Bool:=
 Ada ops s seg&&decide (s+seg.length<ops.size)&&Ip ms (s+seg.length+1)&&Jx r.op&&
 (List.range seg.length).all fun i=>match seg[i]? with
  |some q=>(ms.getD (s+seg.length) 0).testBit (s+i)||(Aq5 q&&(Aal q||fl.any fun f=>Nat.beq f.d q.d)&& !(r.reads.contains q.d)&& !(r.d==q.d)&& !(q.reads.contains r.d))
  |none=>false
structure Aar(ops:Array Oper)(seg:List Aa)(r:Aa)(s:Nat)(fl:List Aa):Prop where
 F:Z6 ops seg s
 lt:s+seg.length<ops.size
 cut:Ip (Bn ops) (s+seg.length+1)=true
 late:Jx r.op=true
 each:∀(i:Nat) (q:Aa),seg[i]? =some q→Anc ops (s+seg.length) (s+i)∨(Ac3 q.op=true∧q.guard=none∧(Aal q=true∨fl.any (fun f=>Nat.beq f.d q.d)=true)∧q.d∉r.reads∧r.d≠q.d∧r.d∉q.reads)
end
theorem Aak{ops:Array Oper}{seg:List Aa}{r:Aa}{s:Nat}{fl:List Aa}(h:Afn ops (Bn ops) s seg r fl=true):Aar ops seg r s fl:=by
 unfold Afn at h;simp only[ZO,decide_eq_true_eq,List.all_eq_true,List.mem_range]at h;obtain⟨⟨⟨⟨h1,h2⟩,h3⟩,h4⟩,h5⟩:=h;refine⟨Up (by omega) h1,h2,h3,h4,fun i q hq=>?_⟩;have:=h5 i (ZB.1 hq).1;rw[hq]at this;simp only[Bool.or_eq_true,ZO,Bool.not_eq_true',List.all_eq_true]at this;rcases this with q1|⟨⟨⟨⟨q1,q5⟩,q2⟩,q3⟩,q4⟩
 ·exact .inl (Gu q1)
 ·unfold Aq5 at q1;rw[ZO]at q1;refine .inr ⟨q1.2,by simpa using q1.1,?_,fun hm=>?_,fun e=>?_,fun hm=>?_⟩
  ·simpa using q5
  ·rw[List.contains_iff_mem.2 hm]at q2;cases q2
  ·rw[e]at q3;simp at q3
  ·rw[List.contains_iff_mem.2 hm]at q4;cases q4
section
variable {P:Program} {Q:Exit→Act→World→Prop} {ops:Array Oper} {n:Nat} {g:Nat→Nat}
section
variable [Off]
theorem Aj7[Glob]{c:Ctx}(hn:c.n=n)(D:Pb ops){seg:List Aa}{r:Aa}{s:Nat}{K:St→Prop}{fl:List Aa}(L:Aar ops seg r s fl)(hres:∀(i:Nat) (o:Oper) (q:Aa),ops[s+i]? =some o→seg[i]? =some q→Bh P ops n o=some q)(hnext:Nh P c ops Q (s+seg.length+1) K){stF:St}(hF:K stF):
  ∀(fuel:Nat) (listed:Array Bool) {st:St} {a:Act} {w:World} {R:Nat→Prop} {G:Nat→Option Loc},unl ops listed=fuel→listed.size=ops.size→Fy ops listed→(∀i,i<s→listed.getD i true=true)→listed.getD (s+seg.length) true=true→(∀i,s+seg.length+1≤i→i<ops.size→listed.getD i true=false)→
   st.H=stF.H→st.D=stF.D→(∀t,(∀(i:Nat) (q:Aa),seg[i]? =some q→listed.getD (s+i) true=false→q.d≠t)→st.env t=stF.env t)→
   (∀(i:Nat) (q:Aa),seg[i]? =some q→listed.getD (s+i) true=false→q.guard=none∧∀g b,Ak P q.op stF.env stF.H g b (fun u dh=>u=stF.env q.d∧dh=[]))→
   Ac c st a w R G→wpAny P .any ops Q fuel listed a w:=by
 have hle:=L.lt;have done:∀(fuel:Nat) (listed:Array Bool) {st:St} {a:Act} {w:World} {R:Nat→Prop} {G:Nat→Option Loc},unl ops listed=fuel→listed.size=ops.size→Fy ops listed→(∀i,i<s→listed.getD i true=true)→listed.getD (s+seg.length) true=true→(∀i,s+seg.length+1≤i→i<ops.size→listed.getD i true=false)→(∀i,i<seg.length→listed.getD (s+i) true=true)→
   st.H=stF.H→st.D=stF.D→(∀t,(∀(i:Nat) (q:Aa),seg[i]? =some q→listed.getD (s+i) true=false→q.d≠t)→st.env t=stF.env t)→Ac c st a w R G→wpAny P .any ops Q fuel listed a w:=by
  intro fuel listed st a w R G hf hs hc hb hr ht hall eH eD eE hR;have hst:st=stF:=by
   have e1:st.env=stF.env:=by
    funext t;refine eE t fun i q hq hl=>?_;rw[hall i (ZB.1 hq).1]at hl;cases hl
   obtain⟨env,H,D⟩:=st;simp only at e1 eH eD;rw[e1,eH,eD]
  subst hst;refine hnext fuel listed _ a w hf ⟨hs,hc,fun i hi hi2=>?_,ht⟩ hF ⟨R,G,hR⟩;by_cases hlt:i<s
  ·exact hb i hlt
  ·by_cases he:i=s+seg.length
   ·rw[he];exact hr
   ·have:=hall (i-s) (by omega)
    rwa[show s+(i-s)=i by omega]at this
 intro fuel
 induction fuel with
 |zero=>
  intro listed st a w R G hf hs hc hb hr ht eH eD eE hP hR;exact done 0 listed hf hs hc hb hr ht (fun i hi=>O9 hf (by omega)) eH eD eE hR
 |succ fuel ih=>
  intro listed st a w R G hf hs hc hb hr ht eH eD eE hP hR;by_cases hall:∀i,i<seg.length→listed.getD (s+i) true=true
  ·exact done (fuel+1) listed hf hs hc hb hr ht hall eH eD eE hR
  ·have hex:∃i,i<seg.length∧listed.getD (s+i) true=false:=by
    apply Classical.byContradiction;intro hn;exact hall fun i hi=>by
     cases hq:listed.getD (s+i) true with
     |true=>rfl
     |false=>exact absurd ⟨i,hi,hq⟩ hn
   obtain⟨i0,hi0,hu0⟩:=hex;obtain⟨m,hm1,hm2,hm3⟩:=Hg hu0;have hready:=D7 D hs (by omega:m<ops.size) hm2 hm3;refine⟨fun h=>(by rw[h]at hready;simp at hready),fun x hx=>?_⟩;obtain⟨h1,h2,o,h3,h4⟩:=Bw.1 hx;have hxlo:s≤x:=by
    apply Nat.le_of_not_lt;intro q;rw[hb x q]at h2;cases h2
   have hxne:x≠s+seg.length:=fun e=>by
    rw[e]at h2;rw[Array.getD_eq_getD_getElem?]at h2 hr;simp[show s+seg.length<listed.size by omega]at h2 hr;rw[hr]at h2;cases h2
   have hxhi:x<s+seg.length:=by
    apply Nat.lt_of_not_le;intro q;have:=C5 D hs hc hx (Nn L.cut (i:=x) (j:=s+i0) (by omega) h1 (by omega));rw[hu0]at this;cases this
   obtain⟨i,rfl⟩:∃i,x=s+i:=⟨x-s,by omega⟩;have hrl:i<seg.length:=by omega
   have hq:seg[i]? =some seg[i]:=ZC hrl;have hro:=hres i o _ h3 hq;obtain⟨hop,hdst,hdlt,_⟩:=B9 hro;have hdn:=Jm hro hn;have h2':listed.getD (s+i) true=false:=by
    rw[Array.getD_eq_getD_getElem?]at h2 ⊢;simpa[show s+i<listed.size by omega]using h2
   obtain⟨p2,p1⟩:=hP i _ hq h2';have hedge:=Ga D hs hx;obtain⟨d,hd⟩:=Option.isSome_iff_exists.1 (L.F.some_ i _ hq);have hdd:(seg[i]).d=d:=by simp[Aa.d,hd]
   have hinj:∀(j:Nat) (q:Aa),seg[j]? =some q→q.d=(seg[i]).d→j=i:=fun j q hj e=>I4 L.F.nodup hj hq e;unfold wpOp;simp only[h3];rw[if_pos (B7 hro hR (by rw[p2];rfl))];left;have hstep:Ak P (seg[i]).op st.env st.H (Ax G) (16*((seg[i]).d+Off.o)) (fun u dh=>u=stF.env (seg[i]).d∧dh=[]):=by
    refine D5 (Dz fun t htm=>?_) (fun id e he=>by rw[eH];exact he) (p1 _ _);refine eE t fun j q hj hl e=>?_;subst e;obtain⟨p5,p6⟩:=L.F.reads i j _ q hq hj (by unfold Aa.reads;simp[htm]);rw[hedge _ p6]at hl;cases hl
   refine Dr hop (fun id _ l0 hl0=>Az hl0) hR hstep _ (fun x w' R' G' hR' hV hG'=>?_);have hput:=hR'.put hdn hV;rw[←hdst,hd]at hput;have hcnt:=Iw hs h1 h2;rw[←hdst,hd];refine ih _ (by omega) (by simpa using hs) (Dv D hs hc hx) (fun j hj=>?_) ?_ (fun j hj1 hj2=>?_) ?_ ?_ (fun t ht'=>?_) (fun j q hj hl=>?_) hput
   ·rw[Ai (by omega),if_neg (by omega)];exact hb j hj
   ·rw[Ai (by omega),if_neg (by omega)];exact hr
   ·rw[Ai (by omega),if_neg (by omega)];exact ht j hj1 hj2
   ·exact eH
   ·exact eD
   ·show upd st.env d _ t=_;by_cases htd:t=d
    ·subst htd;rw[Aj,hdd]
    ·rw[Ap _ _ htd];refine eE t fun j q hj hl=>?_;by_cases hji:j=i
     ·subst hji;rw[hq]at hj;injection hj with hj;subst hj
      rw[hdd];exact fun e=>htd e.symm
     ·exact ht' j q hj (by rw[Ai (by omega),if_neg (by omega)];exact hl)
   ·rw[Ai (by omega)]at hl;by_cases hji:s+j=s+i
    ·rw[if_pos hji]at hl;cases hl
    ·rw[if_neg hji]at hl;exact hP j q hj hl
theorem Ajx[Glob]{c:Ctx}(hn:c.n=n)(hdie:Og c Q)(D:Pb ops){seg:List Aa}{r:Aa}{s:Nat}{K:St→Prop}{fl:List Aa}(L:Aar ops seg r s fl)(hres:∀(i:Nat) (o:Oper) (q:Aa),ops[s+i]? =some o→seg[i]? =some q→Bh P ops n o=some q)(hresr:∀o,ops[s+seg.length]? =some o→Bh P ops n o=some r)(hnext:Nh P c ops Q (s+seg.length+1) K){st0:St}{sts:Nat→St}{vs:Nat→V}{ds:Nat→List (Nat×Option Ent)}(T:Cy P g seg st0 sts vs ds)(hend:wpR P [r] (sts seg.length) fun st=>Ju fl (sts seg.length).env (sts seg.length).H st.H seg (K st)):
  ∀(fuel:Nat) (listed:Array Bool) {st:St} {a:Act} {w:World} {R:Nat→Prop} {G:Nat→Option Loc},unl ops listed=fuel→listed.size=ops.size→Fy ops listed→(∀i,i<s→listed.getD i true=true)→(∀i,s+seg.length≤i→i<ops.size→listed.getD i true=false)→
   Mid c seg s st0 vs (sts seg.length).H g listed st G→Ac c st a w R G→wpAny P .any ops Q fuel listed a w:=by
 have hle:=L.lt;have F:=L.F;have hnext2:Nh P c ops Q (s+seg.length+1) fun st=>Ju fl (sts seg.length).env (sts seg.length).H st.H seg (K st):=fun fuel listed st a w q1 q2 q3 q4=>hnext fuel listed st a w q1 q2 (Zb q3).1 q4;have hone:=Acz hn hdie D L.lt L.cut hresr hnext2;have done:∀(fuel:Nat) (listed:Array Bool) {st:St} {a:Act} {w:World} {R:Nat→Prop} {G:Nat→Option Loc},unl ops listed=fuel→listed.size=ops.size→Fy ops listed→(∀i,i<s→listed.getD i true=true)→(∀i,s+seg.length≤i→i<ops.size→listed.getD i true=false)→(∀i,i<seg.length→listed.getD (s+i) true=true)→
   Mid c seg s st0 vs (sts seg.length).H g listed st G→Ac c st a w R G→wpAny P .any ops Q fuel listed a w:=by
  intro fuel listed st a w R G hf hs hc hb ht hall M hR;have hst:st=sts seg.length:=by
   have e1:st.env=(sts seg.length).env:=by
    funext t;by_cases hex:∃(i:Nat) (r:Aa),seg[i]? =some r∧r.d=t
    ·obtain⟨i,r,h2,rfl⟩:=hex;have h1:i<seg.length:=(ZB.1 h2).1;rw[M.at_ i r h2 (hall i h1)];exact(T.env_at seg.length (ZT _) i r h1 h2).symm
    ·rw[M.other t (fun i r h2 _ h3=>hex ⟨i,r,h2,h3⟩)];exact(T.env_other seg.length (ZT _) t fun j r _ h2 h3=>hex ⟨j,r,h2,h3⟩).symm
   have e3:st.D=(sts seg.length).D:=by rw[hR.die,T.D_at _ (ZT _),M.D0]
   obtain⟨env,H,D⟩:=st;simp only at e1 e3;have e2:H=(sts seg.length).H:=M.H;rw[e1,e2,e3]
  subst hst;refine hone fuel listed _ a w hf ⟨hs,hc,fun i hi hi2=>?_,ht⟩ hend ⟨R,G,hR⟩;by_cases hlt:i<s
  ·exact hb i hlt
  ·have:=hall (i-s) (by omega)
   rwa[show s+(i-s)=i by omega]at this
 intro fuel
 induction fuel with
 |zero=>
  intro listed st a w R G hf hs hc hb ht M hR;exact done 0 listed hf hs hc hb ht (fun i hi=>O9 hf (by omega)) M hR
 |succ fuel ih=>
  intro listed st a w R G hf hs hc hb ht M hR;by_cases hall:∀i,i<seg.length→listed.getD (s+i) true=true
  ·exact done (fuel+1) listed hf hs hc hb ht hall M hR
  ·have hex:∃i,i<seg.length∧listed.getD (s+i) true=false:=by
    apply Classical.byContradiction;intro hn;exact hall fun i hi=>by
     cases hq:listed.getD (s+i) true with
     |true=>rfl
     |false=>exact absurd ⟨i,hi,hq⟩ hn
   obtain⟨i0,hi0,hu0⟩:=hex;obtain⟨m,hm1,hm2,hm3⟩:=Hg hu0;have hready:=D7 D hs (by omega:m<ops.size) hm2 hm3;refine⟨fun h=>(by rw[h]at hready;simp at hready),fun x hx=>?_⟩;obtain⟨h1,h2,o,h3,h4⟩:=Bw.1 hx;have hedge:=Ga D hs hx;have hxlo:s≤x:=by
    apply Nat.le_of_not_lt;intro q;rw[hb x q]at h2;cases h2
   have hxle:x≤s+seg.length:=by
    apply Nat.le_of_not_lt;intro q;have:=C5 D hs hc hx (Nn L.cut (i:=x) (j:=s+i0) (by omega) h1 (by omega));rw[hu0]at this;cases this
   obtain⟨i,rfl⟩:∃i,x=s+i:=⟨x-s,by omega⟩;by_cases hie:i=seg.length
   ·
    subst hie;have hro:=hresr o h3;obtain⟨hop,hdst,hdlt,_⟩:=B9 hro;have hdn:=Jm hro hn;have hun:∀(j:Nat) (q:Aa),seg[j]? =some q→listed.getD (s+j) true=false→Ac3 q.op=true∧q.guard=none∧(Aal q=true∨fl.any (fun f=>Nat.beq f.d q.d)=true)∧q.d∉r.reads∧r.d≠q.d∧r.d∉q.reads:=fun j q hj hl=>by
     rcases L.each j q hj with e|e
     ·rw[C5 D hs hc hx e]at hl;cases hl
     ·exact e
    have hsee:∀t∈r.reads,st.env t=(sts seg.length).env t:=fun t htr=>by
     by_cases hex:∃(j:Nat) (q:Aa),seg[j]? =some q∧q.d=t
     ·obtain⟨j,q,p2,p3⟩:=hex;subst p3;have hjl:j<seg.length:=(ZB.1 p2).1;have hl:listed.getD (s+j) true=true:=by
       cases hq:listed.getD (s+j) true with
       |true=>rfl
       |false=>exact absurd htr (hun j q p2 hq).2.2.2.1
      rw[M.at_ j q p2 hl];exact(T.env_at seg.length (ZT _) j q hjl p2).symm
     ·rw[M.other t (fun j q p2 _ p3=>hex ⟨j,q,p2,p3⟩)];exact(T.env_other seg.length (ZT _) t fun j q _ p2 p3=>hex ⟨j,q,p2,p3⟩).symm
    have hgv:gv st.env r.guard=gv (sts seg.length).env r.guard:=by
     cases hgd:r.guard with
     |none=>rfl
     |some p=>
      obtain⟨s',want⟩:=p;simp only[gv];rw[hsee s' (by unfold Aa.reads;rw[hgd];simp)]
    have hcnt:=Iw hs h1 h2;have eD:st.D=(sts seg.length).D:=by rw[hR.die,T.D_at _ (ZT _),M.D0]
    have henv:∀t,(∀(j:Nat) (q:Aa),seg[j]? =some q→listed.getD (s+j) true=false→q.d≠t)→st.env t=(sts seg.length).env t:=fun t ht'=>by
     by_cases hex:∃(j:Nat) (q:Aa),seg[j]? =some q∧q.d=t
     ·obtain⟨j,q,p2,p3⟩:=hex;subst p3;have hjl:j<seg.length:=(ZB.1 p2).1;have hl:listed.getD (s+j) true=true:=by
       cases hq:listed.getD (s+j) true with
       |true=>rfl
       |false=>exact absurd rfl (ht' j q p2 hq)
      rw[M.at_ j q p2 hl];exact(T.env_at seg.length (ZT _) j q hjl p2).symm
     ·rw[M.other t (fun j q p2 _ p3=>hex ⟨j,q,p2,p3⟩)];exact(T.env_other seg.length (ZT _) t fun j q _ p2 p3=>hex ⟨j,q,p2,p3⟩).symm
    have hval:∀(j:Nat) (q:Aa),seg[j]? =some q→q.guard=none→∀(e':Nat→V) (H':Nat→Option Ent),Ac3 q.op=true→(∀t∈q.reads,e' t=(sts seg.length).env t)→(Aal q=true∨O3 (sts seg.length).env (sts seg.length).H H' q)→∀g b,Ak P q.op e' H' g b (fun u dh=>u=(sts seg.length).env q.d∧dh=[]):=fun j q p2 p4 e' H' p3 p5 p6=>by
     have hjl:j<seg.length:=(ZB.1 p2).1;rw[T.env_at seg.length (ZT _) j q hjl p2];have hrun:=T.step j _ p2;rcases hrun.go with⟨q1,_,_⟩|⟨_,q2⟩
     ·rw[p4]at q1;simp[gv]at q1
     ·have q3:=D5 (env':=(sts seg.length).env) (H':=(sts seg.length).H) (Dz fun t htm=>?_) (fun id e he=>T.H_mono (i:=j) (by omega) (ZT _) he) q2
      ·exact Ae9 p3 (Dz fun t htm=>p5 t (by unfold Aa.reads;simp[htm])) p6 q3
      ·by_cases hex:∃(k:Nat) (q':Aa),seg[k]? =some q'∧q'.d=t
       ·obtain⟨k,q',k2,rfl⟩:=hex;obtain⟨k3,_⟩:=F.reads j k _ q' p2 k2 (by unfold Aa.reads;simp[htm]);rw[T.env_at seg.length (ZT _) k q' (by omega) k2,T.env_at j (by omega) k q' k3 k2]
       ·rw[T.env_other seg.length (ZT _) t fun k q' _ k2 k3=>hex ⟨k,q',k2,k3⟩,T.env_other j (by omega) t fun k q' _ k2 k3=>hex ⟨k,q',k2,k3⟩]
    have fin:∀{u:V} {H':Nat→Option Ent} {a':Act} {w':World} {R':Nat→Prop} {G':Nat→Option Loc},Ju fl (sts seg.length).env (sts seg.length).H (St.put {sts seg.length with H:=H'} r.dst u).H seg (K (St.put {sts seg.length with H:=H'} r.dst u))→Ac c (St.put {st with H:=H'} r.dst u) a' w' R' G'→wpAny P .any ops Q fuel (listed.setIfInBounds (s+seg.length) true) a' w':=by
     intro u H' a' w' R' G' hK hR';have hpe:∀(e0:Nat→V) (H0:Nat→Option Ent) (D0:Value→Prop) t,t≠r.d→(St.put ⟨e0,H0,D0⟩ r.dst u).env t=e0 t:=fun e0 H0 D0 t ht'=>by
      cases hd:r.dst with
      |none=>rfl
      |some d=>
       show upd e0 d u t=e0 t;exact Ap _ _ (fun e=>ht' (by rw[e];simp[Aa.d,hd]))
     have hpH:∀(e0:Nat→V) (H0:Nat→Option Ent) (D0:Value→Prop),(St.put ⟨e0,H0,D0⟩ r.dst u).H=H0:=fun e0 H0 D0=>by cases r.dst<;>rfl
     have hpD:∀(e0:Nat→V) (H0:Nat→Option Ent) (D0:Value→Prop),(St.put ⟨e0,H0,D0⟩ r.dst u).D=D0:=fun e0 H0 D0=>by cases r.dst<;>rfl
     obtain⟨hK,hSt⟩:=Zb hK;refine Aj7 hn D L hres hnext hK fuel _ (by omega) (by simpa using hs) (Dv D hs hc hx) (fun j hj=>?_) ?_ (fun j hj1 hj2=>?_) ?_ ?_ (fun t ht'=>?_) (fun j q hj hl=>?_) hR'
     ·rw[Ai (by omega),if_neg (by omega)];exact hb j hj
     ·rw[Ai (by omega),if_pos rfl]
     ·rw[Ai (by omega),if_neg (by omega)];exact ht j (by omega) hj2
     ·rw[hpH,hpH]
     ·rw[hpD,hpD,eD]
     ·by_cases htr:t=r.d
      ·cases hd:r.dst with
       |none=>
        show st.env t=(sts seg.length).env t;exact henv t fun j q hj hl=>ht' j q hj (by
         have:=(ZB.1 hj).1;rw[Ai (by omega),if_neg (by omega)];exact hl)
       |some d=>
        have:t=d:=by rw[htr];simp[Aa.d,hd]
        subst this;show upd st.env t u t=upd (sts seg.length).env t u t;rw[Aj,Aj]
      ·rw[hpe _ _ _ t htr,hpe _ _ _ t htr];exact henv t fun j q hj hl=>ht' j q hj (by
        have:=(ZB.1 hj).1;rw[Ai (by omega),if_neg (by omega)];exact hl)
     ·have hjl:=(ZB.1 hj).1;rw[Ai (by omega),if_neg (by omega)]at hl;obtain⟨e1,e2,e25,e3,e4,e5⟩:=hun j q hj hl;refine⟨e2,fun g b=>?_⟩;rw[hpe _ _ _ q.d (fun e=>e4 e.symm)];refine hval j q hj e2 _ _ e1 (fun t htm=>hpe _ _ _ t fun e=>e5 (by rw[←e];exact htm)) ?_ g b;rcases e25 with e25|e25
      ·exact .inl e25
      ·exact .inr (hSt q (ZH hj) e25)
    unfold wpOp;simp only[h3];have hw:=hend;simp only[wpR]at hw;rcases Je hw with⟨hg,hw⟩|⟨hg,hw⟩
    ·rw[if_pos (B7 hro hR (hgv.trans hg))];left;unfold opR at hw;rw[if_pos (Aji L.late)]at hw;have hw2:=Aez (env':=st.env) L.late (Dz fun t htm=>hsee t (by unfold Aa.reads;simp[htm])) hw;rw[←M.H,←eD]at hw2;refine Ja (d:=r.d+Off.o) hop hR hw2 (fun u H' hk x w' R' G' hR' hV=>?_) (fun v hv w' hfr=>hdie v _ w' (hR.die▸hv) hfr hR.defers);have:=hR'.put hdn hV;rw[M.H,eD]at hk;rw[←hdst]at *;exact fin hk this
    ·rw[if_neg (by rw[B7 hro hR (hgv.trans hg)];simp)];have:=hR.put hdn (u:=.v undef) (.v undef);rw[←hdst]at *;exact fin (H':=(sts seg.length).H) hw (by rw[←M.H];exact this)
   ·have hrl:i<seg.length:=by omega
    have hr:seg[i]? =some seg[i]:=ZC hrl;have hro:=hres i o _ h3 hr;obtain⟨hop,hdst,hdlt,_⟩:=B9 hro;have hdn:=Jm hro hn;have hrun:=T.step i _ hr;have hsome:=T.some_ i _ hr;have hsee:∀t∈(seg[i]).reads,st.env t=(sts i).env t:=fun t htr=>by
     by_cases hex:∃(j:Nat) (q:Aa),seg[j]? =some q∧q.d=t
     ·obtain⟨j,q,p2,p3⟩:=hex;subst p3;obtain⟨p4,p5⟩:=F.reads i j _ q hr p2 htr;rw[M.at_ j q p2 (hedge _ p5)];exact(T.env_at i (by omega) j q p4 p2).symm
     ·rw[M.other t (fun j q p2 _ p3=>hex ⟨j,q,p2,p3⟩)];exact(T.env_other i (by omega) t fun j q _ p2 p3=>hex ⟨j,q,p2,p3⟩).symm
    have hgv:gv st.env (seg[i]).guard=gv (sts i).env (seg[i]).guard:=by
     cases hgd:(seg[i]).guard with
     |none=>rfl
     |some p=>
      obtain⟨s',want⟩:=p;simp only[gv];rw[hsee s' (by unfold Aa.reads;rw[hgd];simp)]
    have hHsub:∀id e,(sts i).H id=some e→st.H id=some e:=fun id e he=>by
     rw[M.H];exact T.H_mono (i:=i) (by omega) (ZT _) he
    have hnext':∀{st':St} {a':Act} {w':World} {R':Nat→Prop} {G':Nat→Option Loc},st'.H=(sts seg.length).H→st'.env=upd st.env (seg[i]).d (vs i)→(∀id,id/16≠(seg[i]).d+Off.o→G' id=G id)→Ac c st' a' w' R' G'→wpAny P .any ops Q fuel (listed.setIfInBounds (s+i) true) a' w':=by
     intro st' a' w' R' G' e1 e2 e3 hR';have hcnt:=Iw hs h1 h2;refine ih _ (by omega) (by simpa using hs) (Dv D hs hc hx) (fun j hj=>?_) (fun j hj1 hj2=>?_) ⟨M.D0,e1,fun j q p2 p3=>?_,fun t p=>?_,fun j q p2 p3 id p4 l p5=>?_⟩ hR'
     ·rw[Ai (by omega),if_neg (by omega)];exact hb j hj
     ·rw[Ai (by omega),if_neg (by omega)];exact ht j hj1 hj2
     ·rw[e2];by_cases hji:j=i
      ·subst hji;rw[hr]at p2;injection p2 with p2;subst p2;rw[Aj]
      ·rw[Ap _ _ (fun e=>hji (T.inj p2 hr e))];rw[Ai (by omega),if_neg (by omega)]at p3;exact M.at_ j q p2 p3
     ·rw[e2,Ap _ _ (fun e=>p i _ hr (by rw[Ai (by omega),if_pos rfl]) e.symm)];refine M.other t fun j q p2 p3=>p j q p2 ?_;rw[Ai (by omega)];split
      ·rfl
      ·exact p3
     ·rw[Ai (by omega)]at p3;by_cases hji:s+j=s+i
      ·rw[if_pos hji]at p3;cases p3
      ·rw[if_neg hji]at p3;rw[e3 id (fun e=>hji (by rw[T.inj p2 hr (by omega)]))]at p5;exact M.fresh j q p2 p3 id p4 l p5
    unfold wpOp;simp only[h3];rcases hrun.go with⟨q1,q2,q3⟩|⟨q1,q2⟩
    ·rw[if_neg (by rw[B7 hro hR (hgv.trans q1)];simp)];have:=hR.put hdn (u:=.v undef) (.v undef);refine hnext' (st':=st.put o.dst (.v undef)) ?_ ?_ (fun _ _=>rfl) this
     ·rw[←hdst,hsome];exact M.H
     ·rw[←hdst,hsome,q2];rfl
    ·rw[if_pos (B7 hro hR (hgv.trans q1))];left;have hq:=D5 (env':=st.env) (H':=st.H) (Dz fun t htm=>hsee t (by unfold Aa.reads;simp[htm])) hHsub q2;refine Dr hop (fun id hid l0 hl0=>M.fresh i _ hr h2 id hid l0 hl0) hR hq _ (fun x w' R' G' hR' hV hG'=>?_);have hHeq:Bx st.H (ds i)=st.H:=by
      rw[M.H];exact T.H_fin hr
     rw[hHeq]at hR';have:=hR'.put hdn hV;refine hnext' (st':=St.put st o.dst (vs i)) ?_ ?_ hG' this
     ·rw[←hdst,hsome];exact M.H
     ·rw[←hdst,hsome];rfl
theorem Ahw[Glob]{c:Ctx}(hn:c.n=n)(hdie:Og c Q)(D:Pb ops){seg:List Aa}{r:Aa}{s:Nat}{K:St→Prop}{fl:List Aa}(L:Aar ops seg r s fl)(hres:∀(i:Nat) (o:Oper) (q:Aa),ops[s+i]? =some o→seg[i]? =some q→Bh P ops n o=some q)(hresr:∀o,ops[s+seg.length]? =some o→Bh P ops n o=some r)(hnext:Nh P c ops Q (s+seg.length+1) K):Nh P c ops Q s (fun st=>wpD P seg st fun st'=>wpR P [r] st' fun st''=>Ju fl st'.env st'.H st''.H seg (K st'')):=by
 intro fuel listed st a w hf hA hw hR;have hle:=L.lt;have F:=L.F;obtain⟨R,G,hR⟩:=hR;have h':N1 P seg {st with H:=Kx (C9 seg) st.H} (fun st'=>wpR P [r] st' fun st''=>Ju fl st'.env st'.H st''.H seg (K st'')):=hw;obtain⟨sts,vs,ds,t1,t2,t3⟩:=Abt (Ax G) _ h';have T:Cy P (Ax G) seg {st with H:=Kx (C9 seg) st.H} sts vs ds:=by
  refine⟨t1,t3,F.nodup,fun i r hr=>?_,fun id e he i r hr hal e2=>?_⟩
  ·obtain⟨d,hd⟩:=Option.isSome_iff_exists.1 (F.some_ i r hr);rw[hd];simp[Aa.d,hd]
  ·obtain⟨d,hd⟩:=Option.isSome_iff_exists.1 (F.some_ i r hr);refine(Gd he).2 ?_;unfold C9;rw[List.mem_filterMap];refine⟨r,ZH hr,?_⟩;rw[if_pos hal,e2,hd];simp[Aa.d,hd]
 have hMid:Ac c {st with H:=(sts seg.length).H} a w R G:=by
  refine hR.more fun id e he=>?_;rcases T.H_from seg.length (ZT _) id e he with q|⟨j,r,q1,q2,q3,q4,q5⟩
  ·exact .inl (Gd q).1
  ·exact .inr fun l hl=>by rw[q4];exact Az hl
 refine Ajx (st:={st with H:=(sts seg.length).H}) hn hdie D L hres hresr hnext T t2 fuel listed hf hA.size hA.closed (fun i hi=>hA.yes i hi (by omega)) (fun i hi hi2=>hA.no i (by omega) hi2) ⟨hR.die,rfl,fun i r hr hl=>?_,fun t _=>rfl,fun i r hr hl id hid l hl'=>Az hl'⟩ hMid;have hi:i<seg.length:=(ZB.1 hr).1;rw[hA.no (s+i) (by omega) (by omega)]at hl;cases hl
end
end
end Go.Proofs.YtchbkgnobpejnaaGreatDoor
