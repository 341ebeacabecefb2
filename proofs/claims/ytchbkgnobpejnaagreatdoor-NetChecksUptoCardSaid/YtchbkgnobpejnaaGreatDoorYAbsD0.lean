/- The framework: part of this claim. -/
import Derived.Test.YtchbkgnobpejnaaGreatDoorYAbsC
set_option linter.unusedSimpArgs false
set_option linter.unusedVariables false
namespace Go.Proofs.YtchbkgnobpejnaaGreatDoor
open Go.RowKit
section
variable {P:Program} {Q:Exit→Act→World→Prop} {ops:Array Oper} {n:Nat} {g:Nat→Nat}
theorem Bw{listed:Array Bool}{i:Nat}:i∈Region.ready .any ops listed↔i<ops.size∧listed.getD i true=false∧∃o,ops[i]? =some o∧∀e∈o.after,Region.binds .any e=true→listed.getD e.on false=true:=by
 unfold Region.ready;rw[List.mem_filter,List.mem_range];constructor
 ·rintro ⟨h1,h2⟩
  simp only[ZO]at h2;refine⟨h1,by simpa using h2.1,?_⟩;cases ho:ops[i]? with
  |none=>rw[ho]at h2;simp at h2
  |some o=>
   rw[ho]at h2;simp only[Option.map_some,Option.getD_some,Array.all_eq_true']at h2;exact⟨o,rfl,fun e he hb=>by have:=h2.2 e he;simpa[hb]using this⟩
 ·rintro ⟨h1,h2,o,h3,h4⟩
  refine⟨h1,?_⟩;rw[h3];simp only[h2,Option.map_some,Option.getD_some,Array.all_eq_true',Bool.not_false,Bool.true_and];intro e he;cases hb:Region.binds .any e with
  |false=>simp
  |true=>simp[h4 e he hb]
theorem Oy{o:Oper}{j:Nat}:An6 o j=true↔∃e∈o.after,e.on=j∧Region.binds .any e=true:=by
 unfold An6;rw[Array.any_eq_true'];simp[ZO]
theorem Jg{i j:Nat}:Jj ops i j=true↔∃o,ops[i]? =some o∧An6 o j=true:=by
 unfold Jj;cases h:ops[i]? with
 |none=>simp
 |some o=>simp
section
variable [Off]
inductive Anc(ops:Array Oper):Nat→Nat→Prop where
 |one {i j} (h:Jj ops i j=true):Anc ops i j
 |more {i m j} (h:Jj ops i m=true) (k:Anc ops m j):Anc ops i j
end
theorem Sa:∀(l:List Oper) (acc:List Nat),∃r,Zz l acc=acc++r∧r.length=l.length
 |[],acc=>⟨[],by simp[Zz],rfl⟩
 |o::l,acc=>by
  obtain⟨r,h1,h2⟩:=Sa l (acc++[S7 acc o]);exact⟨S7 acc o::r,by rw[Zz,h1];simp,by simp[h2]⟩
theorem Ajm{acc:List Nat}{o:Oper}{j:Nat}(h:(S7 acc o).testBit j=true):∃e∈o.after,Region.binds .any e=true∧(e.on=j∨(acc.getD e.on 0).testBit j=true):=by
 unfold S7 at h;rw[←Array.foldl_toList]at h;have key:∀(l:List Edge) (m:Nat),(l.foldl (fun m e=>if Region.binds .any e then m|||2^e.on|||acc.getD e.on 0 else m) m).testBit j=true→m.testBit j=true∨∃e∈l,Region.binds .any e=true∧(e.on=j∨(acc.getD e.on 0).testBit j=true):=by
  intro l
  induction l with
  |nil=>intro m h;exact .inl h
  |cons e l ih=>
   intro m h;rw[List.foldl_cons]at h;rcases ih _ h with q|⟨e',q1,q2⟩
   ·split at q
    ·rename_i hb;rw[Nat.testBit_or,Nat.testBit_or,Bool.or_eq_true,Bool.or_eq_true]at q;rcases q with(q|q)|q
     ·exact .inl q
     ·rw[Nat.testBit_two_pow]at q;exact .inr ⟨e,by simp,hb,.inl (by simpa using q)⟩
     ·exact .inr ⟨e,by simp,hb,.inr q⟩
    ·exact .inl q
   ·exact .inr ⟨e',by simp[q1],q2⟩
 rcases key _ _ h with q|⟨e,q1,q2⟩
 ·simp at q
 ·exact⟨e,by simpa using q1,q2⟩
theorem Pg(ops:Array Oper):∀(l:List Oper) (acc:List Nat),(∀k,k<l.length→ops[acc.length+k]? =l[k]?)→(∀i m j,acc[i]? =some m→m.testBit j=true→Anc ops i j)→
  ∀i m j,(Zz l acc)[i]? =some m→m.testBit j=true→Anc ops i j
 |[],acc,_,ha,i,m,j,h1,h2=>ha i m j h1 h2
 |o::l,acc,hl,ha,i,m,j,h1,h2=>by
  refine Pg ops l (acc++[S7 acc o]) (fun k hk=>?_) (fun i m j q1 q2=>?_) i m j h1 h2
  ·have:=hl (k+1) (by simp;omega);rw[ZF,List.length_singleton,show acc.length+1+k=acc.length+(k+1)by omega,this];rfl
  ·by_cases hi:i<acc.length
   ·rw[ZQ hi]at q1;exact ha i m j q1 q2
   ·have hie:i=acc.length:=by
     have:=(ZB.1 q1).1;simp at this;omega
    subst hie;rw[ZP (ZT _)]at q1;simp at q1;subst q1;obtain⟨e,p1,p2,p3⟩:=Ajm q2;have ho:ops[acc.length]? =some o:=by have:=hl 0 (by simp);simpa using this
    have hedge:Jj ops acc.length e.on=true:=Jg.2 ⟨o,ho,Oy.2 ⟨e,p1,rfl,p2⟩⟩;rcases p3 with p3|p3
    ·rw[←p3];exact .one hedge
    ·refine .more hedge ?_;cases hq:acc[e.on]? with
     |none=>rw[List.getD_eq_getElem?_getD,hq]at p3;simp at p3
     |some m'=>rw[List.getD_eq_getElem?_getD,hq]at p3;exact ha e.on m' j hq p3
theorem Nn{s:Nat}(h:Ip (Bn ops) s=true){i j:Nat}(hi:s≤i)(hi2:i<ops.size)(hj:j<s):Anc ops i j:=by
 unfold Ip at h;rw[List.all_eq_true]at h;obtain⟨r,h1,h2⟩:=Sa ops.toList [];have hlen:(Bn ops).length=ops.size:=by unfold Bn;rw[h1];simpa using h2
 have hm:(Bn ops)[i]? =some (Bn ops)[i]:=ZC (by omega);have hmem:(Bn ops)[i]∈(Bn ops).drop s:=ZH (i:=i-s) (by rw[List.getElem?_drop,show s+(i-s)=i by omega];exact hm);have:=h _ hmem;have e:(Bn ops)[i]&&&(2^s-1)=2^s-1:=by simpa using this
 refine Pg ops ops.toList [] (fun k hk=>by simp) (fun i m j q=>by simp at q) i _ j hm ?_;have hb:((Bn ops)[i]&&&(2^s-1)).testBit j=true:=by rw[e,Nat.testBit_two_pow_sub_one];simpa using hj
 rw[Nat.testBit_and,ZO]at hb;exact hb.1
section
variable [Off]
structure Z6(ops:Array Oper)(seg:List Aa)(s:Nat):Prop where
 le:s+seg.length≤ops.size
 some_:∀(i:Nat) (r:Aa),seg[i]? =some r→r.dst.isSome=true
 nodup:(seg.map Aa.d).Nodup
 reads:∀(i j:Nat) (r q:Aa),seg[i]? =some r→seg[j]? =some q→q.d∈r.reads→j<i∧Jj ops (s+i) (s+j)=true
end
theorem Up{seg:List Aa}{s:Nat}(hl:s+seg.length≤ops.size)(h:Ada ops s seg=true):Z6 ops seg s:=by
 unfold Ada at h;simp only[ZO,decide_eq_true_eq,List.all_eq_true,List.mem_range]at h;obtain⟨⟨h1,h2⟩,h3⟩:=h;refine⟨hl,fun i r hr=>(h1 r (ZH hr)).2,h2,fun i j r q hr hq hm=>?_⟩;have:=h3 i (ZB.1 hr).1 j (ZB.1 hq).1;rw[hr,hq]at this;simp only[Bool.or_eq_true,Bool.not_eq_true',ZO,decide_eq_true_eq]at this;rcases this with q1|q1
 ·exfalso;have:r.reads.contains q.d=true:=by simpa using hm
  rw[this]at q1;cases q1
 ·exact q1
section
variable [Off]
def Pb(ops:Array Oper):Prop:=∀i o e,ops[i]? =some o→e∈o.after→Region.binds .any e=true→e.on<i
end
theorem Abp(h:Afd ops=true):Pb ops:=fun i o e ho he hb=>by
 unfold Afd at h;rw[List.all_eq_true]at h;have hi:i<ops.size:=(XL.1 ho).1;have:=h i (List.mem_range.2 hi);rw[ho]at this;simp only[Array.all_eq_true',Bool.or_eq_true,Bool.not_eq_true',decide_eq_true_eq]at this;rcases this e he with q|q
 ·rw[q]at hb;cases hb
 ·exact q
section
variable [Off]
def Fy(ops:Array Oper)(listed:Array Bool):Prop:=∀i j,i<ops.size→listed.getD i true=true→Jj ops i j=true→listed.getD j true=true
end
theorem Dv{listed:Array Bool}(F:Pb ops)(hs:listed.size=ops.size)(hc:Fy ops listed){i:Nat}(hr:i∈Region.ready .any ops listed):Fy ops (listed.setIfInBounds i true):=by
 obtain⟨h1,h2,o,h3,h4⟩:=Bw.1 hr;intro x j hx hl he;rw[Ai (by omega)]at hl ⊢;split
 ·rfl
 ·by_cases hxi:x=i
  ·subst hxi;obtain⟨o',q1,q2⟩:=Jg.1 he;rw[h3]at q1;injection q1 with q1;subst q1
   obtain⟨e,q3,q4,q5⟩:=Oy.1 q2;have:=h4 e q3 q5;rw[q4]at this;have hj:j<ops.size:=by have:=F x o e h3 q3 q5;omega
   simp only[Array.getD_eq_getD_getElem?]at this ⊢;have hjl:j<listed.size:=by omega
   simpa[hjl]using this
  ·rw[if_neg hxi]at hl;exact hc x j hx hl he
theorem D7{listed:Array Bool}(F:Pb ops)(hs:listed.size=ops.size){i:Nat}(hi:i<ops.size)(hu:listed.getD i true=false)(hmin:∀j,j<i→listed.getD j true=true):i∈Region.ready .any ops listed:=by
 have ho:ops[i]? =some ops[i]:=Array.getElem?_eq_getElem hi;refine Bw.2 ⟨hi,hu,_,ho,fun e he hb=>?_⟩;have hlt:=F i _ e ho he hb;have:=hmin e.on hlt;have hjl:e.on<listed.size:=by omega
 simp only[Array.getD_eq_getD_getElem?]at this ⊢;simpa[hjl]using this
theorem Hg{listed:Array Bool}{i:Nat}(hi:listed.getD i true=false):∃m,m≤i∧listed.getD m true=false∧∀j,j<m→listed.getD j true=true:=by
 induction i using Nat.strongRecOn with
 |_ i ih=>
  by_cases h:∀j,j<i→listed.getD j true=true
  ·exact⟨i,ZT _,hi,h⟩
  ·have:∃j,j<i∧listed.getD j true=false:=by
    apply Classical.byContradiction;intro hn;exact h fun j hj=>by
     cases hq:listed.getD j true with
     |true=>rfl
     |false=>exact absurd ⟨j,hj,hq⟩ hn
   obtain⟨j,hj,hq⟩:=this;obtain⟨m,h1,h2⟩:=ih j hj hq;exact⟨m,by omega,h2⟩
theorem Qq{listed:Array Bool}(F:Pb ops)(hc:Fy ops listed):∀{i j:Nat},i<ops.size→Anc ops i j→listed.getD i true=true→listed.getD j true=true:=by
 intro i j hi h
 induction h with
 |one h=>exact fun hl=>hc _ _ hi hl h
 | @more i m j h k ih=>
  intro hl;obtain⟨o,q1,q2⟩:=Jg.1 h;obtain⟨e,q3,q4,q5⟩:=Oy.1 q2;exact ih (by have:=F i o e q1 q3 q5;omega) (hc _ _ hi hl h)
section
variable [Off]
structure At(ops:Array Oper)(s:Nat)(listed:Array Bool):Prop where
 size:listed.size=ops.size
 closed:Fy ops listed
 yes:∀i,i<s→i<ops.size→listed.getD i true=true
 no:∀i,s≤i→i<ops.size→listed.getD i true=false
def Nh[Glob](P:Program)(c:Ctx)(ops:Array Oper)(Q:Exit→Act→World→Prop)(s:Nat)(K:St→Prop):Prop:=
 ∀(fuel:Nat) (listed:Array Bool) (st:St) (a:Act) (w:World),unl ops listed=fuel→At ops s listed→K st→Rel c st a w→wpAny P .any ops Q fuel listed a w
end
theorem Akt[Glob]{c:Ctx}{K:St→Prop}(hK:∀st' a' w',K st'→Rel c st' a' w'→Q .normal a' w'):Nh P c ops Q ops.size K:=by
 intro fuel listed st a w hf hA hk hR;have hnil:Region.ready .any ops listed=[]:=by
  apply List.eq_nil_iff_forall_not_mem.2;intro i hi;obtain⟨h1,h2,_⟩:=Bw.1 hi;rw[hA.yes i h1 h1]at h2;cases h2
 cases fuel with
 |zero=>exact⟨hnil,hK st a w hk hR⟩
 |succ fuel=>exact⟨fun _=>hK st a w hk hR,fun i hi=>by rw[hnil]at hi;simp at hi⟩
theorem Ga{listed:Array Bool}(F:Pb ops)(hs:listed.size=ops.size){i:Nat}(hi:i∈Region.ready .any ops listed):∀j,Jj ops i j=true→listed.getD j true=true:=fun j hj=>by
 obtain⟨h1,h2,o,h3,h4⟩:=Bw.1 hi;obtain⟨o2,q1,q2⟩:=Jg.1 hj;rw[h3]at q1;injection q1 with q1;subst q1
 obtain⟨e,q3,q4,q5⟩:=Oy.1 q2;have h5:=h4 e q3 q5;rw[q4]at h5;have hj:j<ops.size:=by have:=F i o e h3 q3 q5;omega
 simp only[Array.getD_eq_getD_getElem?]at h5 ⊢;have hjl:j<listed.size:=by omega
 simpa[hjl]using h5
theorem C5{listed:Array Bool}(F:Pb ops)(hs:listed.size=ops.size)(hc:Fy ops listed){i j:Nat}(hi:i∈Region.ready .any ops listed)(h:Anc ops i j):listed.getD j true=true:=by
 have h1:=(Bw.1 hi).1;cases h with
 |one h=>exact Ga F hs hi j h
 |more h k=>
  rename_i m;obtain⟨o,q1,q2⟩:=Jg.1 h;obtain⟨e,q3,q4,q5⟩:=Oy.1 q2;exact Qq F hc (by have:=F i o e q1 q3 q5;omega) k (Ga F hs hi m h)
section
variable [Off]
theorem Acz[Glob]{c:Ctx}(hn:c.n=n)(hdie:Og c Q)(F:Pb ops){s:Nat}{r:Aa}{K:St→Prop}(hs:s<ops.size)(hcut:Ip (Bn ops) (s+1)=true)(hres:∀o,ops[s]? =some o→Bh P ops n o=some r)(hnext:Nh P c ops Q (s+1) K):Nh P c ops Q s (fun st=>wpR P [r] st K):=by
 intro fuel listed st a w hf hA hw hR;have hunl:listed.getD s true=false:=hA.no s (ZT _) hs;have hready:s∈Region.ready .any ops listed:=D7 F hA.size hs hunl fun j hj=>hA.yes j hj (by omega);have hcnt:=Iw hA.size hs hunl;cases fuel with
 |zero=>omega
 |succ fuel=>
  refine⟨fun h=>(by rw[h]at hready;simp at hready),fun i hi=>?_⟩;obtain⟨h1,h2,o',h3,h4⟩:=Bw.1 hi;have him:i=s:=by
   rcases Nat.lt_trichotomy i s with q|q|q
   ·rw[hA.yes i q h1]at h2;cases h2
   ·exact q
   ·have:=C5 F hA.size hA.closed hi (Nn hcut (i:=i) (j:=s) (by omega) h1 (by omega));rw[hunl]at this;cases this
  subst him;have hro:=hres o' h3;simp only[wpR]at hw;obtain⟨R,G,hR⟩:=hR;obtain⟨hop,hdst,hdlt,_⟩:=B9 hro;have hdn:=Jm hro hn;have next:∀{st':St},K st'→∀{a' w'},Rel c st' a' w'→wpAny P .any ops Q fuel (listed.setIfInBounds i true) a' w':=fun hk _ _ hR'=>by
   refine hnext fuel _ _ _ _ (by omega) ⟨by simpa using hA.size,Dv F hA.size hA.closed hi,fun j hj hj2=>?_,fun j hj hj2=>?_⟩ hk hR'
   ·rw[Ai (by rw[hA.size];exact h1)];by_cases hji:j=i
    ·rw[if_pos hji]
    ·rw[if_neg hji];exact hA.yes j (by omega) hj2
   ·rw[Ai (by rw[hA.size];exact h1),if_neg (by omega)];exact hA.no j (by omega) hj2
  unfold wpOp;simp only[h3];rcases Je hw with⟨hg,hw⟩|⟨hg,hw⟩
  ·rw[if_pos (B7 hro hR hg)];left;unfold opR at hw;split at hw
   ·refine Ja (d:=r.d+Off.o) hop hR hw (fun u H' hk x w' R' G' hR' hV=>?_) (fun v hv w' hfr=>hdie v _ w' (hR.die▸hv) hfr hR.defers);have:=hR'.put hdn hV;rw[←hdst]at *;exact next hk ⟨R',G',this⟩
   ·have hq:∃g:Nat→Nat,(∀id,id/16=r.d+Off.o→∀l0,G id=some l0→l0.gen<g id)∧Ak P r.op st.env st.H g (16*(r.d+Off.o)) (Fd r st fun st'=>K st'):=by
     refine⟨Ax G,fun id _ l0 h0=>Az h0,?_⟩;split at hw
     ·exact hw _
     ·rename_i hal;exact I6 (by simpa using hal) hw
    obtain⟨g,hgen,hq⟩:=hq;obtain⟨u,dH,p1,p2,_⟩:=Mp hq;refine Dr hop hgen hR p1 _ (fun x w' R' G' hR' hV _=>?_);have:=hR'.put hdn hV;rw[←hdst]at *;exact next p2 ⟨R',G',this⟩
  ·rw[if_neg (by rw[B7 hro hR hg];simp)];have:=hR.put hdn (u:=.v undef) (.v undef);rw[←hdst]at *;exact next hw ⟨R,G,this⟩
structure Mid[Glob](c:Ctx)(seg:List Aa)(s:Nat)(st0:St)(vs:Nat→V)(Hf:Nat→Option Ent)(g:Nat→Nat)(listed:Array Bool)(st:St)(G:Nat→Option Loc):Prop where
 D0:st0.D=c.D
 H:st.H=Hf
 at_:∀i r,seg[i]? =some r→listed.getD (s+i) true=true→st.env r.d=vs i
 other:∀t,(∀(i:Nat) (r:Aa),seg[i]? =some r→listed.getD (s+i) true=true→r.d≠t)→st.env t=st0.env t
 fresh:∀(i:Nat) (r:Aa),seg[i]? =some r→listed.getD (s+i) true=false→∀id,id/16=r.d+Off.o→∀l,G id=some l→l.gen<g id
end
theorem Dz{env env':Nat→V}{l:List Operand}(h:∀t∈Akx l,env' t=env t):∀x∈l,val env' x=val env x:=fun x hx=>by
 cases x with
 |tmp t=>exact h t (List.mem_filterMap.2 ⟨_,hx,rfl⟩)
 |const v=>rfl
 |global g=>rfl
 |func f=>rfl
section
variable [Off]
theorem An3[Glob]{c:Ctx}(hn:c.n=n)(D:Pb ops){seg:List Aa}{s:Nat}{K:St→Prop}(F:Z6 ops seg s)(hcut:Ip (Bn ops) (s+seg.length)=true)(hres:∀(i:Nat) (o:Oper) (r:Aa),ops[s+i]? =some o→seg[i]? =some r→Bh P ops n o=some r)(hnext:Nh P c ops Q (s+seg.length) K){st0:St}{sts:Nat→St}{vs:Nat→V}{ds:Nat→List (Nat×Option Ent)}(T:Cy P g seg st0 sts vs ds)(hend:K (sts seg.length)):
  ∀(fuel:Nat) (listed:Array Bool) {st:St} {a:Act} {w:World} {R:Nat→Prop} {G:Nat→Option Loc},unl ops listed=fuel→listed.size=ops.size→Fy ops listed→(∀i,i<s→listed.getD i true=true)→(∀i,s+seg.length≤i→i<ops.size→listed.getD i true=false)→
   Mid c seg s st0 vs (sts seg.length).H g listed st G→Ac c st a w R G→wpAny P .any ops Q fuel listed a w:=by
 have hle:=F.le;have done:∀(fuel:Nat) (listed:Array Bool) {st:St} {a:Act} {w:World} {R:Nat→Prop} {G:Nat→Option Loc},unl ops listed=fuel→listed.size=ops.size→Fy ops listed→(∀i,i<s→listed.getD i true=true)→(∀i,s+seg.length≤i→i<ops.size→listed.getD i true=false)→(∀i,i<seg.length→listed.getD (s+i) true=true)→
   Mid c seg s st0 vs (sts seg.length).H g listed st G→Ac c st a w R G→wpAny P .any ops Q fuel listed a w:=by
  intro fuel listed st a w R G hf hs hc hb ht hall M hR;have hst:st=sts seg.length:=by
   have e1:st.env=(sts seg.length).env:=by
    funext t;by_cases hex:∃(i:Nat) (r:Aa),seg[i]? =some r∧r.d=t
    ·obtain⟨i,r,h2,rfl⟩:=hex;have h1:i<seg.length:=(ZB.1 h2).1;rw[M.at_ i r h2 (hall i h1)];exact(T.env_at seg.length (ZT _) i r h1 h2).symm
    ·rw[M.other t (fun i r h2 _ h3=>hex ⟨i,r,h2,h3⟩)];exact(T.env_other seg.length (ZT _) t fun j r _ h2 h3=>hex ⟨j,r,h2,h3⟩).symm
   have e3:st.D=(sts seg.length).D:=by rw[hR.die,T.D_at _ (ZT _),M.D0]
   obtain⟨env,H,D⟩:=st;simp only at e1 e3;have e2:H=(sts seg.length).H:=M.H;rw[e1,e2,e3]
  subst hst;refine hnext fuel listed _ a w hf ⟨hs,hc,fun i hi hi2=>?_,ht⟩ hend ⟨R,G,hR⟩;by_cases hlt:i<s
  ·exact hb i hlt
  ·have:=hall (i-s) (by omega)
   rwa[show s+(i-s)=i by omega]at this
 intro fuel
 induction fuel with
 |zero=>
  intro listed st a w R G hf hs hc hb ht M hR;exact done 0 listed hf hs hc hb ht (fun i hi=>O9 hf (by omega)) M hR
 |succ fuel ih=>
  intro listed st a w R G hf hs hc hb ht M hR;by_cases hall:∀i,i<seg.length→listed.getD (s+i) true=true
  ·exact done (fuel+1) listed hf hs hc hb ht hall M hR
  ·have hex:∃i,i<seg.length∧listed.getD (s+i) true=false:=by
    apply Classical.byContradiction;intro hn;exact hall fun i hi=>by
     cases hq:listed.getD (s+i) true with
     |true=>rfl
     |false=>exact absurd ⟨i,hi,hq⟩ hn
   obtain⟨i0,hi0,hu0⟩:=hex;obtain⟨m,hm1,hm2,hm3⟩:=Hg hu0;have hready:=D7 D hs (by omega:m<ops.size) hm2 hm3;refine⟨fun h=>(by rw[h]at hready;simp at hready),fun x hx=>?_⟩;obtain⟨h1,h2,o,h3,h4⟩:=Bw.1 hx;have hedge:=Ga D hs hx;have hxlo:s≤x:=by
    apply Nat.le_of_not_lt;intro q;rw[hb x q]at h2;cases h2
   have hxhi:x<s+seg.length:=by
    apply Nat.lt_of_not_le;intro q;have:=C5 D hs hc hx (Nn hcut (j:=s+i0) q h1 (by omega));rw[hu0]at this;cases this
   obtain⟨i,rfl⟩:∃i,x=s+i:=⟨x-s,by omega⟩;have hrl:i<seg.length:=by omega
   have hr:seg[i]? =some seg[i]:=ZC hrl;have hro:=hres i o _ h3 hr;obtain⟨hop,hdst,hdlt,_⟩:=B9 hro;have hdn:=Jm hro hn;have hrun:=T.step i _ hr;have hsome:=T.some_ i _ hr;have hsee:∀t∈(seg[i]).reads,st.env t=(sts i).env t:=fun t htr=>by
    by_cases hex:∃(j:Nat) (q:Aa),seg[j]? =some q∧q.d=t
    ·obtain⟨j,q,p2,p3⟩:=hex;subst p3;obtain⟨p4,p5⟩:=F.reads i j _ q hr p2 htr;rw[M.at_ j q p2 (hedge _ p5)];exact(T.env_at i (by omega) j q p4 p2).symm
    ·rw[M.other t (fun j q p2 _ p3=>hex ⟨j,q,p2,p3⟩)];exact(T.env_other i (by omega) t fun j q _ p2 p3=>hex ⟨j,q,p2,p3⟩).symm
   have hgv:gv st.env (seg[i]).guard=gv (sts i).env (seg[i]).guard:=by
    cases hgd:(seg[i]).guard with
    |none=>rfl
    |some p=>
     obtain⟨s',want⟩:=p;simp only[gv];rw[hsee s' (by unfold Aa.reads;rw[hgd];simp)]
   have hHsub:∀id e,(sts i).H id=some e→st.H id=some e:=fun id e he=>by
    rw[M.H];exact T.H_mono (i:=i) (by omega) (ZT _) he
   have hnext':∀{st':St} {a':Act} {w':World} {R':Nat→Prop} {G':Nat→Option Loc},st'.H=(sts seg.length).H→st'.env=upd st.env (seg[i]).d (vs i)→(∀id,id/16≠(seg[i]).d+Off.o→G' id=G id)→Ac c st' a' w' R' G'→wpAny P .any ops Q fuel (listed.setIfInBounds (s+i) true) a' w':=by
    intro st' a' w' R' G' e1 e2 e3 hR';have hcnt:=Iw hs h1 h2;refine ih _ (by omega) (by simpa using hs) (Dv D hs hc hx) (fun j hj=>?_) (fun j hj1 hj2=>?_) ⟨M.D0,e1,fun j q p2 p3=>?_,fun t p=>?_,fun j q p2 p3 id p4 l p5=>?_⟩ hR'
    ·rw[Ai (by omega),if_neg (by omega)];exact hb j hj
    ·rw[Ai (by omega),if_neg (by omega)];exact ht j hj1 hj2
    ·rw[e2];by_cases hji:j=i
     ·subst hji;rw[hr]at p2;injection p2 with p2;subst p2;rw[Aj]
     ·rw[Ap _ _ (fun e=>hji (T.inj p2 hr e))];rw[Ai (by omega),if_neg (by omega)]at p3;exact M.at_ j q p2 p3
    ·rw[e2,Ap _ _ (fun e=>p i _ hr (by rw[Ai (by omega),if_pos rfl]) e.symm)];refine M.other t fun j q p2 p3=>p j q p2 ?_;rw[Ai (by omega)];split
     ·rfl
     ·exact p3
    ·rw[Ai (by omega)]at p3;by_cases hji:s+j=s+i
     ·rw[if_pos hji]at p3;cases p3
     ·rw[if_neg hji]at p3;rw[e3 id (fun e=>hji (by rw[T.inj p2 hr (by omega)]))]at p5;exact M.fresh j q p2 p3 id p4 l p5
   unfold wpOp;simp only[h3];rcases hrun.go with⟨q1,q2,q3⟩|⟨q1,q2⟩
   ·rw[if_neg (by rw[B7 hro hR (hgv.trans q1)];simp)];have:=hR.put hdn (u:=.v undef) (.v undef);refine hnext' (st':=st.put o.dst (.v undef)) ?_ ?_ (fun _ _=>rfl) this
    ·rw[←hdst,hsome];exact M.H
    ·rw[←hdst,hsome,q2];rfl
   ·rw[if_pos (B7 hro hR (hgv.trans q1))];left;have hq:=D5 (env':=st.env) (H':=st.H) (Dz fun t htm=>hsee t (by unfold Aa.reads;simp[htm])) hHsub q2;refine Dr hop (fun id hid l0 hl0=>M.fresh i _ hr h2 id hid l0 hl0) hR hq _ (fun x w' R' G' hR' hV hG'=>?_);have hHeq:Bx st.H (ds i)=st.H:=by
     rw[M.H];exact T.H_fin hr
    rw[hHeq]at hR';have:=hR'.put hdn hV;refine hnext' (st':=St.put st o.dst (vs i)) ?_ ?_ hG' this
    ·rw[←hdst,hsome];exact M.H
    ·rw[←hdst,hsome];rfl
end
theorem Gd{ds:List Nat}{H:Nat→Option Ent}{id:Nat}{e:Ent}(h:Kx ds H id=some e):H id=some e∧id/16∉ds:=by
 cases ds with
 |nil=>exact⟨h,by simp⟩
 |cons d ds=>
  simp only[Kx]at h;cases hq:(d::ds).contains (id/16)with
  |true=>rw[hq]at h;cases h
  |false=>rw[hq]at h;exact⟨h,by simpa using hq⟩
section
variable [Off]
theorem Amk[Glob]{c:Ctx}(hn:c.n=n)(D:Pb ops){seg:List Aa}{s:Nat}{K:St→Prop}(F:Z6 ops seg s)(hcut:Ip (Bn ops) (s+seg.length)=true)(hres:∀(i:Nat) (o:Oper) (r:Aa),ops[s+i]? =some o→seg[i]? =some r→Bh P ops n o=some r)(hnext:Nh P c ops Q (s+seg.length) K):Nh P c ops Q s (fun st=>wpD P seg st K):=by
 intro fuel listed st a w hf hA hw hR;have hle:=F.le;obtain⟨R,G,hR⟩:=hR;have h':N1 P seg {st with H:=Kx (C9 seg) st.H} K:=hw;obtain⟨sts,vs,ds,t1,t2,t3⟩:=Abt (Ax G) _ h';have T:Cy P (Ax G) seg {st with H:=Kx (C9 seg) st.H} sts vs ds:=by
  refine⟨t1,t3,F.nodup,fun i r hr=>?_,fun id e he i r hr hal e2=>?_⟩
  ·obtain⟨d,hd⟩:=Option.isSome_iff_exists.1 (F.some_ i r hr);rw[hd];simp[Aa.d,hd]
  ·obtain⟨d,hd⟩:=Option.isSome_iff_exists.1 (F.some_ i r hr);refine(Gd he).2 ?_;unfold C9;rw[List.mem_filterMap];refine⟨r,ZH hr,?_⟩;rw[if_pos hal,e2,hd];simp[Aa.d,hd]
 have hMid:Ac c {st with H:=(sts seg.length).H} a w R G:=by
  refine hR.more fun id e he=>?_;rcases T.H_from seg.length (ZT _) id e he with q|⟨j,r,q1,q2,q3,q4,q5⟩
  ·exact .inl (Gd q).1
  ·exact .inr fun l hl=>by rw[q4];exact Az hl
 refine An3 (st:={st with H:=(sts seg.length).H}) hn D F hcut hres hnext T t2 fuel listed hf hA.size hA.closed (fun i hi=>hA.yes i hi (by omega)) (fun i hi hi2=>hA.no i (by omega) hi2) ⟨hR.die,rfl,fun i r hr hl=>?_,fun t _=>rfl,fun i r hr hl id hid l hl'=>Az hl'⟩ hMid;have hi:i<seg.length:=(ZB.1 hr).1;rw[hA.no (s+i) (by omega) (by omega)]at hl;cases hl
end
end
end Go.Proofs.YtchbkgnobpejnaaGreatDoor
