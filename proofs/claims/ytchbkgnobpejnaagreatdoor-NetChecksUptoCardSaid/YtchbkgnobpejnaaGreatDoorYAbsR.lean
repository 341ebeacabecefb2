/- The framework: part of this claim. -/
import Derived.Test.YtchbkgnobpejnaaGreatDoorYAbsD0
set_option linter.unusedSimpArgs false
set_option linter.unusedVariables false
namespace Go.Proofs.YtchbkgnobpejnaaGreatDoor
open Go.RowKit
section
variable [Off]
def ROp.free:ROp→Bool
 |.mv _=>true
 |.pick _ _ _=>true
 |.ext _ _=>true
 |.bin _ _ _=>true
 |.not _=>true
 |.neg _=>true
 |.conv _ _=>true
 |.fld _ _ _ _=>true
 |.fldA _ _=>true
 |.build _ _=>true
 |.load _ _ _=>true
 |.idxA _ _ _=>true
 |_=>false
def K4(env:Nat→V)(id:Nat)(r:Aa):Prop:=match r.op with
 |.load _ _ x=>match val env x with
  |.ptr id' _ _ _=>Nat.beq id' id=false
  |.rptr _ _=>True
  |_=>False
 |.idxA _ x _=>match val env x with
  |.own id' _=>Nat.beq id' id=false
  |_=>True
 |_=>True
def Abc:ROp→Bool
 |.store _ _ _=>true
 |_=>false
def B8:List Aa→Nat
 |[]=>0
 |r::rs=>if Abc r.op then 0 else B8 rs+1
def Amr(r:Aa)(fin:List Aa)(st:St)(K:St→Nat→Prop):Prop:=match r with
 |⟨none,none,.store sz x y⟩=>match val st.env x with
  |.ptr id gen i off=>(C9 fin).contains (id/16)=false∧∃e row us,st.H id=some e∧e.gen=gen∧e.rows[i]? =some row∧Eb (val st.env y)=some us∧us.length=sz∧off+sz≤row.length∧Hl st.H us∧
    K {st with H:=upd st.H id (some {e with rows:=e.rows.set i (Lh row off us)})} id
  |_=>False
 |_=>False
def Pv(env:Nat→V)(id:Nat)(fl:List Aa):List Aa→Prop
 |[]=>True
 |r::rs=>(bif fl.any (fun q=>Nat.beq q.d r.d)then K4 env id r else True)∧Pv env id fl rs
end
theorem Ac0{env:Nat→V}{id:Nat}{fl:List Aa}:∀l:List Aa,Pv env id fl l→∀r∈l,fl.any (fun q=>Nat.beq q.d r.d)=true→K4 env id r:=by
 intro l
 induction l with
 |nil=>intro _ r hr;simp at hr
 |cons a l ih=>
  intro h r hr hf;obtain⟨h1,h2⟩:=h;rcases XC.1 hr with e|e
  ·subst e;have h3:=h1;simp only[hf,cond_true]at h3;exact h3
  ·exact ih h2 r e hf
section
variable [Off]
def wpM[Glob](P:Program)(fl seg:List Aa)(st:St)(K:St→Prop):Prop:=
 N1 P (seg.take (B8 seg)) {st with H:=Kx (C9 seg) st.H} fun st1=>match seg.drop (B8 seg)with
  |[]=>False
  |r::rest=>Amr r rest st1 fun st2 id=>N1 P rest st2 fun st3=>Pv st3.env id fl seg∧K st3
def Aed(ops:Array Oper)(ms:List Nat)(s:Nat)(seg fl:List Aa):Bool:=
 decide ((seg.map Aa.d).Nodup)&&decide (B8 seg<seg.length)&&
 ((List.range seg.length).all fun i=>match seg[i]? with
  |some r=> !(r.reads.contains 1000000)&&(i==B8 seg||(r.dst.isSome&&(decide (i<B8 seg∧(ms.getD (s+B8 seg) 0).testBit (s+i)=true)||decide (B8 seg<i∧(ms.getD (s+i) 0).testBit (s+B8 seg)=true)||r.op.free)))
  |none=>false)&&
 ((List.range seg.length).all fun i=>(List.range seg.length).all fun j=>match seg[i]?,seg[j]? with
  |some r,some q=> !(r.reads.contains q.d)||(decide (j<i)&&Jj ops (s+i) (s+j))
  |_,_=>false)&&
 ((List.range seg.length).all fun i=>match seg[i]? with
  |some r=>i==B8 seg||decide (i<B8 seg∧(ms.getD (s+B8 seg) 0).testBit (s+i)=true)||decide (B8 seg<i∧(ms.getD (s+i) 0).testBit (s+B8 seg)=true)||fl.any fun q=>Nat.beq q.d r.d
  |none=>false)
def Ai7(id:Nat)(H H':Nat→Option Ent):Prop:=∀k e,H k=some e→∃e',H' k=some e'∧e'.gen=e.gen∧e'.T=e.T∧(k≠id→e'=e)
end
theorem Am7{id:Nat}{H H':Nat→Option Ent}(hs:Ai7 id H H'){u:V}(h:one H u):one H' u:=by
 cases u<;>simp only[one]at h ⊢ <;>first|exact h|(obtain⟨e,h1,h2⟩:=h;obtain⟨e',h3,h4,_⟩:=hs _ _ h1;exact⟨e',h3,h4.trans h2⟩)|(obtain⟨e,h1,h2,h5⟩:=h;obtain⟨e',h3,h4,h6,_⟩:=hs _ _ h1;exact⟨e',h3,h4.trans h2,h6▸h5⟩)
theorem Y5{id:Nat}{H H':Nat→Option Ent}(hs:Ai7 id H H'):∀{us:List V},Hl H us→Hl H' us
 |[],_=>trivial
 |u::us,h=>⟨Am7 hs h.1,Y5 hs h.2⟩
theorem V6{id:Nat}{H H':Nat→Option Ent}(hs:Ai7 id H H'){env:Nat→V}:∀(ps:List (Nat×Nat×Operand)) (cs:List V) {K:List V→Prop},Gb env H cs ps K→Gb env H' cs ps K
 |[],cs,K,h=>h
 |(off,sz,x)::ps,cs,K,h=>by
  simp only[Gb]at h ⊢;split at h
  ·rename_i us hu;exact⟨h.1,h.2.1,Y5 hs h.2.2.1,V6 hs ps _ h.2.2.2⟩
  ·exact h.elim
theorem V9[Glob]{P:Program}{id:Nat}{H H':Nat→Option Ent}(hs:Ai7 id H H'){env:Nat→V}{r:Aa}(hf:r.op.free=true)(ha:K4 env id r){g:Nat→Nat}{b:Nat}{K:V→List (Nat×Option Ent)→Prop}(h:Ak P r.op env H g b K):Ak P r.op env H' g b K:=by
 obtain⟨dst,gd,op⟩:=r;cases op with
 |mv x=>exact h
 |pick x y z=>exact h
 |ext x i=>exact h
 |bin op x y=>exact h
 |not x=>exact h
 |neg x=>exact h
 |conv k x=>exact h
 |fld agg sz off x=>exact h
 |fldA off x=>
  simp only[Ak]at h ⊢;split at h
  ·exact h
  ·obtain⟨⟨e,h1,h2⟩,h3⟩:=h;obtain⟨e',h4,h5,_⟩:=hs _ _ h1;exact⟨⟨e',h4,h5.trans h2⟩,h3⟩
  ·exact h.elim
 |build z ps=>exact V6 hs ps _ h
 |load agg sz x=>
  simp only[Ak]at h ⊢;simp only[K4]at ha;split at h
  ·exact h
  ·rename_i id' gen i off hx;rw[hx]at ha;obtain⟨e,row,h1,h2,h3,h4,h5⟩:=h;obtain⟨e',h6,h7,_,h8⟩:=hs _ _ h1;have:=h8 (fun q=>by subst q;simp at ha);subst this;exact⟨e',row,h6,h2,h3,h4,h5⟩
  ·exact h.elim
 |idxA sz x i=>
  simp only[Ak]at h ⊢;simp only[K4]at ha;split at h
  ·exact h
  ·rename_i id' gen _ n hx hi;rw[hx]at ha;obtain⟨e,j,row,h1,h2⟩:=h;obtain⟨e',h6,h7,_,h8⟩:=hs _ _ h1;have:=h8 (fun q=>by subst q;simp at ha);subst this;exact⟨e',j,row,h6,h2⟩
  ·exact h.elim
 |_=>cases hf
theorem Aft{env env':Nat→V}{id:Nat}{r:Aa}(h:∀x∈r.op.looks,val env' x=val env x)(ha:K4 env id r):K4 env' id r:=by
 obtain⟨dst,gd,op⟩:=r;cases op with
 |load agg sz x=>
  simp only[K4]at ha ⊢;rw[h x (by simp[ROp.looks])];exact ha
 |idxA sz x i=>
  simp only[K4]at ha ⊢;rw[h x (by simp[ROp.looks])];exact ha
 |_=>exact trivial
theorem Ajl{P:Program}{o:Oper}{sz:Nat}{x y:Operand}(hop:A6 P o=some (.store sz x y)):∃t ti,o.op=.store t x y∧P.info? t=some ti∧ti.size=sz:=by
 cases hoo:o.op with
 |store t x' y'=>
  simp only[A6,hoo]at hop;split at hop
  ·rename_i ti hti;simp only[ZD,ROp.store.injEq]at hop;obtain⟨e1,e2,e3⟩:=hop;subst e2 e3;exact⟨t,ti,rfl,hti,e1⟩
  ·cases hop
 |unOp op t x=>cases op<;>simp only[A6,hoo,ZD,reduceCtorEq]at hop
 |makeFunc fn first caps=>cases fn<;>simp only[A6,hoo,reduceCtorEq]at hop<;>split at hop<;>simp at hop
 |call cl=>
  obtain⟨callee,args,argTypes⟩:=cl;exfalso;cases callee with
  |value f=>simp[A6,hoo]at hop
  |invoke _ _=>simp[A6,hoo]at hop
  |builtin b=>
   cases b<;>simp only[A6,hoo,reduceCtorEq]at hop<;>repeat' (split at hop)
   all_goals first|(cases hop;done)|(simp at hop;done)
 |_=>
  exfalso;simp only[A6,hoo,reduceCtorEq]at hop
  repeat' (split at hop)
  all_goals first
   |(cases hop;done)
   |(simp only[Option.map_eq_some_iff]at hop;obtain⟨_,_,hq⟩:=hop;cases hq;done)
   |(simp only[ZD,reduceCtorEq]at hop;done)
   |contradiction
section
variable {P:Program} {Q:Exit→Act→World→Prop} {ops:Array Oper} {n:Nat} {g:Nat→Nat}
section
variable [Off]
structure MF(ops:Array Oper)(fl seg:List Aa)(s m:Nat):Prop where
 le:s+seg.length≤ops.size
 mlt:m<seg.length
 nodup:(seg.map Aa.d).Nodup
 some_:∀(i:Nat) (r:Aa),i≠m→seg[i]? =some r→r.dst.isSome=true
 noread:∀(i:Nat) (r:Aa),seg[i]? =some r→1000000∉r.reads
 reads:∀(i j:Nat) (r q:Aa),seg[i]? =some r→seg[j]? =some q→q.d∈r.reads→j<i∧Jj ops (s+i) (s+j)=true
 flag:∀(i:Nat) (r:Aa),i≠m→seg[i]? =some r→(i<m∧Anc ops (s+m) (s+i))∨(m<i∧Anc ops (s+i) (s+m))∨(r.op.free=true∧fl.any (fun q=>Nat.beq q.d r.d)=true)
end
theorem Gu{k j:Nat}(h:((Bn ops).getD k 0).testBit j=true):Anc ops k j:=by
 cases hq:(Bn ops)[k]? with
 |none=>rw[List.getD_eq_getElem?_getD,hq]at h;simp at h
 |some m=>
  rw[List.getD_eq_getElem?_getD,hq]at h;exact Pg ops ops.toList [] (fun k hk=>by simp) (fun i m j q=>by simp at q) k m j hq h
theorem Abg{fl seg:List Aa}{s:Nat}(hl:s+seg.length≤ops.size)(h:Aed ops (Bn ops) s seg fl=true):MF ops fl seg s (B8 seg):=by
 unfold Aed at h;simp only[ZO,decide_eq_true_eq,List.all_eq_true,List.mem_range]at h;obtain⟨⟨⟨⟨h1,h2⟩,h3⟩,h4⟩,h5⟩:=h;have g3:∀(i:Nat) (r:Aa),seg[i]? =some r→1000000∉r.reads∧(i=B8 seg∨(r.dst.isSome=true∧((i<B8 seg∧((Bn ops).getD (s+B8 seg) 0).testBit (s+i)=true)∨(B8 seg<i∧((Bn ops).getD (s+i) 0).testBit (s+B8 seg)=true)∨r.op.free=true))):=fun i r hr=>by
  have:=h3 i (ZB.1 hr).1;rw[hr]at this;simp only[ZO,Bool.or_eq_true,Bool.not_eq_true',ZR,decide_eq_true_eq]at this;refine⟨fun hm=>?_,?_⟩
  ·have h6:r.reads.contains 1000000=true:=by simpa using hm
   rw[this.1]at h6;cases h6
  ·rcases this.2 with q|⟨q1,(q2|q2)|q2⟩
   ·exact .inl q
   ·exact .inr ⟨q1,.inl q2⟩
   ·exact .inr ⟨q1,.inr (.inl q2)⟩
   ·exact .inr ⟨q1,.inr (.inr q2)⟩
 refine⟨hl,h2,h1,fun i r hi hr=>?_,fun i r hr=>(g3 i r hr).1,fun i j r q hr hq hm=>?_,fun i r hi hr=>?_⟩
 ·rcases(g3 i r hr).2 with q|q
  ·exact absurd q hi
  ·exact q.1
 ·have:=h4 i (ZB.1 hr).1 j (ZB.1 hq).1;rw[hr,hq]at this;simp only[Bool.or_eq_true,Bool.not_eq_true',ZO,decide_eq_true_eq]at this;rcases this with q1|q1
  ·exfalso;have h6:r.reads.contains q.d=true:=by simpa using hm
   rw[h6]at q1;cases q1
  ·exact q1
 ·have h6:=h5 i (ZB.1 hr).1;rw[hr]at h6;simp only[Bool.or_eq_true,ZR,decide_eq_true_eq]at h6;rcases h6 with((q|q)|q)|q
  ·exact absurd q hi
  ·exact .inl ⟨q.1,Gu q.2⟩
  ·exact .inr (.inl ⟨q.1,Gu q.2⟩)
  ·rcases(g3 i r hr).2 with p|⟨_,p|p|p⟩
   ·exact absurd p hi
   ·exact .inl ⟨p.1,Gu p.2⟩
   ·exact .inr (.inl ⟨p.1,Gu p.2⟩)
   ·exact .inr (.inr ⟨p,q⟩)
section
variable [Off]
structure MT[Glob](P:Program)(g:Nat→Nat)(fl seg:List Aa)(m:Nat)(st0:St)(te:Nat→Nat→V)(th:Nat→Nat→Option Ent)(vs:Nat→V)(ds:Nat→List (Nat×Option Ent))(Hb Hf:Nat→Option Ent)(id:Nat)(ef:Nat→V):Prop where
 run:∀(i:Nat) (r:Aa),i≠m→seg[i]? =some r→(gv (te i) r.guard=some false∧vs i=.v undef∧ds i=[])∨(gv (te i) r.guard=some true∧Ak P r.op (te i) (th i) g (16*(r.d+Off.o)) (fun u d=>u=vs i∧d=ds i))
 some_:∀(i:Nat) (r:Aa),i≠m→seg[i]? =some r→r.dst=some r.d
 addb:∀(i:Nat) (r:Aa),i≠m→seg[i]? =some r→Bx Hb (ds i)=Hb
 addf:∀(i:Nat) (r:Aa),i≠m→seg[i]? =some r→(m<i∨r.op.free=true)→Bx Hf (ds i)=Hf
 subb:∀i,i<m→∀k e,th i k=some e→Hb k=some e
 subf:∀i,m<i→i<seg.length→∀k e,th i k=some e→Hf k=some e
 te_dst:∀(i j:Nat) (q:Aa),i<seg.length→j<i→j≠m→seg[j]? =some q→te i q.d=vs j
 te_other:∀(i t:Nat),i<seg.length→(∀(j:Nat) (q:Aa),j<i→j≠m→seg[j]? =some q→q.d≠t)→te i t=st0.env t
 ef_dst:∀(j:Nat) (q:Aa),j≠m→seg[j]? =some q→ef q.d=vs j
 ef_other:∀t,(∀(j:Nat) (q:Aa),j≠m→seg[j]? =some q→q.d≠t)→ef t=st0.env t
 swap:Ai7 id Hb Hf
 swap':Ai7 id Hf Hb
 away:∀r∈seg,fl.any (fun q=>Nat.beq q.d r.d)=true→K4 ef id r
 store:∃sz x y gen i off e row us,seg[m]? =some ⟨none,none,.store sz x y⟩∧val (te m) x=.ptr id gen i off∧Hb id=some e∧e.gen=gen∧e.rows[i]? =some row∧Eb (val (te m) y)=some us∧us.length=sz∧off+sz≤row.length∧Hl Hb us∧Hf=upd Hb id (some {e with rows:=e.rows.set i (Lh row off us)})
structure Au0[Glob](c:Ctx)(seg:List Aa)(s m:Nat)(st0:St)(vs:Nat→V)(Hb Hf:Nat→Option Ent)(g:Nat→Nat)(listed:Array Bool)(st:St)(G:Nat→Option Loc):Prop where
 D0:st0.D=c.D
 H:st.H=if listed.getD (s+m) true=true then Hf else Hb
 at_:∀i r,i≠m→seg[i]? =some r→listed.getD (s+i) true=true→st.env r.d=vs i
 other:∀t,(∀(i:Nat) (r:Aa),i≠m→seg[i]? =some r→listed.getD (s+i) true=true→r.d≠t)→st.env t=st0.env t
 fresh:∀(i:Nat) (r:Aa),i≠m→seg[i]? =some r→listed.getD (s+i) true=false→∀id,id/16=r.d+Off.o→∀l,G id=some l→l.gen<g id
end
theorem I4{seg:List Aa}(hn:(seg.map Aa.d).Nodup){i j:Nat}{r q:Aa}(hi:seg[i]? =some r)(hj:seg[j]? =some q)(hd:r.d=q.d):i=j:=by
 have h1:(seg.map Aa.d)[i]? =some r.d:=by rw[XJ,hi];rfl
 have h2:(seg.map Aa.d)[j]? =some r.d:=by rw[XJ,hj,hd];rfl
 have hil:i<(seg.map Aa.d).length:=(ZB.1 h1).1;have hjl:j<(seg.map Aa.d).length:=(ZB.1 h2).1;rw[ZC hil]at h1;rw[ZC hjl]at h2;have hp:=List.pairwise_iff_getElem.1 hn;have e:=(Option.some.inj h1).trans (Option.some.inj h2).symm;rcases Nat.lt_trichotomy i j with q|q|q
 ·exact absurd e (hp i j hil hjl q)
 ·exact q
 ·exact absurd e.symm (hp j i hjl hil q)
section
variable [Off]
theorem Ana[Glob]{c:Ctx}(hn:c.n=n)(D:Pb ops){fl seg:List Aa}{s m:Nat}{K:St→Prop}(F:MF ops fl seg s m)(hcut:Ip (Bn ops) (s+seg.length)=true)(hres:∀(i:Nat) (o:Oper) (r:Aa),ops[s+i]? =some o→seg[i]? =some r→Bh P ops n o=some r)(hnext:Nh P c ops Q (s+seg.length) K){st0:St}{te:Nat→Nat→V}{th:Nat→Nat→Option Ent}{vs:Nat→V}{ds:Nat→List (Nat×Option Ent)}{Hb Hf:Nat→Option Ent}{id:Nat}{ef:Nat→V}(T:MT P g fl seg m st0 te th vs ds Hb Hf id ef)(hend:K ⟨ef,Hf,st0.D⟩):
  ∀(fuel:Nat) (listed:Array Bool) {st:St} {a:Act} {w:World} {R:Nat→Prop} {G:Nat→Option Loc},unl ops listed=fuel→listed.size=ops.size→Fy ops listed→(∀i,i<s→listed.getD i true=true)→(∀i,s+seg.length≤i→i<ops.size→listed.getD i true=false)→
   Au0 c seg s m st0 vs Hb Hf g listed st G→Ac c st a w R G→wpAny P .any ops Q fuel listed a w:=by
 have hle:=F.le;have hmlt:=F.mlt;have done:∀(fuel:Nat) (listed:Array Bool) {st:St} {a:Act} {w:World} {R:Nat→Prop} {G:Nat→Option Loc},unl ops listed=fuel→listed.size=ops.size→Fy ops listed→(∀i,i<s→listed.getD i true=true)→(∀i,s+seg.length≤i→i<ops.size→listed.getD i true=false)→(∀i,i<seg.length→listed.getD (s+i) true=true)→
   Au0 c seg s m st0 vs Hb Hf g listed st G→Ac c st a w R G→wpAny P .any ops Q fuel listed a w:=by
  intro fuel listed st a w R G hf hs hc hb ht hall M hR;have hst:st=⟨ef,Hf,st0.D⟩:=by
   have e1:st.env=ef:=by
    funext t;by_cases hex:∃(i:Nat) (r:Aa),i≠m∧seg[i]? =some r∧r.d=t
    ·obtain⟨i,r,h0,h2,rfl⟩:=hex;have h1:i<seg.length:=(ZB.1 h2).1;rw[M.at_ i r h0 h2 (hall i h1)];exact(T.ef_dst i r h0 h2).symm
    ·rw[M.other t (fun i r h0 h2 _ h3=>hex ⟨i,r,h0,h2,h3⟩)];exact(T.ef_other t fun j r h0 h2 h3=>hex ⟨j,r,h0,h2,h3⟩).symm
   have e3:st.D=st0.D:=by rw[hR.die,M.D0]
   have e2:st.H=Hf:=by rw[M.H,if_pos (hall m hmlt)]
   obtain⟨env,H,D⟩:=st;simp only at e1 e2 e3;rw[e1,e2,e3]
  subst hst;refine hnext fuel listed _ a w hf ⟨hs,hc,fun i hi hi2=>?_,ht⟩ hend ⟨R,G,hR⟩;by_cases hlt:i<s
  ·exact hb i hlt
  ·have:=hall (i-s) (by omega)
   rwa[show s+(i-s)=i by omega]at this
 intro fuel
 induction fuel with
 |zero=>
  intro listed st a w R G hf hs hc hb ht M hR;exact done 0 listed hf hs hc hb ht (fun i hi=>O9 hf (by omega)) M hR
 |succ fuel ih=>
  intro listed st a w R G hf hs hc hb ht M hR;by_cases hall:∀i,i<seg.length→listed.getD (s+i) true=true
  ·exact done (fuel+1) listed hf hs hc hb ht hall M hR
  ·have hex:∃i,i<seg.length∧listed.getD (s+i) true=false:=by
    apply Classical.byContradiction;intro hn;exact hall fun i hi=>by
     cases hq:listed.getD (s+i) true with
     |true=>rfl
     |false=>exact absurd ⟨i,hi,hq⟩ hn
   obtain⟨i0,hi0,hu0⟩:=hex;obtain⟨m0,hm1,hm2,hm3⟩:=Hg hu0;have hready:=D7 D hs (by omega:m0<ops.size) hm2 hm3;refine⟨fun h=>(by rw[h]at hready;simp at hready),fun x hx=>?_⟩;obtain⟨h1,h2,o,h3,h4⟩:=Bw.1 hx;have hedge:=Ga D hs hx;have hxlo:s≤x:=by
    apply Nat.le_of_not_lt;intro q;rw[hb x q]at h2;cases h2
   have hxhi:x<s+seg.length:=by
    apply Nat.lt_of_not_le;intro q;have:=C5 D hs hc hx (Nn hcut (j:=s+i0) q h1 (by omega));rw[hu0]at this;cases this
   obtain⟨i,rfl⟩:∃i,x=s+i:=⟨x-s,by omega⟩;have hrl:i<seg.length:=by omega
   have hr:seg[i]? =some seg[i]:=ZC hrl;have hro:=hres i o _ h3 hr;obtain⟨hop,hdst,hdlt,_⟩:=B9 hro;have hdn:=Jm hro hn;have hmd:∀q,seg[m]? =some q→q.d=1000000:=fun q hq=>by
    obtain⟨sz,x,y,_,_,_,_,_,_,h,_⟩:=T.store;rw[h]at hq;injection hq with hq;rw[←hq];rfl
   have hsee:∀t∈(seg[i]).reads,st.env t=te i t:=fun t htr=>by
    by_cases hex:∃(j:Nat) (q:Aa),j≠m∧seg[j]? =some q∧q.d=t
    ·obtain⟨j,q,p0,p2,p3⟩:=hex;subst p3;obtain⟨p4,p5⟩:=F.reads i j _ q hr p2 htr;rw[M.at_ j q p0 p2 (hedge _ p5)];exact(T.te_dst i j q hrl p4 p0 p2).symm
    ·rw[M.other t (fun j q p0 p2 _ p3=>hex ⟨j,q,p0,p2,p3⟩)];exact(T.te_other i t hrl fun j q _ p0 p2 p3=>hex ⟨j,q,p0,p2,p3⟩).symm
   have hsef:∀t∈(seg[i]).reads,ef t=st.env t:=fun t htr=>by
    rw[hsee t htr];by_cases hex:∃(j:Nat) (q:Aa),j≠m∧seg[j]? =some q∧q.d=t
    ·obtain⟨j,q,p0,p2,p3⟩:=hex;subst p3;obtain⟨p4,p5⟩:=F.reads i j _ q hr p2 htr;rw[T.ef_dst j q p0 p2,T.te_dst i j q hrl p4 p0 p2]
    ·rw[T.ef_other t (fun j q p0 p2 p3=>hex ⟨j,q,p0,p2,p3⟩),T.te_other i t hrl fun j q _ p0 p2 p3=>hex ⟨j,q,p0,p2,p3⟩]
   have hcnt:=Iw hs h1 h2;unfold wpOp;simp only[h3];by_cases him:i=m
   ·subst him;obtain⟨sz,x,y,gen,k,off,e,row,us,q1,q2,q3,q4,q5,q6,q7,q8,q9,q10⟩:=T.store;have hsi:seg[i]=⟨none,none,.store sz x y⟩:=by rw[hr]at q1;injection q1
    rw[hsi]at hro hop hdst;rw[hsi]at hsee;have hHb:st.H=Hb:=by rw[M.H,if_neg (by rw[h2];simp)]
    rw[if_pos (B7 hro hR rfl)];left;have ht':=Ajl hop;obtain⟨t,ti,hoo,hti,hsz⟩:=ht';have hvx:val st.env x=.ptr id gen k off:=by
     rw[←q2];exact Dz (l:=[x,y]) (fun t htm=>hsee t (by unfold Aa.reads;simp[ROp.looks];exact htm)) x (by simp)
    have hvy:Eb (val st.env y)=some us:=by
     rw[←q6];exact congrArg Eb (Dz (l:=[x,y]) (fun t htm=>hsee t (by unfold Aa.reads;simp[ROp.looks];exact htm)) y (by simp))
    have hodst:o.dst=none:=hdst.symm;refine Ah2 hoo hti hR hvx (by rw[hHb];exact q3) q4 q5 hvy (by omega) (by omega) (by rw[hHb];exact q9) (fun x' w' R' G' hR' hV hG=>?_);rw[hHb,←q10]at hR';rw[hodst];refine ih _ (by omega) (by simpa using hs) (Dv D hs hc hx) (fun j hj=>?_) (fun j hj1 hj2=>?_) (st:={st with H:=Hf}) ⟨M.D0,?_,fun j q p0 p2 p3=>?_,fun t p=>?_,fun j q p0 p2 p3 id' p4 l p5=>?_⟩ hR'
    ·rw[Ai (by omega),if_neg (by omega)];exact hb j hj
    ·rw[Ai (by omega),if_neg (by omega)];exact ht j hj1 hj2
    ·rw[Ai (by omega),if_pos rfl,if_pos rfl]
    ·rw[Ai (by omega),if_neg (by omega)]at p3;exact M.at_ j q p0 p2 p3
    ·refine M.other t fun j q p0 p2 p3=>p j q p0 p2 ?_;rw[Ai (by omega),if_neg (by omega)];exact p3
    ·rw[Ai (by omega),if_neg (by omega)]at p3;rw[hG id']at p5;exact M.fresh j q p0 p2 p3 id' p4 l p5
   ·have hsome:=T.some_ i _ him hr;have hgv:gv st.env (seg[i]).guard=gv (te i) (seg[i]).guard:=by
     cases hgd:(seg[i]).guard with
     |none=>rfl
     |some p=>
      obtain⟨s',want⟩:=p;simp only[gv];rw[hsee s' (by unfold Aa.reads;rw[hgd];simp)]
    have hnext':∀{st':St} {a':Act} {w':World} {R':Nat→Prop} {G':Nat→Option Loc},st'.H=st.H→st'.env=upd st.env (seg[i]).d (vs i)→(∀id,id/16≠(seg[i]).d+Off.o→G' id=G id)→Ac c st' a' w' R' G'→wpAny P .any ops Q fuel (listed.setIfInBounds (s+i) true) a' w':=by
     intro st' a' w' R' G' e1 e2 e3 hR';refine ih _ (by omega) (by simpa using hs) (Dv D hs hc hx) (fun j hj=>?_) (fun j hj1 hj2=>?_) ⟨M.D0,?_,fun j q p0 p2 p3=>?_,fun t p=>?_,fun j q p0 p2 p3 id p4 l p5=>?_⟩ hR'
     ·rw[Ai (by omega),if_neg (by omega)];exact hb j hj
     ·rw[Ai (by omega),if_neg (by omega)];exact ht j hj1 hj2
     ·have e:(listed.setIfInBounds (s+i) true).getD (s+m) true=listed.getD (s+m) true:=by rw[Ai (by omega),if_neg (by omega)]
      rw[e,e1,M.H]
     ·rw[e2];by_cases hji:j=i
      ·subst hji;rw[hr]at p2;injection p2 with p2;subst p2;rw[Aj]
      ·rw[Ap _ _ (fun e=>hji (I4 F.nodup p2 hr e))];rw[Ai (by omega),if_neg (by omega)]at p3;exact M.at_ j q p0 p2 p3
     ·rw[e2,Ap _ _ (fun e=>p i _ him hr (by rw[Ai (by omega),if_pos rfl]) e.symm)];refine M.other t fun j q p0 p2 p3=>p j q p0 p2 ?_;rw[Ai (by omega)];split
      ·rfl
      ·exact p3
     ·rw[Ai (by omega)]at p3;by_cases hji:s+j=s+i
      ·rw[if_pos hji]at p3;cases p3
      ·rw[if_neg hji]at p3;rw[e3 id (fun e=>hji (by rw[I4 F.nodup p2 hr (by omega)]))]at p5;exact M.fresh j q p0 p2 p3 id p4 l p5
    have hlk:∀x∈(seg[i]).op.looks,val st.env x=val (te i) x:=Dz fun t htm=>hsee t (by unfold Aa.reads;simp[htm]);rcases T.run i _ him hr with⟨q1,q2,q3⟩|⟨q1,q2⟩
    ·rw[if_neg (by rw[B7 hro hR (hgv.trans q1)];simp)];have:=hR.put hdn (u:=.v undef) (.v undef);refine hnext' (st':=st.put o.dst (.v undef)) ?_ ?_ (fun _ _=>rfl) this
     ·rw[←hdst,hsome];rfl
     ·rw[←hdst,hsome,q2];rfl
    ·rw[if_pos (B7 hro hR (hgv.trans q1))];left;have haw:fl.any (fun q=>Nat.beq q.d (seg[i]).d)=true→K4 st.env id seg[i]:=fun hfl=>
      Aft (fun x hxl=>(Dz (env:=st.env) (env':=ef) (fun t htm=>hsef t (by unfold Aa.reads;simp[htm])) x hxl).symm) (T.away _ (ZK hrl) hfl)
     have hq:Ak P (seg[i]).op st.env st.H g (16*((seg[i]).d+Off.o)) (fun u d=>u=vs i∧d=ds i):=by
      rw[M.H];rcases Nat.lt_or_gt_of_ne him with hlt|hgt
      ·have hqb:=D5 (env':=st.env) (H':=Hb) hlk (T.subb i hlt) q2;split
       ·rename_i hl;rcases F.flag i _ him hr with p|p|p
        ·have:=Qq D hc (by omega) p.2 hl;rw[h2]at this;cases this
        ·omega
        ·exact V9 T.swap p.1 (haw p.2) hqb
       ·exact hqb
      ·have hqf:=D5 (env':=st.env) (H':=Hf) hlk (T.subf i hgt hrl) q2;split
       ·exact hqf
       ·rename_i hl;rcases F.flag i _ him hr with p|p|p
        ·omega
        ·exact absurd (C5 D hs hc hx p.2) hl
        ·exact V9 T.swap' p.1 (haw p.2) hqf
     have hHeq:Bx st.H (ds i)=st.H:=by
      rw[M.H];split
      ·rename_i hl;refine T.addf i _ him hr ?_;rcases F.flag i _ him hr with p|p|p
       ·have:=Qq D hc (by omega) p.2 hl;rw[h2]at this;cases this
       ·exact .inl p.1
       ·exact .inr p.1
      ·exact T.addb i _ him hr
     refine Dr hop (fun id hid l0 hl0=>M.fresh i _ him hr h2 id hid l0 hl0) hR hq _ (fun x w' R' G' hR' hV hG'=>?_);rw[hHeq]at hR';have:=hR'.put hdn hV;refine hnext' (st':=St.put st o.dst (vs i)) ?_ ?_ hG' this
     ·rw[←hdst,hsome];rfl
     ·rw[←hdst,hsome];rfl
end
theorem Amf{g:Nat→Nat}:∀(dH:List (Nat×Option Ent)) (lo hi:Nat),W6 g lo hi dH→∀k e,(k,e)∈dH→lo≤k∧k<hi∧∃e',e=some e':=by
 intro dH
 induction dH with
 |nil=>intro _ _ _ k e h;simp at h
 |cons p dH ih=>
  obtain⟨k',e'⟩:=p
  rintro lo hi ⟨h1,h2,⟨e2,h5,_⟩,h6⟩ k e hm
  rcases XC.1 hm with q|q
  ·injection q with q1 q2;subst q1 q2;exact⟨h1,h2,e2,h5⟩
  ·obtain⟨p1,p2,p3⟩:=ih _ _ h6 k e q;exact⟨by omega,p2,p3⟩
theorem Afp{o:ROp}(h:o.free=true):o.allocs=false:=by
 cases o<;>first|rfl|cases h
section
variable [Off]
theorem Cy.mem[Glob]{rs:List Aa}{st0:St}{sts:Nat→St}{vs:Nat→V}{ds:Nat→List (Nat×Option Ent)}(T:Cy P g rs st0 sts vs ds){i:Nat}{r:Aa}(hr:rs[i]? =some r){k:Nat}{e:Option Ent}(hm:(k,e)∈ds i):
  ∃e',e=some e'∧(sts (i+1)).H k=some e'∧k/16=r.d+Off.o∧r.op.allocs=true:=by
 have hs:=T.step i r hr;obtain⟨h1,h2,e',h3⟩:=Amf _ _ _ hs.new k e hm;have h4:=Ya _ _ _ (sts i).H hs.new k e hm;have e1:(sts (i+1)).H=Bx (sts i).H (ds i):=by rw[hs.next,T.some_ i _ hr];rfl
 refine⟨e',h3,by rw[e1,h4,h3],Ah4 h1 h2,?_⟩;cases ha:r.op.allocs with
 |true=>rfl
 |false=>rw[hs.quiet ha]at hm;simp at hm
theorem Oo{seg:List Aa}{r:Aa}(hr:r∈seg)(ha:r.op.allocs=true)(hd:r.dst=some r.d):(C9 seg).contains (r.d+Off.o)=true:=by
 rw[List.contains_iff_mem];unfold C9;rw[List.mem_filterMap];exact⟨r,hr,by rw[if_pos ha,hd];rfl⟩
theorem Al3[Glob]{c:Ctx}(hn:c.n=n)(D:Pb ops){fl seg:List Aa}{s:Nat}{K:St→Prop}(F:MF ops fl seg s (B8 seg))(hcut:Ip (Bn ops) (s+seg.length)=true)(hres:∀(i:Nat) (o:Oper) (r:Aa),ops[s+i]? =some o→seg[i]? =some r→Bh P ops n o=some r)(hnext:Nh P c ops Q (s+seg.length) K):Nh P c ops Q s (fun st=>wpM P fl seg st K):=by
 intro fuel listed st a w hf hA hw hR;obtain⟨R,G,hR⟩:=hR;have hle:=F.le;have hmlt:=F.mlt;unfold wpM at hw;generalize hm:B8 seg=m at *;obtain⟨sts1,vs1,ds1,t1,t2,t3⟩:=Abt (Ax G) _ hw;have hdrop:seg.drop m=seg[m]::seg.drop (m+1):=List.drop_eq_getElem_cons hmlt;have hl1:(seg.take m).length=m:=by rw[ZM];omega
 have hl2:(seg.drop (m+1)).length=seg.length-(m+1):=List.length_drop ..;simp only[hdrop,hl1]at t2;have htk:∀{i:Nat} {r:Aa},i<m→seg[i]? =some r→(seg.take m)[i]? =some r:=fun hi hr=>by rw[XA hi];exact hr
 have htk':∀{i:Nat} {r:Aa},(seg.take m)[i]? =some r→i<m∧seg[i]? =some r:=fun {i r} hr=>by
  have:i<(seg.take m).length:=(ZB.1 hr).1;rw[hl1]at this;rw[XA this]at hr;exact⟨this,hr⟩
 have hdk:∀{i:Nat} {r:Aa},m<i→seg[i]? =some r→(seg.drop (m+1))[i-(m+1)]? =some r:=fun {i r} hi hr=>by
  rw[List.getElem?_drop,show m+1+(i-(m+1))=i by omega];exact hr
 have hdk':∀{i:Nat} {r:Aa},(seg.drop (m+1))[i]? =some r→seg[m+1+i]? =some r:=fun {i r} hr=>by
  rw[List.getElem?_drop]at hr;exact hr
 have hsd:∀{i:Nat} {r:Aa},i≠m→seg[i]? =some r→r.dst=some r.d:=fun {i r} hi hr=>by
  obtain⟨d,hd⟩:=Option.isSome_iff_exists.1 (F.some_ i r hi hr);rw[hd];simp[Aa.d,hd]
 obtain⟨sz,x,y,id,gen,k0,off,e0,row,us,p1,p2,p3,p4,p5,p6,p7,p8,p9,p10,hw2⟩:∃sz x y id gen k0 off e0 row us,seg[m]=⟨none,none,.store sz x y⟩∧val (sts1 m).env x=.ptr id gen k0 off∧(C9 (seg.drop (m+1))).contains (id/16)=false∧(sts1 m).H id=some e0∧e0.gen=gen∧e0.rows[k0]? =some row∧Eb (val (sts1 m).env y)=some us∧us.length=sz∧off+sz≤row.length∧Hl (sts1 m).H us∧
   N1 P (seg.drop (m+1)) {sts1 m with H:=upd (sts1 m).H id (some {e0 with rows:=e0.rows.set k0 (Lh row off us)})} (fun st3=>Pv st3.env id fl seg∧K st3):=by
  generalize seg[m]=r at t2 ⊢;unfold Amr at t2;split at t2
  ·rename_i sz x y;split at t2
   ·rename_i id gen k0 off hx;obtain⟨q1,e0,row,us,q2⟩:=t2;exact⟨sz,x,y,id,gen,k0,off,e0,row,us,rfl,hx,q1,q2⟩
   ·exact t2.elim
  ·exact t2.elim
 clear t2;obtain⟨sts2,vs2,ds2,u1,⟨u2,u2k⟩,u3⟩:=Abt (Ax G) _ hw2;have T1:Cy P (Ax G) (seg.take m) {st with H:=Kx (C9 seg) st.H} sts1 vs1 ds1:=by
  refine⟨t1,t3,F.nodup.sublist ((List.take_sublist m seg).map _),fun i r hr=>hsd (by have:=(htk' hr).1;omega) (htk' hr).2,fun id' e he i r hr hal e2=>?_⟩;have h1:=(Gd he).2;have h2:=Oo (ZH (htk' hr).2) hal (hsd (by have:=(htk' hr).1;omega) (htk' hr).2);rw[List.contains_iff_mem,←e2]at h2;exact h1 h2
 have hnoid:∀{i:Nat} {r:Aa},m<i→seg[i]? =some r→r.op.allocs=true→id/16≠r.d+Off.o:=fun {i r} hi hr hal e2=>by
  have h2:=Oo (ZH (hdk hi hr)) hal (hsd (by omega) hr);rw[←e2,p3]at h2;cases h2
 have T2:Cy P (Ax G) (seg.drop (m+1)) {sts1 m with H:=upd (sts1 m).H id (some {e0 with rows:=e0.rows.set k0 (Lh row off us)})} sts2 vs2 ds2:=by
  refine⟨u1,u3,F.nodup.sublist ((List.drop_sublist (m+1) seg).map _),fun i r hr=>hsd (by omega) (hdk' hr),fun id' e he i r hr hal e2=>?_⟩;by_cases hid:id'=id
  ·subst hid;exact hnoid (by omega) (hdk' hr) hal e2
  ·have he':(sts1 m).H id'=some e:=by
    have:upd (sts1 m).H id (some {e0 with rows:=e0.rows.set k0 (Lh row off us)}) id'=some e:=he
    rwa[Ap _ _ hid]at this
   rcases T1.H_from m (by omega) id' e he' with q|⟨j,q,q1,q2,q3,_,q5⟩
   ·have h1:=(Gd q).2;have h2:=Oo (ZH (hdk' hr)) hal (hsd (by omega) (hdk' hr));rw[List.contains_iff_mem,←e2]at h2;exact h1 h2
   ·have:=I4 F.nodup (htk' q2).2 (hdk' hr) (by omega);have:=(htk' q2).1;omega
 obtain⟨te,hte1,hte2⟩:∃te:Nat→Nat→V,(∀i,i≤m→te i=(sts1 i).env)∧(∀i,m<i→te i=(sts2 (i-(m+1))).env):=⟨fun i=>if i≤m then(sts1 i).env else(sts2 (i-(m+1))).env,fun i h=>if_pos h,fun i h=>if_neg (by omega)⟩;obtain⟨th,hth1,hth2⟩:∃th:Nat→Nat→Option Ent,(∀i,i<m→th i=(sts1 i).H)∧(∀i,m<i→th i=(sts2 (i-(m+1))).H):=⟨fun i=>if i<m then(sts1 i).H else(sts2 (i-(m+1))).H,fun i h=>if_pos h,fun i h=>if_neg (by omega)⟩;obtain⟨vs,hvs1,hvs2⟩:∃vs:Nat→V,(∀i,i<m→vs i=vs1 i)∧(∀i,m<i→vs i=vs2 (i-(m+1))):=⟨fun i=>if i<m then vs1 i else vs2 (i-(m+1)),fun i h=>if_pos h,fun i h=>if_neg (by omega)⟩;obtain⟨ds,hds1,hds2⟩:∃ds:Nat→List (Nat×Option Ent),(∀i,i<m→ds i=ds1 i)∧(∀i,m<i→ds i=ds2 (i-(m+1))):=⟨fun i=>if i<m then ds1 i else ds2 (i-(m+1)),fun i h=>if_pos h,fun i h=>if_neg (by omega)⟩;have hz2:∀id' e,upd (sts1 m).H id (some {e0 with rows:=e0.rows.set k0 (Lh row off us)}) id'=some e→(sts2 (seg.drop (m+1)).length).H id'=some e:=fun id' e he=>T2.H_mono (i:=0) (ZU _) (ZT _) (by rw[u1];exact he);have hfid:(sts2 (seg.drop (m+1)).length).H id=some {e0 with rows:=e0.rows.set k0 (Lh row off us)} :=hz2 _ _ (Aj _ _ _);have hm1:∀id' e,id'≠id→(sts1 m).H id'=some e→(sts2 (seg.drop (m+1)).length).H id'=some e:=fun id' e hid he=>hz2 _ _ (by rw[Ap _ _ hid];exact he);have hsubb:∀i,i≤m→∀k e,(sts1 i).H k=some e→upd (sts2 (seg.drop (m+1)).length).H id (some e0) k=some e:=fun i hi k e he=>by
  have h1:(sts1 m).H k=some e:=T1.H_mono hi (by omega) he;by_cases hk:k=id
  ·subst hk;rw[Aj];exact p4.symm.trans h1
  ·rw[Ap _ _ hk];exact hm1 k e hk h1
 have T:MT P (Ax G) fl seg m st te th vs ds (upd (sts2 (seg.drop (m+1)).length).H id (some e0)) (sts2 (seg.drop (m+1)).length).H id (sts2 (seg.drop (m+1)).length).env:=by
  refine⟨fun i r hi hr=>?_,fun i r hi hr=>hsd hi hr,fun i r hi hr=>?_,fun i r hi hr hfr=>?_,fun i hi k e he=>hsubb i (by omega) k e (by rw[←hth1 i hi];exact he),fun i hi hil k e he=>?_,fun i j q hil hj hjm hq=>?_,fun i t hil ht=>?_,fun j q hj hq=>?_,fun t ht=>?_,fun k e he=>?_,fun k e he=>?_,Ac0 _ u2,?_⟩
  ·rcases Nat.lt_or_gt_of_ne hi with hlt|hgt
   ·rw[hte1 i (by omega),hth1 i hlt,hvs1 i hlt,hds1 i hlt];exact(t3 i r (htk hlt hr)).go
   ·rw[hte2 i hgt,hth2 i hgt,hvs2 i hgt,hds2 i hgt];exact(u3 _ r (hdk hgt hr)).go
  ·refine Pj _ _ fun k e hm'=>?_;rcases Nat.lt_or_gt_of_ne hi with hlt|hgt
   ·rw[hds1 i hlt]at hm';obtain⟨e',q1,q2,q3,q4⟩:=T1.mem (htk hlt hr) hm';rw[q1];exact hsubb (i+1) (by omega) k e' q2
   ·rw[hds2 i hgt]at hm';obtain⟨e',q1,q2,q3,q4⟩:=T2.mem (hdk hgt hr) hm';rw[q1,Ap _ _ (fun q=>hnoid hgt hr q4 (by rw[←q];exact q3))];have:i<seg.length:=(ZB.1 hr).1;exact T2.H_mono (i:=i-(m+1)+1) (by omega) (ZT _) q2
  ·refine Pj _ _ fun k e hm'=>?_;rcases Nat.lt_or_gt_of_ne hi with hlt|hgt
   ·rw[hds1 i hlt]at hm';obtain⟨e',q1,q2,q3,q4⟩:=T1.mem (htk hlt hr) hm';rcases hfr with q|q
    ·omega
    ·rw[Afp q]at q4;cases q4
   ·rw[hds2 i hgt]at hm';obtain⟨e',q1,q2,q3,q4⟩:=T2.mem (hdk hgt hr) hm';have:i<seg.length:=(ZB.1 hr).1;rw[q1];exact T2.H_mono (i:=i-(m+1)+1) (by omega) (ZT _) q2
  ·rw[hth2 i hi]at he;exact T2.H_mono (by omega) (ZT _) he
  ·by_cases him:i≤m
   ·rw[hte1 i him,hvs1 j (by omega)];exact T1.env_at i (by omega) j q hj (htk (by omega) hq)
   ·rw[hte2 i (by omega)];by_cases hjl:j<m
    ·rw[hvs1 j hjl,T2.env_other _ (by omega) q.d (fun j' r' h1 h2 h3=>?_)]
     ·exact T1.env_at m (by omega) j q hjl (htk hjl hq)
     ·have:=I4 F.nodup (hdk' h2) hq h3;omega
    ·rw[hvs2 j (by omega)];exact T2.env_at _ (by omega) _ q (by omega) (hdk (by omega) hq)
  ·by_cases him:i≤m
   ·rw[hte1 i him];exact T1.env_other i (by omega) t fun j r h1 h2=>ht j r h1 (by have:=(htk' h2).1;omega) (htk' h2).2
   ·rw[hte2 i (by omega),T2.env_other _ (by omega) t (fun j r h1 h2=>ht (m+1+j) r (by omega) (by omega) (hdk' h2))];exact T1.env_other m (by omega) t fun j r h1 h2=>ht j r (by omega) (by omega) (htk' h2).2
  ·by_cases hjl:j<m
   ·rw[hvs1 j hjl,T2.env_other _ (ZT _) q.d (fun j' r' h1 h2 h3=>?_)]
    ·exact T1.env_at m (by omega) j q hjl (htk hjl hq)
    ·have:=I4 F.nodup (hdk' h2) hq h3;omega
   ·rw[hvs2 j (by omega)];have:j<seg.length:=(ZB.1 hq).1;exact T2.env_at _ (ZT _) _ q (by omega) (hdk (by omega) hq)
  ·rw[T2.env_other _ (ZT _) t (fun j r h1 h2=>ht (m+1+j) r (by omega) (hdk' h2))];exact T1.env_other m (by omega) t fun j r h1 h2=>ht j r (by omega) (htk' h2).2
  ·by_cases hk:k=id
   ·subst hk;rw[Aj]at he;injection he with he;subst he
    exact⟨_,hfid,rfl,rfl,fun q=>absurd rfl q⟩
   ·rw[Ap _ _ hk]at he;exact⟨e,he,rfl,rfl,fun _=>rfl⟩
  ·by_cases hk:k=id
   ·subst hk;rw[hfid]at he;injection he with he;subst he
    exact⟨e0,Aj _ _ _,rfl,rfl,fun q=>absurd rfl q⟩
   ·exact⟨e,by rw[Ap _ _ hk];exact he,rfl,rfl,fun _=>rfl⟩
  ·refine⟨sz,x,y,gen,k0,off,e0,row,us,by rw[ZC hmlt,p1],by rw[hte1 m (ZT _)];exact p2,Aj _ _ _,p5,p6,by rw[hte1 m (ZT _)];exact p7,p8,p9,I0 (fun k e he=>hsubb m (ZT _) k e he) p10,?_⟩;funext k;by_cases hk:k=id
   ·subst hk;rw[Aj];exact hfid
   ·rw[Ap _ _ hk,Ap _ _ hk]
 have hfrom:∀k e,k≠id→(sts1 m).H k=some e→st.H k=some e∨∀l,G k=some l→l.gen<e.gen:=fun k e hk he=>by
  rcases T1.H_from m (by omega) k e he with q|⟨j,r,q1,q2,q3,q4,q5⟩
  ·exact .inl (Gd q).1
  ·exact .inr fun l hl=>by rw[q4];exact Az hl
 have hMid:Ac c {st with H:=upd (sts2 (seg.drop (m+1)).length).H id (some e0)} a w R G:=by
  refine hR.more fun k e he=>?_;by_cases hk:k=id
  ·subst hk;rw[Aj]at he;injection he with he;subst he
   rcases T1.H_from m (by omega) k e0 p4 with q|⟨j,r,q1,q2,q3,q4,q5⟩
   ·exact .inl (Gd q).1
   ·exact .inr fun l hl=>by rw[q4];exact Az hl
  ·rw[Ap _ _ hk]at he;rcases T2.H_from _ (ZT _) k e he with q|⟨j,r,q1,q2,q3,q4,q5⟩
   ·have q':upd (sts1 m).H id (some {e0 with rows:=e0.rows.set k0 (Lh row off us)}) k=some e:=q;rw[Ap _ _ hk]at q';exact hfrom k e hk q'
   ·exact .inr fun l hl=>by rw[q4];exact Az hl
 have hD:(sts2 (seg.drop (m+1)).length).D=st.D:=by
  rw[T2.D_at _ (ZT _)];exact T1.D_at m (by omega)
 have hend:K ⟨(sts2 (seg.drop (m+1)).length).env,(sts2 (seg.drop (m+1)).length).H,st.D⟩:=by
  rw[←hD];exact u2k
 refine Ana (g:=Ax G) (m:=m) hn D F hcut hres hnext T hend fuel listed (st:={st with H:=upd (sts2 (seg.drop (m+1)).length).H id (some e0)}) hf hA.size hA.closed (fun i hi=>hA.yes i hi (by omega)) (fun i hi hi2=>hA.no i (by omega) hi2) ⟨hR.die,?_,fun i r h0 hr hl=>?_,fun t _=>rfl,fun i r h0 hr hl id hid l hl'=>Az hl'⟩ hMid
 ·rw[hA.no (s+m) (by omega) (by omega)];rfl
 ·have hi:i<seg.length:=(ZB.1 hr).1;rw[hA.no (s+i) (by omega) (by omega)]at hl;cases hl
end
end
end Go.Proofs.YtchbkgnobpejnaaGreatDoor
